/- What the claim FnExactMendEntries rests on, part 11 of 23; the last part proves it: for every input the law answers true, and its arguments read behind the call as before it. No condition. -/
import Derived.Test.YtbgfiiehjaghiaaProg
import Derived.Test.YtbgfiiehjaghiaaQMendEntries7
import Derived.Test.YtbgfiiehjaghiaaQMendEntries8

