/- What the claim FnExactCleanupProgram rests on, part 10 of 18; the last part proves it: for every input the law answers true, and its arguments read behind the call as before it. No condition. -/
import Derived.Test.YtbgfiiehjaghiaaProg
import Derived.Test.YtbgfiiehjaghiaaQCleanupProgram8

