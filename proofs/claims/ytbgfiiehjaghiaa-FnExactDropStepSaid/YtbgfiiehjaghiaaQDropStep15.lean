/- What the claim FnExactDropStep rests on, part 15 of 23; the last part proves it: for every input the law answers true, and its arguments read behind the call as before it. No condition. -/
import Derived.Test.YtbgfiiehjaghiaaProg
import Derived.Test.YtbgfiiehjaghiaaQDropStep9
import Derived.Test.YtbgfiiehjaghiaaQDropStep13

