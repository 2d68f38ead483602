/- What the claim FnExactDropStep rests on, part 6 of 23; the last part proves it: for every input the law answers true, and its arguments read behind the call as before it. No condition. -/
import Derived.Laws.StructEq
import Derived.Test.YtbgfiiehjaghiaaQDropStep5

