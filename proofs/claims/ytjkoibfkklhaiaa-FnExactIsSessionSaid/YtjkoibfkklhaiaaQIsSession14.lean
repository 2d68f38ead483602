/- What the claim FnExactIsSession rests on, part 14 of 21; the last part proves it: for every input the law answers true, and its arguments read behind the call as before it. No condition. -/
import Derived.OrdersIn
import Derived.RangeFuncNested
import Derived.RangeFuncBound
import Derived.RangeFuncCalls
import Derived.RangeFuncLeaves
import Derived.Test.YtjkoibfkklhaiaaQIsSession8

