/- What the claim FnExactLeadsTo rests on, part 20 of 23; the last part proves it: for every input the law answers true, and its arguments read behind the call as before it. No condition. -/
import Derived.Test.YtbgfiiehjaghiaaQLeadsTo16
import Derived.Test.YtbgfiiehjaghiaaQLeadsTo18

