/- What the claim FnExactErrorsOfRun rests on, part 6 of 22; the last part proves it: for every input the law answers true, and its arguments read behind the call as before it. No condition. -/
import Derived.Laws.StructEq
import Derived.Test.YtcbijhgepdedpaaQErrorsOfRun5

