/- What the claim FnExactErrorsOfRun rests on, part 21 of 22; the last part proves it: for every input the law answers true, and its arguments read behind the call as before it. No condition. -/
import Derived.Test.YtcbijhgepdedpaaQErrorsOfRun16
import Derived.Test.YtcbijhgepdedpaaQErrorsOfRun18

