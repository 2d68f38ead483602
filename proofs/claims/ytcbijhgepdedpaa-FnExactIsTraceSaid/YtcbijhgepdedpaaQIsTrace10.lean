/- What the claim FnExactIsTrace rests on, part 10 of 19; the last part proves it: for every input the law answers true, and its arguments read behind the call as before it. No condition. -/
import Derived.Test.YtcbijhgepdedpaaProg
import Derived.Test.YtcbijhgepdedpaaQIsTrace7
import Derived.Test.YtcbijhgepdedpaaQIsTrace8

