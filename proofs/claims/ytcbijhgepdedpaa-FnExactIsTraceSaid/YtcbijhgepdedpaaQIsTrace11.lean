/- What the claim FnExactIsTrace rests on, part 11 of 19; the last part proves it: for every input the law answers true, and its arguments read behind the call as before it. No condition. -/
import Derived.Maps.Keyed
import Derived.DeepKeys4
import Derived.Test.YtcbijhgepdedpaaQIsTrace8

