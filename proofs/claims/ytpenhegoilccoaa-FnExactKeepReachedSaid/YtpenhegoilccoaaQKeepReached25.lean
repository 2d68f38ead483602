/- What the claim FnExactKeepReached rests on, part 25 of 27; the last part proves it: for every input the law answers true, and its arguments read behind the call as before it. No condition. -/
import Derived.Test.YtpenhegoilccoaaQKeepReached2
import Derived.Test.YtpenhegoilccoaaQKeepReached20
import Derived.Test.YtpenhegoilccoaaQKeepReached23

