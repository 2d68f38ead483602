/- What the claim FnExactKeepReached rests on, part 22 of 27; the last part proves it: for every input the law answers true, and its arguments read behind the call as before it. No condition. -/
import Derived.Test.YtpenhegoilccoaaQKeepReached17
import Derived.Test.YtpenhegoilccoaaQKeepReached19

