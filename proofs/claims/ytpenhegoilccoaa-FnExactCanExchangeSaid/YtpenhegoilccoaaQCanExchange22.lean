/- What the claim FnExactCanExchange rests on, part 22 of 27; the last part proves it: for every input the law answers true, and its arguments read behind the call as before it. No condition. -/
import Derived.Test.YtpenhegoilccoaaQCanExchange17
import Derived.Test.YtpenhegoilccoaaQCanExchange19

