/- What the claim FnExactKeepReached rests on, part 7 of 27; the last part proves it: for every input the law answers true, and its arguments read behind the call as before it. No condition. -/
import Derived.Laws.StructEq
import Derived.Test.YtpenhegoilccoaaQKeepReached6

