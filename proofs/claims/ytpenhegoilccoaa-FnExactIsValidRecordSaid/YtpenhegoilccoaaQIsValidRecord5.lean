/- What the claim FnExactIsValidRecord rests on, part 5 of 11; the last part proves it: for every input the law answers true, and its arguments read behind the call as before it. No condition. -/
import Derived.Laws.StructEq
import Derived.Test.YtpenhegoilccoaaQIsValidRecord4

