/- What the claim FnExactLintProgram rests on, part 8 of 29; the last part proves it: for every input the law answers true, and its arguments read behind the call as before it. No condition. -/
import Derived.Laws.StructEq
import Derived.Test.YtpenhegoilccoaaQLintProgram7

