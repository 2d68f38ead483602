/- What the claim FnExactLintProgram rests on, part 23 of 29; the last part proves it: for every input the law answers true, and its arguments read behind the call as before it. No condition. -/
import Derived.Test.YtpenhegoilccoaaQLintProgram18
import Derived.Test.YtpenhegoilccoaaQLintProgram20

