/- What the claim FnExactLintProgram rests on, part 15 of 29; the last part proves it: for every input the law answers true, and its arguments read behind the call as before it. No condition. -/
import Derived.Maps.Keyed
import Derived.DeepKeys4
import Derived.Test.YtpenhegoilccoaaQLintProgram11

