/- What the claim FnExactCleanupProgram rests on, part 15 of 18; the last part proves it: for every input the law answers true, and its arguments read behind the call as before it. No condition. -/
import Derived.Deep.Slices
import Derived.Deep.Strs
import Derived.ChangeSame
import Derived.Lib.SmallJoins
import Derived.Test.YtbgfiiehjaghiaaQCleanupProgram7
import Derived.Test.YtbgfiiehjaghiaaQCleanupProgram8

