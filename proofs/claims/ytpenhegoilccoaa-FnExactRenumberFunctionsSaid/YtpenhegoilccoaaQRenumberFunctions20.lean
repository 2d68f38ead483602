/- What the claim FnExactRenumberFunctions rests on, part 20 of 27; the last part proves it: for every input the law answers true, and its arguments read behind the call as before it. No condition. -/
import Derived.ChangeKeysEq
import Derived.Test.YtpenhegoilccoaaQRenumberFunctions19

