/- What the claim FnExactRenumberFunctions rests on, part 23 of 27; the last part proves it: for every input the law answers true, and its arguments read behind the call as before it. No condition. -/
import Derived.Sort.OwnSortedInts
import Derived.Test.YtpenhegoilccoaaQRenumberFunctions4
import Derived.Test.YtpenhegoilccoaaQRenumberFunctions16
import Derived.Test.YtpenhegoilccoaaQRenumberFunctions19

