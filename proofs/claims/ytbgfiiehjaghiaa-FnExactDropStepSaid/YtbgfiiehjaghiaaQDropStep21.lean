/- What the claim FnExactDropStep rests on, part 21 of 23; the last part proves it: for every input the law answers true, and its arguments read behind the call as before it. No condition. -/
import Derived.Sort.OwnSortedInts
import Derived.Test.YtbgfiiehjaghiaaQDropStep3
import Derived.Test.YtbgfiiehjaghiaaQDropStep8
import Derived.Test.YtbgfiiehjaghiaaQDropStep14
import Derived.Test.YtbgfiiehjaghiaaQDropStep18

