/- What the claim FnExactOpenPlaces rests on, part 22 of 27; the last part proves it: for every input the law answers true, and its arguments read behind the call as before it. No condition. -/
import Derived.Test.YtbgfiiehjaghiaaQOpenPlaces17
import Derived.Test.YtbgfiiehjaghiaaQOpenPlaces19

