/- What the claim FnExactNeverMade rests on, part 21 of 22; the last part proves it: for every input the law answers true, and its arguments read behind the call as before it. No condition. -/
import Derived.Test.YtjkoibfkklhaiaaQNeverMade15
import Derived.Test.YtjkoibfkklhaiaaQNeverMade17

