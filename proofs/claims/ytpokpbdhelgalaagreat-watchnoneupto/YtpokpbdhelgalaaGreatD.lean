/- All readings. -/
import Derived.Test.YtpokpbdhelgalaaGreatVdAll0
