/- All readings. -/
import Derived.Test.YtppafalkommbdaaGreatVdAll0
