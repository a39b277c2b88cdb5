/- All readings. -/
import Derived.Test.YtomfgjifjecioaaGreatVdAll0
