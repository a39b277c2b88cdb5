/- All readings. -/
import Derived.Test.YtcdgimmdofbjdaaGreatVdAll0
