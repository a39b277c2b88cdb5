/- All readings. -/
import Derived.Test.YtcblfcocmakbiaaGreatVdAll0
