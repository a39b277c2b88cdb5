/- All readings. -/
import Derived.Test.YthnmdghfecoafaaGreatVdAll0
