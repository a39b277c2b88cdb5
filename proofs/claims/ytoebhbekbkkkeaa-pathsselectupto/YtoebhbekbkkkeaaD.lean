/- All readings. -/
import Derived.Test.YtoebhbekbkkkeaaVdAll0
