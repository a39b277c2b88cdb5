/- All readings. -/
import Derived.Test.YtdodjocbjapaeaaGreatVdAll0
