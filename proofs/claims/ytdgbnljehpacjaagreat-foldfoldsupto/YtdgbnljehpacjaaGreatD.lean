/- All readings. -/
import Derived.Test.YtdgbnljehpacjaaGreatVdAll0
