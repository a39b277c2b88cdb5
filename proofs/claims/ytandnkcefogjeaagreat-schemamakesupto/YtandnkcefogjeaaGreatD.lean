/- All readings. -/
import Derived.Test.YtandnkcefogjeaaGreatVdAll0
