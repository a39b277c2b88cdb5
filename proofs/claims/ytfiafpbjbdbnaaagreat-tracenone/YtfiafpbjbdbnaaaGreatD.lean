/- All readings. -/
import Derived.Test.YtfiafpbjbdbnaaaGreatVdAll0
