/- All readings. -/
import Derived.Test.YtcociipjgndnaaaGreatVdAll0
