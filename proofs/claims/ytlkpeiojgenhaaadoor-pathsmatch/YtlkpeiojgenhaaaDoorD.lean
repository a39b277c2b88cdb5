/- All readings. -/
import Derived.Test.YtlkpeiojgenhaaaDoorVdAll0
