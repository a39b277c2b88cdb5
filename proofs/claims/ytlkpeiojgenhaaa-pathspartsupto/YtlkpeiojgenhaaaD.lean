/- All readings. -/
import Derived.Test.YtlkpeiojgenhaaaVdAll0
