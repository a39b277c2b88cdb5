/- All readings. -/
import Derived.Test.YtehifcdoglcidaaGreatVdAll0
