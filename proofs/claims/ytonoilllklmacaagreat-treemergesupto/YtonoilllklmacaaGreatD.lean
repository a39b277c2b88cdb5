/- All readings. -/
import Derived.Test.YtonoilllklmacaaGreatVdAll0
