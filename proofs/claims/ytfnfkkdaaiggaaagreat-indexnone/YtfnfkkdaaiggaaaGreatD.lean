/- All readings. -/
import Derived.Test.YtfnfkkdaaiggaaaGreatVdAll0
