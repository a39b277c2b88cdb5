/- All readings. -/
import Derived.Test.YtcdmaamcnfhkbaaGreatVdAll0
