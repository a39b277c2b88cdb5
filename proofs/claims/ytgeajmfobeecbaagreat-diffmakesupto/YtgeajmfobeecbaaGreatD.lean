/- All readings. -/
import Derived.Test.YtgeajmfobeecbaaGreatVdAll0
