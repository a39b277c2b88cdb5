/- All readings. -/
import Derived.Test.YtmpfjlkfmckohaaGreatVdAll0
