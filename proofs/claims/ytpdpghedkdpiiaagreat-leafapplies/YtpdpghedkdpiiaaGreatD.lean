/- All readings. -/
import Derived.Test.YtpdpghedkdpiiaaGreatVdAll0
