/- All readings. -/
import Derived.Test.YtbaclapbinkedaaVdAll0
