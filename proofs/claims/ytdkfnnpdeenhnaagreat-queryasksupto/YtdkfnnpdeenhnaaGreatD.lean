/- All readings. -/
import Derived.Test.YtdkfnnpdeenhnaaGreatVdAll0
