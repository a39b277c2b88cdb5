/- All readings. -/
import Derived.Test.YtfikkifcjpphiaaGreatVdAll0
