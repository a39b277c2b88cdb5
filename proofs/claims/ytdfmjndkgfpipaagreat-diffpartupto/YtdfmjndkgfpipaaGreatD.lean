/- All readings. -/
import Derived.Test.YtdfmjndkgfpipaaGreatVdAll0
