/- All readings. -/
import Derived.Test.YtgobgfehoplnjaaGreatVdAll0
