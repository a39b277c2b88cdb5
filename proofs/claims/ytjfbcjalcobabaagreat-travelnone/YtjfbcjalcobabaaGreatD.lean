/- All readings. -/
import Derived.Test.YtjfbcjalcobabaaGreatVdAll0
