/- All readings. -/
import Derived.Test.YtfdacjmlbokckaaGreatDoorVdAll0
