/- All readings. -/
import Derived.Test.YtgaelgcadcmfnaaGreatDoorVdAll0
