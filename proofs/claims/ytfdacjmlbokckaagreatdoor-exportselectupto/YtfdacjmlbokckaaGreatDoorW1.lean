/- Each function that the law reaches computes what its reading says; printed by a program. -/
import Derived.Test.YtfdacjmlbokckaaGreatDoorVvV
import Derived.Test.YtfdacjmlbokckaaGreatDoorVvRd
import Derived.Test.YtfdacjmlbokckaaGreatDoorVvSo
import Derived.Test.YtfdacjmlbokckaaGreatDoorVvIn
import Derived.Test.YtfdacjmlbokckaaGreatDoorVxeE
import Derived.Test.YtfdacjmlbokckaaGreatDoorD
import Derived.Test.YtfdacjmlbokckaaGreatDoorProg
namespace Go.Vv
open Go Go.Proofs
set_option maxRecDepth 100000
set_option maxHeartbeats 1000000
set_option linter.unusedSimpArgs false
set_option linter.unusedVariables false
section
variable {v a0 a1 a2 a3 a4 a5 a6 a7 a8 a9 a10 a11 a12 a13 a14 a15 a16 a17 a18 a19 a20 a21 a22 a23 a24 a25 a26 a27 a28 a29 a30 a31 a32 a33 a34 a35 a36 a37 a38 a39:AV} {r q:List AV} {t:Nat}
theorem yB:yC (a0::r) (.tmp 0)=some a0:=rfl
theorem st0:wF (some 0) (a0::r) v=some (v::r):=rfl
theorem yw:yC (a0::a1::r) (.tmp 1)=some a1:=rfl
theorem st1:wF (some 1) (a0::a1::r) v=some (a0::v::r):=rfl
theorem yV:yC (a0::a1::a2::r) (.tmp 2)=some a2:=rfl
theorem yM:wF (some 2) (a0::a1::a2::r) v=some (a0::a1::v::r):=rfl
theorem xj:yC (a0::a1::a2::a3::r) (.tmp 3)=some a3:=rfl
theorem wD:wF (some 3) (a0::a1::a2::a3::r) v=some (a0::a1::a2::v::r):=rfl
theorem yH:yC (a0::a1::a2::a3::a4::r) (.tmp 4)=some a4:=rfl
theorem yF:wF (some 4) (a0::a1::a2::a3::a4::r) v=some (a0::a1::a2::a3::v::r):=rfl
theorem yY:yC (a0::a1::a2::a3::a4::a5::r) (.tmp 5)=some a5:=rfl
theorem xG:wF (some 5) (a0::a1::a2::a3::a4::a5::r) v=some (a0::a1::a2::a3::a4::v::r):=rfl
theorem yT:yC (a0::a1::a2::a3::a4::a5::a6::r) (.tmp 6)=some a6:=rfl
theorem xY:wF (some 6) (a0::a1::a2::a3::a4::a5::a6::r) v=some (a0::a1::a2::a3::a4::a5::v::r):=rfl
theorem xN:yC (a0::a1::a2::a3::a4::a5::a6::a7::r) (.tmp 7)=some a7:=rfl
theorem wm:wF (some 7) (a0::a1::a2::a3::a4::a5::a6::a7::r) v=some (a0::a1::a2::a3::a4::a5::a6::v::r):=rfl
theorem xu:yC (a0::a1::a2::a3::a4::a5::a6::a7::a8::r) (.tmp 8)=some a8:=rfl
theorem wl:wF (some 8) (a0::a1::a2::a3::a4::a5::a6::a7::a8::r) v=some (a0::a1::a2::a3::a4::a5::a6::a7::v::r):=rfl
theorem wE:yC (a0::a1::a2::a3::a4::a5::a6::a7::a8::a9::r) (.tmp 9)=some a9:=rfl
theorem vi:wF (some 9) (a0::a1::a2::a3::a4::a5::a6::a7::a8::a9::r) v=some (a0::a1::a2::a3::a4::a5::a6::a7::a8::v::r):=rfl
theorem yG:yC (a0::a1::a2::a3::a4::a5::a6::a7::a8::a9::a10::r) (.tmp 10)=some a10:=rfl
theorem yN:wF (some 10) (a0::a1::a2::a3::a4::a5::a6::a7::a8::a9::a10::r) v=some (a0::a1::a2::a3::a4::a5::a6::a7::a8::a9::v::r):=rfl
theorem yP:yC (a0::a1::a2::a3::a4::a5::a6::a7::a8::a9::a10::a11::r) (.tmp 11)=some a11:=rfl
theorem yR:wF (some 11) (a0::a1::a2::a3::a4::a5::a6::a7::a8::a9::a10::a11::r) v=some (a0::a1::a2::a3::a4::a5::a6::a7::a8::a9::a10::v::r):=rfl
theorem yO:yC (a0::a1::a2::a3::a4::a5::a6::a7::a8::a9::a10::a11::a12::r) (.tmp 12)=some a12:=rfl
theorem yQ:wF (some 12) (a0::a1::a2::a3::a4::a5::a6::a7::a8::a9::a10::a11::a12::r) v=some (a0::a1::a2::a3::a4::a5::a6::a7::a8::a9::a10::a11::v::r):=rfl
theorem yL:yC (a0::a1::a2::a3::a4::a5::a6::a7::a8::a9::a10::a11::a12::a13::r) (.tmp 13)=some a13:=rfl
theorem yU:wF (some 13) (a0::a1::a2::a3::a4::a5::a6::a7::a8::a9::a10::a11::a12::a13::r) v=some (a0::a1::a2::a3::a4::a5::a6::a7::a8::a9::a10::a11::a12::v::r):=rfl
theorem y4:yC (a0::a1::a2::a3::a4::a5::a6::a7::a8::a9::a10::a11::a12::a13::a14::r) (.tmp 14)=some a14:=rfl
theorem y3:wF (some 14) (a0::a1::a2::a3::a4::a5::a6::a7::a8::a9::a10::a11::a12::a13::a14::r) v=some (a0::a1::a2::a3::a4::a5::a6::a7::a8::a9::a10::a11::a12::a13::v::r):=rfl
theorem yW:yC (a0::a1::a2::a3::a4::a5::a6::a7::a8::a9::a10::a11::a12::a13::a14::a15::r) (.tmp 15)=some a15:=rfl
theorem y2:wF (some 15) (a0::a1::a2::a3::a4::a5::a6::a7::a8::a9::a10::a11::a12::a13::a14::a15::r) v=some (a0::a1::a2::a3::a4::a5::a6::a7::a8::a9::a10::a11::a12::a13::a14::v::r):=rfl
theorem xd:yC (a0::a1::a2::a3::a4::a5::a6::a7::a8::a9::a10::a11::a12::a13::a14::a15::a16::r) (.tmp 16)=some a16:=rfl
theorem xf:wF (some 16) (a0::a1::a2::a3::a4::a5::a6::a7::a8::a9::a10::a11::a12::a13::a14::a15::a16::r) v=some (a0::a1::a2::a3::a4::a5::a6::a7::a8::a9::a10::a11::a12::a13::a14::a15::v::r):=rfl
theorem xC:yC (a0::a1::a2::a3::a4::a5::a6::a7::a8::a9::a10::a11::a12::a13::a14::a15::a16::a17::r) (.tmp 17)=some a17:=rfl
theorem xA:wF (some 17) (a0::a1::a2::a3::a4::a5::a6::a7::a8::a9::a10::a11::a12::a13::a14::a15::a16::a17::r) v=some (a0::a1::a2::a3::a4::a5::a6::a7::a8::a9::a10::a11::a12::a13::a14::a15::a16::v::r):=rfl
theorem xL:yC (a0::a1::a2::a3::a4::a5::a6::a7::a8::a9::a10::a11::a12::a13::a14::a15::a16::a17::a18::r) (.tmp 18)=some a18:=rfl
theorem xR:wF (some 18) (a0::a1::a2::a3::a4::a5::a6::a7::a8::a9::a10::a11::a12::a13::a14::a15::a16::a17::a18::r) v=some (a0::a1::a2::a3::a4::a5::a6::a7::a8::a9::a10::a11::a12::a13::a14::a15::a16::a17::v::r):=rfl
theorem wh:yC (a0::a1::a2::a3::a4::a5::a6::a7::a8::a9::a10::a11::a12::a13::a14::a15::a16::a17::a18::a19::r) (.tmp 19)=some a19:=rfl
theorem wa:wF (some 19) (a0::a1::a2::a3::a4::a5::a6::a7::a8::a9::a10::a11::a12::a13::a14::a15::a16::a17::a18::a19::r) v=some (a0::a1::a2::a3::a4::a5::a6::a7::a8::a9::a10::a11::a12::a13::a14::a15::a16::a17::a18::v::r):=rfl
theorem wL:yC (a0::a1::a2::a3::a4::a5::a6::a7::a8::a9::a10::a11::a12::a13::a14::a15::a16::a17::a18::a19::a20::r) (.tmp 20)=some a20:=rfl
theorem wJ:wF (some 20) (a0::a1::a2::a3::a4::a5::a6::a7::a8::a9::a10::a11::a12::a13::a14::a15::a16::a17::a18::a19::a20::r) v=some (a0::a1::a2::a3::a4::a5::a6::a7::a8::a9::a10::a11::a12::a13::a14::a15::a16::a17::a18::a19::v::r):=rfl
theorem wK:yC (a0::a1::a2::a3::a4::a5::a6::a7::a8::a9::a10::a11::a12::a13::a14::a15::a16::a17::a18::a19::a20::a21::r) (.tmp 21)=some a21:=rfl
theorem wO:wF (some 21) (a0::a1::a2::a3::a4::a5::a6::a7::a8::a9::a10::a11::a12::a13::a14::a15::a16::a17::a18::a19::a20::a21::r) v=some (a0::a1::a2::a3::a4::a5::a6::a7::a8::a9::a10::a11::a12::a13::a14::a15::a16::a17::a18::a19::a20::v::r):=rfl
theorem vm:yC (a0::a1::a2::a3::a4::a5::a6::a7::a8::a9::a10::a11::a12::a13::a14::a15::a16::a17::a18::a19::a20::a21::a22::r) (.tmp 22)=some a22:=rfl
theorem vk:wF (some 22) (a0::a1::a2::a3::a4::a5::a6::a7::a8::a9::a10::a11::a12::a13::a14::a15::a16::a17::a18::a19::a20::a21::a22::r) v=some (a0::a1::a2::a3::a4::a5::a6::a7::a8::a9::a10::a11::a12::a13::a14::a15::a16::a17::a18::a19::a20::a21::v::r):=rfl
theorem wy:yC (a0::a1::a2::a3::a4::a5::a6::a7::a8::a9::a10::a11::a12::a13::a14::a15::a16::a17::a18::a19::a20::a21::a22::a23::r) (.tmp 23)=some a23:=rfl
theorem wN:wF (some 23) (a0::a1::a2::a3::a4::a5::a6::a7::a8::a9::a10::a11::a12::a13::a14::a15::a16::a17::a18::a19::a20::a21::a22::a23::r) v=some (a0::a1::a2::a3::a4::a5::a6::a7::a8::a9::a10::a11::a12::a13::a14::a15::a16::a17::a18::a19::a20::a21::a22::v::r):=rfl
theorem vl:yC (a0::a1::a2::a3::a4::a5::a6::a7::a8::a9::a10::a11::a12::a13::a14::a15::a16::a17::a18::a19::a20::a21::a22::a23::a24::r) (.tmp 24)=some a24:=rfl
theorem vj:wF (some 24) (a0::a1::a2::a3::a4::a5::a6::a7::a8::a9::a10::a11::a12::a13::a14::a15::a16::a17::a18::a19::a20::a21::a22::a23::a24::r) v=some (a0::a1::a2::a3::a4::a5::a6::a7::a8::a9::a10::a11::a12::a13::a14::a15::a16::a17::a18::a19::a20::a21::a22::a23::v::r):=rfl
theorem vw:yC (a0::a1::a2::a3::a4::a5::a6::a7::a8::a9::a10::a11::a12::a13::a14::a15::a16::a17::a18::a19::a20::a21::a22::a23::a24::a25::r) (.tmp 25)=some a25:=rfl
theorem vC:wF (some 25) (a0::a1::a2::a3::a4::a5::a6::a7::a8::a9::a10::a11::a12::a13::a14::a15::a16::a17::a18::a19::a20::a21::a22::a23::a24::a25::r) v=some (a0::a1::a2::a3::a4::a5::a6::a7::a8::a9::a10::a11::a12::a13::a14::a15::a16::a17::a18::a19::a20::a21::a22::a23::a24::v::r):=rfl
theorem qI:yC (a0::a1::a2::a3::a4::a5::a6::a7::a8::a9::a10::a11::a12::a13::a14::a15::a16::a17::a18::a19::a20::a21::a22::a23::a24::a25::a26::r) (.tmp 26)=some a26:=rfl
theorem qx:wF (some 26) (a0::a1::a2::a3::a4::a5::a6::a7::a8::a9::a10::a11::a12::a13::a14::a15::a16::a17::a18::a19::a20::a21::a22::a23::a24::a25::a26::r) v=some (a0::a1::a2::a3::a4::a5::a6::a7::a8::a9::a10::a11::a12::a13::a14::a15::a16::a17::a18::a19::a20::a21::a22::a23::a24::a25::v::r):=rfl
theorem qj:yC (a0::a1::a2::a3::a4::a5::a6::a7::a8::a9::a10::a11::a12::a13::a14::a15::a16::a17::a18::a19::a20::a21::a22::a23::a24::a25::a26::a27::r) (.tmp 27)=some a27:=rfl
theorem qw:wF (some 27) (a0::a1::a2::a3::a4::a5::a6::a7::a8::a9::a10::a11::a12::a13::a14::a15::a16::a17::a18::a19::a20::a21::a22::a23::a24::a25::a26::a27::r) v=some (a0::a1::a2::a3::a4::a5::a6::a7::a8::a9::a10::a11::a12::a13::a14::a15::a16::a17::a18::a19::a20::a21::a22::a23::a24::a25::a26::v::r):=rfl
theorem qH:yC (a0::a1::a2::a3::a4::a5::a6::a7::a8::a9::a10::a11::a12::a13::a14::a15::a16::a17::a18::a19::a20::a21::a22::a23::a24::a25::a26::a27::a28::r) (.tmp 28)=some a28:=rfl
theorem qU:wF (some 28) (a0::a1::a2::a3::a4::a5::a6::a7::a8::a9::a10::a11::a12::a13::a14::a15::a16::a17::a18::a19::a20::a21::a22::a23::a24::a25::a26::a27::a28::r) v=some (a0::a1::a2::a3::a4::a5::a6::a7::a8::a9::a10::a11::a12::a13::a14::a15::a16::a17::a18::a19::a20::a21::a22::a23::a24::a25::a26::a27::v::r):=rfl
theorem qi:yC (a0::a1::a2::a3::a4::a5::a6::a7::a8::a9::a10::a11::a12::a13::a14::a15::a16::a17::a18::a19::a20::a21::a22::a23::a24::a25::a26::a27::a28::a29::r) (.tmp 29)=some a29:=rfl
theorem qv:wF (some 29) (a0::a1::a2::a3::a4::a5::a6::a7::a8::a9::a10::a11::a12::a13::a14::a15::a16::a17::a18::a19::a20::a21::a22::a23::a24::a25::a26::a27::a28::a29::r) v=some (a0::a1::a2::a3::a4::a5::a6::a7::a8::a9::a10::a11::a12::a13::a14::a15::a16::a17::a18::a19::a20::a21::a22::a23::a24::a25::a26::a27::a28::v::r):=rfl
theorem gt30:yC (a0::a1::a2::a3::a4::a5::a6::a7::a8::a9::a10::a11::a12::a13::a14::a15::a16::a17::a18::a19::a20::a21::a22::a23::a24::a25::a26::a27::a28::a29::a30::r) (.tmp 30)=some a30:=rfl
theorem q9:wF (some 30) (a0::a1::a2::a3::a4::a5::a6::a7::a8::a9::a10::a11::a12::a13::a14::a15::a16::a17::a18::a19::a20::a21::a22::a23::a24::a25::a26::a27::a28::a29::a30::r) v=some (a0::a1::a2::a3::a4::a5::a6::a7::a8::a9::a10::a11::a12::a13::a14::a15::a16::a17::a18::a19::a20::a21::a22::a23::a24::a25::a26::a27::a28::a29::v::r):=rfl
theorem gt31:yC (a0::a1::a2::a3::a4::a5::a6::a7::a8::a9::a10::a11::a12::a13::a14::a15::a16::a17::a18::a19::a20::a21::a22::a23::a24::a25::a26::a27::a28::a29::a30::a31::r) (.tmp 31)=some a31:=rfl
theorem q8:wF (some 31) (a0::a1::a2::a3::a4::a5::a6::a7::a8::a9::a10::a11::a12::a13::a14::a15::a16::a17::a18::a19::a20::a21::a22::a23::a24::a25::a26::a27::a28::a29::a30::a31::r) v=some (a0::a1::a2::a3::a4::a5::a6::a7::a8::a9::a10::a11::a12::a13::a14::a15::a16::a17::a18::a19::a20::a21::a22::a23::a24::a25::a26::a27::a28::a29::a30::v::r):=rfl
theorem gt32:yC (a0::a1::a2::a3::a4::a5::a6::a7::a8::a9::a10::a11::a12::a13::a14::a15::a16::a17::a18::a19::a20::a21::a22::a23::a24::a25::a26::a27::a28::a29::a30::a31::a32::r) (.tmp 32)=some a32:=rfl
theorem st32:wF (some 32) (a0::a1::a2::a3::a4::a5::a6::a7::a8::a9::a10::a11::a12::a13::a14::a15::a16::a17::a18::a19::a20::a21::a22::a23::a24::a25::a26::a27::a28::a29::a30::a31::a32::r) v=some (a0::a1::a2::a3::a4::a5::a6::a7::a8::a9::a10::a11::a12::a13::a14::a15::a16::a17::a18::a19::a20::a21::a22::a23::a24::a25::a26::a27::a28::a29::a30::a31::v::r):=rfl
theorem gt33:yC (a0::a1::a2::a3::a4::a5::a6::a7::a8::a9::a10::a11::a12::a13::a14::a15::a16::a17::a18::a19::a20::a21::a22::a23::a24::a25::a26::a27::a28::a29::a30::a31::a32::a33::r) (.tmp 33)=some a33:=rfl
theorem st33:wF (some 33) (a0::a1::a2::a3::a4::a5::a6::a7::a8::a9::a10::a11::a12::a13::a14::a15::a16::a17::a18::a19::a20::a21::a22::a23::a24::a25::a26::a27::a28::a29::a30::a31::a32::a33::r) v=some (a0::a1::a2::a3::a4::a5::a6::a7::a8::a9::a10::a11::a12::a13::a14::a15::a16::a17::a18::a19::a20::a21::a22::a23::a24::a25::a26::a27::a28::a29::a30::a31::a32::v::r):=rfl
theorem gt34:yC (a0::a1::a2::a3::a4::a5::a6::a7::a8::a9::a10::a11::a12::a13::a14::a15::a16::a17::a18::a19::a20::a21::a22::a23::a24::a25::a26::a27::a28::a29::a30::a31::a32::a33::a34::r) (.tmp 34)=some a34:=rfl
theorem st34:wF (some 34) (a0::a1::a2::a3::a4::a5::a6::a7::a8::a9::a10::a11::a12::a13::a14::a15::a16::a17::a18::a19::a20::a21::a22::a23::a24::a25::a26::a27::a28::a29::a30::a31::a32::a33::a34::r) v=some (a0::a1::a2::a3::a4::a5::a6::a7::a8::a9::a10::a11::a12::a13::a14::a15::a16::a17::a18::a19::a20::a21::a22::a23::a24::a25::a26::a27::a28::a29::a30::a31::a32::a33::v::r):=rfl
theorem gt35:yC (a0::a1::a2::a3::a4::a5::a6::a7::a8::a9::a10::a11::a12::a13::a14::a15::a16::a17::a18::a19::a20::a21::a22::a23::a24::a25::a26::a27::a28::a29::a30::a31::a32::a33::a34::a35::r) (.tmp 35)=some a35:=rfl
theorem st35:wF (some 35) (a0::a1::a2::a3::a4::a5::a6::a7::a8::a9::a10::a11::a12::a13::a14::a15::a16::a17::a18::a19::a20::a21::a22::a23::a24::a25::a26::a27::a28::a29::a30::a31::a32::a33::a34::a35::r) v=some (a0::a1::a2::a3::a4::a5::a6::a7::a8::a9::a10::a11::a12::a13::a14::a15::a16::a17::a18::a19::a20::a21::a22::a23::a24::a25::a26::a27::a28::a29::a30::a31::a32::a33::a34::v::r):=rfl
theorem qG:yC (a0::a1::a2::a3::a4::a5::a6::a7::a8::a9::a10::a11::a12::a13::a14::a15::a16::a17::a18::a19::a20::a21::a22::a23::a24::a25::a26::a27::a28::a29::a30::a31::a32::a33::a34::a35::a36::r) (.tmp 36)=some a36:=rfl
theorem qT:wF (some 36) (a0::a1::a2::a3::a4::a5::a6::a7::a8::a9::a10::a11::a12::a13::a14::a15::a16::a17::a18::a19::a20::a21::a22::a23::a24::a25::a26::a27::a28::a29::a30::a31::a32::a33::a34::a35::a36::r) v=some (a0::a1::a2::a3::a4::a5::a6::a7::a8::a9::a10::a11::a12::a13::a14::a15::a16::a17::a18::a19::a20::a21::a22::a23::a24::a25::a26::a27::a28::a29::a30::a31::a32::a33::a34::a35::v::r):=rfl
theorem qF:yC (a0::a1::a2::a3::a4::a5::a6::a7::a8::a9::a10::a11::a12::a13::a14::a15::a16::a17::a18::a19::a20::a21::a22::a23::a24::a25::a26::a27::a28::a29::a30::a31::a32::a33::a34::a35::a36::a37::r) (.tmp 37)=some a37:=rfl
theorem qS:wF (some 37) (a0::a1::a2::a3::a4::a5::a6::a7::a8::a9::a10::a11::a12::a13::a14::a15::a16::a17::a18::a19::a20::a21::a22::a23::a24::a25::a26::a27::a28::a29::a30::a31::a32::a33::a34::a35::a36::a37::r) v=some (a0::a1::a2::a3::a4::a5::a6::a7::a8::a9::a10::a11::a12::a13::a14::a15::a16::a17::a18::a19::a20::a21::a22::a23::a24::a25::a26::a27::a28::a29::a30::a31::a32::a33::a34::a35::a36::v::r):=rfl
theorem gt38:yC (a0::a1::a2::a3::a4::a5::a6::a7::a8::a9::a10::a11::a12::a13::a14::a15::a16::a17::a18::a19::a20::a21::a22::a23::a24::a25::a26::a27::a28::a29::a30::a31::a32::a33::a34::a35::a36::a37::a38::r) (.tmp 38)=some a38:=rfl
theorem st38:wF (some 38) (a0::a1::a2::a3::a4::a5::a6::a7::a8::a9::a10::a11::a12::a13::a14::a15::a16::a17::a18::a19::a20::a21::a22::a23::a24::a25::a26::a27::a28::a29::a30::a31::a32::a33::a34::a35::a36::a37::a38::r) v=some (a0::a1::a2::a3::a4::a5::a6::a7::a8::a9::a10::a11::a12::a13::a14::a15::a16::a17::a18::a19::a20::a21::a22::a23::a24::a25::a26::a27::a28::a29::a30::a31::a32::a33::a34::a35::a36::a37::v::r):=rfl
theorem gt39:yC (a0::a1::a2::a3::a4::a5::a6::a7::a8::a9::a10::a11::a12::a13::a14::a15::a16::a17::a18::a19::a20::a21::a22::a23::a24::a25::a26::a27::a28::a29::a30::a31::a32::a33::a34::a35::a36::a37::a38::a39::r) (.tmp 39)=some a39:=rfl
theorem st39:wF (some 39) (a0::a1::a2::a3::a4::a5::a6::a7::a8::a9::a10::a11::a12::a13::a14::a15::a16::a17::a18::a19::a20::a21::a22::a23::a24::a25::a26::a27::a28::a29::a30::a31::a32::a33::a34::a35::a36::a37::a38::a39::r) v=some (a0::a1::a2::a3::a4::a5::a6::a7::a8::a9::a10::a11::a12::a13::a14::a15::a16::a17::a18::a19::a20::a21::a22::a23::a24::a25::a26::a27::a28::a29::a30::a31::a32::a33::a34::a35::a36::a37::a38::v::r):=rfl
theorem gk (h:yC r (.tmp t)=some v):yC (a0::a1::a2::a3::a4::a5::a6::a7::a8::a9::a10::a11::a12::a13::a14::a15::a16::a17::a18::a19::a20::a21::a22::a23::a24::a25::a26::a27::a28::a29::a30::a31::a32::a33::a34::a35::a36::a37::a38::a39::r) (.tmp (t+40))=some v:=h
theorem sk (h:wF (some t) r v=some q):wF (some (t+40)) (a0::a1::a2::a3::a4::a5::a6::a7::a8::a9::a10::a11::a12::a13::a14::a15::a16::a17::a18::a19::a20::a21::a22::a23::a24::a25::a26::a27::a28::a29::a30::a31::a32::a33::a34::a35::a36::a37::a38::a39::r) v=some (a0::a1::a2::a3::a4::a5::a6::a7::a8::a9::a10::a11::a12::a13::a14::a15::a16::a17::a18::a19::a20::a21::a22::a23::a24::a25::a26::a27::a28::a29::a30::a31::a32::a33::a34::a35::a36::a37::a38::a39::q):=congrArg (fun x=>some (a0::a1::a2::a3::a4::a5::a6::a7::a8::a9::a10::a11::a12::a13::a14::a15::a16::a17::a18::a19::a20::a21::a22::a23::a24::a25::a26::a27::a28::a29::a30::a31::a32::a33::a34::a35::a36::a37::a38::a39::x)) (Option.some.inj h)
end
def vB:Nat→AV
  | 1=>.fn (.func 48) [] []
  | 2=>.fn (.func 51) [] []
  | 3=>.fn (.func 53) [] []
  | 4=>.fn (.func 55) [] []
  | _=>.nilf
def fnParts:Nat→FuncId
  | 1=>48
  | 2=>51
  | 3=>53
  | 4=>55
  | _=>0
theorem fvtParts (P:Program) (t:TypeId) (c:Nat):tyfix P t (vB c)=vB c:=by unfold vB;split <;> rfl
def fvRead:Nat→AV
  | 1=>.fn (.func 50) [] []
  | 2=>.fn (.func 52) [] []
  | 3=>.fn (.func 54) [] []
  | 4=>.fn (.func 56) [] []
  | _=>.nilf
def GActor.row (x:GActor):List AV:=[.int .u8 x.rep,.int .u32 x.inc]
def GDot.row (x:GDot):List AV:=[.int .u8 x.actor.rep,.int .u32 x.actor.inc,.int .u64 x.seq]
def GItem.row (x:GItem):List AV:=[.int .u64 x.time,.int .u8 x.dot.actor.rep,.int .u32 x.dot.actor.inc,.int .u64 x.dot.seq,.str x.text]
def GLeaf.row (x:GLeaf):List AV:=[.int .u8 x.typ,.int .i64 x.n,.int .u64 x.time,.int .u8 x.dot.actor.rep,.int .u32 x.dot.actor.inc,.int .u64 x.dot.seq,.str x.text,.sl 5 (x.items.map GItem.row),.sl 3 (x.tombs.map GDot.row)]
mutual
def GNode.row:GNode→List AV
  | ⟨name,leaves,subs⟩=>[.str name,.sl 9 (leaves.map GLeaf.row),.sl 3 (GNode.rows subs)]
def GNode.rows:List GNode→List (List AV)
  | []=>[]
  | x::r=>x.row::GNode.rows r
end
theorem GNode.rows_eq (l:List GNode):GNode.rows l=l.map GNode.row:=by
  induction l with
  | nil=>rfl
  | cons x r ih=>simp only [GNode.rows,List.map_cons,ih]
theorem GNode.row_eq (x:GNode):x.row=[.str x.name,.sl 9 (x.leaves.map GLeaf.row),.sl 3 (x.subs.map GNode.row)]:=by
  cases x;simp only [GNode.row,GNode.rows_eq]
def GExportKind.row (x:GExportKind):List AV:=[.str x.word,vB x.parts,fvRead x.read]
def GRow.row (x:GRow):List AV:=[.sl 1 (x.path.map zP),.int .u8 x.leaf.typ,.int .i64 x.leaf.n,.int .u64 x.leaf.time,.int .u8 x.leaf.dot.actor.rep,.int .u32 x.leaf.dot.actor.inc,.int .u64 x.leaf.dot.seq,.str x.leaf.text,.sl 5 (x.leaf.items.map GItem.row),.sl 3 (x.leaf.tombs.map GDot.row)]
theorem qX:El Tryz.prog 23 82 3:=mkEl Tryz.underlying23 (by kernel_rfl)
theorem mixed:Tryz.prog.follows .mixedOrders=true:=by kernel_rfl
theorem fo82x0:Fo Tryz.prog 82 0 0 9 1:=mkFo (by kernel_rfl) (by kernel_rfl)
theorem ty9:Ty Tryz.prog 9 .string 1:=mkTy Tryz.underlying9 (by kernel_rfl)
theorem fo82x2:Fo Tryz.prog 82 2 2 23 1:=mkFo (by kernel_rfl) (by kernel_rfl)
theorem ty23:Ty Tryz.prog 23 (.slice 82) 1:=mkTy Tryz.underlying23 (by kernel_rfl)
theorem vF:Fo Tryz.prog 82 1 1 80 1:=mkFo (by kernel_rfl) (by kernel_rfl)
theorem ty80:Ty Tryz.prog 80 (.slice 42) 1:=mkTy Tryz.underlying80 (by kernel_rfl)
theorem el80:El Tryz.prog 80 42 9:=mkEl Tryz.underlying80 (by kernel_rfl)
theorem ty42:∃ d,Ty Tryz.prog 42 d 9∧yq d=true:=⟨_,mkTy Tryz.underlying42 (by kernel_rfl),by kernel_rfl⟩
theorem ze42:xO Tryz.prog 42=some [.int .u8 0,.int .i64 0,.int .u64 0,.int .u8 0,.int .u32 0,.int .u64 0,.str [],.osl none 5 [],.osl none 3 []]:=by kernel_rfl
theorem fo42x4:Fo Tryz.prog 42 4 6 9 1:=mkFo (by kernel_rfl) (by kernel_rfl)
theorem vn:Fo Tryz.prog 42 6 8 40 1:=mkFo (by kernel_rfl) (by kernel_rfl)
theorem ty40:Ty Tryz.prog 40 (.slice 38) 1:=mkTy Tryz.underlying40 (by kernel_rfl)
theorem qW:El Tryz.prog 40 38 3:=mkEl Tryz.underlying40 (by kernel_rfl)
theorem x6:Fo Tryz.prog 42 5 7 39 1:=mkFo (by kernel_rfl) (by kernel_rfl)
theorem ty39:Ty Tryz.prog 39 (.slice 57) 1:=mkTy Tryz.underlying39 (by kernel_rfl)
theorem ve:El Tryz.prog 39 57 5:=mkEl Tryz.underlying39 (by kernel_rfl)
theorem fo57x2:Fo Tryz.prog 57 2 4 9 1:=mkFo (by kernel_rfl) (by kernel_rfl)
theorem fo36x0:Fo Tryz.prog 36 0 0 5 1:=mkFo (by kernel_rfl) (by kernel_rfl)
theorem ty5:Ty Tryz.prog 5 (.int .u8) 1:=mkTy Tryz.underlying5 (by kernel_rfl)
theorem fo36x1:Fo Tryz.prog 36 1 1 34 1:=mkFo (by kernel_rfl) (by kernel_rfl)
theorem ty34:Ty Tryz.prog 34 (.int .u32) 1:=mkTy Tryz.underlying34 (by kernel_rfl)
theorem vX:Fo Tryz.prog 38 0 0 36 2:=mkFo (by kernel_rfl) (by kernel_rfl)
theorem ty36:∃ d,Ty Tryz.prog 36 d 2∧yq d=true:=⟨_,mkTy Tryz.underlying36 (by kernel_rfl),by kernel_rfl⟩
theorem fo38x1:Fo Tryz.prog 38 1 2 33 1:=mkFo (by kernel_rfl) (by kernel_rfl)
theorem vh:Ty Tryz.prog 33 (.int .u64) 1:=mkTy Tryz.underlying33 (by kernel_rfl)
theorem qk:Fo Tryz.prog 57 1 1 38 3:=mkFo (by kernel_rfl) (by kernel_rfl)
theorem ty38:∃ d,Ty Tryz.prog 38 d 3∧yq d=true:=⟨_,mkTy Tryz.underlying38 (by kernel_rfl),by kernel_rfl⟩
theorem pk38:PK Tryz.prog 38 [.i,.i,.i]:=mkPK (by kernel_rfl) (by kernel_rfl) (by kernel_rfl)
theorem wU:Fo Tryz.prog 42 0 0 5 1:=mkFo (by kernel_rfl) (by kernel_rfl)
theorem fo42x1:Fo Tryz.prog 42 1 1 2 1:=mkFo (by kernel_rfl) (by kernel_rfl)
theorem ty2:Ty Tryz.prog 2 (.int .i64) 1:=mkTy Tryz.underlying2 (by kernel_rfl)
noncomputable def sf38:Array Field:=match Tryz.prog.underlying 38 with | some (.struct fs)=>fs | _=>#[]
theorem su38:Tryz.prog.underlying 38=some (.struct sf38):=by kernel_rfl
theorem ze38:xO Tryz.prog 38=some [.int .u8 0,.int .u32 0,.int .u64 0]:=by kernel_rfl
theorem pl38:vU Tryz.prog sf38=some [(0,2),(2,1)]:=by kernel_rfl
theorem qV:Fo Tryz.prog 42 2 2 33 1:=mkFo (by kernel_rfl) (by kernel_rfl)
theorem fo42x3:Fo Tryz.prog 42 3 3 38 3:=mkFo (by kernel_rfl) (by kernel_rfl)
theorem ty57:∃ d,Ty Tryz.prog 57 d 5∧yq d=true:=⟨_,mkTy Tryz.underlying57 (by kernel_rfl),by kernel_rfl⟩
theorem ze57:xO Tryz.prog 57=some [.int .u64 0,.int .u8 0,.int .u32 0,.int .u64 0,.str []]:=by kernel_rfl
theorem fo57x0:Fo Tryz.prog 57 0 0 33 1:=mkFo (by kernel_rfl) (by kernel_rfl)
theorem ty82:∃ d,Ty Tryz.prog 82 d 3∧yq d=true:=⟨_,mkTy Tryz.underlying82 (by kernel_rfl),by kernel_rfl⟩
theorem ze82:xO Tryz.prog 82=some [.str [],.osl none 9 [],.osl none 3 []]:=by kernel_rfl
theorem ty4:Ty Tryz.prog 4 .bool 1:=mkTy Tryz.underlying4 (by kernel_rfl)
theorem xl:El Tryz.prog 24 9 1:=mkEl Tryz.underlying24 (by kernel_rfl)
theorem el150:El Tryz.prog 150 3 1:=mkEl Tryz.underlying150 (by kernel_rfl)
theorem ty3:Ty Tryz.prog 3 (.int .i64) 1:=mkTy Tryz.underlying3 (by kernel_rfl)
theorem ze3:xO Tryz.prog 3=some [.int .i64 0]:=by kernel_rfl
theorem kq38:KQ Tryz.prog 38 (fun x=>AV.agg (GDot.row x)) GDot.eqb:=.struct su38 pk38 (fun _ _=>rfl) (fun a=>by simp [GDot.eqb])
theorem az3:aZeroM Tryz.prog 3=some ((AV.int .i64) (0:Int)):=by kernel_rfl
theorem pk57:PK Tryz.prog 57 [.i,.i,.i,.i,.s]:=mkPK (by kernel_rfl) (by kernel_rfl) (by kernel_rfl)
noncomputable def sf42:Array Field:=match Tryz.prog.underlying 42 with | some (.struct fs)=>fs | _=>#[]
theorem su42:Tryz.prog.underlying 42=some (.struct sf42):=by kernel_rfl
theorem pl42:vU Tryz.prog sf42=some [(0,1),(1,1),(2,1),(3,3),(6,1),(7,1),(8,1)]:=by kernel_rfl
theorem ze9:xO Tryz.prog 9=some [.str []]:=by kernel_rfl
theorem ze68:xO Tryz.prog 68=some [.str [],.nilf,.nilf,.str [],.nilf,.nilf,.str [],.nilf,.nilf,.str [],.nilf,.nilf,.str [],.nilf,.nilf]:=by kernel_rfl
noncomputable def sf67:Array Field:=match Tryz.prog.underlying 67 with | some (.struct fs)=>fs | _=>#[]
theorem su67:Tryz.prog.underlying 67=some (.struct sf67):=by kernel_rfl
theorem ze67:xO Tryz.prog 67=some [.str [],.nilf,.nilf]:=by kernel_rfl
theorem pl67:vU Tryz.prog sf67=some [(0,1),(1,1),(2,1)]:=by kernel_rfl
theorem ty68:Ty Tryz.prog 68 (.array 5 67) 15:=mkTy Tryz.underlying68 (by kernel_rfl)
theorem ty67:∃ d,Ty Tryz.prog 67 d 3∧yq d=true:=⟨_,mkTy Tryz.underlying67 (by kernel_rfl),by kernel_rfl⟩
theorem fo44x0:Fo Tryz.prog 44 0 0 24 1:=mkFo (by kernel_rfl) (by kernel_rfl)
theorem ty24:Ty Tryz.prog 24 (.slice 9) 1:=mkTy Tryz.underlying24 (by kernel_rfl)
theorem fo44x1:Fo Tryz.prog 44 1 1 42 9:=mkFo (by kernel_rfl) (by kernel_rfl)
theorem fo67x0:Fo Tryz.prog 67 0 0 9 1:=mkFo (by kernel_rfl) (by kernel_rfl)
theorem fo67x1:Fo Tryz.prog 67 1 1 64 1:=mkFo (by kernel_rfl) (by kernel_rfl)
theorem ty64:Ty Tryz.prog 64 (.func #[42] #[24] false) 1:=mkTy Tryz.underlying64 (by kernel_rfl)
noncomputable def sf36:Array Field:=match Tryz.prog.underlying 36 with | some (.struct fs)=>fs | _=>#[]
theorem su36:Tryz.prog.underlying 36=some (.struct sf36):=by kernel_rfl
theorem ze36:xO Tryz.prog 36=some [.int .u8 0,.int .u32 0]:=by kernel_rfl
theorem pl36:vU Tryz.prog sf36=some [(0,1),(1,1)]:=by kernel_rfl
noncomputable def sf44:Array Field:=match Tryz.prog.underlying 44 with | some (.struct fs)=>fs | _=>#[]
theorem su44:Tryz.prog.underlying 44=some (.struct sf44):=by kernel_rfl
theorem ze44:xO Tryz.prog 44=some [.osl none 1 [],.int .u8 0,.int .i64 0,.int .u64 0,.int .u8 0,.int .u32 0,.int .u64 0,.str [],.osl none 5 [],.osl none 3 []]:=by kernel_rfl
theorem pl44:vU Tryz.prog sf44=some [(0,1),(1,9)]:=by kernel_rfl
noncomputable def sf57:Array Field:=match Tryz.prog.underlying 57 with | some (.struct fs)=>fs | _=>#[]
theorem su57:Tryz.prog.underlying 57=some (.struct sf57):=by kernel_rfl
theorem pl57:vU Tryz.prog sf57=some [(0,1),(1,3),(4,1)]:=by kernel_rfl
noncomputable def sf82:Array Field:=match Tryz.prog.underlying 82 with | some (.struct fs)=>fs | _=>#[]
theorem su82:Tryz.prog.underlying 82=some (.struct sf82):=by kernel_rfl
theorem pl82:vU Tryz.prog sf82=some [(0,1),(1,1),(2,1)]:=by kernel_rfl
theorem ty89:Ty Tryz.prog 89 (.func #[44] #[4] false) 1:=mkTy Tryz.underlying89 (by kernel_rfl)
theorem ty44:∃ d,Ty Tryz.prog 44 d 10∧yq d=true:=⟨_,mkTy Tryz.underlying44 (by kernel_rfl),by kernel_rfl⟩
theorem el31:El Tryz.prog 31 44 10:=mkEl Tryz.underlying31 (by kernel_rfl)
theorem ty31:Ty Tryz.prog 31 (.slice 44) 1:=mkTy Tryz.underlying31 (by kernel_rfl)
theorem ok13N (n:Nat):∀ {t0:(List GNode)} {deep1:Int} {res:Int} {h:AH} , xh n t0 deep1=some res→Spec Tryz.prog 13 [.sl 3 (t0.map GNode.row),.int .i64 deep1] h (fun rr hh=>rr=.int .i64 res∧hh=h):=by
 induction n with
 | zero=>intro t0 deep1 res h  hF;simp [xh] at hF
 | succ n ih =>
  intro t0 deep1 res h  hF
  unfold xh at hF
  refine zr Tryz.func13 rfl (by kernel_rfl) (env:=[.sl 3 (t0.map GNode.row),.int .i64 deep1,za,za,za,za,za,za,za,za,za,za,za,za,za,za,za,za,za,za,za,za,za,za,za,za,za,za,za,za,za,za,za,za,za,za,za,za,za,za,za,za,za,za,za,za,za,za,za,za,za,za,za,za,za,za,za,za,za,za,za,za,za,za,za,za,za,za,za,za,za,za,za,za,za,za,za,za,za,za,za,za,za,za]) (by rfl) ?_
  refine zk (zd ?_)
  refine zc rfl (zi rfl rfl (zb rfl)) yF ?_
  refine ze (zj (zk (zd ?_)))
  refine zc rfl (zi rfl rfl (zb rfl)) xG ?_
  refine ze (zj (zk (zk (zd ?_))))
  refine zc rfl (zi rfl rfl (zb rfl)) xY ?_
  refine ze (zj (zS ?_))
  refine r_loopWF (fun (s1:Int×Int)=>yS [2,3,4,7,8,9,10,11,12,13,14,15,16,17,18,19,20,21,22,23,24,25,26,27,28,29,30,31,32,33,34,35,36,37,38,39,40,41,42,43,44,45,46,47,48,49,50,51,52,53,54,55,56,57,58,59,60,61,62,63,64,65,66,67,68,69,70,71,72,73,74,75,76,77,78,79,80,81,82,83] [(5,.int .i64 s1.1),(6,.int .i64 s1.2)]) (fun s1=>h.ext [] []) hF (fun _=>by simp only [yS,upd,List.set_cons_succ,List.set_cons_zero];try rfl) (wk.le (by exact (.eq (.eq (.drop (.drop (.drop (.cons (leV.of_eq rfl) (.cons (leV.of_eq rfl) (.d16 (.d16 (.d16 (.d16 (.d4 (.d4 (.d4 (.drop leL.nil))))))))))))))))) ?_
  intro n1 s1 o1 hF hK1
  refine zk (zk (zd ?_))
  refine zc rfl (zg rfl yT (zb rfl)) yN ?_
  refine zc rfl (zg rfl yB (zb rfl)) yR ?_
  refine yc rfl (zY rfl rfl rfl rfl qX yP yh) yQ fun hn66=>?_
  replace hn66:=xK hn66
  refine zc rfl (zy rfl yG yO rfl) yU ?_
  refine zc rfl (zg rfl yL (zb rfl)) y3 ?_
  refine zq rfl (fun hb=>zg rfl yw (zb rfl)) y2 ?_
  refine zq rfl (fun hb=>zy rfl (zn yW hb) rfl rfl) xf ?_
  refine zc rfl (zL rfl y4 xd rfl (zT (fun ht=>gT ht))) xA ?_
  refine ze (zj ?_)
  refine zR xC hF (fun hc67 hF=>?_) (fun hc67 hF=>?_)
  ·refine zO (zj (zk (zS (zk ?_))))
   refine yD [16] [] trivial mixed (by kernel_rfl) ?_
   refine zp rfl rfl (zg rfl yY (zb rfl)) wJ ?_
   refine zp rfl rfl (zy rfl wL rfl rfl) wO ?_
   refine zp rfl rfl (zg rfl yB (zb rfl)) vk ?_
   refine zp rfl rfl (zg rfl yT (zb rfl)) wN ?_
   refine zU hF (fun y68 hy68 hF=>?_)
   refine zp rfl rfl (vI rfl qX vm wy qZ hy68 (GNode.row_eq _)) vj ?_
   refine zp rfl rfl (zf rfl fo82x0 vl rfl) vC ?_
   refine zp rfl rfl (yl rfl ty9 vw (zt rfl) (zb rfl)) qx ?_
   refine draw_len rfl rfl (wQ rfl rfl rfl rfl ty9 qI) qw ?_
   refine zp rfl rfl (zy rfl wK qj rfl) qU ?_
   refine zp rfl rfl (zg rfl yB (zb rfl)) qv ?_
   refine zp rfl rfl (zg rfl yT (zb rfl)) q9 ?_
   refine zU hF (fun y70 hy70 hF=>?_)
   refine zp rfl rfl (vI rfl qX qi gt30 qZ hy70 (GNode.row_eq _)) q8 ?_
   refine zp rfl rfl (zf rfl fo82x2 gt31 rfl) st32 ?_
   refine zp rfl rfl (yl rfl ty23 gt32 (zt rfl) (zb rfl)) st33 ?_
   refine zp rfl rfl (zg rfl yw (zb rfl)) st34 ?_
   refine zp rfl rfl (zy rfl gt34 rfl rfl) st35 ?_
   refine zU hF (fun v71 hv71 hF=>?_)
   refine zZ rfl rfl (fun _=>zC rfl rfl rfl (zo gt33 (zo gt35 zw)) (.cons (zb rfl) (.cons (zb rfl) .nil))) (by rintro _ ⟨B2,T2,rfl,hk2⟩;exact ih hv71) qT ?_
   refine zp rfl rfl (zy rfl qH qG rfl) qS ?_
   refine zp rfl rfl (zi rfl qF (zb rfl)) xG ?_
   refine ym ?_
   refine zj (zk (zd ?_))
   refine zc rfl (zi rfl rfl (zb rfl)) wm ?_
   refine ze (zj (zS ?_))
   refine r_loopWF (fun (s2:Int×Int)=>yS [2,3,4,8,9,10,11,12,13,14,15,16,17,18,19,20,21,22,23,24,25,26,27,28,29,30,31,32,33,34,35,36,37,38,39,40,41,42,43,44,45,46,47,48,49,50,51,52,53,54,55,56,57,58,59,60,61,62,63,64,65,66,67,68,69,70,71,72,73,74,75,76,77,78,79,80,81,82,83] [(5,.int .i64 s2.1),(7,.int .i64 s2.2)]) (fun s2=>h.ext [] []) hF (fun _=>by simp only [yS,upd,List.set_cons_succ,List.set_cons_zero];try rfl) (wk.le (by exact (.eq (.eq (.drop (.drop (.drop (.cons (leV.of_eq rfl) (.eq (.cons (leV.of_eq rfl) (.d16 (.d16 (.d16 (.d16 (.d4 (.d4 (.d4 leL.nil))))))))))))))))) ?_
   intro n2 s2 o2 hF hK2
   refine zk (zk (zd ?_))
   refine zc rfl (zg rfl xN (zb rfl)) st38 ?_
   refine zc rfl (zg rfl yB (zb rfl)) st39 ?_
   refine zc rfl (zg rfl yT (zb rfl)) (sk st0) ?_
   refine zU hF (fun y102 hy102 hF=>?_)
   refine zc rfl (vI rfl qX gt39 (gk yB) qZ hy102 (GNode.row_eq _)) (sk st1) ?_
   refine zc rfl (zf rfl vF (gk yw) rfl) (sk yM) ?_
   refine zc rfl (yl rfl ty80 (gk yV) (zt rfl) (zb rfl)) (sk wD) ?_
   refine yc rfl (zY rfl rfl rfl rfl el80 (gk xj) yh) (sk yF) fun hn103=>?_
   replace hn103:=xK hn103
   refine zc rfl (zy rfl gt38 (gk yH) rfl) (sk xG) ?_
   refine ze (zj ?_)
   refine zR (gk yY) hF (fun hc104 hF=>?_) (fun hc104 hF=>?_)
   ·refine zO (zj (zk (zS (zk (zd ?_)))))
    refine zc rfl (zg rfl yB (zb rfl)) (sk wl) ?_
    refine zc rfl (zg rfl yT (zb rfl)) (sk vi) ?_
    refine zU hF (fun y105 hy105 hF=>?_)
    refine zc rfl (vI rfl qX (gk xu) (gk wE) qZ hy105 (GNode.row_eq _)) (sk yN) ?_
    refine zc rfl (zf rfl vF (gk yG) rfl) (sk yR) ?_
    refine zc rfl (yl rfl ty80 (gk yP) (zt rfl) (zb rfl)) (sk yQ) ?_
    refine zc rfl (zg rfl xN (zb rfl)) (sk yU) ?_
    refine zU hF (fun y106 hy106 hF=>?_)
    refine zc rfl (yr rfl el80 (gk yO) (gk yL) qZ hy106) (sk y3) ?_
    refine zc rfl (yl rfl ty42.choose_spec.1 (gk y4) (zI (cs':=[.int .u8 y106.typ,.int .i64 y106.n,.int .u64 y106.time,.int .u8 y106.dot.actor.rep,.int .u32 y106.dot.actor.inc,.int .u64 y106.dot.seq,.str y106.text,.sl 5 (y106.items.map GItem.row),.sl 3 (y106.tombs.map GDot.row)]) ty42.choose_spec.2 rfl rfl) (zb rfl)) (sk y2) ?_
    refine zc rfl (y9 (n:=0) rfl ze42 rfl) wl ?_
    refine zc rfl (yx (cs':=[.int .u8 y106.typ,.int .i64 y106.n,.int .u64 y106.time,.int .u8 y106.dot.actor.rep,.int .u32 y106.dot.actor.inc,.int .u64 y106.dot.seq,.str y106.text,.sl 5 (y106.items.map GItem.row),.sl 3 (y106.tombs.map GDot.row)]) rfl ty42.choose_spec.1 xu (gk yW) (zb rfl) rfl rfl rfl rfl rfl) rfl ?_
    refine ze (zj (zk (zd ?_)))
    refine zc rfl (zg rfl yY (zb rfl)) (sk xf) ?_
    refine zc rfl (zy rfl (gk xd) rfl rfl) (sk xA) ?_
    refine zc rfl (zf rfl fo42x4 xu rfl) (sk xR) ?_
    refine zc rfl (zu rfl ty9 (gk xL) rfl (zt rfl) (zb rfl)) (sk wa) ?_
    refine yc rfl (wQ rfl rfl rfl rfl ty9 (gk wh)) (sk wJ) fun hn107=>?_
    replace hn107:=xK hn107
    refine zc rfl (zy rfl (gk xC) (gk wL) rfl) (sk wO) ?_
    refine zc rfl (zf rfl vn xu rfl) (sk vk) ?_
    refine zc rfl (zu rfl ty40 (gk vm) rfl (zt rfl) (zb rfl)) (sk wN) ?_
    refine yc rfl (zY rfl rfl rfl rfl qW (gk wy) yh) (sk vj) fun hn108=>?_
    replace hn108:=xK hn108
    refine zc rfl (zy rfl (gk wK) (gk vl) rfl) (sk vC) ?_
    refine zc rfl (zi rfl (gk vw) (zb rfl)) xG ?_
    refine ze (zj (zk (zd ?_)))
    refine zc rfl (zi rfl rfl (zb rfl)) vi ?_
    refine ze (zj (zS ?_))
    refine yu (fun (n3:Nat) (s3:Int)=>yS [2,3,4,10,11,12,13,14,15,16,17,18,19,20,21,22,23,24,25,26,27,28,29,30,31,32,33,34,35,36,37,38,39,40,41,42,43,44,45,46,47,48,49,50,51,52,53,54,55,56,57,58,59,60,61,62,63,64,65,66,67,68,69,70,71,72,73,74,75,76,77,78,79,80,81,82,83] [(5,.int .i64 s3),(9,.int .i64 (n3:Int))]) (fun s3=>h.ext [.cells [.int .u8 y106.typ,.int .i64 y106.n,.int .u64 y106.time,.int .u8 y106.dot.actor.rep,.int .u32 y106.dot.actor.inc,.int .u64 y106.dot.seq,.str y106.text,.sl 5 (y106.items.map GItem.row),.sl 3 (y106.tombs.map GDot.row)]] []) hF (fun _ _=>by simp only [yS,upd,List.set_cons_succ,List.set_cons_zero];try rfl) (wk.le (by exact (.eq (.eq (.drop (.drop (.drop (.cons (leV.of_eq rfl) (.eq (.eq (.eq (.cons (leV.of_eq rfl) (.d16 (.d16 (.d16 (.d16 (.d4 (.d4 (.drop (.drop leL.nil)))))))))))))))))))) ?_
    intro n3 s3 hi3 hF
    refine zk (zk (zd ?_))
    refine zc rfl (zg rfl wE (zb rfl)) (sk qx) ?_
    refine zc rfl (zf rfl x6 xu rfl) (sk qw) ?_
    refine zc rfl (zu rfl ty39 (gk qj) rfl (zt rfl) (zb rfl)) (sk qU) ?_
    refine yc rfl (zY rfl rfl rfl rfl ve (gk qH) yh) (sk qv) fun hn125=>?_
    replace hn125:=xK hn125
    refine zc rfl (zy rfl (gk qI) (gk qi) rfl) (sk q9) ?_
    refine ze (zj ?_)
    refine yI (gk gt30) hF (fun x3 o3 hl3 hx3 hF hK3=>?_) (fun hF=>?_)
    ·refine zO (zj (zk (zS (zd ?_))))
     refine zc rfl (zg rfl yY (zb rfl)) (sk st33) ?_
     refine zc rfl (zy rfl (gk gt33) rfl rfl) (sk st34) ?_
     refine zc rfl (zf rfl x6 xu rfl) (sk st35) ?_
     refine zc rfl (zu rfl ty39 (gk gt35) rfl (zt rfl) (zb rfl)) (sk qT) ?_
     refine zc rfl (zg rfl wE (zb rfl)) (sk qS) ?_
     refine zc rfl (yr rfl ve (gk qG) (gk qF) qZ (xc hx3)) (sk st38) ?_
     refine zc rfl (zf rfl fo57x2 (gk gt38) rfl) (sk st39) ?_
     refine zc rfl (yl rfl ty9 (gk gt39) (zt rfl) (zb rfl)) (sk (sk st0)) ?_
     refine yc rfl (wQ rfl rfl rfl rfl ty9 (gk (gk yB))) (sk (sk st1)) fun hn126=>?_
     replace hn126:=xK hn126
     refine zc rfl (zy rfl (gk gt34) (gk (gk yw)) rfl) (sk (sk yM)) ?_
     refine zc rfl (zi rfl (gk (gk yV)) (zb rfl)) xG ?_
     refine ze (yi (zj (zd ?_)))
     refine zc rfl (zg rfl wE (zb rfl)) (sk q8) ?_
     refine zc rfl (zy rfl (gk gt31) rfl rfl) (sk st32) ?_
     refine zc rfl (zi rfl (gk gt32) (zb rfl)) vi ?_
     refine ze (yK ?_)
     obtain rfl:=Option.some.inj hF
     exact ⟨(IntKind.wrap .i64 ((IntKind.wrap .i64 (s3+(1:Int)))+((x3.text).length:Int))),hl3,hK3,wk.le (by exact (.eq (.eq (.drop (.drop (.drop (.cons (leV.of_eq rfl) (.eq (.eq (.eq (.cons (leV.of_eq (vN (by omega) (by omega))) (.d16 (.d16 (.d16 (.d16 (.d4 (.d4 (.drop (.drop leL.nil)))))))))))))))))))⟩
    ·refine yX ?_
     refine z7 ?_
     refine zW ?_
     refine zX ?_
     refine yi (zj (zd ?_))
     refine zc rfl (zg rfl xN (zb rfl)) (sk xY) ?_
     refine zc rfl (zy rfl (gk yT) rfl rfl) (sk wm) ?_
     refine zc rfl (zi rfl (gk xN) (zb rfl)) wm ?_
     refine ze (yK ?_)
     obtain rfl:=Option.some.inj hF
     exact ⟨(s3,(IntKind.wrap .i64 (s2.2+(1:Int)))),hK2,wk.trans (wk.le (by exact (.eq (.eq (.drop (.drop (.drop (.cons (leV.of_eq rfl) (.eq (.cons (leV.of_eq rfl) (.d16 (.d16 (.d16 (.d16 (.d4 (.d4 (.d4 leL.nil))))))))))))))))) (xP (by simp [yf,AV.low]) rfl rfl (by simp [Blk.low,yf,AV.low]))⟩
   ·refine yX ?_
    refine z7 ?_
    refine zW ?_
    obtain rfl:=Option.some.inj hF
    replace hF:=hK2
    refine zX ?_
    refine yi (zj (zd ?_))
    refine zc rfl (zg rfl yT (zb rfl)) xR ?_
    refine zc rfl (zy rfl xL rfl rfl) wa ?_
    refine zc rfl (zi rfl wh (zb rfl)) xY ?_
    refine ze (yK ?_)
    obtain rfl:=Option.some.inj hF
    exact ⟨(s2.1,(IntKind.wrap .i64 (s1.2+(1:Int)))),hK1,wk.le (by exact (.eq (.eq (.drop (.drop (.drop (.cons (leV.of_eq rfl) (.cons (leV.of_eq rfl) (.d16 (.d16 (.d16 (.d16 (.d4 (.d4 (.d4 (.drop leL.nil))))))))))))))))⟩
  ·refine yX ?_
   refine z7 ?_
   refine zW ?_
   obtain rfl:=Option.some.inj hF
   replace hF:=hK1
   refine zX ?_
   refine zj (zk (zd ?_))
   refine zc rfl (zg rfl yY (zb rfl)) (sk (sk wD)) ?_
   refine zc rfl (zi rfl (gk (gk xj)) (zb rfl)) yF ?_
   refine ze (zj (zJ ?_))
   obtain rfl:=Option.some.inj hF
   refine zz rfl (zF yH zD) (zA (leV.refl _) rfl ?_)
   exact ⟨rfl,rfl⟩
theorem ok13 {t0:(List GNode)} {deep1:Int} {res:Int} {h:AH}  (hF:ref07Xsize t0 deep1=some res):Spec Tryz.prog 13 [.sl 3 (t0.map GNode.row),.int .i64 deep1] h (fun rr hh=>rr=.int .i64 res∧hh=h):=by
 obtain ⟨n,hn⟩:=anyN_is hF
 exact ok13N n  hn
theorem ok4 {t0:(List GNode)} {res:Bool} {h:AH}  (hF:ref07Great t0=some res):Spec Tryz.prog 4 [.sl 3 (t0.map GNode.row)] h (fun rr hh=>rr=.bool res∧hh=h):=by
 unfold ref07Great at hF
 refine zr Tryz.func4 rfl (by kernel_rfl) (env:=[.sl 3 (t0.map GNode.row),za,za,za,za,za]) (by rfl) ?_
 refine zk (zd ?_)
 refine zc rfl (zi rfl rfl (zb rfl)) yM ?_
 refine ze (zj (zk (zd ?_)))
 refine zc rfl (zg rfl yB (zb rfl)) wD ?_
 refine zU hF (fun v1 hv1 hF=>?_)
 refine zN rfl (zC rfl rfl rfl (zo xj (zo rfl zw)) (.cons (zb rfl) (.cons (zb rfl) .nil))) (ok13 hv1) yF ?_
 refine zc rfl (zy rfl yH rfl rfl) xG ?_
 refine zc rfl (zi rfl yY (zb rfl)) yM ?_
 refine ze (zj (zJ ?_))
 obtain rfl:=Option.some.inj hF
 refine zz rfl (zF yV zD) (zA (leV.refl _) rfl ?_)
 exact ⟨rfl,rfl⟩
theorem ok87 {a0:GActor} {res:Bool} {h:AH}  (hF:vq a0=some res):Spec Tryz.prog 87 [.agg [.int .u8 a0.rep,.int .u32 a0.inc]] h (fun rr hh=>rr=.bool res∧hh=h):=by
 unfold vq at hF
 refine zr Tryz.func87 rfl (by kernel_rfl) (env:=[.agg [.int .u8 a0.rep,.int .u32 a0.inc],za,za,za,za,za,za,za,za,za,za,za,za,za,za,za]) (by rfl) ?_
 refine zk (zd ?_)
 refine zc rfl (xb (n:=0) rfl yB (zb rfl) rfl rfl) st1 ?_
 refine zc rfl (zi rfl rfl (zb rfl)) yM ?_
 refine ze (zj (zk (zd ?_)))
 refine zc rfl (zf rfl fo36x0 yw rfl) wD ?_
 refine zc rfl (zu rfl ty5 xj rfl (zt rfl) (zb rfl)) yF ?_
 refine zc rfl (zy rfl yH rfl rfl) xG ?_
 refine zc rfl (zg rfl yY (zb rfl)) xY ?_
 refine zq rfl (fun hb=>zf rfl fo36x1 yw rfl) wm ?_
 refine zq rfl (fun hb=>zu rfl ty34 (zn xN hb) rfl (zt rfl) (zb rfl)) wl ?_
 refine zq rfl (fun hb=>zy rfl (zn xu hb) rfl rfl) vi ?_
 refine zc rfl (zL rfl yT wE rfl (zT (fun ht=>gT ht))) yN ?_
 refine zc rfl (zg rfl yG (zb rfl)) yR ?_
 refine zq rfl (fun hb=>zf rfl fo36x1 yw rfl) yQ ?_
 refine zq rfl (fun hb=>zu rfl ty34 (zn yO hb) rfl (zt rfl) (zb rfl)) yU ?_
 refine zq rfl (fun hb=>zy rfl (zn yL hb) rfl rfl) y3 ?_
 refine zc rfl (zL rfl yP y4 rfl (zT (fun ht=>gT ht))) y2 ?_
 refine zc rfl (zi rfl yW (zb rfl)) yM ?_
 refine ze (zj (zJ ?_))
 obtain rfl:=Option.some.inj hF
 refine zz rfl (zF yV zD) (zA (leV.refl _) rfl ?_)
 exact ⟨rfl,rfl⟩
theorem ok59 {d0:GDot} {res:Bool} {h:AH}  (hF:ref03May d0=some res):Spec Tryz.prog 59 [.agg [.int .u8 d0.actor.rep,.int .u32 d0.actor.inc,.int .u64 d0.seq]] h (fun rr hh=>rr=.bool res∧hh=h):=by
 unfold ref03May at hF
 refine zr Tryz.func59 rfl (by kernel_rfl) (env:=[.agg [.int .u8 d0.actor.rep,.int .u32 d0.actor.inc,.int .u64 d0.seq],za,za,za,za,za,za,za,za,za,za,za,za,za,za,za]) (by rfl) ?_
 refine zk (zd ?_)
 refine zc rfl (xb (n:=0) rfl yB (zb rfl) rfl rfl) st1 ?_
 refine zc rfl (zi rfl rfl (zb rfl)) yM ?_
 refine ze (zj (zk (zd ?_)))
 refine zc rfl (zf rfl vX yw rfl) wD ?_
 refine zc rfl (zu rfl ty36.choose_spec.1 xj rfl (zI (cs':=[.int .u8 d0.actor.rep,.int .u32 d0.actor.inc]) ty36.choose_spec.2 rfl rfl) (zb rfl)) yF ?_
 refine zU hF (fun v1 hv1 hF=>?_)
 refine zN rfl (zC rfl rfl rfl (zo yH zw) (.cons (zb rfl) .nil)) (ok87 hv1) xG ?_
 refine zc rfl (zg rfl yY (zb rfl)) xY ?_
 refine zq rfl (fun hb=>zf rfl fo38x1 yw rfl) wm ?_
 refine zq rfl (fun hb=>zu rfl vh (zn xN hb) rfl (zt rfl) (zb rfl)) wl ?_
 refine zq rfl (fun hb=>zy rfl (zn xu hb) rfl rfl) vi ?_
 refine zc rfl (zL rfl yT wE rfl (zT (fun ht=>gT ht))) yN ?_
 refine zc rfl (zg rfl yG (zb rfl)) yR ?_
 refine zq rfl (fun hb=>zf rfl fo38x1 yw rfl) yQ ?_
 refine zq rfl (fun hb=>zu rfl vh (zn yO hb) rfl (zt rfl) (zb rfl)) yU ?_
 refine zq rfl (fun hb=>zy rfl (zn yL hb) rfl rfl) y3 ?_
 refine zc rfl (zL rfl yP y4 rfl (zT (fun ht=>gT ht))) y2 ?_
 refine zc rfl (zi rfl yW (zb rfl)) yM ?_
 refine ze (zj (zJ ?_))
 obtain rfl:=Option.some.inj hF
 refine zz rfl (zF yV zD) (zA (leV.refl _) rfl ?_)
 exact ⟨rfl,rfl⟩
theorem ok60 {l0:(List GItem)} {d1:GDot} {res:Int} {h:AH}  (hF:ref05Item l0 d1=some res):Spec Tryz.prog 60 [.sl 5 (l0.map GItem.row),.agg [.int .u8 d1.actor.rep,.int .u32 d1.actor.inc,.int .u64 d1.seq]] h (fun rr hh=>rr=.int .i64 res∧hh=h):=by
 unfold ref05Item at hF
 refine zr Tryz.func60 rfl (by kernel_rfl) (env:=[.sl 5 (l0.map GItem.row),.agg [.int .u8 d1.actor.rep,.int .u32 d1.actor.inc,.int .u64 d1.seq],za,za,za,za,za,za,za,za,za,za,za,za,za,za,za,za,za,za]) (by rfl) ?_
 refine zk (zd ?_)
 refine zc rfl (xb (n:=0) rfl yw (zb rfl) rfl rfl) wD ?_
 refine zc rfl (zi rfl rfl (zb rfl)) yF ?_
 refine ze (zj (zk (zk (zd ?_))))
 refine zc rfl (zi rfl rfl (zb rfl)) xG ?_
 refine ze (zj (zS ?_))
 refine yu (fun (n1:Nat) (s1:Unit)=>yS [1,2,4,6,7,8,9,10,11,12,13,14,15,16,17,18,19] [(5,.int .i64 (n1:Int))]) (fun s1=>h.ext [.cells [.int .u8 d1.actor.rep,.int .u32 d1.actor.inc,.int .u64 d1.seq]] []) hF (fun _ _=>by simp only [yS,upd,List.set_cons_succ,List.set_cons_zero];try rfl) (wk.le (by exact (.eq (.drop (.drop (.eq (.drop (.cons (leV.of_eq rfl) (.d4 (.d4 (.d4 (.drop (.drop leL.nil))))))))))))) ?_
 intro n1 s1 hi1 hF
 refine zk (zk (zd ?_))
 refine zc rfl (zg rfl yY (zb rfl)) xY ?_
 refine zc rfl (zg rfl yB (zb rfl)) wm ?_
 refine yc rfl (zY rfl rfl rfl rfl ve xN yh) wl fun hn10=>?_
 replace hn10:=xK hn10
 refine zc rfl (zy rfl yT xu rfl) vi ?_
 refine ze (zj ?_)
 refine yI wE hF (fun x1 o1 hl1 hx1 hF hK1=>?_) (fun hF=>?_)
 ·refine zO (zj (zk (zS (zk ?_))))
  refine yD [] [] trivial mixed (by kernel_rfl) ?_
  refine zp rfl rfl (zg rfl yB (zb rfl)) yQ ?_
  refine zp rfl rfl (zg rfl yY (zb rfl)) yU ?_
  refine zp rfl rfl (yr rfl ve yO yL qZ (xc hx1)) y3 ?_
  refine zp rfl rfl (zf rfl qk y4 rfl) y2 ?_
  refine zp rfl rfl (yl rfl ty38.choose_spec.1 yW (zI (cs':=[.int .u8 x1.dot.actor.rep,.int .u32 x1.dot.actor.inc,.int .u64 x1.dot.seq]) ty38.choose_spec.2 rfl rfl) (zb rfl)) xf ?_
  refine zp rfl rfl (zu rfl ty38.choose_spec.1 xj rfl (zI (cs':=[.int .u8 d1.actor.rep,.int .u32 d1.actor.inc,.int .u64 d1.seq]) ty38.choose_spec.2 rfl rfl) (zb rfl)) xA ?_
  refine zp rfl rfl (zy rfl xd xC (bin_eq pk38 rfl)) xR ?_
  refine ym ?_
  refine zj ?_
  refine zR xL hF (fun hc11 hF=>?_) (fun hc11 hF=>?_)
  ·refine zk (zd ?_)
   refine zc rfl (zg rfl yY (zb rfl)) wa ?_
   refine zc rfl (zi rfl wh (zb rfl)) yF ?_
   refine ze (zj (zJ ?_))
   refine zG ?_
   refine zB ?_
   refine yj ?_
   obtain rfl:=Option.some.inj hF
   replace hF:=hK1
   refine zG ?_
   refine zB ?_
   obtain rfl:=Option.some.inj hF
   refine zz rfl (zF yH zD) (zA (leV.refl _) rfl ?_)
   exact ⟨rfl,rfl⟩
  ·refine zO (yi (zj (zd ?_)))
   refine zc rfl (zg rfl yY (zb rfl)) yN ?_
   refine zc rfl (zy rfl yG rfl rfl) yR ?_
   refine zc rfl (zi rfl yP (zb rfl)) xG ?_
   refine ze (yK ?_)
   obtain rfl:=Option.some.inj hF
   exact ⟨(),hl1,hK1,wk.le (by exact (.eq (.drop (.drop (.eq (.drop (.cons (leV.of_eq (vN (by omega) (by omega))) (.d4 (.d4 (.d4 (.drop (.drop leL.nil))))))))))))⟩
 ·refine yX ?_
  refine z7 ?_
  refine zW ?_
  refine zX ?_
  refine zj (zk (zd ?_))
  refine zc rfl (zi rfl rfl (zb rfl)) yF ?_
  refine ze (zj (zJ ?_))
  obtain rfl:=Option.some.inj hF
  refine zz rfl (zF yH zD) (zA (leV.refl _) rfl ?_)
  exact ⟨rfl,rfl⟩
theorem ok61 {l0:(List GDot)} {d1:GDot} {res:Bool} {h:AH}  (hF:ref05Tomb l0 d1=some res):Spec Tryz.prog 61 [.sl 3 (l0.map GDot.row),.agg [.int .u8 d1.actor.rep,.int .u32 d1.actor.inc,.int .u64 d1.seq]] h (fun rr hh=>rr=.bool res∧hh=h):=by
 unfold ref05Tomb at hF
 refine zr Tryz.func61 rfl (by kernel_rfl) (env:=[.sl 3 (l0.map GDot.row),.agg [.int .u8 d1.actor.rep,.int .u32 d1.actor.inc,.int .u64 d1.seq],za,za,za,za,za,za,za,za,za,za,za,za,za,za,za,za]) (by rfl) ?_
 refine zk (zd ?_)
 refine zc rfl (xb (n:=0) rfl yw (zb rfl) rfl rfl) wD ?_
 refine zc rfl (zi rfl rfl (zb rfl)) yF ?_
 refine ze (zj (zk (zk (zd ?_))))
 refine zc rfl (zi rfl rfl (zb rfl)) xG ?_
 refine ze (zj (zS ?_))
 refine yu (fun (n1:Nat) (s1:Unit)=>yS [1,2,4,6,7,8,9,10,11,12,13,14,15,16,17] [(5,.int .i64 (n1:Int))]) (fun s1=>h.ext [.cells [.int .u8 d1.actor.rep,.int .u32 d1.actor.inc,.int .u64 d1.seq]] []) hF (fun _ _=>by simp only [yS,upd,List.set_cons_succ,List.set_cons_zero];try rfl) (wk.le (by exact (.eq (.drop (.drop (.eq (.drop (.cons (leV.of_eq rfl) (.d4 (.d4 (.d4 leL.nil))))))))))) ?_
 intro n1 s1 hi1 hF
 refine zk (zk (zd ?_))
 refine zc rfl (zg rfl yY (zb rfl)) xY ?_
 refine zc rfl (zg rfl yB (zb rfl)) wm ?_
 refine yc rfl (zY rfl rfl rfl rfl qW xN yh) wl fun hn10=>?_
 replace hn10:=xK hn10
 refine zc rfl (zy rfl yT xu rfl) vi ?_
 refine ze (zj ?_)
 refine yI wE hF (fun x1 o1 hl1 hx1 hF hK1=>?_) (fun hF=>?_)
 ·refine zO (zj (zk (zS (zk ?_))))
  refine yD [] [] trivial mixed (by kernel_rfl) ?_
  refine zp rfl rfl (zg rfl yB (zb rfl)) yQ ?_
  refine zp rfl rfl (zg rfl yY (zb rfl)) yU ?_
  refine zp rfl rfl (yr rfl qW yO yL qZ (xc hx1)) y3 ?_
  refine zp rfl rfl (yl rfl ty38.choose_spec.1 y4 (zI (cs':=[.int .u8 x1.actor.rep,.int .u32 x1.actor.inc,.int .u64 x1.seq]) ty38.choose_spec.2 rfl rfl) (zb rfl)) y2 ?_
  refine zp rfl rfl (zu rfl ty38.choose_spec.1 xj rfl (zI (cs':=[.int .u8 d1.actor.rep,.int .u32 d1.actor.inc,.int .u64 d1.seq]) ty38.choose_spec.2 rfl rfl) (zb rfl)) xf ?_
  refine zp rfl rfl (zy rfl yW xd (bin_eq pk38 rfl)) xA ?_
  refine ym ?_
  refine zj ?_
  refine zR xC hF (fun hc11 hF=>?_) (fun hc11 hF=>?_)
  ·refine zk (zd ?_)
   refine zc rfl (zi rfl rfl (zb rfl)) yF ?_
   refine ze (zj (zJ ?_))
   refine zG ?_
   refine zB ?_
   refine yj ?_
   obtain rfl:=Option.some.inj hF
   replace hF:=hK1
   refine zG ?_
   refine zB ?_
   obtain rfl:=Option.some.inj hF
   refine zz rfl (zF yH zD) (zA (leV.refl _) rfl ?_)
   exact ⟨rfl,rfl⟩
  ·refine zO (yi (zj (zd ?_)))
   refine zc rfl (zg rfl yY (zb rfl)) yN ?_
   refine zc rfl (zy rfl yG rfl rfl) yR ?_
   refine zc rfl (zi rfl yP (zb rfl)) xG ?_
   refine ze (yK ?_)
   obtain rfl:=Option.some.inj hF
   exact ⟨(),hl1,hK1,wk.le (by exact (.eq (.drop (.drop (.eq (.drop (.cons (leV.of_eq (vN (by omega) (by omega))) (.d4 (.d4 (.d4 leL.nil))))))))))⟩
 ·refine yX ?_
  refine z7 ?_
  refine zW ?_
  refine zX ?_
  refine zj (zk (zd ?_))
  refine zc rfl (zi rfl rfl (zb rfl)) yF ?_
  refine ze (zj (zJ ?_))
  obtain rfl:=Option.some.inj hF
  refine zz rfl (zF yH zD) (zA (leV.refl _) rfl ?_)
  exact ⟨rfl,rfl⟩
theorem ok63 {a0:GDot} {b1:GDot} {res:Bool} {h:AH}  (hF:ref03Less a0 b1=some res):Spec Tryz.prog 63 [.agg [.int .u8 a0.actor.rep,.int .u32 a0.actor.inc,.int .u64 a0.seq],.agg [.int .u8 b1.actor.rep,.int .u32 b1.actor.inc,.int .u64 b1.seq]] h (fun rr hh=>rr=.bool res∧hh=h):=by
 unfold ref03Less at hF
 refine zr Tryz.func63 rfl (by kernel_rfl) (env:=[.agg [.int .u8 a0.actor.rep,.int .u32 a0.actor.inc,.int .u64 a0.seq],.agg [.int .u8 b1.actor.rep,.int .u32 b1.actor.inc,.int .u64 b1.seq],za,za,za,za,za,za,za,za,za,za,za,za,za,za,za,za,za,za,za,za,za,za,za,za,za,za,za,za,za,za,za,za,za,za,za,za]) (by rfl) ?_
 refine zk (zd ?_)
 refine zc rfl (xb (n:=0) rfl yB (zb rfl) rfl rfl) yM ?_
 refine zc rfl (xb (n:=1) rfl yw (zb rfl) rfl rfl) wD ?_
 refine zc rfl (zi rfl rfl (zb rfl)) yF ?_
 refine ze (zj (zk (zk (zd ?_))))
 refine zc rfl (zf rfl vX yV rfl) xG ?_
 refine zc rfl (zf rfl fo36x0 yY rfl) xY ?_
 refine zc rfl (zu rfl ty5 yT rfl (zt rfl) (zb rfl)) wm ?_
 refine zc rfl (zf rfl vX xj rfl) wl ?_
 refine zc rfl (zf rfl fo36x0 xu rfl) vi ?_
 refine zc rfl (zu rfl ty5 wE rfl (zt rfl) (zb rfl)) yN ?_
 refine zc rfl (zy rfl xN yG rfl) yR ?_
 refine ze (zj ?_)
 refine zR yP hF (fun hc1 hF=>?_) (fun hc1 hF=>?_)
 ·refine zk (zd ?_)
  refine zc rfl (zf rfl vX yV rfl) yQ ?_
  refine zc rfl (zf rfl fo36x0 yO rfl) yU ?_
  refine zc rfl (zu rfl ty5 yL rfl (zt rfl) (zb rfl)) y3 ?_
  refine zc rfl (zf rfl vX xj rfl) y2 ?_
  refine zc rfl (zf rfl fo36x0 yW rfl) xf ?_
  refine zc rfl (zu rfl ty5 xd rfl (zt rfl) (zb rfl)) xA ?_
  refine zc rfl (zy rfl y4 xC rfl) xR ?_
  refine zc rfl (zi rfl xL (zb rfl)) yF ?_
  refine ze (zj (zJ (zB ?_)))
  obtain rfl:=Option.some.inj hF
  refine zz rfl (zF yH zD) (zA (leV.refl _) rfl ?_)
  exact ⟨rfl,rfl⟩
 ·refine zO (zj (zk (zk (zd ?_))))
  refine zc rfl (zf rfl vX yV rfl) wa ?_
  refine zc rfl (zf rfl fo36x1 wh rfl) wJ ?_
  refine zc rfl (zu rfl ty34 wL rfl (zt rfl) (zb rfl)) wO ?_
  refine zc rfl (zf rfl vX xj rfl) vk ?_
  refine zc rfl (zf rfl fo36x1 vm rfl) wN ?_
  refine zc rfl (zu rfl ty34 wy rfl (zt rfl) (zb rfl)) vj ?_
  refine zc rfl (zy rfl wK vl rfl) vC ?_
  refine ze (zj ?_)
  refine zR vw hF (fun hc2 hF=>?_) (fun hc2 hF=>?_)
  ·refine zk (zd ?_)
   refine zc rfl (zf rfl vX yV rfl) qx ?_
   refine zc rfl (zf rfl fo36x1 qI rfl) qw ?_
   refine zc rfl (zu rfl ty34 qj rfl (zt rfl) (zb rfl)) qU ?_
   refine zc rfl (zf rfl vX xj rfl) qv ?_
   refine zc rfl (zf rfl fo36x1 qi rfl) q9 ?_
   refine zc rfl (zu rfl ty34 gt30 rfl (zt rfl) (zb rfl)) q8 ?_
   refine zc rfl (zy rfl qH gt31 rfl) st32 ?_
   refine zc rfl (zi rfl gt32 (zb rfl)) yF ?_
   refine ze (zj (zJ (zB ?_)))
   obtain rfl:=Option.some.inj hF
   refine zz rfl (zF yH zD) (zA (leV.refl _) rfl ?_)
   exact ⟨rfl,rfl⟩
  ·refine zO (zj (zk (zd ?_)))
   refine zc rfl (zf rfl fo38x1 yV rfl) st33 ?_
   refine zc rfl (zu rfl vh gt33 rfl (zt rfl) (zb rfl)) st34 ?_
   refine zc rfl (zf rfl fo38x1 xj rfl) st35 ?_
   refine zc rfl (zu rfl vh gt35 rfl (zt rfl) (zb rfl)) qT ?_
   refine zc rfl (zy rfl gt34 qG rfl) qS ?_
   refine zc rfl (zi rfl qF (zb rfl)) yF ?_
   refine ze (zj (zJ ?_))
   obtain rfl:=Option.some.inj hF
   refine zz rfl (zF yH zD) (zA (leV.refl _) rfl ?_)
   exact ⟨rfl,rfl⟩
theorem ok62 {time0:Int} {d1:GDot} {other2:Int} {o3:GDot} {res:Bool} {h:AH}  (hF:ref05Ahead time0 d1 other2 o3=some res):Spec Tryz.prog 62 [.int .u64 time0,.agg [.int .u8 d1.actor.rep,.int .u32 d1.actor.inc,.int .u64 d1.seq],.int .u64 other2,.agg [.int .u8 o3.actor.rep,.int .u32 o3.actor.inc,.int .u64 o3.seq]] h (fun rr hh=>rr=.bool res∧hh=h):=by
 unfold ref05Ahead at hF
 refine zr Tryz.func62 rfl (by kernel_rfl) (env:=[.int .u64 time0,.agg [.int .u8 d1.actor.rep,.int .u32 d1.actor.inc,.int .u64 d1.seq],.int .u64 other2,.agg [.int .u8 o3.actor.rep,.int .u32 o3.actor.inc,.int .u64 o3.seq],za,za,za,za,za,za,za,za,za,za,za,za,za,za]) (by rfl) ?_
 refine zk (zd ?_)
 refine zc rfl (xb (n:=0) rfl yw (zb rfl) rfl rfl) xG ?_
 refine zc rfl (xb (n:=1) rfl xj (zb rfl) rfl rfl) wm ?_
 refine zc rfl (zi rfl rfl (zb rfl)) wl ?_
 refine ze (zj (zk (zk (zd ?_))))
 refine zc rfl (zg rfl yB (zb rfl)) vi ?_
 refine zc rfl (zg rfl yV (zb rfl)) yN ?_
 refine zc rfl (zy rfl wE yG rfl) yR ?_
 refine ze (zj ?_)
 refine zR yP hF (fun hc1 hF=>?_) (fun hc1 hF=>?_)
 ·refine zk (zd ?_)
  refine zc rfl (zg rfl yB (zb rfl)) yQ ?_
  refine zc rfl (zg rfl yV (zb rfl)) yU ?_
  refine zc rfl (zy rfl yO yL rfl) y3 ?_
  refine zc rfl (zi rfl y4 (zb rfl)) wl ?_
  refine ze (zj (zJ (zB ?_)))
  obtain rfl:=Option.some.inj hF
  refine zz rfl (zF xu zD) (zA (leV.refl _) rfl ?_)
  exact ⟨rfl,rfl⟩
 ·refine zO (zj (zk (zd ?_)))
  refine zc rfl (zu rfl ty38.choose_spec.1 yY rfl (zI (cs':=[.int .u8 d1.actor.rep,.int .u32 d1.actor.inc,.int .u64 d1.seq]) ty38.choose_spec.2 rfl rfl) (zb rfl)) y2 ?_
  refine zc rfl (zu rfl ty38.choose_spec.1 xN rfl (zI (cs':=[.int .u8 o3.actor.rep,.int .u32 o3.actor.inc,.int .u64 o3.seq]) ty38.choose_spec.2 rfl rfl) (zb rfl)) xf ?_
  refine zU hF (fun v2 hv2 hF=>?_)
  refine zN rfl (zC rfl rfl rfl (zo yW (zo xd zw)) (.cons (zb rfl) (.cons (zb rfl) .nil))) (ok63 hv2) xA ?_
  refine zc rfl (zi rfl xC (zb rfl)) wl ?_
  refine ze (zj (zJ ?_))
  obtain rfl:=Option.some.inj hF
  refine zz rfl (zF xu zD) (zA (leV.refl _) rfl ?_)
  exact ⟨rfl,rfl⟩
theorem ok32 {l0:GLeaf} {res:Bool} {h:AH}  (hF:ref05May l0=some res):Spec Tryz.prog 32 [.agg [.int .u8 l0.typ,.int .i64 l0.n,.int .u64 l0.time,.int .u8 l0.dot.actor.rep,.int .u32 l0.dot.actor.inc,.int .u64 l0.dot.seq,.str l0.text,.sl 5 (l0.items.map GItem.row),.sl 3 (l0.tombs.map GDot.row)]] h (fun rr hh=>rr=.bool res∧hh=h):=by
 unfold ref05May at hF
 refine zr Tryz.func32 rfl (by kernel_rfl) (env:=[.agg [.int .u8 l0.typ,.int .i64 l0.n,.int .u64 l0.time,.int .u8 l0.dot.actor.rep,.int .u32 l0.dot.actor.inc,.int .u64 l0.dot.seq,.str l0.text,.sl 5 (l0.items.map GItem.row),.sl 3 (l0.tombs.map GDot.row)],za,za,za,za,za,za,za,za,za,za,za,za,za,za,za,za,za,za,za,za,za,za,za,za,za,za,za,za,za,za,za,za,za,za,za,za,za,za,za,za,za,za,za,za,za,za,za,za,za,za,za,za,za,za,za,za,za,za,za,za,za,za,za,za,za,za,za,za,za,za,za,za,za,za,za,za,za,za,za,za,za,za,za,za,za,za,za,za,za,za,za,za,za,za,za,za,za,za,za,za,za,za,za,za,za,za,za,za,za,za,za,za,za,za,za,za,za,za,za,za,za,za,za,za,za,za,za,za,za,za,za,za,za,za,za,za,za,za,za,za,za,za,za,za,za,za,za,za,za,za,za,za,za,za,za,za,za,za,za,za,za,za,za,za,za,za,za,za,za,za,za,za,za,za,za,za,za,za,za,za,za,za,za,za,za,za,za,za,za,za,za,za,za,za,za,za,za,za,za,za,za,za,za,za]) (by rfl) ?_
 refine zk (zd ?_)
 refine zc rfl (xb (n:=0) rfl yB (zb rfl) rfl rfl) st1 ?_
 refine zc rfl (zi rfl rfl (zb rfl)) yM ?_
 refine ze (zj (zk (zk (zd ?_))))
 refine zc rfl (zf rfl wU yw rfl) wm ?_
 refine zc rfl (zu rfl ty5 xN rfl (zt rfl) (zb rfl)) wl ?_
 refine zc rfl (zy rfl xu rfl rfl) vi ?_
 refine zc rfl (zg rfl wE (zb rfl)) yN ?_
 refine zq rfl (fun hb=>zf rfl wU yw rfl) yR ?_
 refine zq rfl (fun hb=>zu rfl ty5 (zn yP hb) rfl (zt rfl) (zb rfl)) yQ ?_
 refine zq rfl (fun hb=>zy rfl (zn yO hb) rfl rfl) yU ?_
 refine zc rfl (zL rfl yG rfl yL (yb (fun ht=>gF ht))) y3 ?_
 refine zc rfl (zg rfl y4 (zb rfl)) y2 ?_
 refine zq rfl (fun hb=>zf rfl wU yw rfl) xf ?_
 refine zq rfl (fun hb=>zu rfl ty5 (zn xd hb) rfl (zt rfl) (zb rfl)) xA ?_
 refine zq rfl (fun hb=>zy rfl (zn xC hb) rfl rfl) xR ?_
 refine zq rfl (fun hb=>zg rfl (zn xL hb) (zb rfl)) wa ?_
 refine zq (zQ rfl rfl rfl) (fun hb=>zf rfl fo42x1 yw rfl) wJ ?_
 refine zq (zQ rfl rfl rfl) (fun hb=>zu rfl ty2 (zn wL hb) rfl (zt rfl) (zb rfl)) wO ?_
 refine zq (zQ rfl rfl rfl) (fun hb=>zy rfl (zn wK hb) rfl rfl) vk ?_
 refine zq rfl (fun hb=>zL rfl (zn wh hb) vm rfl (zT (fun ht=>gT2 hb ht))) wN ?_
 refine zc rfl (zL rfl yW rfl wy (yb (fun ht=>gF ht))) vj ?_
 refine zc rfl (zg rfl vl (zb rfl)) vC ?_
 refine zq rfl (fun hb=>zf rfl wU yw rfl) qx ?_
 refine zq rfl (fun hb=>zu rfl ty5 (zn qI hb) rfl (zt rfl) (zb rfl)) qw ?_
 refine zq rfl (fun hb=>zy rfl (zn qj hb) rfl rfl) qU ?_
 refine zq rfl (fun hb=>zg rfl (zn qH hb) (zb rfl)) qv ?_
 refine zq (zQ rfl rfl rfl) (fun hb=>zf rfl x6 yw rfl) q9 ?_
 refine zq (zQ rfl rfl rfl) (fun hb=>zu rfl ty39 (zn gt30 hb) rfl (zt rfl) (zb rfl)) q8 ?_
 refine wd (zQ rfl rfl rfl) (fun hb=>zY rfl rfl rfl rfl ve (zn gt31 hb) yh) st32 fun hn1=>?_
 refine zq (zQ rfl rfl rfl) (fun hb=>zy rfl (zn gt32 hb) rfl rfl) st33 ?_
 refine zq rfl (fun hb=>zL rfl (zn qi hb) gt33 rfl (zT (fun ht=>gT2 hb ht))) st34 ?_
 refine zc rfl (zL rfl vw rfl gt34 (yb (fun ht=>gF ht))) st35 ?_
 refine zc rfl (zg rfl gt35 (zb rfl)) qT ?_
 refine zq rfl (fun hb=>zf rfl wU yw rfl) qS ?_
 refine zq rfl (fun hb=>zu rfl ty5 (zn qF hb) rfl (zt rfl) (zb rfl)) st38 ?_
 refine zq rfl (fun hb=>zy rfl (zn gt38 hb) rfl rfl) st39 ?_
 refine zq rfl (fun hb=>zg rfl (zn gt39 hb) (zb rfl)) (sk st0) ?_
 refine zq (zQ rfl rfl rfl) (fun hb=>zf rfl vn yw rfl) (sk st1) ?_
 refine zq (zQ rfl rfl rfl) (fun hb=>zu rfl ty40 (zn (gk yw) hb) rfl (zt rfl) (zb rfl)) (sk yM) ?_
 refine wd (zQ rfl rfl rfl) (fun hb=>zY rfl rfl rfl rfl qW (zn (gk yV) hb) yh) (sk wD) fun hn2=>?_
 refine zq (zQ rfl rfl rfl) (fun hb=>zy rfl (zn (gk xj) hb) rfl rfl) (sk yF) ?_
 refine zq rfl (fun hb=>zL rfl (zn (gk yB) hb) (gk yH) rfl (zT (fun ht=>gT2 hb ht))) (sk xG) ?_
 refine zc rfl (zL rfl qG rfl (gk yY) (yb (fun ht=>gF ht))) (sk xY) ?_
 refine ze (zj ?_)
 refine zR (gk yT) hF (fun hc3 hF=>?_) (fun hc3 hF=>?_)
 ·refine zk (zd ?_)
  refine zc rfl (zi rfl rfl (zb rfl)) yM ?_
  refine ze (zj (zJ (zB ?_)))
  obtain rfl:=Option.some.inj hF
  refine zz rfl (zF yV zD) (zA (leV.refl _) rfl ?_)
  exact ⟨rfl,rfl⟩
 ·refine zO (zj (zk (zd ?_)))
  refine zc rfl (xS (cs':=[.int .u8 (0:Int),.int .u32 (0:Int),.int .u64 (0:Int)]) rfl su38 ze38 pl38 zV .nil rfl rfl) (sk wm) ?_
  refine zc rfl (y9 (n:=1) rfl ze38 rfl) wD ?_
  refine zc rfl (yx (cs':=[.int .u8 (0:Int),.int .u32 (0:Int),.int .u64 (0:Int)]) rfl ty38.choose_spec.1 xj (gk xN) (zb rfl) rfl rfl rfl rfl rfl) rfl ?_
  refine ze (zj ?_)
  refine r_join (fun (s1:Unit)=>yS [0,2,3,4,5,6,7,8,9,10,11,12,13,14,15,16,17,18,19,20,21,22,23,24,25,26,27,28,29,30,31,32,33,34,35,36,37,38,39,40,41,42,43,44,45,46,47,48,49,50,51,52,53,54,55,56,57,58,59,60,61,62,63,64,65,66,67,68,69,70,71,72,73,74,75,76,77,78,79,80,81,82,83,84,85,86,87,88,89,90,91,92,93,94,95,96,97,98,99,100,101,102,103,104,105,106,107,108,109,110,111,112,113,114,115,116,117,118,119,120,121,122,123,124,125,126,127,128,129,130,131,132,133,134,135,136,137,138,139,140,141,142,143,144,145,146,147,148,149,150,151,152,153,154,155,156,157,158,159,160,161,162,163,164,165,166,167,168,169,170,171,172,173,174,175,176,177,178,179,180,181,182,183,184,185,186,187,188,189,190,191,192,193,194,195,196,197,198,199,200,201,202,203,204] []) (fun s1=>h.ext [.cells [.int .u8 l0.typ,.int .i64 l0.n,.int .u64 l0.time,.int .u8 l0.dot.actor.rep,.int .u32 l0.dot.actor.inc,.int .u64 l0.dot.seq,.str l0.text,.sl 5 (l0.items.map GItem.row),.sl 3 (l0.tombs.map GDot.row)],.cells [.int .u8 (0:Int),.int .u32 (0:Int),.int .u64 (0:Int)]] []) hF (fun _=>by simp only [yS,upd,List.set_cons_succ,List.set_cons_zero];try rfl) (fun o1 hF hK1=>?_) (fun s1 hF=>?_)
  ·refine zk (zd ?_)
   refine zc rfl (zf rfl wU yw rfl) (sk wl) ?_
   refine zc rfl (zu rfl ty5 (gk xu) rfl (zt rfl) (zb rfl)) (sk vi) ?_
   refine zc rfl (zy rfl (gk wE) rfl rfl) (sk yN) ?_
   refine zc rfl (zg rfl (gk yG) (zb rfl)) (sk yR) ?_
   refine zq rfl (fun hb=>zf rfl qV yw rfl) (sk yQ) ?_
   refine zq rfl (fun hb=>zu rfl vh (zn (gk yO) hb) rfl (zt rfl) (zb rfl)) (sk yU) ?_
   refine zq rfl (fun hb=>zy rfl (zn (gk yL) hb) rfl rfl) (sk y3) ?_
   refine zc rfl (zL rfl (gk yP) rfl (gk y4) (yb (fun ht=>gF ht))) (sk y2) ?_
   refine ze (zj ?_)
   refine zR (gk yW) hF (fun hc9 hF=>?_) (fun hc9 hF=>?_)
   ·refine zk (zd ?_)
    refine zc rfl (zf rfl qV yw rfl) (sk xf) ?_
    refine zc rfl (zu rfl vh (gk xd) rfl (zt rfl) (zb rfl)) (sk xA) ?_
    refine zc rfl (zy rfl (gk xC) rfl rfl) (sk xR) ?_
    refine zc rfl (zg rfl (gk xL) (zb rfl)) (sk wa) ?_
    refine zq rfl (fun hb=>zf rfl fo42x3 yw rfl) (sk wJ) ?_
    refine zq rfl (fun hb=>zu rfl ty38.choose_spec.1 (zn (gk wL) hb) rfl (zI (cs':=[.int .u8 l0.dot.actor.rep,.int .u32 l0.dot.actor.inc,.int .u64 l0.dot.seq]) ty38.choose_spec.2 rfl rfl) (zb rfl)) (sk wO) ?_
    refine zq rfl (fun hb=>zu rfl ty38.choose_spec.1 xj rfl (zI (cs':=[.int .u8 (0:Int),.int .u32 (0:Int),.int .u64 (0:Int)]) ty38.choose_spec.2 rfl rfl) (zb rfl)) (sk vk) ?_
    refine zq rfl (fun hb=>zy rfl (zn (gk wK) hb) (zn (gk vm) hb) (bin_ne pk38 rfl)) (sk wN) ?_
    refine zc rfl (zL rfl (gk wh) rfl (gk wy) (yb (fun ht=>gF ht))) (sk vj) ?_
    refine zc rfl (zg rfl (gk vl) (zb rfl)) (sk vC) ?_
    refine zq rfl (fun hb=>zf rfl fo42x4 yw rfl) (sk qx) ?_
    refine zq rfl (fun hb=>zu rfl ty9 (zn (gk qI) hb) rfl (zt rfl) (zb rfl)) (sk qw) ?_
    refine zq rfl (fun hb=>zy rfl (zn (gk qj) hb) rfl rfl) (sk qU) ?_
    refine zc rfl (zL rfl (gk vw) rfl (gk qH) (yb (fun ht=>gF ht))) (sk qv) ?_
    refine ze (zj ?_)
    refine zR (gk qi) hF (fun hc10 hF=>?_) (fun hc10 hF=>?_)
    ·refine zk (zd ?_)
     refine zc rfl (zi rfl rfl (zb rfl)) yM ?_
     refine ze (zj (zJ ?_))
     refine q_join_ret ?_
     obtain rfl:=Option.some.inj hF
     replace hF:=hK1
     obtain rfl:=Option.some.inj hF
     refine zz rfl (zF yV zD) (zA (leV.refl _) rfl ?_)
     exact ⟨rfl,rfl⟩
    ·refine zO (q_join ?_)
     obtain rfl:=Option.some.inj hF
     exact ⟨(),hK1,wk.le (by exact (.drop (.eq (.d16 (.d16 (.d16 (.d16 (.d16 (.d16 (.d16 (.d16 (.d16 (.d16 (.d16 (.d16 (.d4 (.d4 (.drop (.drop (.drop leL.nil))))))))))))))))))))⟩
   ·refine zk (zd ?_)
    refine zc rfl (zf rfl qV yw rfl) (sk q9) ?_
    refine zc rfl (zu rfl vh (gk gt30) rfl (zt rfl) (zb rfl)) (sk q8) ?_
    refine zc rfl (zy rfl (gk gt31) rfl rfl) (sk st32) ?_
    refine zc rfl (zg rfl (gk gt32) (zb rfl)) (sk st33) ?_
    refine zq rfl (fun hb=>zf rfl fo42x3 yw rfl) (sk st34) ?_
    refine zq rfl (fun hb=>zu rfl ty38.choose_spec.1 (zn (gk gt34) hb) rfl (zI (cs':=[.int .u8 l0.dot.actor.rep,.int .u32 l0.dot.actor.inc,.int .u64 l0.dot.seq]) ty38.choose_spec.2 rfl rfl) (zb rfl)) (sk st35) ?_
    refine yZ hF (fun v11 hv11 hF=>?_)
    refine yA rfl (fun hb=>zC rfl rfl rfl (zo (zn (gk gt35) hb) zw) (.cons (zb rfl) .nil)) (fun hb=>ok59 (hv11 hb)) (sk qT) ?_
    refine zq rfl (fun hb=>wo rfl (zn (gk qG) hb) rfl) (sk qS) ?_
    refine zc rfl (zL rfl (gk gt33) rfl (gk qF) (yb (fun ht=>gF ht))) (sk st38) ?_
    refine zc rfl (zg rfl (gk gt38) (zb rfl)) (sk st39) ?_
    refine zq rfl (fun hb=>zf rfl fo42x4 yw rfl) (sk (sk st0)) ?_
    refine zq rfl (fun hb=>zu rfl ty9 (zn (gk (gk yB)) hb) rfl (zt rfl) (zb rfl)) (sk (sk st1)) ?_
    refine wd rfl (fun hb=>wQ rfl rfl rfl rfl ty9 (zn (gk (gk yw)) hb)) (sk (sk yM)) fun hn12=>?_
    refine zq rfl (fun hb=>zy rfl (zn (gk (gk yV)) hb) rfl rfl) (sk (sk wD)) ?_
    refine zc rfl (zL rfl (gk gt39) rfl (gk (gk xj)) (yb (fun ht=>gF ht))) (sk (sk yF)) ?_
    refine ze (zj ?_)
    refine zR (gk (gk yH)) hF (fun hc13 hF=>?_) (fun hc13 hF=>?_)
    ·refine zk (zd ?_)
     refine zc rfl (zi rfl rfl (zb rfl)) yM ?_
     refine ze (zj (zJ ?_))
     refine q_join_ret ?_
     obtain rfl:=Option.some.inj hF
     replace hF:=hK1
     obtain rfl:=Option.some.inj hF
     refine zz rfl (zF yV zD) (zA (leV.refl _) rfl ?_)
     exact ⟨rfl,rfl⟩
    ·refine zO (q_join ?_)
     obtain rfl:=Option.some.inj hF
     exact ⟨(),hK1,wk.le (by exact (.drop (.eq (.d16 (.d16 (.d16 (.d16 (.d16 (.d16 (.d16 (.d16 (.d16 (.d16 (.d16 (.d16 (.d4 (.d4 (.drop (.drop (.drop leL.nil))))))))))))))))))))⟩
  ·refine zk (zk (zd ?_))
   refine zc rfl (zi rfl rfl (zb rfl)) yF ?_
   refine ze (zj (zS ?_))
   refine yu (fun (n2:Nat) (s2:Unit)=>yS [0,2,3,5,6,7,8,9,10,11,12,13,14,15,16,17,18,19,20,21,22,23,24,25,26,27,28,29,30,31,32,33,34,35,36,37,38,39,40,41,42,43,44,45,46,47,48,49,50,51,52,53,54,55,56,57,58,59,60,61,62,63,64,65,66,67,68,69,70,71,72,73,74,75,76,77,78,79,80,81,82,83,84,85,86,87,88,89,90,91,92,93,94,95,96,97,98,99,100,101,102,103,104,105,106,107,108,109,110,111,112,113,114,115,116,117,118,119,120,121,122,123,124,125,126,127,128,129,130,131,132,133,134,135,136,137,138,139,140,141,142,143,144,145,146,147,148,149,150,151,152,153,154,155,156,157,158,159,160,161,162,163,164,165,166,167,168,169,170,171,172,173,174,175,176,177,178,179,180,181,182,183,184,185,186,187,188,189,190,191,192,193,194,195,196,197,198,199,200,201,202,203,204] [(4,.int .i64 (n2:Int))]) (fun s2=>h.ext [.cells [.int .u8 l0.typ,.int .i64 l0.n,.int .u64 l0.time,.int .u8 l0.dot.actor.rep,.int .u32 l0.dot.actor.inc,.int .u64 l0.dot.seq,.str l0.text,.sl 5 (l0.items.map GItem.row),.sl 3 (l0.tombs.map GDot.row)],.cells [.int .u8 (0:Int),.int .u32 (0:Int),.int .u64 (0:Int)]] []) hF (fun _ _=>by simp only [yS,upd,List.set_cons_succ,List.set_cons_zero];try rfl) (wk.le (by exact (.drop (.eq (.drop (.drop (.cons (leV.of_eq rfl) (.d16 (.d16 (.d16 (.d16 (.d16 (.d16 (.d16 (.d16 (.d16 (.d16 (.d16 (.d16 (.d4 (.d4 leL.nil))))))))))))))))))))) ?_
   intro n2 s2 hi2 hF
   refine zk (zk (zd ?_))
   refine zc rfl (zg rfl yH (zb rfl)) (sk (sk xG)) ?_
   refine zc rfl (zf rfl x6 yw rfl) (sk (sk xY)) ?_
   refine zc rfl (zu rfl ty39 (gk (gk yT)) rfl (zt rfl) (zb rfl)) (sk (sk wm)) ?_
   refine yc rfl (zY rfl rfl rfl rfl ve (gk (gk xN)) yh) (sk (sk wl)) fun hn40=>?_
   replace hn40:=xK hn40
   refine zc rfl (zy rfl (gk (gk yY)) (gk (gk xu)) rfl) (sk (sk vi)) ?_
   refine ze (zj ?_)
   refine yI (gk (gk wE)) hF (fun x2 o2 hl2 hx2 hF hK2=>?_) (fun hF=>?_)
   ·refine zO (zj (zk (zS (zk (zd ?_)))))
    refine zc rfl (zf rfl x6 yw rfl) (sk (sk yQ)) ?_
    refine zc rfl (zu rfl ty39 (gk (gk yO)) rfl (zt rfl) (zb rfl)) (sk (sk yU)) ?_
    refine zc rfl (zg rfl yH (zb rfl)) (sk (sk y3)) ?_
    refine zc rfl (yr rfl ve (gk (gk yL)) (gk (gk y4)) qZ (xc hx2)) (sk (sk y2)) ?_
    refine zc rfl (yl rfl ty57.choose_spec.1 (gk (gk yW)) (zI (cs':=[.int .u64 x2.time,.int .u8 x2.dot.actor.rep,.int .u32 x2.dot.actor.inc,.int .u64 x2.dot.seq,.str x2.text]) ty57.choose_spec.2 rfl rfl) (zb rfl)) (sk (sk xf)) ?_
    refine zc rfl (y9 (n:=2) rfl ze57 rfl) xG ?_
    refine zc rfl (yx (cs':=[.int .u64 x2.time,.int .u8 x2.dot.actor.rep,.int .u32 x2.dot.actor.inc,.int .u64 x2.dot.seq,.str x2.text]) rfl ty57.choose_spec.1 yY (gk (gk xd)) (zb rfl) rfl rfl rfl rfl rfl) rfl ?_
    refine ze (zj (zk (zk (zd ?_))))
    refine zc rfl (zf rfl qk yY rfl) (sk (sk xA)) ?_
    refine zc rfl (zu rfl ty38.choose_spec.1 (gk (gk xC)) rfl (zI (cs':=[.int .u8 x2.dot.actor.rep,.int .u32 x2.dot.actor.inc,.int .u64 x2.dot.seq]) ty38.choose_spec.2 rfl rfl) (zb rfl)) (sk (sk xR)) ?_
    refine zU hF (fun v41 hv41 hF=>?_)
    refine zN rfl (zC rfl rfl rfl (zo (gk (gk xL)) zw) (.cons (zb rfl) .nil)) (ok59 hv41) (sk (sk wa)) ?_
    refine zc rfl (wo rfl (gk (gk wh)) rfl) (sk (sk wJ)) ?_
    refine zc rfl (zg rfl (gk (gk wL)) (zb rfl)) (sk (sk wO)) ?_
    refine zq rfl (fun hb=>zf rfl fo57x2 yY rfl) (sk (sk vk)) ?_
    refine zq rfl (fun hb=>zu rfl ty9 (zn (gk (gk vm)) hb) rfl (zt rfl) (zb rfl)) (sk (sk wN)) ?_
    refine wd rfl (fun hb=>wQ rfl rfl rfl rfl ty9 (zn (gk (gk wy)) hb)) (sk (sk vj)) fun hn42=>?_
    refine zq rfl (fun hb=>zy rfl (zn (gk (gk vl)) hb) rfl rfl) (sk (sk vC)) ?_
    refine zc rfl (zL rfl (gk (gk wK)) rfl (gk (gk vw)) (yb (fun ht=>gF ht))) (sk (sk qx)) ?_
    refine zc rfl (zg rfl (gk (gk qI)) (zb rfl)) (sk (sk qw)) ?_
    refine zq rfl (fun hb=>zf rfl wU yw rfl) (sk (sk qU)) ?_
    refine zq rfl (fun hb=>zu rfl ty5 (zn (gk (gk qH)) hb) rfl (zt rfl) (zb rfl)) (sk (sk qv)) ?_
    refine zq rfl (fun hb=>zy rfl (zn (gk (gk qi)) hb) rfl rfl) (sk (sk q9)) ?_
    refine zq rfl (fun hb=>zg rfl (zn (gk (gk gt30)) hb) (zb rfl)) (sk (sk q8)) ?_
    refine zq (zQ rfl rfl rfl) (fun hb=>zf rfl fo57x0 yY rfl) (sk (sk st32)) ?_
    refine zq (zQ rfl rfl rfl) (fun hb=>zu rfl vh (zn (gk (gk gt32)) hb) rfl (zt rfl) (zb rfl)) (sk (sk st33)) ?_
    refine zq (zQ rfl rfl rfl) (fun hb=>zy rfl (zn (gk (gk gt33)) hb) rfl rfl) (sk (sk st34)) ?_
    refine zq rfl (fun hb=>zL rfl (zn (gk (gk gt31)) hb) (gk (gk gt34)) rfl (zT (fun ht=>gT2 hb ht))) (sk (sk st35)) ?_
    refine zc rfl (zL rfl (gk (gk qj)) rfl (gk (gk gt35)) (yb (fun ht=>gF ht))) (sk (sk qT)) ?_
    refine zc rfl (zg rfl (gk (gk qG)) (zb rfl)) (sk (sk qS)) ?_
    refine zq rfl (fun hb=>zf rfl wU yw rfl) (sk (sk st38)) ?_
    refine zq rfl (fun hb=>zu rfl ty5 (zn (gk (gk gt38)) hb) rfl (zt rfl) (zb rfl)) (sk (sk st39)) ?_
    refine zq rfl (fun hb=>zy rfl (zn (gk (gk gt39)) hb) rfl rfl) (sk (sk (sk st0))) ?_
    refine zq rfl (fun hb=>zg rfl (zn (gk (gk (gk yB))) hb) (zb rfl)) (sk (sk (sk st1))) ?_
    refine zq (zQ rfl rfl rfl) (fun hb=>zf rfl fo57x0 yY rfl) (sk (sk (sk yM))) ?_
    refine zq (zQ rfl rfl rfl) (fun hb=>zu rfl vh (zn (gk (gk (gk yV))) hb) rfl (zt rfl) (zb rfl)) (sk (sk (sk wD))) ?_
    refine zq (zQ rfl rfl rfl) (fun hb=>zy rfl (zn (gk (gk (gk xj))) hb) rfl rfl) (sk (sk (sk yF))) ?_
    refine zq (zQ rfl rfl rfl) (fun hb=>zg rfl (zn (gk (gk (gk yH))) hb) (zb rfl)) (sk (sk (sk xG))) ?_
    refine zq (zQ rfl rfl rfl) (fun hb=>zf rfl fo57x0 yY rfl) (sk (sk (sk xY))) ?_
    refine zq (zQ rfl rfl rfl) (fun hb=>zu rfl vh (zn (gk (gk (gk yT))) hb) rfl (zt rfl) (zb rfl)) (sk (sk (sk wm))) ?_
    refine zq (zQ rfl rfl rfl) (fun hb=>zy rfl (zn (gk (gk (gk xN))) hb) rfl rfl) (sk (sk (sk wl))) ?_
    refine zq (zQ rfl rfl rfl) (fun hb=>zL rfl (zn (gk (gk (gk yY))) hb) rfl (gk (gk (gk xu))) (yb (fun ht=>gF2 hb ht))) (sk (sk (sk vi))) ?_
    refine zq rfl (fun hb=>zL rfl (zn (gk (gk (gk yw))) hb) (gk (gk (gk wE))) rfl (zT (fun ht=>gT2 hb ht))) (sk (sk (sk yN))) ?_
    refine zc rfl (zL rfl (gk (gk qF)) rfl (gk (gk (gk yG))) (yb (fun ht=>gF ht))) (sk (sk (sk yR))) ?_
    refine zc rfl (zg rfl (gk (gk (gk yP))) (zb rfl)) (sk (sk (sk yQ))) ?_
    refine zq rfl (fun hb=>zf rfl x6 yw rfl) (sk (sk (sk yU))) ?_
    refine zq rfl (fun hb=>zu rfl ty39 (zn (gk (gk (gk yL))) hb) rfl (zt rfl) (zb rfl)) (sk (sk (sk y3))) ?_
    refine zq rfl (fun hb=>zf rfl qk yY rfl) (sk (sk (sk y2))) ?_
    refine zq rfl (fun hb=>zu rfl ty38.choose_spec.1 (zn (gk (gk (gk yW))) hb) rfl (zI (cs':=[.int .u8 x2.dot.actor.rep,.int .u32 x2.dot.actor.inc,.int .u64 x2.dot.seq]) ty38.choose_spec.2 rfl rfl) (zb rfl)) (sk (sk (sk xf))) ?_
    refine yZ hF (fun v43 hv43 hF=>?_)
    refine yA rfl (fun hb=>zC rfl rfl rfl (zo (zn (gk (gk (gk y4))) hb) (zo (zn (gk (gk (gk xd))) hb) zw)) (.cons (zb rfl) (.cons (zb rfl) .nil))) (fun hb=>ok60 (hv43 hb)) (sk (sk (sk xA))) ?_
    refine zq rfl (fun hb=>zg rfl yH (zb rfl)) (sk (sk (sk xR))) ?_
    refine zq rfl (fun hb=>zy rfl (zn (gk (gk (gk xC))) hb) (zn (gk (gk (gk xL))) hb) rfl) (sk (sk (sk wa))) ?_
    refine zc rfl (zL rfl (gk (gk (gk yO))) rfl (gk (gk (gk wh))) (yb (fun ht=>gF ht))) (sk (sk (sk wJ))) ?_
    refine zc rfl (zg rfl (gk (gk (gk wL))) (zb rfl)) (sk (sk (sk wO))) ?_
    refine zq rfl (fun hb=>zf rfl vn yw rfl) (sk (sk (sk vk))) ?_
    refine zq rfl (fun hb=>zu rfl ty40 (zn (gk (gk (gk vm))) hb) rfl (zt rfl) (zb rfl)) (sk (sk (sk wN))) ?_
    refine zq rfl (fun hb=>zf rfl qk yY rfl) (sk (sk (sk vj))) ?_
    refine zq rfl (fun hb=>zu rfl ty38.choose_spec.1 (zn (gk (gk (gk vl))) hb) rfl (zI (cs':=[.int .u8 x2.dot.actor.rep,.int .u32 x2.dot.actor.inc,.int .u64 x2.dot.seq]) ty38.choose_spec.2 rfl rfl) (zb rfl)) (sk (sk (sk vC))) ?_
    refine yZ hF (fun v44 hv44 hF=>?_)
    refine yA rfl (fun hb=>zC rfl rfl rfl (zo (zn (gk (gk (gk wy))) hb) (zo (zn (gk (gk (gk vw))) hb) zw)) (.cons (zb rfl) (.cons (zb rfl) .nil))) (fun hb=>ok61 (hv44 hb)) (sk (sk (sk qx))) ?_
    refine zc rfl (zL rfl (gk (gk (gk wK))) rfl (gk (gk (gk qI))) (yb (fun ht=>gF ht))) (sk (sk (sk qw))) ?_
    refine ze (zj ?_)
    refine zR (gk (gk (gk qj))) hF (fun hc45 hF=>?_) (fun hc45 hF=>?_)
    ·refine zk (zd ?_)
     refine zc rfl (zi rfl rfl (zb rfl)) yM ?_
     refine ze (zj (zJ (zB ?_)))
     refine zG ?_
     refine zB ?_
     refine yj ?_
     obtain rfl:=Option.some.inj hF
     replace hF:=hK2
     refine zG ?_
     refine zB ?_
     obtain rfl:=Option.some.inj hF
     refine zz rfl (zF yV zD) (zA (leV.refl _) rfl ?_)
     exact ⟨rfl,rfl⟩
    ·refine zO (zj (zk ?_))
     refine yD [] [] trivial mixed (by kernel_rfl) ?_
     refine zp rfl rfl (zg rfl yH (zb rfl)) (sk (sk (sk qU))) ?_
     refine zp rfl rfl (zy rfl (gk (gk (gk qH))) rfl rfl) (sk (sk (sk qv))) ?_
     refine zp rfl rfl (zg rfl (gk (gk (gk qi))) (zb rfl)) (sk (sk (sk q9))) ?_
     refine zx rfl rfl (fun hb=>zf rfl x6 yw rfl) (sk (sk (sk q8))) ?_
     refine zx rfl rfl (fun hb=>zu rfl ty39 (zn (gk (gk (gk gt31))) hb) rfl (zt rfl) (zb rfl)) (sk (sk (sk st32))) ?_
     refine zx rfl rfl (fun hb=>zg rfl yH (zb rfl)) (sk (sk (sk st33))) ?_
     refine zx rfl rfl (fun hb=>zy rfl (zn (gk (gk (gk gt33))) hb) rfl rfl) (sk (sk (sk st34))) ?_
     refine wt hF (fun hg46 hF=>?_)
     refine zx rfl rfl (fun hb=>xB default rfl ve (zn (gk (gk (gk gt32))) hb) (zn (gk (gk (gk gt34))) hb) qZ (hg46 hb)) (sk (sk (sk st35))) ?_
     refine zx rfl rfl (fun hb=>zf rfl fo57x0 (zn (gk (gk (gk gt35))) hb) rfl) (sk (sk (sk qT))) ?_
     refine zx rfl rfl (fun hb=>yl rfl vh (zn (gk (gk (gk qG))) hb) (zt rfl) (zb rfl)) (sk (sk (sk qS))) ?_
     refine zx rfl rfl (fun hb=>zf rfl x6 yw rfl) (sk (sk (sk st38))) ?_
     refine zx rfl rfl (fun hb=>zu rfl ty39 (zn (gk (gk (gk gt38))) hb) rfl (zt rfl) (zb rfl)) (sk (sk (sk st39))) ?_
     refine zx rfl rfl (fun hb=>zg rfl yH (zb rfl)) (sk (sk (sk (sk st0)))) ?_
     refine zx rfl rfl (fun hb=>zy rfl (zn (gk (gk (gk (gk yB)))) hb) rfl rfl) (sk (sk (sk (sk st1)))) ?_
     refine wt hF (fun hg47 hF=>?_)
     refine zx rfl rfl (fun hb=>xB default rfl ve (zn (gk (gk (gk gt39))) hb) (zn (gk (gk (gk (gk yw)))) hb) qZ (hg47 hb)) (sk (sk (sk (sk yM)))) ?_
     refine zx rfl rfl (fun hb=>zf rfl qk (zn (gk (gk (gk (gk yV)))) hb) rfl) (sk (sk (sk (sk wD)))) ?_
     refine zx rfl rfl (fun hb=>yl rfl ty38.choose_spec.1 (zn (gk (gk (gk (gk xj)))) hb) (zI (cs':=[.int .u8 (((l0.items).getD (IntKind.wrap .i64 ((n2:Int) - (1:Int))).toNat default).dot.actor.rep),.int .u32 (((l0.items).getD (IntKind.wrap .i64 ((n2:Int) - (1:Int))).toNat default).dot.actor.inc),.int .u64 (((l0.items).getD (IntKind.wrap .i64 ((n2:Int) - (1:Int))).toNat default).dot.seq)]) ty38.choose_spec.2 rfl rfl) (zb rfl)) (sk (sk (sk (sk yF)))) ?_
     refine zx rfl rfl (fun hb=>zf rfl fo57x0 yY rfl) (sk (sk (sk (sk xG)))) ?_
     refine zx rfl rfl (fun hb=>zu rfl vh (zn (gk (gk (gk (gk yY)))) hb) rfl (zt rfl) (zb rfl)) (sk (sk (sk (sk xY)))) ?_
     refine zx rfl rfl (fun hb=>zf rfl qk yY rfl) (sk (sk (sk (sk wm)))) ?_
     refine zx rfl rfl (fun hb=>zu rfl ty38.choose_spec.1 (zn (gk (gk (gk (gk xN)))) hb) rfl (zI (cs':=[.int .u8 x2.dot.actor.rep,.int .u32 x2.dot.actor.inc,.int .u64 x2.dot.seq]) ty38.choose_spec.2 rfl rfl) (zb rfl)) (sk (sk (sk (sk wl)))) ?_
     refine yZ hF (fun v48 hv48 hF=>?_)
     refine wW rfl rfl (fun hb=>zC rfl rfl rfl (zo (zn (gk (gk (gk qF))) hb) (zo (zn (gk (gk (gk (gk yH)))) hb) (zo (zn (gk (gk (gk (gk yT)))) hb) (zo (zn (gk (gk (gk (gk xu)))) hb) zw)))) (.cons (zb rfl) (.cons (zb rfl) (.cons (zb rfl) (.cons (zb rfl) .nil))))) (fun hb=>ok62 (hv48 hb)) (sk (sk (sk (sk vi)))) ?_
     refine zx rfl rfl (fun hb=>wo rfl (zn (gk (gk (gk (gk wE)))) hb) rfl) (sk (sk (sk (sk yN)))) ?_
     refine zp rfl rfl (zL rfl (gk (gk (gk gt30))) (gk (gk (gk (gk yG)))) rfl (zT (fun ht=>gT ht))) (sk (sk (sk (sk yR)))) ?_
     refine ym ?_
     refine zj ?_
     refine zR (gk (gk (gk (gk yP)))) hF (fun hc49 hF=>?_) (fun hc49 hF=>?_)
     ·refine zk (zd ?_)
      refine zc rfl (zi rfl rfl (zb rfl)) yM ?_
      refine ze (zj (zJ ?_))
      refine zG ?_
      refine zB ?_
      refine yj ?_
      obtain rfl:=Option.some.inj hF
      replace hF:=hK2
      refine zG ?_
      refine zB ?_
      obtain rfl:=Option.some.inj hF
      refine zz rfl (zF yV zD) (zA (leV.refl _) rfl ?_)
      exact ⟨rfl,rfl⟩
     ·refine zO (yi (zj (zd ?_)))
      refine zc rfl (zg rfl yH (zb rfl)) (sk (sk yN)) ?_
      refine zc rfl (zy rfl (gk (gk yG)) rfl rfl) (sk (sk yR)) ?_
      refine zc rfl (zi rfl (gk (gk yP)) (zb rfl)) yF ?_
      refine ze (yK ?_)
      obtain rfl:=Option.some.inj hF
      exact ⟨(),hl2,hK2,wk.trans (wk.le (by exact (.drop (.eq (.drop (.drop (.cons (leV.of_eq (vN (by omega) (by omega))) (.d16 (.d16 (.d16 (.d16 (.d16 (.d16 (.d16 (.d16 (.d16 (.d16 (.d16 (.d16 (.d4 (.d4 leL.nil))))))))))))))))))))) (xP (by simp [yf,AV.low]) rfl rfl (by simp [Blk.low,yf,AV.low]))⟩
   ·refine yX ?_
    refine z7 ?_
    refine zW ?_
    refine zX ?_
    refine zj (zk (zk (zd ?_)))
    refine zc rfl (zi rfl rfl (zb rfl)) xY ?_
    refine ze (zj (zS ?_))
    refine yu (fun (n3:Nat) (s3:Unit)=>yS [0,2,3,4,5,7,8,9,10,11,12,13,14,15,16,17,18,19,20,21,22,23,24,25,26,27,28,29,30,31,32,33,34,35,36,37,38,39,40,41,42,43,44,45,46,47,48,49,50,51,52,53,54,55,56,57,58,59,60,61,62,63,64,65,66,67,68,69,70,71,72,73,74,75,76,77,78,79,80,81,82,83,84,85,86,87,88,89,90,91,92,93,94,95,96,97,98,99,100,101,102,103,104,105,106,107,108,109,110,111,112,113,114,115,116,117,118,119,120,121,122,123,124,125,126,127,128,129,130,131,132,133,134,135,136,137,138,139,140,141,142,143,144,145,146,147,148,149,150,151,152,153,154,155,156,157,158,159,160,161,162,163,164,165,166,167,168,169,170,171,172,173,174,175,176,177,178,179,180,181,182,183,184,185,186,187,188,189,190,191,192,193,194,195,196,197,198,199,200,201,202,203,204] [(6,.int .i64 (n3:Int))]) (fun s3=>h.ext [.cells [.int .u8 l0.typ,.int .i64 l0.n,.int .u64 l0.time,.int .u8 l0.dot.actor.rep,.int .u32 l0.dot.actor.inc,.int .u64 l0.dot.seq,.str l0.text,.sl 5 (l0.items.map GItem.row),.sl 3 (l0.tombs.map GDot.row)],.cells [.int .u8 (0:Int),.int .u32 (0:Int),.int .u64 (0:Int)]] []) hF (fun _ _=>by simp only [yS,upd,List.set_cons_succ,List.set_cons_zero];try rfl) (wk.le (by exact (.drop (.eq (.d4 (.cons (leV.of_eq rfl) (.d16 (.d16 (.d16 (.d16 (.d16 (.d16 (.d16 (.d16 (.d16 (.d16 (.d16 (.d16 (.d4 (.drop (.drop leL.nil))))))))))))))))))))) ?_
    intro n3 s3 hi3 hF
    refine zk (zk (zd ?_))
    refine zc rfl (zg rfl yT (zb rfl)) (sk (sk (sk (sk yQ)))) ?_
    refine zc rfl (zf rfl vn yw rfl) (sk (sk (sk (sk yU)))) ?_
    refine zc rfl (zu rfl ty40 (gk (gk (gk (gk yL)))) rfl (zt rfl) (zb rfl)) (sk (sk (sk (sk y3)))) ?_
    refine yc rfl (zY rfl rfl rfl rfl qW (gk (gk (gk (gk y4)))) yh) (sk (sk (sk (sk y2)))) fun hn72=>?_
    replace hn72:=xK hn72
    refine zc rfl (zy rfl (gk (gk (gk (gk yO)))) (gk (gk (gk (gk yW)))) rfl) (sk (sk (sk (sk xf)))) ?_
    refine ze (zj ?_)
    refine yI (gk (gk (gk (gk xd)))) hF (fun x3 o3 hl3 hx3 hF hK3=>?_) (fun hF=>?_)
    ·refine zO (zj (zk (zS (zk ?_))))
     refine yD [5] [] trivial mixed (by kernel_rfl) ?_
     refine zp rfl rfl (zf rfl vn yw rfl) (sk (sk (sk (sk wa)))) ?_
     refine zp rfl rfl (zu rfl ty40 (gk (gk (gk (gk wh)))) rfl (zt rfl) (zb rfl)) (sk (sk (sk (sk wJ)))) ?_
     refine zp rfl rfl (zg rfl yT (zb rfl)) (sk (sk (sk (sk wO)))) ?_
     refine zp rfl rfl (yr rfl qW (gk (gk (gk (gk wL)))) (gk (gk (gk (gk wK)))) qZ (xc hx3)) (sk (sk (sk (sk vk)))) ?_
     refine zp rfl rfl (yl rfl ty38.choose_spec.1 (gk (gk (gk (gk vm)))) (zI (cs':=[.int .u8 x3.actor.rep,.int .u32 x3.actor.inc,.int .u64 x3.seq]) ty38.choose_spec.2 rfl rfl) (zb rfl)) (sk (sk (sk (sk wN)))) ?_
     refine zU hF (fun v73 hv73 hF=>?_)
     refine zZ rfl rfl (fun _=>zC rfl rfl rfl (zo (gk (gk (gk (gk wy)))) zw) (.cons (zb rfl) .nil)) (by rintro _ ⟨B2,T2,rfl,hk2⟩;exact ok59 hv73) (sk (sk (sk (sk vj)))) ?_
     refine zp rfl rfl (wo rfl (gk (gk (gk (gk vl)))) rfl) (sk (sk (sk (sk vC)))) ?_
     refine zp rfl rfl (zg rfl (gk (gk (gk (gk vw)))) (zb rfl)) (sk (sk (sk (sk qx)))) ?_
     refine zx rfl rfl (fun hb=>zg rfl yT (zb rfl)) (sk (sk (sk (sk qw)))) ?_
     refine zx rfl rfl (fun hb=>zy rfl (zn (gk (gk (gk (gk qj)))) hb) rfl rfl) (sk (sk (sk (sk qU)))) ?_
     refine zx rfl rfl (fun hb=>zg rfl (zn (gk (gk (gk (gk qH)))) hb) (zb rfl)) (sk (sk (sk (sk qv)))) ?_
     refine zx rfl (zQ rfl rfl rfl) (fun hb=>zf rfl vn yw rfl) (sk (sk (sk (sk q9)))) ?_
     refine zx rfl (zQ rfl rfl rfl) (fun hb=>zu rfl ty40 (zn (gk (gk (gk (gk gt30)))) hb) rfl (zt rfl) (zb rfl)) (sk (sk (sk (sk q8)))) ?_
     refine zx rfl (zQ rfl rfl rfl) (fun hb=>zg rfl yT (zb rfl)) (sk (sk (sk (sk st32)))) ?_
     refine zx rfl (zQ rfl rfl rfl) (fun hb=>zy rfl (zn (gk (gk (gk (gk gt32)))) hb) rfl rfl) (sk (sk (sk (sk st33)))) ?_
     refine wt hF (fun hg74 hF=>?_)
     refine zx rfl (zQ rfl rfl rfl) (fun hb=>xB default rfl qW (zn (gk (gk (gk (gk gt31)))) hb) (zn (gk (gk (gk (gk gt33)))) hb) qZ (hg74 hb)) (sk (sk (sk (sk st34)))) ?_
     refine zx rfl (zQ rfl rfl rfl) (fun hb=>yl rfl ty38.choose_spec.1 (zn (gk (gk (gk (gk gt34)))) hb) (zI (cs':=[.int .u8 (((l0.tombs).getD (IntKind.wrap .i64 ((n3:Int) - (1:Int))).toNat default).actor.rep),.int .u32 (((l0.tombs).getD (IntKind.wrap .i64 ((n3:Int) - (1:Int))).toNat default).actor.inc),.int .u64 (((l0.tombs).getD (IntKind.wrap .i64 ((n3:Int) - (1:Int))).toNat default).seq)]) ty38.choose_spec.2 rfl rfl) (zb rfl)) (sk (sk (sk (sk st35)))) ?_
     refine zx rfl (zQ rfl rfl rfl) (fun hb=>zf rfl vn yw rfl) (sk (sk (sk (sk qT)))) ?_
     refine zx rfl (zQ rfl rfl rfl) (fun hb=>zu rfl ty40 (zn (gk (gk (gk (gk qG)))) hb) rfl (zt rfl) (zb rfl)) (sk (sk (sk (sk qS)))) ?_
     refine zx rfl (zQ rfl rfl rfl) (fun hb=>zg rfl yT (zb rfl)) (sk (sk (sk (sk st38)))) ?_
     refine wt hF (fun hg75 hF=>?_)
     refine zx rfl (zQ rfl rfl rfl) (fun hb=>xB default rfl qW (zn (gk (gk (gk (gk qF)))) hb) (zn (gk (gk (gk (gk gt38)))) hb) qZ (hg75 hb)) (sk (sk (sk (sk st39)))) ?_
     refine zx rfl (zQ rfl rfl rfl) (fun hb=>yl rfl ty38.choose_spec.1 (zn (gk (gk (gk (gk gt39)))) hb) (zI (cs':=[.int .u8 (((l0.tombs).getD (n3:Int).toNat default).actor.rep),.int .u32 (((l0.tombs).getD (n3:Int).toNat default).actor.inc),.int .u64 (((l0.tombs).getD (n3:Int).toNat default).seq)]) ty38.choose_spec.2 rfl rfl) (zb rfl)) (sk (sk (sk (sk (sk st0))))) ?_
     refine yZ hF (fun v76 hv76 hF=>?_)
     refine wW rfl (zQ rfl rfl rfl) (fun hb=>zC rfl rfl rfl (zo (zn (gk (gk (gk (gk gt35)))) hb) (zo (zn (gk (gk (gk (gk (gk yB))))) hb) zw)) (.cons (zb rfl) (.cons (zb rfl) .nil))) (fun hb=>ok63 (hv76 hb)) (sk (sk (sk (sk (sk st1))))) ?_
     refine zx rfl (zQ rfl rfl rfl) (fun hb=>wo rfl (zn (gk (gk (gk (gk (gk yw))))) hb) rfl) (sk (sk (sk (sk (sk yM))))) ?_
     refine zx rfl rfl (fun hb=>zL rfl (zn (gk (gk (gk (gk qi)))) hb) (gk (gk (gk (gk (gk yV))))) rfl (zT (fun ht=>gT2 hb ht))) (sk (sk (sk (sk (sk wD))))) ?_
     refine zp rfl rfl (zL rfl (gk (gk (gk (gk qI)))) rfl (gk (gk (gk (gk (gk xj))))) (yb (fun ht=>gF ht))) (sk (sk (sk (sk (sk yF))))) ?_
     refine ym ?_
     refine zj ?_
     refine zR (gk (gk (gk (gk (gk yH))))) hF (fun hc77 hF=>?_) (fun hc77 hF=>?_)
     ·refine zk (zd ?_)
      refine zc rfl (zi rfl rfl (zb rfl)) yM ?_
      refine ze (zj (zJ ?_))
      refine zG ?_
      refine zB ?_
      refine yj ?_
      obtain rfl:=Option.some.inj hF
      replace hF:=hK3
      refine zG ?_
      refine zB ?_
      obtain rfl:=Option.some.inj hF
      refine zz rfl (zF yV zD) (zA (leV.refl _) rfl ?_)
      exact ⟨rfl,rfl⟩
     ·refine zO (yi (zj (zd ?_)))
      refine zc rfl (zg rfl yT (zb rfl)) (sk (sk (sk (sk xA)))) ?_
      refine zc rfl (zy rfl (gk (gk (gk (gk xC)))) rfl rfl) (sk (sk (sk (sk xR)))) ?_
      refine zc rfl (zi rfl (gk (gk (gk (gk xL)))) (zb rfl)) xY ?_
      refine ze (yK ?_)
      obtain rfl:=Option.some.inj hF
      exact ⟨(),hl3,hK3,wk.le (by exact (.drop (.eq (.d4 (.cons (leV.of_eq (vN (by omega) (by omega))) (.d16 (.d16 (.d16 (.d16 (.d16 (.d16 (.d16 (.d16 (.d16 (.d16 (.d16 (.d16 (.d4 (.drop (.drop leL.nil))))))))))))))))))))⟩
    ·refine yX ?_
     refine z7 ?_
     refine zW ?_
     refine zX ?_
     refine zj (zk (zd ?_))
     refine zc rfl (zi rfl rfl (zb rfl)) yM ?_
     refine ze (zj (zJ ?_))
     obtain rfl:=Option.some.inj hF
     refine zz rfl (zF yV zD) (zA (leV.refl _) rfl ?_)
     exact ⟨rfl,rfl⟩
theorem ok31 {s0:zM} {res:Bool} {h:AH}  (hF:qy s0=some res):Spec Tryz.prog 31 [.str s0] h (fun rr hh=>rr=.bool res∧hh=h):=by
 unfold qy at hF
 refine zr Tryz.func31 rfl (by kernel_rfl) (env:=[.str s0,za,za,za,za,za,za,za,za,za,za,za,za,za,za,za,za,za,za,za,za,za,za,za,za,za,za,za,za,za,za,za,za,za,za,za,za,za,za,za,za,za,za,za,za]) (by rfl) ?_
 refine zk (zd ?_)
 refine zc rfl (zi rfl rfl (zb rfl)) yM ?_
 refine ze (zj (zk (zk (zd ?_))))
 refine zc rfl (zg rfl yB (zb rfl)) xG ?_
 refine yc rfl (wQ rfl rfl rfl rfl ty9 yY) xY fun hn1=>?_
 replace hn1:=xK hn1
 refine zc rfl (zy rfl yT rfl rfl) wm ?_
 refine zc rfl (zg rfl xN (zb rfl)) wl ?_
 refine zq rfl (fun hb=>zg rfl yB (zb rfl)) vi ?_
 refine wd rfl (fun hb=>wQ rfl rfl rfl rfl ty9 (zn wE hb)) yN fun hn2=>?_
 refine zq rfl (fun hb=>zy rfl (zn yG hb) rfl rfl) yR ?_
 refine zc rfl (zL rfl xu rfl yP (yb (fun ht=>gF ht))) yQ ?_
 refine ze (zj ?_)
 refine zR yO hF (fun hc3 hF=>?_) (fun hc3 hF=>?_)
 ·refine zk (zd ?_)
  refine zc rfl (zi rfl rfl (zb rfl)) yM ?_
  refine ze (zj (zJ (zB ?_)))
  obtain rfl:=Option.some.inj hF
  refine zz rfl (zF yV zD) (zA (leV.refl _) rfl ?_)
  exact ⟨rfl,rfl⟩
 ·refine zO (zj (zk (zk (zd ?_))))
  refine zc rfl (zi rfl rfl (zb rfl)) wD ?_
  refine ze (zj (zS ?_))
  refine yu (fun (n1:Nat) (s1:Unit)=>yS [1,2,4,5,6,7,8,9,10,11,12,13,14,15,16,17,18,19,20,21,22,23,24,25,26,27,28,29,30,31,32,33,34,35,36,37,38,39,40,41,42,43,44] [(3,.int .i64 (n1:Int))]) (fun s1=>h.ext [] []) hF (fun _ _=>by simp only [yS,upd,List.set_cons_succ,List.set_cons_zero];try rfl) (wk.le (by exact (.eq (.drop (.drop (.cons (leV.of_eq rfl) (.d16 (.d16 (.d4 (.d4 (.drop leL.nil))))))))))) ?_
  intro n1 s1 hi1 hF
  refine zk (zk (zd ?_))
  refine zc rfl (zg rfl xj (zb rfl)) yU ?_
  refine zc rfl (zg rfl yB (zb rfl)) y3 ?_
  refine yc rfl (wQ rfl rfl rfl rfl ty9 y4) y2 fun hn10=>?_
  replace hn10:=xK hn10
  refine zc rfl (zy rfl yL yW rfl) xf ?_
  refine ze (zj ?_)
  refine yI xd hF (fun x1 o1 hl1 hx1 hF hK1=>?_) (fun hF=>?_)
  ·refine zO (zj (zk (zS (zk (zd ?_)))))
   refine zc rfl (zg rfl yB (zb rfl)) wa ?_
   refine zc rfl (zg rfl xj (zb rfl)) wJ ?_
   refine zc rfl (s_idxStr rfl ty9 wh wL (xc hx1)) wO ?_
   refine zc rfl (zi rfl wK (zb rfl)) yF ?_
   refine ze (zj (zk (zd ?_)))
   refine zc rfl (zg rfl yH (zb rfl)) vk ?_
   refine zc rfl (zy rfl vm rfl rfl) wN ?_
   refine zc rfl (zg rfl wy (zb rfl)) vj ?_
   refine zq rfl (fun hb=>zg rfl yH (zb rfl)) vC ?_
   refine zq rfl (fun hb=>zy rfl (zn vw hb) rfl rfl) qx ?_
   refine zc rfl (zL rfl vl qI rfl (zT (fun ht=>gT ht))) qw ?_
   refine zc rfl (zg rfl qj (zb rfl)) qU ?_
   refine zq rfl (fun hb=>zg rfl yH (zb rfl)) qv ?_
   refine zq rfl (fun hb=>zy rfl (zn qi hb) rfl rfl) q9 ?_
   refine zq rfl (fun hb=>zg rfl (zn gt30 hb) (zb rfl)) q8 ?_
   refine zq (zQ rfl rfl rfl) (fun hb=>zg rfl yH (zb rfl)) st32 ?_
   refine zq (zQ rfl rfl rfl) (fun hb=>zy rfl (zn gt32 hb) rfl rfl) st33 ?_
   refine zq rfl (fun hb=>zL rfl (zn gt31 hb) gt33 rfl (zT (fun ht=>gT2 hb ht))) st34 ?_
   refine zc rfl (zL rfl qH rfl gt34 (yb (fun ht=>gF ht))) st35 ?_
   refine zc rfl (zg rfl gt35 (zb rfl)) qT ?_
   refine zq rfl (fun hb=>zg rfl yH (zb rfl)) qS ?_
   refine zq rfl (fun hb=>zy rfl (zn qF hb) rfl rfl) st38 ?_
   refine zq rfl (fun hb=>zg rfl (zn gt38 hb) (zb rfl)) st39 ?_
   refine zq (zQ rfl rfl rfl) (fun hb=>zg rfl yH (zb rfl)) (sk st0) ?_
   refine zq (zQ rfl rfl rfl) (fun hb=>zy rfl (zn (gk yB) hb) rfl rfl) (sk st1) ?_
   refine zq rfl (fun hb=>zL rfl (zn gt39 hb) (gk yw) rfl (zT (fun ht=>gT2 hb ht))) (sk yM) ?_
   refine zc rfl (zL rfl qG rfl (gk yV) (yb (fun ht=>gF ht))) (sk wD) ?_
   refine zc rfl (wo rfl (gk xj) rfl) (sk yF) ?_
   refine ze (zj ?_)
   refine zR (gk yH) hF (fun hc11 hF=>?_) (fun hc11 hF=>?_)
   ·refine zk (zd ?_)
    refine zc rfl (zi rfl rfl (zb rfl)) yM ?_
    refine ze (zj (zJ ?_))
    refine zG ?_
    refine zB ?_
    refine yj ?_
    obtain rfl:=Option.some.inj hF
    replace hF:=hK1
    refine zG ?_
    refine zB ?_
    obtain rfl:=Option.some.inj hF
    refine zz rfl (zF yV zD) (zA (leV.refl _) rfl ?_)
    exact ⟨rfl,rfl⟩
   ·refine zO (yi (zj (zd ?_)))
    refine zc rfl (zg rfl xj (zb rfl)) xA ?_
    refine zc rfl (zy rfl xC rfl rfl) xR ?_
    refine zc rfl (zi rfl xL (zb rfl)) wD ?_
    refine ze (yK ?_)
    obtain rfl:=Option.some.inj hF
    exact ⟨(),hl1,hK1,wk.le (by exact (.eq (.drop (.drop (.cons (leV.of_eq (vN (by omega) (by omega))) (.d16 (.d16 (.d4 (.d4 (.drop leL.nil))))))))))⟩
  ·refine yX ?_
   refine z7 ?_
   refine zW ?_
   refine zX ?_
   refine zj (zk (zd ?_))
   refine zc rfl (zi rfl rfl (zb rfl)) yM ?_
   refine ze (zj (zJ ?_))
   obtain rfl:=Option.some.inj hF
   refine zz rfl (zF yV zD) (zA (leV.refl _) rfl ?_)
   exact ⟨rfl,rfl⟩
theorem ok14N (n:Nat):∀ {t0:(List GNode)} {deep1:Int} {res:Bool} {h:AH} , wR n t0 deep1=some res→Spec Tryz.prog 14 [.sl 3 (t0.map GNode.row),.int .i64 deep1] h (fun rr hh=>rr=.bool res∧hh=h):=by
 induction n with
 | zero=>intro t0 deep1 res h  hF;simp [wR] at hF
 | succ n ih =>
  intro t0 deep1 res h  hF
  unfold wR at hF
  refine zr Tryz.func14 rfl (by kernel_rfl) (env:=[.sl 3 (t0.map GNode.row),.int .i64 deep1,za,za,za,za,za,za,za,za,za,za,za,za,za,za,za,za,za,za,za,za,za,za,za,za,za,za,za,za,za,za,za,za,za,za,za,za,za,za,za,za,za,za,za,za,za,za,za,za,za,za,za,za,za,za,za,za,za,za,za,za,za,za,za,za,za,za,za,za,za,za,za,za,za,za,za,za,za,za,za,za,za,za,za,za,za,za,za,za,za,za,za,za,za]) (by rfl) ?_
  refine zk (zd ?_)
  refine zc rfl (zi rfl rfl (zb rfl)) yF ?_
  refine ze (zj (zk (zk (zd ?_))))
  refine zc rfl (zi rfl rfl (zb rfl)) xG ?_
  refine ze (zj (zS ?_))
  refine yu (fun (n1:Nat) (s1:Unit)=>yS [2,3,4,6,7,8,9,10,11,12,13,14,15,16,17,18,19,20,21,22,23,24,25,26,27,28,29,30,31,32,33,34,35,36,37,38,39,40,41,42,43,44,45,46,47,48,49,50,51,52,53,54,55,56,57,58,59,60,61,62,63,64,65,66,67,68,69,70,71,72,73,74,75,76,77,78,79,80,81,82,83,84,85,86,87,88,89,90,91,92,93,94] [(5,.int .i64 (n1:Int))]) (fun s1=>h.ext [] []) hF (fun _ _=>by simp only [yS,upd,List.set_cons_succ,List.set_cons_zero];try rfl) (wk.le (by exact (.eq (.eq (.drop (.drop (.drop (.cons (leV.of_eq rfl) (.d16 (.d16 (.d16 (.d16 (.d16 (.d4 (.d4 (.drop leL.nil)))))))))))))))) ?_
  intro n1 s1 hi1 hF
  refine zk (zk (zd ?_))
  refine zc rfl (zg rfl yY (zb rfl)) wl ?_
  refine zc rfl (zg rfl yB (zb rfl)) vi ?_
  refine yc rfl (zY rfl rfl rfl rfl qX wE yh) yN fun hn30=>?_
  replace hn30:=xK hn30
  refine zc rfl (zy rfl xu yG rfl) yR ?_
  refine ze (zj ?_)
  refine yI yP hF (fun x1 o1 hl1 hx1 hF hK1=>?_) (fun hF=>?_)
  ·refine zO (zj (zk (zS (zk (zd ?_)))))
   refine zc rfl (zg rfl yB (zb rfl)) y3 ?_
   refine zc rfl (zg rfl yY (zb rfl)) y2 ?_
   refine zc rfl (vI rfl qX y4 yW qZ (xc hx1) (GNode.row_eq _)) xf ?_
   refine zc rfl (yl rfl ty82.choose_spec.1 xd (zI (cs':=[.str x1.name,.sl 9 (x1.leaves.map GLeaf.row),.sl 3 (x1.subs.map GNode.row)]) ty82.choose_spec.2 rfl rfl) (zb rfl)) xA ?_
   refine zc rfl (y9 (n:=0) rfl ze82 rfl) xY ?_
   refine zc rfl (yx (cs':=[.str x1.name,.sl 9 (x1.leaves.map GLeaf.row),.sl 3 (x1.subs.map GNode.row)]) rfl ty82.choose_spec.1 yT xC (zb rfl) rfl rfl rfl rfl rfl) rfl ?_
   refine ze (zj (zk (zk ?_)))
   refine yD [] [] trivial mixed (by kernel_rfl) ?_
   refine zp rfl rfl (zg rfl yw (zb rfl)) xR ?_
   refine zp rfl rfl (zy rfl xL rfl rfl) wa ?_
   refine zp rfl rfl (zg rfl wh (zb rfl)) wJ ?_
   refine zx rfl rfl (fun hb=>zf rfl fo82x0 yT rfl) wO ?_
   refine zx rfl rfl (fun hb=>zu rfl ty9 (zn wK hb) rfl (zt rfl) (zb rfl)) vk ?_
   refine yZ hF (fun v31 hv31 hF=>?_)
   refine wW rfl rfl (fun hb=>zC rfl rfl rfl (zo (zn vm hb) zw) (.cons (zb rfl) .nil)) (fun hb=>ok31 (hv31 hb)) wN ?_
   refine zx rfl rfl (fun hb=>wo rfl (zn wy hb) rfl) vj ?_
   refine zp rfl rfl (zL rfl wL rfl vl (yb (fun ht=>gF ht))) vC ?_
   refine zp rfl rfl (zg rfl vw (zb rfl)) qx ?_
   refine zx rfl rfl (fun hb=>zg rfl yY (zb rfl)) qw ?_
   refine zx rfl rfl (fun hb=>zy rfl (zn qj hb) rfl rfl) qU ?_
   refine zx rfl rfl (fun hb=>zg rfl (zn qH hb) (zb rfl)) qv ?_
   refine zx rfl (zQ rfl rfl rfl) (fun hb=>zg rfl yB (zb rfl)) q9 ?_
   refine zx rfl (zQ rfl rfl rfl) (fun hb=>zg rfl yY (zb rfl)) q8 ?_
   refine zx rfl (zQ rfl rfl rfl) (fun hb=>zy rfl (zn gt31 hb) rfl rfl) st32 ?_
   refine wt hF (fun hg32 hF=>?_)
   refine zx rfl (zQ rfl rfl rfl) (fun hb=>s_gidxRowE default rfl qX (zn gt30 hb) (zn gt32 hb) qZ (hg32 hb) (GNode.row_eq _)) st33 ?_
   refine zx rfl (zQ rfl rfl rfl) (fun hb=>zf rfl fo82x0 (zn gt33 hb) rfl) st34 ?_
   refine zx rfl (zQ rfl rfl rfl) (fun hb=>yl rfl ty9 (zn gt34 hb) (zt rfl) (zb rfl)) st35 ?_
   refine zx rfl (zQ rfl rfl rfl) (fun hb=>zf rfl fo82x0 yT rfl) qT ?_
   refine zx rfl (zQ rfl rfl rfl) (fun hb=>zu rfl ty9 (zn qG hb) rfl (zt rfl) (zb rfl)) qS ?_
   refine zx rfl (zQ rfl rfl rfl) (fun hb=>zy rfl (zn gt35 hb) (zn qF hb) rfl) st38 ?_
   refine zx rfl rfl (fun hb=>zL rfl (zn qi hb) gt38 rfl (zT (fun ht=>gT2 hb ht))) st39 ?_
   refine zp rfl rfl (zL rfl qI rfl gt39 (yb (fun ht=>gF ht))) (sk st0) ?_
   refine zp rfl rfl (zg rfl (gk yB) (zb rfl)) (sk st1) ?_
   refine zx rfl rfl (fun hb=>zf rfl vF yT rfl) (sk yM) ?_
   refine zx rfl rfl (fun hb=>zu rfl ty80 (zn (gk yV) hb) rfl (zt rfl) (zb rfl)) (sk wD) ?_
   refine draw_glen rfl rfl (fun hb=>zY rfl rfl rfl rfl el80 (zn (gk xj) hb) yh) (sk yF) ?_
   refine zx rfl rfl (fun hb=>zy rfl (zn (gk yH) hb) rfl rfl) (sk xG) ?_
   refine zx rfl rfl (fun hb=>zg rfl (zn (gk yY) hb) (zb rfl)) (sk xY) ?_
   refine zx rfl (zQ rfl rfl rfl) (fun hb=>zf rfl fo82x2 yT rfl) (sk wm) ?_
   refine zx rfl (zQ rfl rfl rfl) (fun hb=>zu rfl ty23 (zn (gk xN) hb) rfl (zt rfl) (zb rfl)) (sk wl) ?_
   refine draw_glen rfl (zQ rfl rfl rfl) (fun hb=>zY rfl rfl rfl rfl qX (zn (gk xu) hb) yh) (sk vi) ?_
   refine zx rfl (zQ rfl rfl rfl) (fun hb=>zy rfl (zn (gk wE) hb) rfl rfl) (sk yN) ?_
   refine zx rfl rfl (fun hb=>zL rfl (zn (gk yT) hb) (gk yG) rfl (zT (fun ht=>gT2 hb ht))) (sk yR) ?_
   refine zp rfl rfl (zL rfl (gk yw) rfl (gk yP) (yb (fun ht=>gF ht))) (sk yQ) ?_
   refine zp rfl rfl (zg rfl (gk yO) (zb rfl)) (sk yU) ?_
   refine zx rfl rfl (fun hb=>zf rfl fo82x2 yT rfl) (sk y3) ?_
   refine zx rfl rfl (fun hb=>zu rfl ty23 (zn (gk y4) hb) rfl (zt rfl) (zb rfl)) (sk y2) ?_
   refine zx rfl rfl (fun hb=>zg rfl yw (zb rfl)) (sk xf) ?_
   refine zx rfl rfl (fun hb=>zy rfl (zn (gk xd) hb) rfl rfl) (sk xA) ?_
   refine yZ hF (fun v35 hv35 hF=>?_)
   refine wW rfl rfl (fun hb=>zC rfl rfl rfl (zo (zn (gk yW) hb) (zo (zn (gk xC) hb) zw)) (.cons (zb rfl) (.cons (zb rfl) .nil))) (fun hb=>ih (hv35 hb)) (sk xR) ?_
   refine zx rfl rfl (fun hb=>wo rfl (zn (gk xL) hb) rfl) (sk wa) ?_
   refine zp rfl rfl (zL rfl (gk yL) rfl (gk wh) (yb (fun ht=>gF ht))) (sk wJ) ?_
   refine ym ?_
   refine zj ?_
   refine zR (gk wL) hF (fun hc36 hF=>?_) (fun hc36 hF=>?_)
   ·refine zk (zd ?_)
    refine zc rfl (zi rfl rfl (zb rfl)) yF ?_
    refine ze (zj (zJ (zB ?_)))
    refine zG ?_
    refine zB ?_
    refine yj ?_
    obtain rfl:=Option.some.inj hF
    replace hF:=hK1
    refine zG ?_
    refine zB ?_
    obtain rfl:=Option.some.inj hF
    refine zz rfl (zF yH zD) (zA (leV.refl _) rfl ?_)
    exact ⟨rfl,rfl⟩
   ·refine zO (zj (zk (zd ?_)))
    refine zc rfl (zi rfl rfl (zb rfl)) wm ?_
    refine ze (zj (zS ?_))
    refine yu (fun (n2:Nat) (s2:Unit)=>yS [2,3,4,8,9,10,11,12,13,14,15,16,17,18,19,20,21,22,23,24,25,26,27,28,29,30,31,32,33,34,35,36,37,38,39,40,41,42,43,44,45,46,47,48,49,50,51,52,53,54,55,56,57,58,59,60,61,62,63,64,65,66,67,68,69,70,71,72,73,74,75,76,77,78,79,80,81,82,83,84,85,86,87,88,89,90,91,92,93,94] [(7,.int .i64 (n2:Int))]) (fun s2=>h.ext [.cells [.str x1.name,.sl 9 (x1.leaves.map GLeaf.row),.sl 3 (x1.subs.map GNode.row)]] []) hF (fun _ _=>by simp only [yS,upd,List.set_cons_succ,List.set_cons_zero];try rfl) (wk.le (by exact (.eq (.eq (.drop (.drop (.drop (.eq (.eq (.cons (leV.of_eq rfl) (.d16 (.d16 (.d16 (.d16 (.d16 (.d4 (.drop (.drop (.drop leL.nil))))))))))))))))))) ?_
    intro n2 s2 hi2 hF
    refine zk (zk (zd ?_))
    refine zc rfl (zg rfl xN (zb rfl)) (sk wO) ?_
    refine zc rfl (zf rfl vF yT rfl) (sk vk) ?_
    refine zc rfl (zu rfl ty80 (gk vm) rfl (zt rfl) (zb rfl)) (sk wN) ?_
    refine yc rfl (zY rfl rfl rfl rfl el80 (gk wy) yh) (sk vj) fun hn49=>?_
    replace hn49:=xK hn49
    refine zc rfl (zy rfl (gk wK) (gk vl) rfl) (sk vC) ?_
    refine ze (zj ?_)
    refine yI (gk vw) hF (fun x2 o2 hl2 hx2 hF hK2=>?_) (fun hF=>?_)
    ·refine zO (zj (zk (zS (zk ?_))))
     refine yD [5] [] trivial mixed (by kernel_rfl) ?_
     refine zp rfl rfl (zf rfl vF yT rfl) (sk qU) ?_
     refine zp rfl rfl (zu rfl ty80 (gk qH) rfl (zt rfl) (zb rfl)) (sk qv) ?_
     refine zp rfl rfl (zg rfl xN (zb rfl)) (sk q9) ?_
     refine zp rfl rfl (yr rfl el80 (gk qi) (gk gt30) qZ (xc hx2)) (sk q8) ?_
     refine zp rfl rfl (yl rfl ty42.choose_spec.1 (gk gt31) (zI (cs':=[.int .u8 x2.typ,.int .i64 x2.n,.int .u64 x2.time,.int .u8 x2.dot.actor.rep,.int .u32 x2.dot.actor.inc,.int .u64 x2.dot.seq,.str x2.text,.sl 5 (x2.items.map GItem.row),.sl 3 (x2.tombs.map GDot.row)]) ty42.choose_spec.2 rfl rfl) (zb rfl)) (sk st32) ?_
     refine zU hF (fun v50 hv50 hF=>?_)
     refine zZ rfl rfl (fun _=>zC rfl rfl rfl (zo (gk gt32) zw) (.cons (zb rfl) .nil)) (by rintro _ ⟨B2,T2,rfl,hk2⟩;exact ok32 hv50) (sk st33) ?_
     refine zp rfl rfl (wo rfl (gk gt33) rfl) (sk st34) ?_
     refine zp rfl rfl (zg rfl (gk gt34) (zb rfl)) (sk st35) ?_
     refine zx rfl rfl (fun hb=>zg rfl xN (zb rfl)) (sk qT) ?_
     refine zx rfl rfl (fun hb=>zy rfl (zn (gk qG) hb) rfl rfl) (sk qS) ?_
     refine zx rfl rfl (fun hb=>zg rfl (zn (gk qF) hb) (zb rfl)) (sk st38) ?_
     refine zx rfl (zQ rfl rfl rfl) (fun hb=>zf rfl vF yT rfl) (sk st39) ?_
     refine zx rfl (zQ rfl rfl rfl) (fun hb=>zu rfl ty80 (zn (gk gt39) hb) rfl (zt rfl) (zb rfl)) (sk (sk st0)) ?_
     refine zx rfl (zQ rfl rfl rfl) (fun hb=>zg rfl xN (zb rfl)) (sk (sk st1)) ?_
     refine zx rfl (zQ rfl rfl rfl) (fun hb=>zy rfl (zn (gk (gk yw)) hb) rfl rfl) (sk (sk yM)) ?_
     refine wt hF (fun hg51 hF=>?_)
     refine zx rfl (zQ rfl rfl rfl) (fun hb=>xB default rfl el80 (zn (gk (gk yB)) hb) (zn (gk (gk yV)) hb) qZ (hg51 hb)) (sk (sk wD)) ?_
     refine zx rfl (zQ rfl rfl rfl) (fun hb=>zf rfl wU (zn (gk (gk xj)) hb) rfl) (sk (sk yF)) ?_
     refine zx rfl (zQ rfl rfl rfl) (fun hb=>yl rfl ty5 (zn (gk (gk yH)) hb) (zt rfl) (zb rfl)) (sk (sk xG)) ?_
     refine zx rfl (zQ rfl rfl rfl) (fun hb=>zf rfl vF yT rfl) (sk (sk xY)) ?_
     refine zx rfl (zQ rfl rfl rfl) (fun hb=>zu rfl ty80 (zn (gk (gk yT)) hb) rfl (zt rfl) (zb rfl)) (sk (sk wm)) ?_
     refine zx rfl (zQ rfl rfl rfl) (fun hb=>zg rfl xN (zb rfl)) (sk (sk wl)) ?_
     refine wt hF (fun hg52 hF=>?_)
     refine zx rfl (zQ rfl rfl rfl) (fun hb=>xB default rfl el80 (zn (gk (gk xN)) hb) (zn (gk (gk xu)) hb) qZ (hg52 hb)) (sk (sk vi)) ?_
     refine zx rfl (zQ rfl rfl rfl) (fun hb=>zf rfl wU (zn (gk (gk wE)) hb) rfl) (sk (sk yN)) ?_
     refine zx rfl (zQ rfl rfl rfl) (fun hb=>yl rfl ty5 (zn (gk (gk yG)) hb) (zt rfl) (zb rfl)) (sk (sk yR)) ?_
     refine zx rfl (zQ rfl rfl rfl) (fun hb=>zy rfl (zn (gk (gk yY)) hb) (zn (gk (gk yP)) hb) rfl) (sk (sk yQ)) ?_
     refine zx rfl rfl (fun hb=>zL rfl (zn (gk gt38) hb) (gk (gk yO)) rfl (zT (fun ht=>gT2 hb ht))) (sk (sk yU)) ?_
     refine zp rfl rfl (zL rfl (gk gt35) rfl (gk (gk yL)) (yb (fun ht=>gF ht))) (sk (sk y3)) ?_
     refine ym ?_
     refine zj ?_
     refine zR (gk (gk y4)) hF (fun hc53 hF=>?_) (fun hc53 hF=>?_)
     ·refine zk (zd ?_)
      refine zc rfl (zi rfl rfl (zb rfl)) yF ?_
      refine ze (zj (zJ ?_))
      refine zG ?_
      refine zB ?_
      refine yj ?_
      obtain rfl:=Option.some.inj hF
      replace hF:=hK2
      refine zG ?_
      refine zG ?_
      refine zB ?_
      refine yj ?_
      obtain rfl:=Option.some.inj hF
      replace hF:=hK1
      refine zG ?_
      refine zB ?_
      obtain rfl:=Option.some.inj hF
      refine zz rfl (zF yH zD) (zA (leV.refl _) rfl ?_)
      exact ⟨rfl,rfl⟩
     ·refine zO (yi (zj (zd ?_)))
      refine zc rfl (zg rfl xN (zb rfl)) (sk qx) ?_
      refine zc rfl (zy rfl (gk qI) rfl rfl) (sk qw) ?_
      refine zc rfl (zi rfl (gk qj) (zb rfl)) wm ?_
      refine ze (yK ?_)
      obtain rfl:=Option.some.inj hF
      exact ⟨(),hl2,hK2,wk.le (by exact (.eq (.eq (.drop (.drop (.drop (.eq (.eq (.cons (leV.of_eq (vN (by omega) (by omega))) (.d16 (.d16 (.d16 (.d16 (.d16 (.d4 (.drop (.drop (.drop leL.nil))))))))))))))))))⟩
    ·refine yX ?_
     refine z7 ?_
     refine zW ?_
     refine zX ?_
     refine yi (zj (zd ?_))
     refine zc rfl (zg rfl yY (zb rfl)) yQ ?_
     refine zc rfl (zy rfl yO rfl rfl) yU ?_
     refine zc rfl (zi rfl yL (zb rfl)) xG ?_
     refine ze (yK ?_)
     obtain rfl:=Option.some.inj hF
     exact ⟨(),hl1,hK1,wk.trans (wk.le (by exact (.eq (.eq (.drop (.drop (.drop (.cons (leV.of_eq (vN (by omega) (by omega))) (.d16 (.d16 (.d16 (.d16 (.d16 (.d4 (.d4 (.drop leL.nil)))))))))))))))) (xP (by simp [yf,AV.low]) rfl rfl (by simp [Blk.low,yf,AV.low]))⟩
  ·refine yX ?_
   refine z7 ?_
   refine zW ?_
   refine zX ?_
   refine zj (zk (zd ?_))
   refine zc rfl (zi rfl rfl (zb rfl)) yF ?_
   refine ze (zj (zJ ?_))
   obtain rfl:=Option.some.inj hF
   refine zz rfl (zF yH zD) (zA (leV.refl _) rfl ?_)
   exact ⟨rfl,rfl⟩
theorem ok14 {t0:(List GNode)} {deep1:Int} {res:Bool} {h:AH}  (hF:ref07Xmay t0 deep1=some res):Spec Tryz.prog 14 [.sl 3 (t0.map GNode.row),.int .i64 deep1] h (fun rr hh=>rr=.bool res∧hh=h):=by
 obtain ⟨n,hn⟩:=anyN_is hF
 exact ok14N n  hn
theorem ok5 {t0:(List GNode)} {res:Bool} {h:AH}  (hF:ref07May t0=some res):Spec Tryz.prog 5 [.sl 3 (t0.map GNode.row)] h (fun rr hh=>rr=.bool res∧hh=h):=by
 unfold ref07May at hF
 refine zr Tryz.func5 rfl (by kernel_rfl) (env:=[.sl 3 (t0.map GNode.row),za,za,za,za]) (by rfl) ?_
 refine zk (zd ?_)
 refine zc rfl (zi rfl rfl (zb rfl)) yM ?_
 refine ze (zj (zk (zd ?_)))
 refine zc rfl (zg rfl yB (zb rfl)) wD ?_
 refine zU hF (fun v1 hv1 hF=>?_)
 refine zN rfl (zC rfl rfl rfl (zo xj (zo rfl zw)) (.cons (zb rfl) (.cons (zb rfl) .nil))) (ok14 hv1) yF ?_
 refine zc rfl (zi rfl yH (zb rfl)) yM ?_
 refine ze (zj (zJ ?_))
 obtain rfl:=Option.some.inj hF
 refine zz rfl (zF yV zD) (zA (leV.refl _) rfl ?_)
 exact ⟨rfl,rfl⟩
theorem ok33 {r0:Int} {res:Bool} {h:AH}  (hF:qe r0=some res):Spec Tryz.prog 33 [.int .i32 r0] h (fun rr hh=>rr=.bool res∧hh=h):=by
 unfold qe at hF
 refine zr Tryz.func33 rfl (by kernel_rfl) (env:=[.int .i32 r0,za,za,za,za,za,za,za,za,za,za,za,za,za,za,za,za,za,za,za,za,za,za,za,za]) (by rfl) ?_
 refine zk (zd ?_)
 refine zc rfl (zi rfl rfl (zb rfl)) yM ?_
 refine ze (zj (zk (zd ?_)))
 refine zc rfl (zg rfl yB (zb rfl)) wD ?_
 refine zc rfl (zy rfl xj rfl rfl) yF ?_
 refine zc rfl (zg rfl yH (zb rfl)) xG ?_
 refine zq rfl (fun hb=>zg rfl yB (zb rfl)) xY ?_
 refine zq rfl (fun hb=>zy rfl (zn yT hb) rfl rfl) wm ?_
 refine zc rfl (zL rfl yY rfl xN (yb (fun ht=>gF ht))) wl ?_
 refine zc rfl (zg rfl xu (zb rfl)) vi ?_
 refine zq rfl (fun hb=>zg rfl yB (zb rfl)) yN ?_
 refine zq rfl (fun hb=>zy rfl (zn yG hb) rfl rfl) yR ?_
 refine zq rfl (fun hb=>zg rfl (zn yP hb) (zb rfl)) yQ ?_
 refine zq (zQ rfl rfl rfl) (fun hb=>zg rfl yB (zb rfl)) yU ?_
 refine zq (zQ rfl rfl rfl) (fun hb=>zy rfl (zn yL hb) rfl rfl) y3 ?_
 refine zq rfl (fun hb=>zL rfl (zn yO hb) rfl y4 (yb (fun ht=>gF2 hb ht))) y2 ?_
 refine zc rfl (zL rfl wE yW rfl (zT (fun ht=>gT ht))) xf ?_
 refine zc rfl (zg rfl xd (zb rfl)) xA ?_
 refine zq rfl (fun hb=>zg rfl yB (zb rfl)) xR ?_
 refine zq rfl (fun hb=>zy rfl (zn xL hb) rfl rfl) wa ?_
 refine zq rfl (fun hb=>zg rfl (zn wh hb) (zb rfl)) wJ ?_
 refine zq (zQ rfl rfl rfl) (fun hb=>zg rfl yB (zb rfl)) wO ?_
 refine zq (zQ rfl rfl rfl) (fun hb=>zy rfl (zn wK hb) rfl rfl) vk ?_
 refine zq rfl (fun hb=>zL rfl (zn wL hb) rfl vm (yb (fun ht=>gF2 hb ht))) wN ?_
 refine zc rfl (zL rfl xC wy rfl (zT (fun ht=>gT ht))) vj ?_
 refine zc rfl (zi rfl vl (zb rfl)) yM ?_
 refine ze (zj (zJ ?_))
 obtain rfl:=Option.some.inj hF
 refine zz rfl (zF yV zD) (zA (leV.refl _) rfl ?_)
 exact ⟨rfl,rfl⟩
theorem ok88 {s0:zM} {f1:(Int→Option Bool)} {ff1:FuncId} {af1 kf1:List AV} {truth2:Bool} {res:Int} {h:AH} (hf1:∀ x0 v (L:List Blk) (M:List Nat),f1 x0=some v→Spec Tryz.prog ff1 (af1++[.int .i32 x0]++kf1) (h.ext L M) (fun rr hh=>rr=.bool v∧hh=h.ext L M)) (hF:wG s0 f1 truth2=some res):Spec Tryz.prog 88 [.str s0,.fn (.func ff1) af1 kf1,.bool truth2] h (fun rr hh=>rr=.int .i64 res∧hh=h):=by
 unfold wG at hF
 refine yv Tryz.func88 rfl (by kernel_rfl) (env:=[.str s0,.fn (.func ff1) af1 kf1,.bool truth2,za,za,za,za,za,za,za,za,za,za,za,za,za,za,za,za,za,za]) (by rfl) (fun hlow hC=>?_)
 simp only [yf,AV.low,Bool.and_eq_true,Bool.true_and,and_true] at hlow
 have hlaf1:∀ n m,h.blks.length≤n→h.toks.length≤m→yf n m af1=true:=fun n m h1 h2=>yJ h1 h2 _ (by simp [hlow])
 have hlkf1:∀ n m,h.blks.length≤n→h.toks.length≤m→yf n m kf1=true:=fun n m h1 h2=>yJ h1 h2 _ (by simp [hlow])
 refine zk (zd ?_)
 refine zc rfl (zi rfl rfl (zb rfl)) xY ?_
 refine ze (zj (zk (zk (zd ?_))))
 refine zc rfl (zg rfl yB (zb rfl)) vi ?_
 refine zc rfl (e_range (n:=0) rfl ty9 wE rfl) yN ?_
 refine ze (zj (zS ?_))
 refine r_loopWF (fun (s1:Nat)=>yS [0,3,4,5,6,7,8,9,11,12,13,14,15,16,17,18,19,20] []) (fun s1=>h.ext [.siter s0 s1] []) hF (fun _=>by simp only [yS,upd,List.set_cons_succ,List.set_cons_zero];try rfl) (wk.le (by exact (.drop (.eq (.eq (.d4 (.drop (.drop (.drop (.eq (.d4 (.d4 (.drop (.drop leL.nil)))))))))))))) ?_
 intro n1 s1 o1 hF hK1
 refine zk (zd ?_)
 refine ops_nextF rfl rfl yG rfl yR yR hF (fun hp5 hF=>?_) (fun hF=>?_)
 ·refine zc rfl (wb rfl yP rfl (zb rfl)) yQ ?_
  refine ze (zj (zk ?_))
  refine r_cond yO (fun _=>?_) (fun hh=>by cases hh)
  refine zO (zj (zS (zk (zd ?_))))
  refine zc rfl (wb rfl yP rfl (zb rfl)) yU ?_
  refine zc rfl (wb rfl yP rfl (zb rfl)) y3 ?_
  refine zc rfl (zi rfl yL (zb rfl)) wm ?_
  refine zc rfl (zi rfl y4 (zb rfl)) wl ?_
  refine ze (zj (zk (zd ?_)))
  refine zc rfl (zg rfl yw (zb rfl)) y2 ?_
  refine zc rfl (zg rfl xu (zb rfl)) xf ?_
  refine zU hF (fun v6 hv6 hF=>?_)
  refine zN rfl (s_callC rfl rfl yW (zo xd zw) (.cons (zb rfl) .nil) rfl) (hf1 _ _ _ _ hv6) xA ?_
  refine zc rfl (zg rfl yV (zb rfl)) xR ?_
  refine zc rfl (zy rfl xC xL (bin_boolE ty4)) wa ?_
  refine ze (zj ?_)
  refine zR wh hF (fun hc7 hF=>?_) (fun hc7 hF=>?_)
  ·refine zk (zd ?_)
   refine zc rfl (zg rfl xN (zb rfl)) wJ ?_
   refine zc rfl (zi rfl wL (zb rfl)) xY ?_
   refine ze (zj (zJ ?_))
   refine zG ?_
   refine yj ?_
   obtain rfl:=Option.some.inj hF
   replace hF:=hK1
   refine zG ?_
   refine zB ?_
   obtain rfl:=Option.some.inj hF
   refine zz rfl (zF yT zD) (zA (leV.refl _) rfl ?_)
   exact ⟨rfl,rfl⟩
  ·refine zO (yi (yK ?_))
   obtain rfl:=Option.some.inj hF
   exact ⟨(s1+(dec s0 s1).2),hK1,wk.le (by exact (.drop (.eq (.eq (.d4 (.drop (.drop (.drop (.eq (.d4 (.d4 (.drop (.drop leL.nil)))))))))))))⟩
 ·refine zc rfl (wb rfl yP rfl (zb rfl)) yQ ?_
  refine ze (zj (zk ?_))
  refine r_cond yO (fun hh=>by cases hh) (fun _=>?_)
  refine yX ?_
  refine z7 ?_
  refine zW ?_
  obtain rfl:=Option.some.inj hF
  replace hF:=hK1
  refine zX ?_
  refine zj (zk (zd ?_))
  refine zc rfl (zi rfl rfl (zb rfl)) xY ?_
  refine ze (zj (zJ ?_))
  obtain rfl:=Option.some.inj hF
  refine zz rfl (zF yT zD) (zA (leV.refl _) rfl ?_)
  exact ⟨rfl,rfl⟩
theorem ok64 {s0:zM} {f1:(Int→Option Bool)} {ff1:FuncId} {af1 kf1:List AV} {res:Int} {h:AH} (hf1:∀ x0 v (L:List Blk) (M:List Nat),f1 x0=some v→Spec Tryz.prog ff1 (af1++[.int .i32 x0]++kf1) (h.ext L M) (fun rr hh=>rr=.bool v∧hh=h.ext L M)) (hF:va s0 f1=some res):Spec Tryz.prog 64 [.str s0,.fn (.func ff1) af1 kf1] h (fun rr hh=>rr=.int .i64 res∧hh=h):=by
 unfold va at hF
 refine yv Tryz.func64 rfl (by kernel_rfl) (env:=[.str s0,.fn (.func ff1) af1 kf1,za,za,za,za,za,za]) (by rfl) (fun hlow hC=>?_)
 simp only [yf,AV.low,Bool.and_eq_true,Bool.true_and,and_true] at hlow
 have hlaf1:∀ n m,h.blks.length≤n→h.toks.length≤m→yf n m af1=true:=fun n m h1 h2=>yJ h1 h2 _ (by simp [hlow])
 have hlkf1:∀ n m,h.blks.length≤n→h.toks.length≤m→yf n m kf1=true:=fun n m h1 h2=>yJ h1 h2 _ (by simp [hlow])
 refine zk (zd ?_)
 refine zc rfl (zi rfl rfl (zb rfl)) yF ?_
 refine ze (zj (zk (zd ?_)))
 refine zc rfl (zg rfl yB (zb rfl)) xG ?_
 refine zc rfl (zg rfl yw (zb rfl)) xY ?_
 refine zU hF (fun v1 hv1 hF=>?_)
 refine zN rfl (zC rfl rfl rfl (zo yY (zo yT (zo rfl zw))) (.cons (zb rfl) (.cons (zb rfl) (.cons (zb rfl) .nil)))) (ok88 (fun x0 v L M hv=>by rw [wI];exact hf1 x0 v _ _ hv) hv1) wm ?_
 refine zc rfl (zi rfl xN (zb rfl)) yF ?_
 refine ze (zj (zJ ?_))
 obtain rfl:=Option.some.inj hF
 refine zz rfl (zF yH zD) (zA (leV.refl _) rfl ?_)
 exact ⟨rfl,rfl⟩
theorem ok34 {s0:zM} {f1:(Int→Option Bool)} {ff1:FuncId} {af1 kf1:List AV} {res:Bool} {h:AH} (hf1:∀ x0 v (L:List Blk) (M:List Nat),f1 x0=some v→Spec Tryz.prog ff1 (af1++[.int .i32 x0]++kf1) (h.ext L M) (fun rr hh=>rr=.bool v∧hh=h.ext L M)) (hF:xr s0 f1=some res):Spec Tryz.prog 34 [.str s0,.fn (.func ff1) af1 kf1] h (fun rr hh=>rr=.bool res∧hh=h):=by
 unfold xr at hF
 refine yv Tryz.func34 rfl (by kernel_rfl) (env:=[.str s0,.fn (.func ff1) af1 kf1,za,za,za,za,za,za,za]) (by rfl) (fun hlow hC=>?_)
 simp only [yf,AV.low,Bool.and_eq_true,Bool.true_and,and_true] at hlow
 have hlaf1:∀ n m,h.blks.length≤n→h.toks.length≤m→yf n m af1=true:=fun n m h1 h2=>yJ h1 h2 _ (by simp [hlow])
 have hlkf1:∀ n m,h.blks.length≤n→h.toks.length≤m→yf n m kf1=true:=fun n m h1 h2=>yJ h1 h2 _ (by simp [hlow])
 refine zk (zd ?_)
 refine zc rfl (zi rfl rfl (zb rfl)) yF ?_
 refine ze (zj (zk (zd ?_)))
 refine zc rfl (zg rfl yB (zb rfl)) xG ?_
 refine zc rfl (zg rfl yw (zb rfl)) xY ?_
 refine zU hF (fun v1 hv1 hF=>?_)
 refine zN rfl (zC rfl rfl rfl (zo yY (zo yT zw)) (.cons (zb rfl) (.cons (zb rfl) .nil))) (ok64 (fun x0 v L M hv=>by rw [wI];exact hf1 x0 v _ _ hv) hv1) wm ?_
 refine zc rfl (zy rfl xN rfl rfl) wl ?_
 refine zc rfl (zi rfl xu (zb rfl)) yF ?_
 refine ze (zj (zJ ?_))
 obtain rfl:=Option.some.inj hF
 refine zz rfl (zF yH zD) (zA (leV.refl _) rfl ?_)
 exact ⟨rfl,rfl⟩
theorem ok17 {s0:zM} {res:Bool} {h:AH}  (hF:opIsName s0=some res):Spec Tryz.prog 17 [.str s0] h (fun rr hh=>rr=.bool res∧hh=h):=by
 unfold opIsName at hF
 refine zr Tryz.func17 rfl (by kernel_rfl) (env:=[.str s0,za,za,za,za,za,za,za,za,za,za,za,za,za,za,za,za,za]) (by rfl) ?_
 refine zk (zd ?_)
 refine zc rfl (zi rfl rfl (zb rfl)) yM ?_
 refine ze (zj (zk (zd ?_)))
 refine zc rfl (zi rfl rfl (zb rfl)) wD ?_
 refine ze (zj (zk (zd ?_)))
 refine zc rfl (zg rfl yB (zb rfl)) yF ?_
 refine yc rfl (wQ rfl rfl rfl rfl ty9 yH) xG fun hn1=>?_
 replace hn1:=xK hn1
 refine zc rfl (zy rfl yY rfl rfl) xY ?_
 refine zc rfl (zg rfl yT (zb rfl)) wm ?_
 refine zq rfl (fun hb=>zg rfl yB (zb rfl)) wl ?_
 refine wd rfl (fun hb=>wQ rfl rfl rfl rfl ty9 (zn xu hb)) vi fun hn2=>?_
 refine zq rfl (fun hb=>zy rfl (zn wE hb) rfl rfl) yN ?_
 refine zc rfl (zL rfl xN yG rfl (zT (fun ht=>gT ht))) yR ?_
 refine zc rfl (zg rfl yP (zb rfl)) yQ ?_
 refine zq rfl (fun hb=>zg rfl yB (zb rfl)) yU ?_
 refine zq rfl (fun hb=>zg rfl xj (zb rfl)) y3 ?_
 refine yZ hF (fun v3 hv3 hF=>?_)
 refine yA rfl (fun hb=>zC rfl rfl rfl (zo (zn yL hb) (zo (zn y4 hb) zw)) (.cons (zb rfl) (.cons (zb rfl) .nil))) (fun hb=>ok34 (fun _ v L M hv=>ok33  hv) (hv3 hb)) y2 ?_
 refine zq rfl (fun hb=>wo rfl (zn yW hb) rfl) xf ?_
 refine zc rfl (zL rfl yO xd rfl (zT (fun ht=>gT ht))) xA ?_
 refine zc rfl (zi rfl xC (zb rfl)) yM ?_
 refine ze (zj (zJ ?_))
 obtain rfl:=Option.some.inj hF
 refine zz rfl (zF yV zD) (zA (leV.refl _) rfl ?_)
 exact ⟨rfl,rfl⟩
theorem ok16 {s0:zM} {res:Bool} {h:AH}  (hF:wH s0=some res):Spec Tryz.prog 16 [.str s0] h (fun rr hh=>rr=.bool res∧hh=h):=by
 unfold wH at hF
 refine zr Tryz.func16 rfl (by kernel_rfl) (env:=[.str s0,za,za,za,za,za,za,za,za,za]) (by rfl) ?_
 refine zk (zd ?_)
 refine zc rfl (zi rfl rfl (zb rfl)) yM ?_
 refine ze (zj (zk (zd ?_)))
 refine zc rfl (zg rfl yB (zb rfl)) wD ?_
 refine zc rfl (zy rfl xj rfl rfl) yF ?_
 refine zc rfl (zg rfl yH (zb rfl)) xG ?_
 refine zq rfl (fun hb=>zg rfl yB (zb rfl)) xY ?_
 refine yZ hF (fun v1 hv1 hF=>?_)
 refine yA rfl (fun hb=>zC rfl rfl rfl (zo (zn yT hb) zw) (.cons (zb rfl) .nil)) (fun hb=>ok17 (hv1 hb)) wm ?_
 refine zq rfl (fun hb=>wo rfl (zn xN hb) rfl) wl ?_
 refine zc rfl (zL rfl yY xu rfl (zT (fun ht=>gT ht))) vi ?_
 refine zc rfl (zi rfl wE (zb rfl)) yM ?_
 refine ze (zj (zJ ?_))
 obtain rfl:=Option.some.inj hF
 refine zz rfl (zF yV zD) (zA (leV.refl _) rfl ?_)
 exact ⟨rfl,rfl⟩
theorem ok35 {s0:(List zM)} {f1:(zM→Option Bool)} {ff1:FuncId} {af1 kf1:List AV} {res:Int} {h:AH} (hf1:∀ x0 v (L:List Blk) (M:List Nat),f1 x0=some v→Spec Tryz.prog ff1 (af1++[.str x0]++kf1) (h.ext L M) (fun rr hh=>rr=.bool v∧hh=h.ext L M)) (hF:xH s0 f1=some res):Spec Tryz.prog 35 [.sl 1 (s0.map zP),.fn (.func ff1) af1 kf1] h (fun rr hh=>rr=.int .i64 res∧hh=h):=by
 unfold xH at hF
 refine yv Tryz.func35 rfl (by kernel_rfl) (env:=[.sl 1 (s0.map zP),.fn (.func ff1) af1 kf1,za,za,za,za,za,za,za,za,za,za,za,za,za,za,za,za,za]) (by rfl) (fun hlow hC=>?_)
 simp only [yf,AV.low,Bool.and_eq_true,Bool.true_and,and_true] at hlow
 have hlaf1:∀ n m,h.blks.length≤n→h.toks.length≤m→yf n m af1=true:=fun n m h1 h2=>yJ h1 h2 _ (by simp [hlow])
 have hlkf1:∀ n m,h.blks.length≤n→h.toks.length≤m→yf n m kf1=true:=fun n m h1 h2=>yJ h1 h2 _ (by simp [hlow])
 refine zk (zd ?_)
 refine zc rfl (zi rfl rfl (zb rfl)) yF ?_
 refine ze (zj (zk (zk (zd ?_))))
 refine zc rfl (zg rfl yB (zb rfl)) xY ?_
 refine yc rfl (zY rfl rfl rfl rfl xl yT yh) wm fun hn1=>?_
 replace hn1:=xK hn1
 refine zc rfl (zg rfl rfl (zb rfl)) wl ?_
 refine ze (zj (zS ?_))
 refine yu (fun (n1:Nat) (s1:Unit)=>yS [2,3,4,5,6,9,10,11,12,13,14,15,16,17,18] [(8,.int .i64 (n1:Int))]) (fun s1=>h.ext [] []) hF (fun _ _=>by simp only [yS,upd,List.set_cons_succ,List.set_cons_zero];try rfl) (wk.le (by exact (.eq (.eq (.d4 (.drop (.eq (.cons (leV.of_eq rfl) (.d4 (.d4 (.drop (.drop leL.nil)))))))))))) ?_
 intro n1 s1 hi1 hF
 refine zk (zd ?_)
 refine zc rfl (zy rfl xu xN rfl) vi ?_
 refine ze (zj (zk ?_))
 refine yI wE hF (fun x1 o1 hl1 hx1 hF hK1=>?_) (fun hF=>?_)
 ·refine zO (zj (zk (zS (zk (zd ?_)))))
  refine zc rfl (zg rfl xu (zb rfl)) yN ?_
  refine zc rfl (zi rfl yG (zb rfl)) xG ?_
  refine ze (zj (zk (zd ?_)))
  refine zc rfl (zg rfl yw (zb rfl)) yR ?_
  refine zc rfl (zg rfl yB (zb rfl)) yQ ?_
  refine zc rfl (zg rfl yY (zb rfl)) yU ?_
  refine zc rfl (yr rfl xl yO yL qZ (xc hx1)) y3 ?_
  refine zc rfl (yl rfl ty9 y4 (zt rfl) (zb rfl)) y2 ?_
  refine zU hF (fun v7 hv7 hF=>?_)
  refine zN rfl (s_callC rfl rfl yP (zo yW zw) (.cons (zb rfl) .nil) rfl) (hf1 _ _ _ _ hv7) xf ?_
  refine ze (zj ?_)
  refine zR xd hF (fun hc8 hF=>?_) (fun hc8 hF=>?_)
  ·refine zk (zd ?_)
   refine zc rfl (zg rfl yY (zb rfl)) xA ?_
   refine zc rfl (zi rfl xC (zb rfl)) yF ?_
   refine ze (zj (zJ ?_))
   refine zG ?_
   refine zB ?_
   refine yj ?_
   obtain rfl:=Option.some.inj hF
   replace hF:=hK1
   refine zG ?_
   refine zB ?_
   obtain rfl:=Option.some.inj hF
   refine zz rfl (zF yH zD) (zA (leV.refl _) rfl ?_)
   exact ⟨rfl,rfl⟩
  ·refine zO (yi (zj (zd ?_)))
   refine zc rfl (zy rfl xu rfl rfl) xR ?_
   refine zc rfl (zg rfl xL (zb rfl)) wl ?_
   refine ze (yK ?_)
   obtain rfl:=Option.some.inj hF
   exact ⟨(),hl1,hK1,wk.le (by exact (.eq (.eq (.d4 (.drop (.eq (.cons (leV.of_eq (vN (by omega) (by omega))) (.d4 (.d4 (.drop (.drop leL.nil)))))))))))⟩
 ·refine yX ?_
  refine z7 ?_
  refine zW ?_
  refine zX ?_
  refine zj (zk (zd ?_))
  refine zc rfl (zi rfl rfl (zb rfl)) yF ?_
  refine ze (zj (zJ ?_))
  obtain rfl:=Option.some.inj hF
  refine zz rfl (zF yH zD) (zA (leV.refl _) rfl ?_)
  exact ⟨rfl,rfl⟩
theorem ok18 {s0:(List zM)} {f1:(zM→Option Bool)} {ff1:FuncId} {af1 kf1:List AV} {res:Bool} {h:AH} (hf1:∀ x0 v (L:List Blk) (M:List Nat),f1 x0=some v→Spec Tryz.prog ff1 (af1++[.str x0]++kf1) (h.ext L M) (fun rr hh=>rr=.bool v∧hh=h.ext L M)) (hF:yE s0 f1=some res):Spec Tryz.prog 18 [.sl 1 (s0.map zP),.fn (.func ff1) af1 kf1] h (fun rr hh=>rr=.bool res∧hh=h):=by
 unfold yE at hF
 refine yv Tryz.func18 rfl (by kernel_rfl) (env:=[.sl 1 (s0.map zP),.fn (.func ff1) af1 kf1,za,za,za,za,za,za,za]) (by rfl) (fun hlow hC=>?_)
 simp only [yf,AV.low,Bool.and_eq_true,Bool.true_and,and_true] at hlow
 have hlaf1:∀ n m,h.blks.length≤n→h.toks.length≤m→yf n m af1=true:=fun n m h1 h2=>yJ h1 h2 _ (by simp [hlow])
 have hlkf1:∀ n m,h.blks.length≤n→h.toks.length≤m→yf n m kf1=true:=fun n m h1 h2=>yJ h1 h2 _ (by simp [hlow])
 refine zk (zd ?_)
 refine zc rfl (zi rfl rfl (zb rfl)) yF ?_
 refine ze (zj (zk (zd ?_)))
 refine zc rfl (zg rfl yB (zb rfl)) xG ?_
 refine zc rfl (zg rfl yw (zb rfl)) xY ?_
 refine zU hF (fun v1 hv1 hF=>?_)
 refine zN rfl (zC rfl rfl rfl (zo yY (zo yT zw)) (.cons (zb rfl) (.cons (zb rfl) .nil))) (ok35 (fun x0 v L M hv=>by rw [wI];exact hf1 x0 v _ _ hv) hv1) wm ?_
 refine zc rfl (zy rfl xN rfl rfl) wl ?_
 refine zc rfl (zi rfl xu (zb rfl)) yF ?_
 refine ze (zj (zJ ?_))
 obtain rfl:=Option.some.inj hF
 refine zz rfl (zF yH zD) (zA (leV.refl _) rfl ?_)
 exact ⟨rfl,rfl⟩
theorem ok15 {p0:(List zM)} {res:((List zM)×Bool)} {h:AH}  (hF:vJ p0=some res):Spec Tryz.prog 15 [.sl 1 (p0.map zP)] h (fun rr hh=>rr=.tup [.sl 1 (res.1.map zP),.bool res.2]∧hh=h):=by
 unfold vJ at hF
 refine zr Tryz.func15 rfl (by kernel_rfl) (env:=[.sl 1 (p0.map zP),za,za,za,za,za,za,za,za,za,za,za,za,za,za,za,za,za,za,za,za,za]) (by rfl) ?_
 refine zk (zd ?_)
 refine zc rfl (zi rfl rfl (xZ xl)) yM ?_
 refine zc rfl (zi rfl rfl (zb rfl)) wD ?_
 refine ze (zj (zk (zk (zd ?_))))
 refine zc rfl (zg rfl yB (zb rfl)) xG ?_
 refine yc rfl (zY rfl rfl rfl rfl xl yY yh) xY fun hn1=>?_
 replace hn1:=xK hn1
 refine zc rfl (zi rfl yT (zb rfl)) yF ?_
 refine ze (zj (zk (zd ?_)))
 refine zc rfl (zg rfl yH (zb rfl)) wm ?_
 refine zc rfl (zy rfl xN rfl rfl) wl ?_
 refine zc rfl (zg rfl xu (zb rfl)) vi ?_
 refine zq rfl (fun hb=>zg rfl yB (zb rfl)) yN ?_
 refine zq rfl (fun hb=>zg rfl yH (zb rfl)) yR ?_
 refine zq rfl (fun hb=>zy rfl (zn yP hb) rfl rfl) yQ ?_
 refine wt hF (fun hg2 hF=>?_)
 refine zq rfl (fun hb=>xB default rfl xl (zn yG hb) (zn yO hb) qZ (hg2 hb)) yU ?_
 refine zq rfl (fun hb=>yl rfl ty9 (zn yL hb) (zt rfl) (zb rfl)) y3 ?_
 refine zq rfl (fun hb=>zy rfl (zn y4 hb) rfl rfl) y2 ?_
 refine zc rfl (zL rfl wE yW rfl (zT (fun ht=>gT ht))) xf ?_
 refine ze (zj ?_)
 refine zR xd hF (fun hc3 hF=>?_) (fun hc3 hF=>?_)
 ·refine zk (zd ?_)
  refine zc rfl (zg rfl yB (zb rfl)) xA ?_
  refine zc rfl (zg rfl yH (zb rfl)) xR ?_
  refine zc rfl (zy rfl xL rfl rfl) wa ?_
  refine zU hF (fun m4 hm4 hF=>?_)
  refine zc rfl (s_slcSl rfl xl xC (.inl rfl) .none (.some wh) hm4) wJ ?_
  refine zc rfl (zi rfl wL (zb rfl)) yM ?_
  refine zc rfl (zi rfl rfl (zb rfl)) wD ?_
  refine ze (zj (zJ (zB ?_)))
  obtain rfl:=Option.some.inj hF
  refine q_retL rfl (zF yV (zF xj zD)) (zA (leV.refl _) rfl ?_)
  exact ⟨rfl,rfl⟩
 ·refine zO (zj (zk (zd ?_)))
  refine zc rfl (zg rfl yB (zb rfl)) wO ?_
  refine zc rfl (zi rfl wK (zb rfl)) yM ?_
  refine zc rfl (zi rfl rfl (zb rfl)) wD ?_
  refine ze (zj (zJ ?_))
  obtain rfl:=Option.some.inj hF
  refine q_retL rfl (zF yV (zF xj zD)) (zA (leV.refl _) rfl ?_)
  exact ⟨rfl,rfl⟩
theorem ok6 {p0:(List zM)} {res:Bool} {h:AH}  (hF:xp p0=some res):Spec Tryz.prog 6 [.sl 1 (p0.map zP)] h (fun rr hh=>rr=.bool res∧hh=h):=by
 unfold xp at hF
 refine zr Tryz.func6 rfl (by kernel_rfl) (env:=[.sl 1 (p0.map zP),za,za,za,za,za,za,za,za,za,za,za,za,za,za,za,za,za,za,za,za,za,za,za,za,za,za,za]) (by rfl) ?_
 refine zk (zd ?_)
 refine zc rfl (zi rfl rfl (zb rfl)) yM ?_
 refine ze (zj (zk (zd ?_)))
 refine zc rfl (zg rfl yB (zb rfl)) wm ?_
 refine zU hF (fun v1 hv1 hF=>?_)
 refine zN rfl (zC rfl rfl rfl (zo xN zw) (.cons (zb rfl) .nil)) (ok15 hv1) wl ?_
 refine zc rfl (zg rfl xu (zb rfl)) xY ?_
 refine zc rfl (wb rfl yT rfl (zb rfl)) vi ?_
 refine zc rfl (wb rfl yT rfl (zb rfl)) yN ?_
 refine zc rfl (zi rfl wE (zb rfl)) wD ?_
 refine zc rfl (zi rfl yG (zb rfl)) yF ?_
 refine ze (zj (zk (zd ?_)))
 refine zc rfl (zi rfl rfl (zb rfl)) xG ?_
 refine ze (zj (zk (zd ?_)))
 refine zc rfl (zg rfl xj (zb rfl)) yR ?_
 refine yc rfl (zY rfl rfl rfl rfl xl yP yh) yQ fun hn2=>?_
 replace hn2:=xK hn2
 refine zc rfl (zy rfl yO rfl rfl) yU ?_
 refine zc rfl (zg rfl yL (zb rfl)) y3 ?_
 refine zq rfl (fun hb=>zg rfl yH (zb rfl)) y2 ?_
 refine zc rfl (zL rfl y4 rfl yW (yb (fun ht=>gF ht))) xf ?_
 refine zc rfl (zg rfl xd (zb rfl)) xA ?_
 refine zq rfl (fun hb=>zg rfl xj (zb rfl)) xR ?_
 refine wd rfl (fun hb=>zY rfl rfl rfl rfl xl (zn xL hb) yh) wa fun hn3=>?_
 refine zq rfl (fun hb=>zy rfl (zn wh hb) rfl rfl) wJ ?_
 refine zc rfl (zL rfl xC wL rfl (zT (fun ht=>gT ht))) wO ?_
 refine zc rfl (zg rfl wK (zb rfl)) vk ?_
 refine zq rfl (fun hb=>zg rfl xj (zb rfl)) wN ?_
 refine zq rfl (fun hb=>zg rfl yY (zb rfl)) vj ?_
 refine yZ hF (fun v4 hv4 hF=>?_)
 refine yA rfl (fun hb=>zC rfl rfl rfl (zo (zn wy hb) (zo (zn vl hb) zw)) (.cons (zb rfl) (.cons (zb rfl) .nil))) (fun hb=>ok18 (fun _ v L M hv=>ok16  hv) (hv4 hb)) vC ?_
 refine zq rfl (fun hb=>wo rfl (zn vw hb) rfl) qx ?_
 refine zc rfl (zL rfl vm qI rfl (zT (fun ht=>gT ht))) qw ?_
 refine zc rfl (zi rfl qj (zb rfl)) yM ?_
 refine ze (zj (zJ ?_))
 obtain rfl:=Option.some.inj hF
 refine zz rfl (zF yV zD) (zA (leV.refl _) rfl ?_)
 exact ⟨rfl,rfl⟩
theorem ok41 {s0:zM} {res:Bool} {h:AH}  (hF:opMayPathC1 s0=some res):Spec Tryz.prog 41 [.str s0] h (fun rr hh=>rr=.bool res∧hh=h):=by
 unfold opMayPathC1 at hF
 refine zr Tryz.func41 rfl (by kernel_rfl) (env:=[.str s0,za,za,za,za,za]) (by rfl) ?_
 refine zk (zd ?_)
 refine zc rfl (zi rfl rfl (zb rfl)) yM ?_
 refine ze (zj (zk (zd ?_)))
 refine zc rfl (zg rfl yB (zb rfl)) wD ?_
 refine zU hF (fun v1 hv1 hF=>?_)
 refine zN rfl (zC rfl rfl rfl (zo xj zw) (.cons (zb rfl) .nil)) (ok17 hv1) yF ?_
 refine zc rfl (wo rfl yH rfl) xG ?_
 refine zc rfl (zi rfl yY (zb rfl)) yM ?_
 refine ze (zj (zJ ?_))
 obtain rfl:=Option.some.inj hF
 refine zz rfl (zF yV zD) (zA (leV.refl _) rfl ?_)
 exact ⟨rfl,rfl⟩
theorem ok25 {p0:(List zM)} {res:Bool} {h:AH}  (hF:opMayPath p0=some res):Spec Tryz.prog 25 [.sl 1 (p0.map zP)] h (fun rr hh=>rr=.bool res∧hh=h):=by
 unfold opMayPath at hF
 refine zr Tryz.func25 rfl (by kernel_rfl) (env:=[.sl 1 (p0.map zP),za,za,za,za,za,za,za,za,za,za,za,za,za,za,za]) (by rfl) ?_
 refine zk (zd ?_)
 refine zc rfl (zi rfl rfl (zb rfl)) yM ?_
 refine ze (zj (zk (zd ?_)))
 refine zc rfl (zg rfl yB (zb rfl)) wD ?_
 refine yc rfl (zY rfl rfl rfl rfl xl xj yh) yF fun hn1=>?_
 replace hn1:=xK hn1
 refine zc rfl (zy rfl yH rfl rfl) xG ?_
 refine zc rfl (zg rfl yY (zb rfl)) xY ?_
 refine zq rfl (fun hb=>zg rfl yB (zb rfl)) wm ?_
 refine wd rfl (fun hb=>zY rfl rfl rfl rfl xl (zn xN hb) yh) wl fun hn2=>?_
 refine zq rfl (fun hb=>zy rfl (zn xu hb) rfl rfl) vi ?_
 refine zc rfl (zL rfl yT wE rfl (zT (fun ht=>gT ht))) yN ?_
 refine zc rfl (zg rfl yG (zb rfl)) yR ?_
 refine zq rfl (fun hb=>zg rfl yB (zb rfl)) yQ ?_
 refine yZ hF (fun v3 hv3 hF=>?_)
 refine yA rfl (fun hb=>zC rfl rfl rfl (zo (zn yO hb) (zo rfl zw)) (.cons (zb rfl) (.cons (zb rfl) .nil))) (fun hb=>ok18 (fun _ v L M hv=>ok41  hv) (hv3 hb)) yU ?_
 refine zq rfl (fun hb=>wo rfl (zn yL hb) rfl) y3 ?_
 refine zc rfl (zL rfl yP y4 rfl (zT (fun ht=>gT ht))) y2 ?_
 refine zc rfl (zi rfl yW (zb rfl)) yM ?_
 refine ze (zj (zJ ?_))
 obtain rfl:=Option.some.inj hF
 refine zz rfl (zF yV zD) (zA (leV.refl _) rfl ?_)
 exact ⟨rfl,rfl⟩
theorem ok42 {n0:Int} {res:Bool} {h:AH}  (hF:qC n0=some res):Spec Tryz.prog 42 [.int .u64 n0] h (fun rr hh=>rr=.bool res∧hh=h):=by
 unfold qC at hF
 refine zr Tryz.func42 rfl (by kernel_rfl) (env:=[.int .u64 n0,za,za,za,za,za,za,za,za]) (by rfl) ?_
 refine zk (zd ?_)
 refine zc rfl (zi rfl rfl (zb rfl)) yM ?_
 refine ze (zj (zk (zd ?_)))
 refine zc rfl (zg rfl yB (zb rfl)) wD ?_
 refine zc rfl (zy rfl xj rfl rfl) yF ?_
 refine zc rfl (zg rfl yH (zb rfl)) xG ?_
 refine zq rfl (fun hb=>zg rfl yB (zb rfl)) xY ?_
 refine zq rfl (fun hb=>zy rfl (zn yT hb) rfl rfl) wm ?_
 refine zc rfl (zL rfl yY xN rfl (zT (fun ht=>gT ht))) wl ?_
 refine zc rfl (zi rfl xu (zb rfl)) yM ?_
 refine ze (zj (zJ ?_))
 obtain rfl:=Option.some.inj hF
 refine zz rfl (zF yV zD) (zA (leV.refl _) rfl ?_)
 exact ⟨rfl,rfl⟩
theorem ok67 {a0:GActor} {res:Bool} {h:AH}  (hF:dotMayActor a0=some res):Spec Tryz.prog 67 [.agg [.int .u8 a0.rep,.int .u32 a0.inc]] h (fun rr hh=>rr=.bool res∧hh=h):=by
 unfold dotMayActor at hF
 refine zr Tryz.func67 rfl (by kernel_rfl) (env:=[.agg [.int .u8 a0.rep,.int .u32 a0.inc],za,za,za,za,za,za,za,za,za,za,za,za,za,za,za]) (by rfl) ?_
 refine zk (zd ?_)
 refine zc rfl (xb (n:=0) rfl yB (zb rfl) rfl rfl) st1 ?_
 refine zc rfl (zi rfl rfl (zb rfl)) yM ?_
 refine ze (zj (zk (zd ?_)))
 refine zc rfl (zf rfl fo36x0 yw rfl) wD ?_
 refine zc rfl (zu rfl ty5 xj rfl (zt rfl) (zb rfl)) yF ?_
 refine zc rfl (zy rfl yH rfl rfl) xG ?_
 refine zc rfl (zg rfl yY (zb rfl)) xY ?_
 refine zq rfl (fun hb=>zf rfl fo36x1 yw rfl) wm ?_
 refine zq rfl (fun hb=>zu rfl ty34 (zn xN hb) rfl (zt rfl) (zb rfl)) wl ?_
 refine zq rfl (fun hb=>zy rfl (zn xu hb) rfl rfl) vi ?_
 refine zc rfl (zL rfl yT wE rfl (zT (fun ht=>gT ht))) yN ?_
 refine zc rfl (zg rfl yG (zb rfl)) yR ?_
 refine zq rfl (fun hb=>zf rfl fo36x1 yw rfl) yQ ?_
 refine zq rfl (fun hb=>zu rfl ty34 (zn yO hb) rfl (zt rfl) (zb rfl)) yU ?_
 refine zq rfl (fun hb=>zy rfl (zn yL hb) rfl rfl) y3 ?_
 refine zc rfl (zL rfl yP y4 rfl (zT (fun ht=>gT ht))) y2 ?_
 refine zc rfl (zi rfl yW (zb rfl)) yM ?_
 refine ze (zj (zJ ?_))
 obtain rfl:=Option.some.inj hF
 refine zz rfl (zF yV zD) (zA (leV.refl _) rfl ?_)
 exact ⟨rfl,rfl⟩
theorem ok43 {d0:GDot} {res:Bool} {h:AH}  (hF:dotMay d0=some res):Spec Tryz.prog 43 [.agg [.int .u8 d0.actor.rep,.int .u32 d0.actor.inc,.int .u64 d0.seq]] h (fun rr hh=>rr=.bool res∧hh=h):=by
 unfold dotMay at hF
 refine zr Tryz.func43 rfl (by kernel_rfl) (env:=[.agg [.int .u8 d0.actor.rep,.int .u32 d0.actor.inc,.int .u64 d0.seq],za,za,za,za,za,za,za,za,za,za,za,za,za,za,za]) (by rfl) ?_
 refine zk (zd ?_)
 refine zc rfl (xb (n:=0) rfl yB (zb rfl) rfl rfl) st1 ?_
 refine zc rfl (zi rfl rfl (zb rfl)) yM ?_
 refine ze (zj (zk (zd ?_)))
 refine zc rfl (zf rfl vX yw rfl) wD ?_
 refine zc rfl (zu rfl ty36.choose_spec.1 xj rfl (zI (cs':=[.int .u8 d0.actor.rep,.int .u32 d0.actor.inc]) ty36.choose_spec.2 rfl rfl) (zb rfl)) yF ?_
 refine zU hF (fun v1 hv1 hF=>?_)
 refine zN rfl (zC rfl rfl rfl (zo yH zw) (.cons (zb rfl) .nil)) (ok67 hv1) xG ?_
 refine zc rfl (zg rfl yY (zb rfl)) xY ?_
 refine zq rfl (fun hb=>zf rfl fo38x1 yw rfl) wm ?_
 refine zq rfl (fun hb=>zu rfl vh (zn xN hb) rfl (zt rfl) (zb rfl)) wl ?_
 refine zq rfl (fun hb=>zy rfl (zn xu hb) rfl rfl) vi ?_
 refine zc rfl (zL rfl yT wE rfl (zT (fun ht=>gT ht))) yN ?_
 refine zc rfl (zg rfl yG (zb rfl)) yR ?_
 refine zq rfl (fun hb=>zf rfl fo38x1 yw rfl) yQ ?_
 refine zq rfl (fun hb=>zu rfl vh (zn yO hb) rfl (zt rfl) (zb rfl)) yU ?_
 refine zq rfl (fun hb=>zy rfl (zn yL hb) rfl rfl) y3 ?_
 refine zc rfl (zL rfl yP y4 rfl (zT (fun ht=>gT ht))) y2 ?_
 refine zc rfl (zi rfl yW (zb rfl)) yM ?_
 refine ze (zj (zJ ?_))
 obtain rfl:=Option.some.inj hF
 refine zz rfl (zF yV zD) (zA (leV.refl _) rfl ?_)
 exact ⟨rfl,rfl⟩
theorem ok44 {s0:zM} {res:Bool} {h:AH}  (hF:vK s0=some res):Spec Tryz.prog 44 [.str s0] h (fun rr hh=>rr=.bool res∧hh=h):=by
 unfold vK at hF
 refine zr Tryz.func44 rfl (by kernel_rfl) (env:=[.str s0,za,za,za,za,za]) (by rfl) ?_
 refine zk (zd ?_)
 refine zc rfl (zi rfl rfl (zb rfl)) yM ?_
 refine ze (zj (zk (zd ?_)))
 refine zc rfl (zg rfl yB (zb rfl)) wD ?_
 refine yc rfl (wQ rfl rfl rfl rfl ty9 xj) yF fun hn1=>?_
 replace hn1:=xK hn1
 refine zc rfl (zy rfl yH rfl rfl) xG ?_
 refine zc rfl (zi rfl yY (zb rfl)) yM ?_
 refine ze (zj (zJ ?_))
 obtain rfl:=Option.some.inj hF
 refine zz rfl (zF yV zD) (zA (leV.refl _) rfl ?_)
 exact ⟨rfl,rfl⟩
theorem ok90 {vals0:(List Int)} {res:Int} {h:AH}  (hF:cmpOrInt vals0=some res):Spec Tryz.prog 90 [.sl 1 (vals0.map (intRow .i64))] h (fun rr hh=>rr=.int .i64 res∧hh=h):=by
 unfold cmpOrInt at hF
 refine zr Tryz.func90 rfl (by kernel_rfl) (env:=[.sl 1 (vals0.map (intRow .i64)),za,za,za,za,za,za,za,za,za,za,za,za,za,za,za,za,za]) (by rfl) ?_
 refine zk (zd ?_)
 refine zc rfl (zi rfl rfl (zb rfl)) yM ?_
 refine ze (zj (zk (zd ?_)))
 refine zc rfl (zi rfl rfl (zb rfl)) wD ?_
 refine ze (zj (zk (zk (zd ?_))))
 refine zc rfl (zg rfl yB (zb rfl)) xY ?_
 refine yc rfl (zY rfl rfl rfl rfl el150 yT yh) wm fun hn1=>?_
 replace hn1:=xK hn1
 refine zc rfl (zg rfl rfl (zb rfl)) wl ?_
 refine ze (zj (zS ?_))
 refine yu (fun (n1:Nat) (s1:Unit)=>yS [0,1,2,4,5,9,10,11,12,13,14,15,16,17] [(8,.int .i64 (n1:Int))]) (fun s1=>h.ext [] []) hF (fun _ _=>by simp only [yS,upd,List.set_cons_succ,List.set_cons_zero];try rfl) (wk.le (by exact (.drop (.drop (.drop (.eq (.drop (.drop (.eq (.eq (.cons (leV.of_eq rfl) (.d4 (.d4 (.drop leL.nil)))))))))))))) ?_
 intro n1 s1 hi1 hF
 refine zk (zd ?_)
 refine zc rfl (zy rfl xu xN rfl) vi ?_
 refine ze (zj (zk ?_))
 refine yI wE hF (fun x1 o1 hl1 hx1 hF hK1=>?_) (fun hF=>?_)
 ·refine zO (zj (zk (zS (zk (zd ?_)))))
  refine zc rfl (yr rfl el150 yT xu qZ (xc hx1)) yN ?_
  refine zc rfl (yl rfl ty3 yG (zt rfl) (zb rfl)) yR ?_
  refine zc rfl (zi rfl yP (zb rfl)) xG ?_
  refine ze (zj (zk (zd ?_)))
  refine zc rfl (zg rfl yY (zb rfl)) yQ ?_
  refine zc rfl (zg rfl xj (zb rfl)) yU ?_
  refine zc rfl (zy rfl yO yL rfl) y3 ?_
  refine ze (zj ?_)
  refine zR y4 hF (fun hc6 hF=>?_) (fun hc6 hF=>?_)
  ·refine zk (zd ?_)
   refine zc rfl (zg rfl yY (zb rfl)) y2 ?_
   refine zc rfl (zi rfl yW (zb rfl)) yM ?_
   refine ze (zj (zJ ?_))
   refine zG ?_
   refine zB ?_
   refine yj ?_
   obtain rfl:=Option.some.inj hF
   replace hF:=hK1
   refine zG ?_
   refine zB ?_
   obtain rfl:=Option.some.inj hF
   refine zz rfl (zF yV zD) (zA (leV.refl _) rfl ?_)
   exact ⟨rfl,rfl⟩
  ·refine zO (yi (zj (zd ?_)))
   refine zc rfl (zy rfl xu rfl rfl) xf ?_
   refine zc rfl (zg rfl xd (zb rfl)) wl ?_
   refine ze (yK ?_)
   obtain rfl:=Option.some.inj hF
   exact ⟨(),hl1,hK1,wk.le (by exact (.drop (.drop (.drop (.eq (.drop (.drop (.eq (.eq (.cons (leV.of_eq (vN (by omega) (by omega))) (.d4 (.d4 (.drop leL.nil)))))))))))))⟩
 ·refine yX ?_
  refine z7 ?_
  refine zW ?_
  refine zX ?_
  refine zj (zk (zd ?_))
  refine zc rfl (zg rfl xj (zb rfl)) xA ?_
  refine zc rfl (zi rfl xC (zb rfl)) yM ?_
  refine ze (zj (zJ ?_))
  obtain rfl:=Option.some.inj hF
  refine zz rfl (zF yV zD) (zA (leV.refl _) rfl ?_)
  exact ⟨rfl,rfl⟩
theorem ok109 {x0:Int} {res:Bool} {h:AH}  (hF:wz x0=some res):Spec Tryz.prog 109 [.int .u64 x0] h (fun rr hh=>rr=.bool res∧hh=h):=by
 unfold wz at hF
 refine zr Tryz.func109 rfl (by kernel_rfl) (env:=[.int .u64 x0,za,za,za,za,za]) (by rfl) ?_
 refine zk (zd ?_)
 refine zc rfl (zi rfl rfl (zb rfl)) yM ?_
 refine ze (zj (zk (zd ?_)))
 refine zc rfl (zg rfl yB (zb rfl)) wD ?_
 refine zc rfl (zg rfl yB (zb rfl)) yF ?_
 refine zc rfl (zy rfl xj yH rfl) xG ?_
 refine zc rfl (zi rfl yY (zb rfl)) yM ?_
 refine ze (zj (zJ ?_))
 obtain rfl:=Option.some.inj hF
 refine zz rfl (zF yV zD) (zA (leV.refl _) rfl ?_)
 exact ⟨rfl,rfl⟩
theorem ok92 {x0:Int} {y1:Int} {res:Int} {h:AH}  (hF:xD x0 y1=some res):Spec Tryz.prog 92 [.int .u64 x0,.int .u64 y1] h (fun rr hh=>rr=.int .i64 res∧hh=h):=by
 unfold xD at hF
 refine zr Tryz.func92 rfl (by kernel_rfl) (env:=[.int .u64 x0,.int .u64 y1,za,za,za,za,za,za,za,za,za,za,za,za,za,za,za,za,za,za]) (by rfl) ?_
 refine zk (zd ?_)
 refine zc rfl (zi rfl rfl (zb rfl)) yF ?_
 refine ze (zj (zk (zd ?_)))
 refine zc rfl (zg rfl yB (zb rfl)) wm ?_
 refine zU hF (fun v1 hv1 hF=>?_)
 refine zN rfl (zC rfl rfl rfl (zo xN zw) (.cons (zb rfl) .nil)) (ok109 hv1) wl ?_
 refine zc rfl (zi rfl xu (zb rfl)) xG ?_
 refine ze (zj (zk (zd ?_)))
 refine zc rfl (zg rfl yw (zb rfl)) vi ?_
 refine zU hF (fun v2 hv2 hF=>?_)
 refine zN rfl (zC rfl rfl rfl (zo wE zw) (.cons (zb rfl) .nil)) (ok109 hv2) yN ?_
 refine zc rfl (zi rfl yG (zb rfl)) xY ?_
 refine ze (zj (zk (zk (zd ?_))))
 refine zc rfl (zg rfl yY (zb rfl)) yR ?_
 refine ze (zj ?_)
 refine zR yP hF (fun hc3 hF=>?_) (fun hc3 hF=>?_)
 ·refine zk (zk (zd ?_))
  refine zc rfl (zg rfl yT (zb rfl)) yQ ?_
  refine ze (zj ?_)
  refine zR yO hF (fun hc4 hF=>?_) (fun hc4 hF=>?_)
  ·refine zk (zd ?_)
   refine zc rfl (zi rfl rfl (zb rfl)) yF ?_
   refine ze (zj (zJ (zB (zB ?_))))
   obtain rfl:=Option.some.inj hF
   refine zz rfl (zF yH zD) (zA (leV.refl _) rfl ?_)
   exact ⟨rfl,rfl⟩
  ·refine zO (zj (zk (zd ?_)))
   refine zc rfl (zi rfl rfl (zb rfl)) yF ?_
   refine ze (zj (zJ (zB ?_)))
   obtain rfl:=Option.some.inj hF
   refine zz rfl (zF yH zD) (zA (leV.refl _) rfl ?_)
   exact ⟨rfl,rfl⟩
 ·refine zO (zj (zk (zk (zd ?_))))
  refine zc rfl (zg rfl yT (zb rfl)) yU ?_
  refine ze (zj ?_)
  refine zR yL hF (fun hc5 hF=>?_) (fun hc5 hF=>?_)
  ·refine zk (zd ?_)
   refine zc rfl (zi rfl rfl (zb rfl)) yF ?_
   refine ze (zj (zJ (zB ?_)))
   obtain rfl:=Option.some.inj hF
   refine zz rfl (zF yH zD) (zA (leV.refl _) rfl ?_)
   exact ⟨rfl,rfl⟩
  ·refine zO (zj (zk (zk (zd ?_))))
   refine zc rfl (zg rfl yB (zb rfl)) y3 ?_
   refine zc rfl (zg rfl yw (zb rfl)) y2 ?_
   refine zc rfl (zy rfl y4 yW rfl) xf ?_
   refine ze (zj ?_)
   refine zR xd hF (fun hc6 hF=>?_) (fun hc6 hF=>?_)
   ·refine zk (zd ?_)
    refine zc rfl (zi rfl rfl (zb rfl)) yF ?_
    refine ze (zj (zJ (zB ?_)))
    obtain rfl:=Option.some.inj hF
    refine zz rfl (zF yH zD) (zA (leV.refl _) rfl ?_)
    exact ⟨rfl,rfl⟩
   ·refine zO (zj (zk (zk (zd ?_))))
    refine zc rfl (zg rfl yB (zb rfl)) xA ?_
    refine zc rfl (zg rfl yw (zb rfl)) xR ?_
    refine zc rfl (zy rfl xC xL rfl) wa ?_
    refine ze (zj ?_)
    refine zR wh hF (fun hc7 hF=>?_) (fun hc7 hF=>?_)
    ·refine zk (zd ?_)
     refine zc rfl (zi rfl rfl (zb rfl)) yF ?_
     refine ze (zj (zJ (zB ?_)))
     obtain rfl:=Option.some.inj hF
     refine zz rfl (zF yH zD) (zA (leV.refl _) rfl ?_)
     exact ⟨rfl,rfl⟩
    ·refine zO (zj (zk (zd ?_)))
     refine zc rfl (zi rfl rfl (zb rfl)) yF ?_
     refine ze (zj (zJ ?_))
     obtain rfl:=Option.some.inj hF
     refine zz rfl (zF yH zD) (zA (leV.refl _) rfl ?_)
     exact ⟨rfl,rfl⟩
theorem ok125 {x0:Int} {res:Bool} {h:AH}  (hF:wY x0=some res):Spec Tryz.prog 125 [.int .u8 x0] h (fun rr hh=>rr=.bool res∧hh=h):=by
 unfold wY at hF
 refine zr Tryz.func125 rfl (by kernel_rfl) (env:=[.int .u8 x0,za,za,za,za,za]) (by rfl) ?_
 refine zk (zd ?_)
 refine zc rfl (zi rfl rfl (zb rfl)) yM ?_
 refine ze (zj (zk (zd ?_)))
 refine zc rfl (zg rfl yB (zb rfl)) wD ?_
 refine zc rfl (zg rfl yB (zb rfl)) yF ?_
 refine zc rfl (zy rfl xj yH rfl) xG ?_
 refine zc rfl (zi rfl yY (zb rfl)) yM ?_
 refine ze (zj (zJ ?_))
 obtain rfl:=Option.some.inj hF
 refine zz rfl (zF yV zD) (zA (leV.refl _) rfl ?_)
 exact ⟨rfl,rfl⟩
theorem ok107 {x0:Int} {y1:Int} {res:Int} {h:AH}  (hF:wB x0 y1=some res):Spec Tryz.prog 107 [.int .u8 x0,.int .u8 y1] h (fun rr hh=>rr=.int .i64 res∧hh=h):=by
 unfold wB at hF
 refine zr Tryz.func107 rfl (by kernel_rfl) (env:=[.int .u8 x0,.int .u8 y1,za,za,za,za,za,za,za,za,za,za,za,za,za,za,za,za,za,za]) (by rfl) ?_
 refine zk (zd ?_)
 refine zc rfl (zi rfl rfl (zb rfl)) yF ?_
 refine ze (zj (zk (zd ?_)))
 refine zc rfl (zg rfl yB (zb rfl)) wm ?_
 refine zU hF (fun v1 hv1 hF=>?_)
 refine zN rfl (zC rfl rfl rfl (zo xN zw) (.cons (zb rfl) .nil)) (ok125 hv1) wl ?_
 refine zc rfl (zi rfl xu (zb rfl)) xG ?_
 refine ze (zj (zk (zd ?_)))
 refine zc rfl (zg rfl yw (zb rfl)) vi ?_
 refine zU hF (fun v2 hv2 hF=>?_)
 refine zN rfl (zC rfl rfl rfl (zo wE zw) (.cons (zb rfl) .nil)) (ok125 hv2) yN ?_
 refine zc rfl (zi rfl yG (zb rfl)) xY ?_
 refine ze (zj (zk (zk (zd ?_))))
 refine zc rfl (zg rfl yY (zb rfl)) yR ?_
 refine ze (zj ?_)
 refine zR yP hF (fun hc3 hF=>?_) (fun hc3 hF=>?_)
 ·refine zk (zk (zd ?_))
  refine zc rfl (zg rfl yT (zb rfl)) yQ ?_
  refine ze (zj ?_)
  refine zR yO hF (fun hc4 hF=>?_) (fun hc4 hF=>?_)
  ·refine zk (zd ?_)
   refine zc rfl (zi rfl rfl (zb rfl)) yF ?_
   refine ze (zj (zJ (zB (zB ?_))))
   obtain rfl:=Option.some.inj hF
   refine zz rfl (zF yH zD) (zA (leV.refl _) rfl ?_)
   exact ⟨rfl,rfl⟩
  ·refine zO (zj (zk (zd ?_)))
   refine zc rfl (zi rfl rfl (zb rfl)) yF ?_
   refine ze (zj (zJ (zB ?_)))
   obtain rfl:=Option.some.inj hF
   refine zz rfl (zF yH zD) (zA (leV.refl _) rfl ?_)
   exact ⟨rfl,rfl⟩
 ·refine zO (zj (zk (zk (zd ?_))))
  refine zc rfl (zg rfl yT (zb rfl)) yU ?_
  refine ze (zj ?_)
  refine zR yL hF (fun hc5 hF=>?_) (fun hc5 hF=>?_)
  ·refine zk (zd ?_)
   refine zc rfl (zi rfl rfl (zb rfl)) yF ?_
   refine ze (zj (zJ (zB ?_)))
   obtain rfl:=Option.some.inj hF
   refine zz rfl (zF yH zD) (zA (leV.refl _) rfl ?_)
   exact ⟨rfl,rfl⟩
  ·refine zO (zj (zk (zk (zd ?_))))
   refine zc rfl (zg rfl yB (zb rfl)) y3 ?_
   refine zc rfl (zg rfl yw (zb rfl)) y2 ?_
   refine zc rfl (zy rfl y4 yW rfl) xf ?_
   refine ze (zj ?_)
   refine zR xd hF (fun hc6 hF=>?_) (fun hc6 hF=>?_)
   ·refine zk (zd ?_)
    refine zc rfl (zi rfl rfl (zb rfl)) yF ?_
    refine ze (zj (zJ (zB ?_)))
    obtain rfl:=Option.some.inj hF
    refine zz rfl (zF yH zD) (zA (leV.refl _) rfl ?_)
    exact ⟨rfl,rfl⟩
   ·refine zO (zj (zk (zk (zd ?_))))
    refine zc rfl (zg rfl yB (zb rfl)) xA ?_
    refine zc rfl (zg rfl yw (zb rfl)) xR ?_
    refine zc rfl (zy rfl xC xL rfl) wa ?_
    refine ze (zj ?_)
    refine zR wh hF (fun hc7 hF=>?_) (fun hc7 hF=>?_)
    ·refine zk (zd ?_)
     refine zc rfl (zi rfl rfl (zb rfl)) yF ?_
     refine ze (zj (zJ (zB ?_)))
     obtain rfl:=Option.some.inj hF
     refine zz rfl (zF yH zD) (zA (leV.refl _) rfl ?_)
     exact ⟨rfl,rfl⟩
    ·refine zO (zj (zk (zd ?_)))
     refine zc rfl (zi rfl rfl (zb rfl)) yF ?_
     refine ze (zj (zJ ?_))
     obtain rfl:=Option.some.inj hF
     refine zz rfl (zF yH zD) (zA (leV.refl _) rfl ?_)
     exact ⟨rfl,rfl⟩
theorem ok126 {x0:Int} {res:Bool} {h:AH}  (hF:wA x0=some res):Spec Tryz.prog 126 [.int .u32 x0] h (fun rr hh=>rr=.bool res∧hh=h):=by
 unfold wA at hF
 refine zr Tryz.func126 rfl (by kernel_rfl) (env:=[.int .u32 x0,za,za,za,za,za]) (by rfl) ?_
 refine zk (zd ?_)
 refine zc rfl (zi rfl rfl (zb rfl)) yM ?_
 refine ze (zj (zk (zd ?_)))
 refine zc rfl (zg rfl yB (zb rfl)) wD ?_
 refine zc rfl (zg rfl yB (zb rfl)) yF ?_
 refine zc rfl (zy rfl xj yH rfl) xG ?_
 refine zc rfl (zi rfl yY (zb rfl)) yM ?_
 refine ze (zj (zJ ?_))
 obtain rfl:=Option.some.inj hF
 refine zz rfl (zF yV zD) (zA (leV.refl _) rfl ?_)
 exact ⟨rfl,rfl⟩
theorem ok108 {x0:Int} {y1:Int} {res:Int} {h:AH}  (hF:wi x0 y1=some res):Spec Tryz.prog 108 [.int .u32 x0,.int .u32 y1] h (fun rr hh=>rr=.int .i64 res∧hh=h):=by
 unfold wi at hF
 refine zr Tryz.func108 rfl (by kernel_rfl) (env:=[.int .u32 x0,.int .u32 y1,za,za,za,za,za,za,za,za,za,za,za,za,za,za,za,za,za,za]) (by rfl) ?_
 refine zk (zd ?_)
 refine zc rfl (zi rfl rfl (zb rfl)) yF ?_
 refine ze (zj (zk (zd ?_)))
 refine zc rfl (zg rfl yB (zb rfl)) wm ?_
 refine zU hF (fun v1 hv1 hF=>?_)
 refine zN rfl (zC rfl rfl rfl (zo xN zw) (.cons (zb rfl) .nil)) (ok126 hv1) wl ?_
 refine zc rfl (zi rfl xu (zb rfl)) xG ?_
 refine ze (zj (zk (zd ?_)))
 refine zc rfl (zg rfl yw (zb rfl)) vi ?_
 refine zU hF (fun v2 hv2 hF=>?_)
 refine zN rfl (zC rfl rfl rfl (zo wE zw) (.cons (zb rfl) .nil)) (ok126 hv2) yN ?_
 refine zc rfl (zi rfl yG (zb rfl)) xY ?_
 refine ze (zj (zk (zk (zd ?_))))
 refine zc rfl (zg rfl yY (zb rfl)) yR ?_
 refine ze (zj ?_)
 refine zR yP hF (fun hc3 hF=>?_) (fun hc3 hF=>?_)
 ·refine zk (zk (zd ?_))
  refine zc rfl (zg rfl yT (zb rfl)) yQ ?_
  refine ze (zj ?_)
  refine zR yO hF (fun hc4 hF=>?_) (fun hc4 hF=>?_)
  ·refine zk (zd ?_)
   refine zc rfl (zi rfl rfl (zb rfl)) yF ?_
   refine ze (zj (zJ (zB (zB ?_))))
   obtain rfl:=Option.some.inj hF
   refine zz rfl (zF yH zD) (zA (leV.refl _) rfl ?_)
   exact ⟨rfl,rfl⟩
  ·refine zO (zj (zk (zd ?_)))
   refine zc rfl (zi rfl rfl (zb rfl)) yF ?_
   refine ze (zj (zJ (zB ?_)))
   obtain rfl:=Option.some.inj hF
   refine zz rfl (zF yH zD) (zA (leV.refl _) rfl ?_)
   exact ⟨rfl,rfl⟩
 ·refine zO (zj (zk (zk (zd ?_))))
  refine zc rfl (zg rfl yT (zb rfl)) yU ?_
  refine ze (zj ?_)
  refine zR yL hF (fun hc5 hF=>?_) (fun hc5 hF=>?_)
  ·refine zk (zd ?_)
   refine zc rfl (zi rfl rfl (zb rfl)) yF ?_
   refine ze (zj (zJ (zB ?_)))
   obtain rfl:=Option.some.inj hF
   refine zz rfl (zF yH zD) (zA (leV.refl _) rfl ?_)
   exact ⟨rfl,rfl⟩
  ·refine zO (zj (zk (zk (zd ?_))))
   refine zc rfl (zg rfl yB (zb rfl)) y3 ?_
   refine zc rfl (zg rfl yw (zb rfl)) y2 ?_
   refine zc rfl (zy rfl y4 yW rfl) xf ?_
   refine ze (zj ?_)
   refine zR xd hF (fun hc6 hF=>?_) (fun hc6 hF=>?_)
   ·refine zk (zd ?_)
    refine zc rfl (zi rfl rfl (zb rfl)) yF ?_
    refine ze (zj (zJ (zB ?_)))
    obtain rfl:=Option.some.inj hF
    refine zz rfl (zF yH zD) (zA (leV.refl _) rfl ?_)
    exact ⟨rfl,rfl⟩
   ·refine zO (zj (zk (zk (zd ?_))))
    refine zc rfl (zg rfl yB (zb rfl)) xA ?_
    refine zc rfl (zg rfl yw (zb rfl)) xR ?_
    refine zc rfl (zy rfl xC xL rfl) wa ?_
    refine ze (zj ?_)
    refine zR wh hF (fun hc7 hF=>?_) (fun hc7 hF=>?_)
    ·refine zk (zd ?_)
     refine zc rfl (zi rfl rfl (zb rfl)) yF ?_
     refine ze (zj (zJ (zB ?_)))
     obtain rfl:=Option.some.inj hF
     refine zz rfl (zF yH zD) (zA (leV.refl _) rfl ?_)
     exact ⟨rfl,rfl⟩
    ·refine zO (zj (zk (zd ?_)))
     refine zc rfl (zi rfl rfl (zb rfl)) yF ?_
     refine ze (zj (zJ ?_))
     obtain rfl:=Option.some.inj hF
     refine zz rfl (zF yH zD) (zA (leV.refl _) rfl ?_)
     exact ⟨rfl,rfl⟩
theorem ok91 {a0:GActor} {b1:GActor} {res:Int} {h:AH}  (hF:qK a0 b1=some res):Spec Tryz.prog 91 [.agg [.int .u8 a0.rep,.int .u32 a0.inc],.agg [.int .u8 b1.rep,.int .u32 b1.inc]] h (fun rr hh=>rr=.int .i64 res∧hh=h):=by
 unfold qK at hF
 refine zr Tryz.func91 rfl (by kernel_rfl) (env:=[.agg [.int .u8 a0.rep,.int .u32 a0.inc],.agg [.int .u8 b1.rep,.int .u32 b1.inc],za,za,za,za,za,za,za,za,za,za,za,za,za,za,za]) (by rfl) ?_
 refine zk (zd ?_)
 refine zc rfl (xb (n:=0) rfl yB (zb rfl) rfl rfl) yM ?_
 refine zc rfl (xb (n:=1) rfl yw (zb rfl) rfl rfl) wD ?_
 refine zc rfl (zi rfl rfl (zb rfl)) yF ?_
 refine ze (zj (zk ?_))
 refine yD [4,9,11] [] trivial mixed (by kernel_rfl) ?_
 refine zp rfl rfl (zf rfl fo36x0 yV rfl) xG ?_
 refine zp rfl rfl (zu rfl ty5 yY rfl (zt rfl) (zb rfl)) xY ?_
 refine zp rfl rfl (zf rfl fo36x0 xj rfl) wm ?_
 refine zp rfl rfl (zu rfl ty5 xN rfl (zt rfl) (zb rfl)) wl ?_
 refine zU hF (fun v1 hv1 hF=>?_)
 refine zZ rfl rfl (fun _=>zC rfl rfl rfl (zo yT (zo xu zw)) (.cons (zb rfl) (.cons (zb rfl) .nil))) (by rintro _ ⟨B2,T2,rfl,hk2⟩;exact ok107 hv1) vi ?_
 refine zp rfl rfl (zf rfl fo36x1 yV rfl) yN ?_
 refine zp rfl rfl (zu rfl ty34 yG rfl (zt rfl) (zb rfl)) yR ?_
 refine zp rfl rfl (zf rfl fo36x1 xj rfl) yQ ?_
 refine zp rfl rfl (zu rfl ty34 yO rfl (zt rfl) (zb rfl)) yU ?_
 refine zU hF (fun v2 hv2 hF=>?_)
 refine zZ rfl rfl (fun _=>zC rfl rfl rfl (zo yP (zo yL zw)) (.cons (zb rfl) (.cons (zb rfl) .nil))) (by rintro _ ⟨B2,T2,rfl,hk2⟩;exact ok108 hv2) y3 ?_
 refine zp rfl rfl (ye (es:=([v1,v2]:List Int).map (intRow .i64)) rfl el150 ze3 rfl rfl (zH wE (zH y4 zV)) (.cons (zb rfl) (.cons (zb rfl) .nil)) rfl rfl rfl) y2 ?_
 refine zU hF (fun v3 hv3 hF=>?_)
 refine zZ rfl rfl (fun _=>zC rfl rfl rfl (zo yW zw) (.cons (zb rfl) .nil)) (by rintro _ ⟨B2,T2,rfl,hk2⟩;exact (ok90 hv3).le (.cons (leV.osl _ _ _) leL.nil)) xf ?_
 refine zp rfl rfl (zi rfl xd (zb rfl)) yF ?_
 refine ym ?_
 refine zj (zJ ?_)
 obtain rfl:=Option.some.inj hF
 refine zz rfl (zF yH zD) (zA (leV.refl _) rfl ?_)
 exact ⟨rfl,rfl⟩
theorem ok70 {a0:GDot} {b1:GDot} {res:Int} {h:AH}  (hF:qp a0 b1=some res):Spec Tryz.prog 70 [.agg [.int .u8 a0.actor.rep,.int .u32 a0.actor.inc,.int .u64 a0.seq],.agg [.int .u8 b1.actor.rep,.int .u32 b1.actor.inc,.int .u64 b1.seq]] h (fun rr hh=>rr=.int .i64 res∧hh=h):=by
 unfold qp at hF
 refine zr Tryz.func70 rfl (by kernel_rfl) (env:=[.agg [.int .u8 a0.actor.rep,.int .u32 a0.actor.inc,.int .u64 a0.seq],.agg [.int .u8 b1.actor.rep,.int .u32 b1.actor.inc,.int .u64 b1.seq],za,za,za,za,za,za,za,za,za,za,za,za,za,za,za]) (by rfl) ?_
 refine zk (zd ?_)
 refine zc rfl (xb (n:=0) rfl yB (zb rfl) rfl rfl) yM ?_
 refine zc rfl (xb (n:=1) rfl yw (zb rfl) rfl rfl) wD ?_
 refine zc rfl (zi rfl rfl (zb rfl)) yF ?_
 refine ze (zj (zk ?_))
 refine yD [4,9,11] [] trivial mixed (by kernel_rfl) ?_
 refine zp rfl rfl (zf rfl vX yV rfl) xG ?_
 refine zp rfl rfl (zu rfl ty36.choose_spec.1 yY rfl (zI (cs':=[.int .u8 a0.actor.rep,.int .u32 a0.actor.inc]) ty36.choose_spec.2 rfl rfl) (zb rfl)) xY ?_
 refine zp rfl rfl (zf rfl vX xj rfl) wm ?_
 refine zp rfl rfl (zu rfl ty36.choose_spec.1 xN rfl (zI (cs':=[.int .u8 b1.actor.rep,.int .u32 b1.actor.inc]) ty36.choose_spec.2 rfl rfl) (zb rfl)) wl ?_
 refine zU hF (fun v1 hv1 hF=>?_)
 refine zZ rfl rfl (fun _=>zC rfl rfl rfl (zo yT (zo xu zw)) (.cons (zb rfl) (.cons (zb rfl) .nil))) (by rintro _ ⟨B2,T2,rfl,hk2⟩;exact ok91 hv1) vi ?_
 refine zp rfl rfl (zf rfl fo38x1 yV rfl) yN ?_
 refine zp rfl rfl (zu rfl vh yG rfl (zt rfl) (zb rfl)) yR ?_
 refine zp rfl rfl (zf rfl fo38x1 xj rfl) yQ ?_
 refine zp rfl rfl (zu rfl vh yO rfl (zt rfl) (zb rfl)) yU ?_
 refine zU hF (fun v2 hv2 hF=>?_)
 refine zZ rfl rfl (fun _=>zC rfl rfl rfl (zo yP (zo yL zw)) (.cons (zb rfl) (.cons (zb rfl) .nil))) (by rintro _ ⟨B2,T2,rfl,hk2⟩;exact ok92 hv2) y3 ?_
 refine zp rfl rfl (ye (es:=([v1,v2]:List Int).map (intRow .i64)) rfl el150 ze3 rfl rfl (zH wE (zH y4 zV)) (.cons (zb rfl) (.cons (zb rfl) .nil)) rfl rfl rfl) y2 ?_
 refine zU hF (fun v3 hv3 hF=>?_)
 refine zZ rfl rfl (fun _=>zC rfl rfl rfl (zo yW zw) (.cons (zb rfl) .nil)) (by rintro _ ⟨B2,T2,rfl,hk2⟩;exact (ok90 hv3).le (.cons (leV.osl _ _ _) leL.nil)) xf ?_
 refine zp rfl rfl (zi rfl xd (zb rfl)) yF ?_
 refine ym ?_
 refine zj (zJ ?_)
 obtain rfl:=Option.some.inj hF
 refine zz rfl (zF yH zD) (zA (leV.refl _) rfl ?_)
 exact ⟨rfl,rfl⟩
theorem ok89 {a0:Int} {d1:GDot} {b2:Int} {o3:GDot} {res:Int} {h:AH}  (hF:leafXcompare a0 d1 b2 o3=some res):Spec Tryz.prog 89 [.int .u64 a0,.agg [.int .u8 d1.actor.rep,.int .u32 d1.actor.inc,.int .u64 d1.seq],.int .u64 b2,.agg [.int .u8 o3.actor.rep,.int .u32 o3.actor.inc,.int .u64 o3.seq]] h (fun rr hh=>rr=.int .i64 res∧hh=h):=by
 unfold leafXcompare at hF
 refine zr Tryz.func89 rfl (by kernel_rfl) (env:=[.int .u64 a0,.agg [.int .u8 d1.actor.rep,.int .u32 d1.actor.inc,.int .u64 d1.seq],.int .u64 b2,.agg [.int .u8 o3.actor.rep,.int .u32 o3.actor.inc,.int .u64 o3.seq],za,za,za,za,za,za,za,za,za,za,za,za,za]) (by rfl) ?_
 refine zk (zd ?_)
 refine zc rfl (xb (n:=0) rfl yw (zb rfl) rfl rfl) xG ?_
 refine zc rfl (xb (n:=1) rfl xj (zb rfl) rfl rfl) wm ?_
 refine zc rfl (zi rfl rfl (zb rfl)) wl ?_
 refine ze (zj (zk ?_))
 refine yD [2,5,7] [] trivial mixed (by kernel_rfl) ?_
 refine zp rfl rfl (zg rfl yB (zb rfl)) vi ?_
 refine zp rfl rfl (zg rfl yV (zb rfl)) yN ?_
 refine zU hF (fun v1 hv1 hF=>?_)
 refine zZ rfl rfl (fun _=>zC rfl rfl rfl (zo wE (zo yG zw)) (.cons (zb rfl) (.cons (zb rfl) .nil))) (by rintro _ ⟨B2,T2,rfl,hk2⟩;exact ok92 hv1) yR ?_
 refine zp rfl rfl (zu rfl ty38.choose_spec.1 yY rfl (zI (cs':=[.int .u8 d1.actor.rep,.int .u32 d1.actor.inc,.int .u64 d1.seq]) ty38.choose_spec.2 rfl rfl) (zb rfl)) yQ ?_
 refine zp rfl rfl (zu rfl ty38.choose_spec.1 xN rfl (zI (cs':=[.int .u8 o3.actor.rep,.int .u32 o3.actor.inc,.int .u64 o3.seq]) ty38.choose_spec.2 rfl rfl) (zb rfl)) yU ?_
 refine zU hF (fun v2 hv2 hF=>?_)
 refine zZ rfl rfl (fun _=>zC rfl rfl rfl (zo yO (zo yL zw)) (.cons (zb rfl) (.cons (zb rfl) .nil))) (by rintro _ ⟨B2,T2,rfl,hk2⟩;exact ok70 hv2) y3 ?_
 refine zp rfl rfl (ye (es:=([v1,v2]:List Int).map (intRow .i64)) rfl el150 ze3 rfl rfl (zH yP (zH y4 zV)) (.cons (zb rfl) (.cons (zb rfl) .nil)) rfl rfl rfl) y2 ?_
 refine zU hF (fun v3 hv3 hF=>?_)
 refine zZ rfl rfl (fun _=>zC rfl rfl rfl (zo yW zw) (.cons (zb rfl) .nil)) (by rintro _ ⟨B2,T2,rfl,hk2⟩;exact (ok90 hv3).le (.cons (leV.osl _ _ _) leL.nil)) xf ?_
 refine zp rfl rfl (zi rfl xd (zb rfl)) wl ?_
 refine ym ?_
 refine zj (zJ ?_)
 obtain rfl:=Option.some.inj hF
 refine zz rfl (zF xu zD) (zA (leV.refl _) rfl ?_)
 exact ⟨rfl,rfl⟩
theorem ok68 {time0:Int} {d1:GDot} {other2:Int} {o3:GDot} {res:Bool} {h:AH}  (hF:leafAhead time0 d1 other2 o3=some res):Spec Tryz.prog 68 [.int .u64 time0,.agg [.int .u8 d1.actor.rep,.int .u32 d1.actor.inc,.int .u64 d1.seq],.int .u64 other2,.agg [.int .u8 o3.actor.rep,.int .u32 o3.actor.inc,.int .u64 o3.seq]] h (fun rr hh=>rr=.bool res∧hh=h):=by
 unfold leafAhead at hF
 refine zr Tryz.func68 rfl (by kernel_rfl) (env:=[.int .u64 time0,.agg [.int .u8 d1.actor.rep,.int .u32 d1.actor.inc,.int .u64 d1.seq],.int .u64 other2,.agg [.int .u8 o3.actor.rep,.int .u32 o3.actor.inc,.int .u64 o3.seq],za,za,za,za,za,za,za,za,za,za,za]) (by rfl) ?_
 refine zk (zd ?_)
 refine zc rfl (xb (n:=0) rfl yw (zb rfl) rfl rfl) xG ?_
 refine zc rfl (xb (n:=1) rfl xj (zb rfl) rfl rfl) wm ?_
 refine zc rfl (zi rfl rfl (zb rfl)) wl ?_
 refine ze (zj (zk (zd ?_)))
 refine zc rfl (zg rfl yB (zb rfl)) vi ?_
 refine zc rfl (zu rfl ty38.choose_spec.1 yY rfl (zI (cs':=[.int .u8 d1.actor.rep,.int .u32 d1.actor.inc,.int .u64 d1.seq]) ty38.choose_spec.2 rfl rfl) (zb rfl)) yN ?_
 refine zc rfl (zg rfl yV (zb rfl)) yR ?_
 refine zc rfl (zu rfl ty38.choose_spec.1 xN rfl (zI (cs':=[.int .u8 o3.actor.rep,.int .u32 o3.actor.inc,.int .u64 o3.seq]) ty38.choose_spec.2 rfl rfl) (zb rfl)) yQ ?_
 refine zU hF (fun v1 hv1 hF=>?_)
 refine zN rfl (zC rfl rfl rfl (zo wE (zo yG (zo yP (zo yO zw)))) (.cons (zb rfl) (.cons (zb rfl) (.cons (zb rfl) (.cons (zb rfl) .nil))))) (ok89 hv1) yU ?_
 refine zc rfl (zy rfl yL rfl rfl) y3 ?_
 refine zc rfl (zi rfl y4 (zb rfl)) wl ?_
 refine ze (zj (zJ ?_))
 obtain rfl:=Option.some.inj hF
 refine zz rfl (zF xu zD) (zA (leV.refl _) rfl ?_)
 exact ⟨rfl,rfl⟩
theorem ok69 {l0:(List GItem)} {res:Bool} {h:AH}  (hF:leafXtwice l0=some res):Spec Tryz.prog 69 [.sl 5 (l0.map GItem.row)] h (fun rr hh=>rr=.bool res∧hh=h):=by
 unfold leafXtwice at hF
 refine zr Tryz.func69 rfl (by kernel_rfl) (env:=[.sl 5 (l0.map GItem.row),za,za,za,za,za,za,za,za,za,za,za,za,za,za,za,za,za,za,za,za,za,za,za,za,za]) (by rfl) ?_
 refine zk (zd ?_)
 refine zc rfl (zi rfl rfl (zb rfl)) yM ?_
 refine ze (zj (zk (zd ?_)))
 refine zc rfl (e_makeMap (n:=0) rfl rfl) xY ?_
 refine zc rfl (zi rfl yT (zb rfl)) wD ?_
 refine ze (zj (zk (zk (zd ?_))))
 refine zc rfl (zg rfl yB (zb rfl)) wm ?_
 refine yc rfl (zY rfl rfl rfl rfl ve xN yh) wl fun hn1=>?_
 replace hn1:=xK hn1
 refine zc rfl (zg rfl rfl (zb rfl)) vi ?_
 refine ze (zj (zS ?_))
 refine yu (fun (n1:Nat) (s1:List (GDot×Int))=>yS [1,2,4,5,6,10,11,12,13,14,15,16,17,18,19,20,21,22,23,24,25] [(9,.int .i64 (n1:Int))]) (fun s1=>h.ext [.mapo (s1.map (mrow (fun x=>AV.agg (GDot.row x)) (AV.int .i64))) 0] []) hF (fun _ _=>by simp only [yS,upd,List.set_cons_succ,List.set_cons_zero];try rfl) (wk.le (by exact (.eq (.drop (.drop (.eq (.drop (.drop (.drop (.eq (.eq (.cons (leV.of_eq rfl) (.d16 leL.nil))))))))))))) ?_
 intro n1 s1 hi1 hF
 refine zk (zd ?_)
 refine zc rfl (zy rfl wE xu rfl) yN ?_
 refine ze (zj (zk ?_))
 refine yI yG hF (fun x1 o1 hl1 hx1 hF hK1=>?_) (fun hF=>?_)
 ·refine zO (zj (zk (zS (zk (zd ?_)))))
  refine zc rfl (yr rfl ve xN wE qZ (xc hx1)) yR ?_
  refine zc rfl (yl rfl ty57.choose_spec.1 yP (zI (cs':=[.int .u64 x1.time,.int .u8 x1.dot.actor.rep,.int .u32 x1.dot.actor.inc,.int .u64 x1.dot.seq,.str x1.text]) ty57.choose_spec.2 rfl rfl) (zb rfl)) yQ ?_
  refine zc rfl (y9 (n:=1) rfl ze57 rfl) xG ?_
  refine zc rfl (yx (cs':=[.int .u64 x1.time,.int .u8 x1.dot.actor.rep,.int .u32 x1.dot.actor.inc,.int .u64 x1.dot.seq,.str x1.text]) rfl ty57.choose_spec.1 yY yO (zb rfl) rfl rfl rfl rfl rfl) rfl ?_
  refine ze (zj ?_)
  refine r_drawnF [3] (fun _=>MapE h 0 (s1.map (mrow (fun x=>AV.agg (GDot.row x)) (AV.int .i64))) ((ment GDot.eqb (0:Int) s1 x1.dot).map (mrow (fun x=>AV.agg (GDot.row x)) (AV.int .i64)))) (fun _=>⟨_,_,rfl,.inl rfl⟩) mixed (by kernel_rfl) ?_
  refine zp rfl rfl (zg rfl xj (zb rfl)) yU ?_
  refine zp rfl rfl (zf rfl qk yY rfl) y3 ?_
  refine zp rfl rfl (zu rfl ty38.choose_spec.1 y4 rfl (zI (cs':=[.int .u8 x1.dot.actor.rep,.int .u32 x1.dot.actor.inc,.int .u64 x1.dot.seq]) ty38.choose_spec.2 rfl rfl) (zb rfl)) y2 ?_
  refine draw_okN rfl rfl (e_lookupF (m:=s1) (k:=x1.dot) (d:=(0:Int)) (j:=0) (kv:=(fun x=>AV.agg (GDot.row x))) (vv:=(AV.int .i64)) rfl Tryz.underlying132 kq38 az3 yL yW) xf ?_
  refine zp rfl rfl (zy rfl xd rfl rfl) xA ?_
  refine xX rfl (FOk.all ⟨_,_,rfl,.inr rfl⟩) (by kernel_rfl) rfl (e_entry (m:=s1) (k:=x1.dot) (d:=(0:Int)) (j:=0) (kv:=(fun x=>AV.agg (GDot.row x))) (vv:=(AV.int .i64)) rfl Tryz.underlying132 kq38 az3 yL rfl yW rfl) xR ?_
  refine zp rfl rfl (wb rfl xL rfl (zb rfl)) wa ?_
  refine xX rfl (FOk.skip (by kernel_rfl)) (by kernel_rfl) rfl (e_entryStore (m:=s1) (k:=x1.dot) (d:=(0:Int)) (v:=(IntKind.wrap .i64 ((x7 GDot.eqb (0:Int) s1 x1.dot)+(1:Int)))) (j:=0) (eq:=GDot.eqb) (kv:=(fun x=>AV.agg (GDot.row x))) (vv:=(AV.int .i64)) rfl yL rfl wh rfl xC rfl rfl) rfl ?_
  refine ym ?_
  refine yi (zj (zd ?_))
  refine zc rfl (zy rfl wE rfl rfl) wJ ?_
  refine zc rfl (zg rfl wL (zb rfl)) vi ?_
  refine ze (yK ?_)
  obtain rfl:=Option.some.inj hF
  exact ⟨(mput GDot.eqb s1 x1.dot (IntKind.wrap .i64 ((x7 GDot.eqb (0:Int) s1 x1.dot)+(1:Int)))),hl1,hK1,wk.trans (wk.le (by exact (.eq (.drop (.drop (.eq (.drop (.drop (.drop (.eq (.eq (.cons (leV.of_eq (vN (by omega) (by omega))) (.d16 leL.nil))))))))))))) (xP (by simp [yf,AV.low]) rfl rfl (by simp [Blk.low,yf,AV.low,GDot.row,mrow]))⟩
 ·refine yX ?_
  refine z7 ?_
  refine zW ?_
  refine zX ?_
  refine zj (zk (zd ?_))
  refine zc rfl (zg rfl xj (zb rfl)) wO ?_
  refine ops_mlen (m:=s1) (j:=0) (kv:=(fun x=>AV.agg (GDot.row x))) (vv:=(AV.int .i64)) rfl rfl rfl rfl rfl Tryz.underlying132 wK rfl vk ?_
  refine zc rfl (zg rfl yB (zb rfl)) wN ?_
  refine yc rfl (zY rfl rfl rfl rfl ve wy yh) vj fun hn7=>?_
  replace hn7:=xK hn7
  refine zc rfl (zy rfl vm vl rfl) vC ?_
  refine zc rfl (zi rfl vw (zb rfl)) yM ?_
  refine ze (zj (zJ ?_))
  obtain rfl:=Option.some.inj hF
  refine zz rfl (zF yV zD) (zA (leV.refl _) rfl ?_)
  exact ⟨rfl,rfl⟩
end Go.Vv
