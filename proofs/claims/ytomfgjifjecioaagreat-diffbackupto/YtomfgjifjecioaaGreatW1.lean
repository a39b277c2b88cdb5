/- Each function that the law reaches computes what its reading says; printed by a program. -/
import Derived.Test.YtomfgjifjecioaaGreatVvMl
import Derived.Test.YtomfgjifjecioaaGreatVvRb
import Derived.Test.YtomfgjifjecioaaGreatVvSo
import Derived.Test.YtomfgjifjecioaaGreatVvZ
import Derived.Test.YtomfgjifjecioaaGreatVvAn
import Derived.Test.YtomfgjifjecioaaGreatVvLb
import Derived.Test.YtomfgjifjecioaaGreatVvLc
import Derived.Test.YtomfgjifjecioaaGreatVvMr
import Derived.Test.YtomfgjifjecioaaGreatVvIt
import Derived.Test.YtomfgjifjecioaaGreatVvRd
import Derived.Test.YtomfgjifjecioaaGreatD
import Derived.Test.YtomfgjifjecioaaGreatProg
namespace Go.Vv
open Go Go.Proofs
set_option maxRecDepth 100000
set_option maxHeartbeats 1000000
set_option linter.unusedSimpArgs false
set_option linter.unusedVariables false
section
variable {v a0 a1 a2 a3 a4 a5 a6 a7 a8 a9 a10 a11 a12 a13 a14 a15 a16 a17 a18 a19 a20 a21 a22 a23 a24 a25 a26 a27 a28 a29 a30 a31 a32 a33 a34 a35 a36 a37 a38 a39:AV} {r q:List AV} {t:Nat}
theorem yr:xd (a0::r) (.tmp 0)=some a0:=rfl
theorem st0:ve (some 0) (a0::r) v=some (v::r):=rfl
theorem yE:xd (a0::a1::r) (.tmp 1)=some a1:=rfl
theorem st1:ve (some 1) (a0::a1::r) v=some (a0::v::r):=rfl
theorem yW:xd (a0::a1::a2::r) (.tmp 2)=some a2:=rfl
theorem xe:ve (some 2) (a0::a1::a2::r) v=some (a0::a1::v::r):=rfl
theorem xw:xd (a0::a1::a2::a3::r) (.tmp 3)=some a3:=rfl
theorem wd:ve (some 3) (a0::a1::a2::a3::r) v=some (a0::a1::a2::v::r):=rfl
theorem ym:xd (a0::a1::a2::a3::a4::r) (.tmp 4)=some a4:=rfl
theorem yz:ve (some 4) (a0::a1::a2::a3::a4::r) v=some (a0::a1::a2::a3::v::r):=rfl
theorem yM:xd (a0::a1::a2::a3::a4::a5::r) (.tmp 5)=some a5:=rfl
theorem xy:ve (some 5) (a0::a1::a2::a3::a4::a5::r) v=some (a0::a1::a2::a3::a4::v::r):=rfl
theorem yU:xd (a0::a1::a2::a3::a4::a5::a6::r) (.tmp 6)=some a6:=rfl
theorem xF:ve (some 6) (a0::a1::a2::a3::a4::a5::a6::r) v=some (a0::a1::a2::a3::a4::a5::v::r):=rfl
theorem xC:xd (a0::a1::a2::a3::a4::a5::a6::a7::r) (.tmp 7)=some a7:=rfl
theorem xJ:ve (some 7) (a0::a1::a2::a3::a4::a5::a6::a7::r) v=some (a0::a1::a2::a3::a4::a5::a6::v::r):=rfl
theorem xl:xd (a0::a1::a2::a3::a4::a5::a6::a7::a8::r) (.tmp 8)=some a8:=rfl
theorem xP:ve (some 8) (a0::a1::a2::a3::a4::a5::a6::a7::a8::r) v=some (a0::a1::a2::a3::a4::a5::a6::a7::v::r):=rfl
theorem xQ:xd (a0::a1::a2::a3::a4::a5::a6::a7::a8::a9::r) (.tmp 9)=some a9:=rfl
theorem ww:ve (some 9) (a0::a1::a2::a3::a4::a5::a6::a7::a8::a9::r) v=some (a0::a1::a2::a3::a4::a5::a6::a7::a8::v::r):=rfl
theorem yB:xd (a0::a1::a2::a3::a4::a5::a6::a7::a8::a9::a10::r) (.tmp 10)=some a10:=rfl
theorem yI:ve (some 10) (a0::a1::a2::a3::a4::a5::a6::a7::a8::a9::a10::r) v=some (a0::a1::a2::a3::a4::a5::a6::a7::a8::a9::v::r):=rfl
theorem yA:xd (a0::a1::a2::a3::a4::a5::a6::a7::a8::a9::a10::a11::r) (.tmp 11)=some a11:=rfl
theorem yN:ve (some 11) (a0::a1::a2::a3::a4::a5::a6::a7::a8::a9::a10::a11::r) v=some (a0::a1::a2::a3::a4::a5::a6::a7::a8::a9::a10::v::r):=rfl
theorem yP:xd (a0::a1::a2::a3::a4::a5::a6::a7::a8::a9::a10::a11::a12::r) (.tmp 12)=some a12:=rfl
theorem yS:ve (some 12) (a0::a1::a2::a3::a4::a5::a6::a7::a8::a9::a10::a11::a12::r) v=some (a0::a1::a2::a3::a4::a5::a6::a7::a8::a9::a10::a11::v::r):=rfl
theorem yD:xd (a0::a1::a2::a3::a4::a5::a6::a7::a8::a9::a10::a11::a12::a13::r) (.tmp 13)=some a13:=rfl
theorem yV:ve (some 13) (a0::a1::a2::a3::a4::a5::a6::a7::a8::a9::a10::a11::a12::a13::r) v=some (a0::a1::a2::a3::a4::a5::a6::a7::a8::a9::a10::a11::a12::v::r):=rfl
theorem yX:xd (a0::a1::a2::a3::a4::a5::a6::a7::a8::a9::a10::a11::a12::a13::a14::r) (.tmp 14)=some a14:=rfl
theorem y4:ve (some 14) (a0::a1::a2::a3::a4::a5::a6::a7::a8::a9::a10::a11::a12::a13::a14::r) v=some (a0::a1::a2::a3::a4::a5::a6::a7::a8::a9::a10::a11::a12::a13::v::r):=rfl
theorem yT:xd (a0::a1::a2::a3::a4::a5::a6::a7::a8::a9::a10::a11::a12::a13::a14::a15::r) (.tmp 15)=some a15:=rfl
theorem y8:ve (some 15) (a0::a1::a2::a3::a4::a5::a6::a7::a8::a9::a10::a11::a12::a13::a14::a15::r) v=some (a0::a1::a2::a3::a4::a5::a6::a7::a8::a9::a10::a11::a12::a13::a14::v::r):=rfl
theorem xf:xd (a0::a1::a2::a3::a4::a5::a6::a7::a8::a9::a10::a11::a12::a13::a14::a15::a16::r) (.tmp 16)=some a16:=rfl
theorem xg:ve (some 16) (a0::a1::a2::a3::a4::a5::a6::a7::a8::a9::a10::a11::a12::a13::a14::a15::a16::r) v=some (a0::a1::a2::a3::a4::a5::a6::a7::a8::a9::a10::a11::a12::a13::a14::a15::v::r):=rfl
theorem xp:xd (a0::a1::a2::a3::a4::a5::a6::a7::a8::a9::a10::a11::a12::a13::a14::a15::a16::a17::r) (.tmp 17)=some a17:=rfl
theorem xr:ve (some 17) (a0::a1::a2::a3::a4::a5::a6::a7::a8::a9::a10::a11::a12::a13::a14::a15::a16::a17::r) v=some (a0::a1::a2::a3::a4::a5::a6::a7::a8::a9::a10::a11::a12::a13::a14::a15::a16::v::r):=rfl
theorem xB:xd (a0::a1::a2::a3::a4::a5::a6::a7::a8::a9::a10::a11::a12::a13::a14::a15::a16::a17::a18::r) (.tmp 18)=some a18:=rfl
theorem xD:ve (some 18) (a0::a1::a2::a3::a4::a5::a6::a7::a8::a9::a10::a11::a12::a13::a14::a15::a16::a17::a18::r) v=some (a0::a1::a2::a3::a4::a5::a6::a7::a8::a9::a10::a11::a12::a13::a14::a15::a16::a17::v::r):=rfl
theorem xI:xd (a0::a1::a2::a3::a4::a5::a6::a7::a8::a9::a10::a11::a12::a13::a14::a15::a16::a17::a18::a19::r) (.tmp 19)=some a19:=rfl
theorem xK:ve (some 19) (a0::a1::a2::a3::a4::a5::a6::a7::a8::a9::a10::a11::a12::a13::a14::a15::a16::a17::a18::a19::r) v=some (a0::a1::a2::a3::a4::a5::a6::a7::a8::a9::a10::a11::a12::a13::a14::a15::a16::a17::a18::v::r):=rfl
theorem x5:xd (a0::a1::a2::a3::a4::a5::a6::a7::a8::a9::a10::a11::a12::a13::a14::a15::a16::a17::a18::a19::a20::r) (.tmp 20)=some a20:=rfl
theorem x4:ve (some 20) (a0::a1::a2::a3::a4::a5::a6::a7::a8::a9::a10::a11::a12::a13::a14::a15::a16::a17::a18::a19::a20::r) v=some (a0::a1::a2::a3::a4::a5::a6::a7::a8::a9::a10::a11::a12::a13::a14::a15::a16::a17::a18::a19::v::r):=rfl
theorem x6:xd (a0::a1::a2::a3::a4::a5::a6::a7::a8::a9::a10::a11::a12::a13::a14::a15::a16::a17::a18::a19::a20::a21::r) (.tmp 21)=some a21:=rfl
theorem x9:ve (some 21) (a0::a1::a2::a3::a4::a5::a6::a7::a8::a9::a10::a11::a12::a13::a14::a15::a16::a17::a18::a19::a20::a21::r) v=some (a0::a1::a2::a3::a4::a5::a6::a7::a8::a9::a10::a11::a12::a13::a14::a15::a16::a17::a18::a19::a20::v::r):=rfl
theorem wi:xd (a0::a1::a2::a3::a4::a5::a6::a7::a8::a9::a10::a11::a12::a13::a14::a15::a16::a17::a18::a19::a20::a21::a22::r) (.tmp 22)=some a22:=rfl
theorem wl:ve (some 22) (a0::a1::a2::a3::a4::a5::a6::a7::a8::a9::a10::a11::a12::a13::a14::a15::a16::a17::a18::a19::a20::a21::a22::r) v=some (a0::a1::a2::a3::a4::a5::a6::a7::a8::a9::a10::a11::a12::a13::a14::a15::a16::a17::a18::a19::a20::a21::v::r):=rfl
theorem xX:xd (a0::a1::a2::a3::a4::a5::a6::a7::a8::a9::a10::a11::a12::a13::a14::a15::a16::a17::a18::a19::a20::a21::a22::a23::r) (.tmp 23)=some a23:=rfl
theorem x8:ve (some 23) (a0::a1::a2::a3::a4::a5::a6::a7::a8::a9::a10::a11::a12::a13::a14::a15::a16::a17::a18::a19::a20::a21::a22::a23::r) v=some (a0::a1::a2::a3::a4::a5::a6::a7::a8::a9::a10::a11::a12::a13::a14::a15::a16::a17::a18::a19::a20::a21::a22::v::r):=rfl
theorem wa:xd (a0::a1::a2::a3::a4::a5::a6::a7::a8::a9::a10::a11::a12::a13::a14::a15::a16::a17::a18::a19::a20::a21::a22::a23::a24::r) (.tmp 24)=some a24:=rfl
theorem we:ve (some 24) (a0::a1::a2::a3::a4::a5::a6::a7::a8::a9::a10::a11::a12::a13::a14::a15::a16::a17::a18::a19::a20::a21::a22::a23::a24::r) v=some (a0::a1::a2::a3::a4::a5::a6::a7::a8::a9::a10::a11::a12::a13::a14::a15::a16::a17::a18::a19::a20::a21::a22::a23::v::r):=rfl
theorem wm:xd (a0::a1::a2::a3::a4::a5::a6::a7::a8::a9::a10::a11::a12::a13::a14::a15::a16::a17::a18::a19::a20::a21::a22::a23::a24::a25::r) (.tmp 25)=some a25:=rfl
theorem wo:ve (some 25) (a0::a1::a2::a3::a4::a5::a6::a7::a8::a9::a10::a11::a12::a13::a14::a15::a16::a17::a18::a19::a20::a21::a22::a23::a24::a25::r) v=some (a0::a1::a2::a3::a4::a5::a6::a7::a8::a9::a10::a11::a12::a13::a14::a15::a16::a17::a18::a19::a20::a21::a22::a23::a24::v::r):=rfl
theorem wI:xd (a0::a1::a2::a3::a4::a5::a6::a7::a8::a9::a10::a11::a12::a13::a14::a15::a16::a17::a18::a19::a20::a21::a22::a23::a24::a25::a26::r) (.tmp 26)=some a26:=rfl
theorem wK:ve (some 26) (a0::a1::a2::a3::a4::a5::a6::a7::a8::a9::a10::a11::a12::a13::a14::a15::a16::a17::a18::a19::a20::a21::a22::a23::a24::a25::a26::r) v=some (a0::a1::a2::a3::a4::a5::a6::a7::a8::a9::a10::a11::a12::a13::a14::a15::a16::a17::a18::a19::a20::a21::a22::a23::a24::a25::v::r):=rfl
theorem wV:xd (a0::a1::a2::a3::a4::a5::a6::a7::a8::a9::a10::a11::a12::a13::a14::a15::a16::a17::a18::a19::a20::a21::a22::a23::a24::a25::a26::a27::r) (.tmp 27)=some a27:=rfl
theorem wR:ve (some 27) (a0::a1::a2::a3::a4::a5::a6::a7::a8::a9::a10::a11::a12::a13::a14::a15::a16::a17::a18::a19::a20::a21::a22::a23::a24::a25::a26::a27::r) v=some (a0::a1::a2::a3::a4::a5::a6::a7::a8::a9::a10::a11::a12::a13::a14::a15::a16::a17::a18::a19::a20::a21::a22::a23::a24::a25::a26::v::r):=rfl
theorem wN:xd (a0::a1::a2::a3::a4::a5::a6::a7::a8::a9::a10::a11::a12::a13::a14::a15::a16::a17::a18::a19::a20::a21::a22::a23::a24::a25::a26::a27::a28::r) (.tmp 28)=some a28:=rfl
theorem wQ:ve (some 28) (a0::a1::a2::a3::a4::a5::a6::a7::a8::a9::a10::a11::a12::a13::a14::a15::a16::a17::a18::a19::a20::a21::a22::a23::a24::a25::a26::a27::a28::r) v=some (a0::a1::a2::a3::a4::a5::a6::a7::a8::a9::a10::a11::a12::a13::a14::a15::a16::a17::a18::a19::a20::a21::a22::a23::a24::a25::a26::a27::v::r):=rfl
theorem vb:xd (a0::a1::a2::a3::a4::a5::a6::a7::a8::a9::a10::a11::a12::a13::a14::a15::a16::a17::a18::a19::a20::a21::a22::a23::a24::a25::a26::a27::a28::a29::r) (.tmp 29)=some a29:=rfl
theorem w9:ve (some 29) (a0::a1::a2::a3::a4::a5::a6::a7::a8::a9::a10::a11::a12::a13::a14::a15::a16::a17::a18::a19::a20::a21::a22::a23::a24::a25::a26::a27::a28::a29::r) v=some (a0::a1::a2::a3::a4::a5::a6::a7::a8::a9::a10::a11::a12::a13::a14::a15::a16::a17::a18::a19::a20::a21::a22::a23::a24::a25::a26::a27::a28::v::r):=rfl
theorem vm:xd (a0::a1::a2::a3::a4::a5::a6::a7::a8::a9::a10::a11::a12::a13::a14::a15::a16::a17::a18::a19::a20::a21::a22::a23::a24::a25::a26::a27::a28::a29::a30::r) (.tmp 30)=some a30:=rfl
theorem w8:ve (some 30) (a0::a1::a2::a3::a4::a5::a6::a7::a8::a9::a10::a11::a12::a13::a14::a15::a16::a17::a18::a19::a20::a21::a22::a23::a24::a25::a26::a27::a28::a29::a30::r) v=some (a0::a1::a2::a3::a4::a5::a6::a7::a8::a9::a10::a11::a12::a13::a14::a15::a16::a17::a18::a19::a20::a21::a22::a23::a24::a25::a26::a27::a28::a29::v::r):=rfl
theorem vl:xd (a0::a1::a2::a3::a4::a5::a6::a7::a8::a9::a10::a11::a12::a13::a14::a15::a16::a17::a18::a19::a20::a21::a22::a23::a24::a25::a26::a27::a28::a29::a30::a31::r) (.tmp 31)=some a31:=rfl
theorem vh:ve (some 31) (a0::a1::a2::a3::a4::a5::a6::a7::a8::a9::a10::a11::a12::a13::a14::a15::a16::a17::a18::a19::a20::a21::a22::a23::a24::a25::a26::a27::a28::a29::a30::a31::r) v=some (a0::a1::a2::a3::a4::a5::a6::a7::a8::a9::a10::a11::a12::a13::a14::a15::a16::a17::a18::a19::a20::a21::a22::a23::a24::a25::a26::a27::a28::a29::a30::v::r):=rfl
theorem vk:xd (a0::a1::a2::a3::a4::a5::a6::a7::a8::a9::a10::a11::a12::a13::a14::a15::a16::a17::a18::a19::a20::a21::a22::a23::a24::a25::a26::a27::a28::a29::a30::a31::a32::r) (.tmp 32)=some a32:=rfl
theorem vz:ve (some 32) (a0::a1::a2::a3::a4::a5::a6::a7::a8::a9::a10::a11::a12::a13::a14::a15::a16::a17::a18::a19::a20::a21::a22::a23::a24::a25::a26::a27::a28::a29::a30::a31::a32::r) v=some (a0::a1::a2::a3::a4::a5::a6::a7::a8::a9::a10::a11::a12::a13::a14::a15::a16::a17::a18::a19::a20::a21::a22::a23::a24::a25::a26::a27::a28::a29::a30::a31::v::r):=rfl
theorem vC:xd (a0::a1::a2::a3::a4::a5::a6::a7::a8::a9::a10::a11::a12::a13::a14::a15::a16::a17::a18::a19::a20::a21::a22::a23::a24::a25::a26::a27::a28::a29::a30::a31::a32::a33::r) (.tmp 33)=some a33:=rfl
theorem vw:ve (some 33) (a0::a1::a2::a3::a4::a5::a6::a7::a8::a9::a10::a11::a12::a13::a14::a15::a16::a17::a18::a19::a20::a21::a22::a23::a24::a25::a26::a27::a28::a29::a30::a31::a32::a33::r) v=some (a0::a1::a2::a3::a4::a5::a6::a7::a8::a9::a10::a11::a12::a13::a14::a15::a16::a17::a18::a19::a20::a21::a22::a23::a24::a25::a26::a27::a28::a29::a30::a31::a32::v::r):=rfl
theorem vj:xd (a0::a1::a2::a3::a4::a5::a6::a7::a8::a9::a10::a11::a12::a13::a14::a15::a16::a17::a18::a19::a20::a21::a22::a23::a24::a25::a26::a27::a28::a29::a30::a31::a32::a33::a34::r) (.tmp 34)=some a34:=rfl
theorem vu:ve (some 34) (a0::a1::a2::a3::a4::a5::a6::a7::a8::a9::a10::a11::a12::a13::a14::a15::a16::a17::a18::a19::a20::a21::a22::a23::a24::a25::a26::a27::a28::a29::a30::a31::a32::a33::a34::r) v=some (a0::a1::a2::a3::a4::a5::a6::a7::a8::a9::a10::a11::a12::a13::a14::a15::a16::a17::a18::a19::a20::a21::a22::a23::a24::a25::a26::a27::a28::a29::a30::a31::a32::a33::v::r):=rfl
theorem vB:xd (a0::a1::a2::a3::a4::a5::a6::a7::a8::a9::a10::a11::a12::a13::a14::a15::a16::a17::a18::a19::a20::a21::a22::a23::a24::a25::a26::a27::a28::a29::a30::a31::a32::a33::a34::a35::r) (.tmp 35)=some a35:=rfl
theorem vt:ve (some 35) (a0::a1::a2::a3::a4::a5::a6::a7::a8::a9::a10::a11::a12::a13::a14::a15::a16::a17::a18::a19::a20::a21::a22::a23::a24::a25::a26::a27::a28::a29::a30::a31::a32::a33::a34::a35::r) v=some (a0::a1::a2::a3::a4::a5::a6::a7::a8::a9::a10::a11::a12::a13::a14::a15::a16::a17::a18::a19::a20::a21::a22::a23::a24::a25::a26::a27::a28::a29::a30::a31::a32::a33::a34::v::r):=rfl
theorem va:xd (a0::a1::a2::a3::a4::a5::a6::a7::a8::a9::a10::a11::a12::a13::a14::a15::a16::a17::a18::a19::a20::a21::a22::a23::a24::a25::a26::a27::a28::a29::a30::a31::a32::a33::a34::a35::a36::r) (.tmp 36)=some a36:=rfl
theorem vg:ve (some 36) (a0::a1::a2::a3::a4::a5::a6::a7::a8::a9::a10::a11::a12::a13::a14::a15::a16::a17::a18::a19::a20::a21::a22::a23::a24::a25::a26::a27::a28::a29::a30::a31::a32::a33::a34::a35::a36::r) v=some (a0::a1::a2::a3::a4::a5::a6::a7::a8::a9::a10::a11::a12::a13::a14::a15::a16::a17::a18::a19::a20::a21::a22::a23::a24::a25::a26::a27::a28::a29::a30::a31::a32::a33::a34::a35::v::r):=rfl
theorem vA:xd (a0::a1::a2::a3::a4::a5::a6::a7::a8::a9::a10::a11::a12::a13::a14::a15::a16::a17::a18::a19::a20::a21::a22::a23::a24::a25::a26::a27::a28::a29::a30::a31::a32::a33::a34::a35::a36::a37::r) (.tmp 37)=some a37:=rfl
theorem vr:ve (some 37) (a0::a1::a2::a3::a4::a5::a6::a7::a8::a9::a10::a11::a12::a13::a14::a15::a16::a17::a18::a19::a20::a21::a22::a23::a24::a25::a26::a27::a28::a29::a30::a31::a32::a33::a34::a35::a36::a37::r) v=some (a0::a1::a2::a3::a4::a5::a6::a7::a8::a9::a10::a11::a12::a13::a14::a15::a16::a17::a18::a19::a20::a21::a22::a23::a24::a25::a26::a27::a28::a29::a30::a31::a32::a33::a34::a35::a36::v::r):=rfl
theorem vO:xd (a0::a1::a2::a3::a4::a5::a6::a7::a8::a9::a10::a11::a12::a13::a14::a15::a16::a17::a18::a19::a20::a21::a22::a23::a24::a25::a26::a27::a28::a29::a30::a31::a32::a33::a34::a35::a36::a37::a38::r) (.tmp 38)=some a38:=rfl
theorem vK:ve (some 38) (a0::a1::a2::a3::a4::a5::a6::a7::a8::a9::a10::a11::a12::a13::a14::a15::a16::a17::a18::a19::a20::a21::a22::a23::a24::a25::a26::a27::a28::a29::a30::a31::a32::a33::a34::a35::a36::a37::a38::r) v=some (a0::a1::a2::a3::a4::a5::a6::a7::a8::a9::a10::a11::a12::a13::a14::a15::a16::a17::a18::a19::a20::a21::a22::a23::a24::a25::a26::a27::a28::a29::a30::a31::a32::a33::a34::a35::a36::a37::v::r):=rfl
theorem vG:xd (a0::a1::a2::a3::a4::a5::a6::a7::a8::a9::a10::a11::a12::a13::a14::a15::a16::a17::a18::a19::a20::a21::a22::a23::a24::a25::a26::a27::a28::a29::a30::a31::a32::a33::a34::a35::a36::a37::a38::a39::r) (.tmp 39)=some a39:=rfl
theorem vJ:ve (some 39) (a0::a1::a2::a3::a4::a5::a6::a7::a8::a9::a10::a11::a12::a13::a14::a15::a16::a17::a18::a19::a20::a21::a22::a23::a24::a25::a26::a27::a28::a29::a30::a31::a32::a33::a34::a35::a36::a37::a38::a39::r) v=some (a0::a1::a2::a3::a4::a5::a6::a7::a8::a9::a10::a11::a12::a13::a14::a15::a16::a17::a18::a19::a20::a21::a22::a23::a24::a25::a26::a27::a28::a29::a30::a31::a32::a33::a34::a35::a36::a37::a38::v::r):=rfl
theorem gk (h:xd r (.tmp t)=some v):xd (a0::a1::a2::a3::a4::a5::a6::a7::a8::a9::a10::a11::a12::a13::a14::a15::a16::a17::a18::a19::a20::a21::a22::a23::a24::a25::a26::a27::a28::a29::a30::a31::a32::a33::a34::a35::a36::a37::a38::a39::r) (.tmp (t+40))=some v:=h
theorem sk (h:ve (some t) r v=some q):ve (some (t+40)) (a0::a1::a2::a3::a4::a5::a6::a7::a8::a9::a10::a11::a12::a13::a14::a15::a16::a17::a18::a19::a20::a21::a22::a23::a24::a25::a26::a27::a28::a29::a30::a31::a32::a33::a34::a35::a36::a37::a38::a39::r) v=some (a0::a1::a2::a3::a4::a5::a6::a7::a8::a9::a10::a11::a12::a13::a14::a15::a16::a17::a18::a19::a20::a21::a22::a23::a24::a25::a26::a27::a28::a29::a30::a31::a32::a33::a34::a35::a36::a37::a38::a39::q):=congrArg (fun x=>some (a0::a1::a2::a3::a4::a5::a6::a7::a8::a9::a10::a11::a12::a13::a14::a15::a16::a17::a18::a19::a20::a21::a22::a23::a24::a25::a26::a27::a28::a29::a30::a31::a32::a33::a34::a35::a36::a37::a38::a39::x)) (Option.some.inj h)
end

def GActor.row (x:GActor):List AV:=[.int .u8 x.rep,.int .u32 x.inc]
def GDot.row (x:GDot):List AV:=[.int .u8 x.actor.rep,.int .u32 x.actor.inc,.int .u64 x.seq]
def GItem.row (x:GItem):List AV:=[.int .u64 x.time,.int .u8 x.dot.actor.rep,.int .u32 x.dot.actor.inc,.int .u64 x.dot.seq,.str x.text]
def GLeaf.row (x:GLeaf):List AV:=[.int .u8 x.typ,.int .i64 x.n,.int .u64 x.time,.int .u8 x.dot.actor.rep,.int .u32 x.dot.actor.inc,.int .u64 x.dot.seq,.str x.text,.sl 5 (x.items.map GItem.row),.sl 3 (x.tombs.map GDot.row)]
mutual
def GNode.row:GNode→List AV
  | ⟨name,leaves,subs⟩=>[.str name,.sl 9 (leaves.map GLeaf.row),.sl 3 (GNode.rows subs)]
def GNode.rows:List GNode→List (List AV)
  | []=>[]
  | x::r=>x.row::GNode.rows r
end
theorem GNode.rows_eq (l:List GNode):GNode.rows l=l.map GNode.row:=by
  induction l with
  | nil=>rfl
  | cons x r ih=>simp only [GNode.rows,List.map_cons,ih]
theorem GNode.row_eq (x:GNode):x.row=[.str x.name,.sl 9 (x.leaves.map GLeaf.row),.sl 3 (x.subs.map GNode.row)]:=by
  cases x;simp only [GNode.row,GNode.rows_eq]
def GEdit.row (x:GEdit):List AV:=[.sl 1 (x.path.map zP),.int .u8 x.typ,.bool x.had,.bool x.has,.int .u8 x.was.typ,.int .i64 x.was.n,.int .u64 x.was.time,.int .u8 x.was.dot.actor.rep,.int .u32 x.was.dot.actor.inc,.int .u64 x.was.dot.seq,.str x.was.text,.sl 5 (x.was.items.map GItem.row),.sl 3 (x.was.tombs.map GDot.row),.int .u8 x.is.typ,.int .i64 x.is.n,.int .u64 x.is.time,.int .u8 x.is.dot.actor.rep,.int .u32 x.is.dot.actor.inc,.int .u64 x.is.dot.seq,.str x.is.text,.sl 5 (x.is.items.map GItem.row),.sl 3 (x.is.tombs.map GDot.row)]
def GRow.row (x:GRow):List AV:=[.sl 1 (x.path.map zP),.int .u8 x.leaf.typ,.int .i64 x.leaf.n,.int .u64 x.leaf.time,.int .u8 x.leaf.dot.actor.rep,.int .u32 x.leaf.dot.actor.inc,.int .u64 x.leaf.dot.seq,.str x.leaf.text,.sl 5 (x.leaf.items.map GItem.row),.sl 3 (x.leaf.tombs.map GDot.row)]
theorem xn:El Tryz.prog 23 48 3:=mkEl Tryz.underlying23 (by kernel_rfl)
theorem mixed:Tryz.prog.follows .mixedOrders=true:=by kernel_rfl
theorem fo48x0:Fo Tryz.prog 48 0 0 9 1:=mkFo (by kernel_rfl) (by kernel_rfl)
theorem ty9:Ty Tryz.prog 9 .string 1:=mkTy Tryz.underlying9 (by kernel_rfl)
theorem fo48x2:Fo Tryz.prog 48 2 2 23 1:=mkFo (by kernel_rfl) (by kernel_rfl)
theorem ty23:Ty Tryz.prog 23 (.slice 48) 1:=mkTy Tryz.underlying23 (by kernel_rfl)
theorem xY:Fo Tryz.prog 48 1 1 46 1:=mkFo (by kernel_rfl) (by kernel_rfl)
theorem ty46:Ty Tryz.prog 46 (.slice 45) 1:=mkTy Tryz.underlying46 (by kernel_rfl)
theorem wc:El Tryz.prog 46 45 9:=mkEl Tryz.underlying46 (by kernel_rfl)
theorem ty45:∃ d,Ty Tryz.prog 45 d 9∧yZ d=true:=⟨_,mkTy Tryz.underlying45 (by kernel_rfl),by kernel_rfl⟩
theorem ze45:vD Tryz.prog 45=some [.int .u8 0,.int .i64 0,.int .u64 0,.int .u8 0,.int .u32 0,.int .u64 0,.str [],.osl none 5 [],.osl none 3 []]:=by kernel_rfl
theorem fo45x4:Fo Tryz.prog 45 4 6 9 1:=mkFo (by kernel_rfl) (by kernel_rfl)
theorem wj:Fo Tryz.prog 45 6 8 43 1:=mkFo (by kernel_rfl) (by kernel_rfl)
theorem ty43:Ty Tryz.prog 43 (.slice 41) 1:=mkTy Tryz.underlying43 (by kernel_rfl)
theorem el43:El Tryz.prog 43 41 3:=mkEl Tryz.underlying43 (by kernel_rfl)
theorem xO:Fo Tryz.prog 45 5 7 42 1:=mkFo (by kernel_rfl) (by kernel_rfl)
theorem qU:Ty Tryz.prog 42 (.slice 87) 1:=mkTy Tryz.underlying42 (by kernel_rfl)
theorem vW:El Tryz.prog 42 87 5:=mkEl Tryz.underlying42 (by kernel_rfl)
theorem fo87x2:Fo Tryz.prog 87 2 4 9 1:=mkFo (by kernel_rfl) (by kernel_rfl)
theorem el26:El Tryz.prog 26 51 22:=mkEl Tryz.underlying26 (by kernel_rfl)
theorem ty51:∃ d,Ty Tryz.prog 51 d 22∧yZ d=true:=⟨_,mkTy Tryz.underlying51 (by kernel_rfl),by kernel_rfl⟩
theorem ze51:vD Tryz.prog 51=some [.osl none 1 [],.int .u8 0,.bool false,.bool false,.int .u8 0,.int .i64 0,.int .u64 0,.int .u8 0,.int .u32 0,.int .u64 0,.str [],.osl none 5 [],.osl none 3 [],.int .u8 0,.int .i64 0,.int .u64 0,.int .u8 0,.int .u32 0,.int .u64 0,.str [],.osl none 5 [],.osl none 3 []]:=by kernel_rfl
theorem fo51x0:Fo Tryz.prog 51 0 0 49 1:=mkFo (by kernel_rfl) (by kernel_rfl)
theorem ty49:Ty Tryz.prog 49 (.slice 9) 1:=mkTy Tryz.underlying49 (by kernel_rfl)
theorem wA:El Tryz.prog 49 9 1:=mkEl Tryz.underlying49 (by kernel_rfl)
theorem fo51x4:Fo Tryz.prog 51 4 4 45 9:=mkFo (by kernel_rfl) (by kernel_rfl)
theorem fo51x5:Fo Tryz.prog 51 5 13 45 9:=mkFo (by kernel_rfl) (by kernel_rfl)
theorem el75:El Tryz.prog 75 5 1:=mkEl Tryz.underlying75 (by kernel_rfl)
theorem ze5:vD Tryz.prog 5=some [.int .u8 0]:=by kernel_rfl
theorem ty5:Ty Tryz.prog 5 (.int .u8) 1:=mkTy Tryz.underlying5 (by kernel_rfl)
theorem el136:El Tryz.prog 136 3 1:=mkEl Tryz.underlying136 (by kernel_rfl)
theorem ty3:Ty Tryz.prog 3 (.int .i64) 1:=mkTy Tryz.underlying3 (by kernel_rfl)
theorem fo51x1:Fo Tryz.prog 51 1 1 5 1:=mkFo (by kernel_rfl) (by kernel_rfl)
theorem ze3:vD Tryz.prog 3=some [.int .i64 0]:=by kernel_rfl
theorem ty87:∃ d,Ty Tryz.prog 87 d 5∧yZ d=true:=⟨_,mkTy Tryz.underlying87 (by kernel_rfl),by kernel_rfl⟩
theorem pk87:PK Tryz.prog 87 [.i,.i,.i,.i,.s]:=mkPK (by kernel_rfl) (by kernel_rfl) (by kernel_rfl)
theorem ty41:∃ d,Ty Tryz.prog 41 d 3∧yZ d=true:=⟨_,mkTy Tryz.underlying41 (by kernel_rfl),by kernel_rfl⟩
theorem pk41:PK Tryz.prog 41 [.i,.i,.i]:=mkPK (by kernel_rfl) (by kernel_rfl) (by kernel_rfl)
theorem xV:Fo Tryz.prog 45 0 0 5 1:=mkFo (by kernel_rfl) (by kernel_rfl)
theorem fo45x1:Fo Tryz.prog 45 1 1 2 1:=mkFo (by kernel_rfl) (by kernel_rfl)
theorem ty2:Ty Tryz.prog 2 (.int .i64) 1:=mkTy Tryz.underlying2 (by kernel_rfl)
theorem fo45x2:Fo Tryz.prog 45 2 2 36 1:=mkFo (by kernel_rfl) (by kernel_rfl)
theorem qW:Ty Tryz.prog 36 (.int .u64) 1:=mkTy Tryz.underlying36 (by kernel_rfl)
theorem fo45x3:Fo Tryz.prog 45 3 3 41 3:=mkFo (by kernel_rfl) (by kernel_rfl)
theorem ze9:vD Tryz.prog 9=some [.str []]:=by kernel_rfl
theorem ze87:vD Tryz.prog 87=some [.int .u64 0,.int .u8 0,.int .u32 0,.int .u64 0,.str []]:=by kernel_rfl
theorem ze41:vD Tryz.prog 41=some [.int .u8 0,.int .u32 0,.int .u64 0]:=by kernel_rfl
theorem fo51x2:Fo Tryz.prog 51 2 2 4 1:=mkFo (by kernel_rfl) (by kernel_rfl)
theorem ty4:Ty Tryz.prog 4 .bool 1:=mkTy Tryz.underlying4 (by kernel_rfl)
theorem fo51x3:Fo Tryz.prog 51 3 3 4 1:=mkFo (by kernel_rfl) (by kernel_rfl)
theorem fo39x0:Fo Tryz.prog 39 0 0 5 1:=mkFo (by kernel_rfl) (by kernel_rfl)
theorem fo39x1:Fo Tryz.prog 39 1 1 37 1:=mkFo (by kernel_rfl) (by kernel_rfl)
theorem ty37:Ty Tryz.prog 37 (.int .u32) 1:=mkTy Tryz.underlying37 (by kernel_rfl)
theorem fo41x0:Fo Tryz.prog 41 0 0 39 2:=mkFo (by kernel_rfl) (by kernel_rfl)
theorem ty39:∃ d,Ty Tryz.prog 39 d 2∧yZ d=true:=⟨_,mkTy Tryz.underlying39 (by kernel_rfl),by kernel_rfl⟩
theorem fo41x1:Fo Tryz.prog 41 1 2 36 1:=mkFo (by kernel_rfl) (by kernel_rfl)
theorem fo87x1:Fo Tryz.prog 87 1 1 41 3:=mkFo (by kernel_rfl) (by kernel_rfl)
noncomputable def sf41:Array Field:=match Tryz.prog.underlying 41 with | some (.struct fs)=>fs | _=>#[]
theorem su41:Tryz.prog.underlying 41=some (.struct sf41):=by kernel_rfl
theorem kq41:KQ Tryz.prog 41 (fun x=>AV.agg (GDot.row x)) GDot.eqb:=.struct su41 pk41 (fun _ _=>rfl) (fun a=>by simp [GDot.eqb])
theorem az3:aZeroM Tryz.prog 3=some ((AV.int .i64) (0:Int)):=by kernel_rfl
theorem fo87x0:Fo Tryz.prog 87 0 0 36 1:=mkFo (by kernel_rfl) (by kernel_rfl)
noncomputable def sf45:Array Field:=match Tryz.prog.underlying 45 with | some (.struct fs)=>fs | _=>#[]
theorem su45:Tryz.prog.underlying 45=some (.struct sf45):=by kernel_rfl
theorem pl45:placesL Tryz.prog sf45=some [(0,1),(1,1),(2,1),(3,3),(6,1),(7,1),(8,1)]:=by kernel_rfl
theorem pl41:placesL Tryz.prog sf41=some [(0,2),(2,1)]:=by kernel_rfl
theorem ty48:∃ d,Ty Tryz.prog 48 d 3∧yZ d=true:=⟨_,mkTy Tryz.underlying48 (by kernel_rfl),by kernel_rfl⟩
theorem ze48:vD Tryz.prog 48=some [.str [],.osl none 9 [],.osl none 3 []]:=by kernel_rfl
theorem ty107:Ty Tryz.prog 107 (.func #[56] #[4] false) 1:=mkTy Tryz.underlying107 (by kernel_rfl)
noncomputable def sf56:Array Field:=match Tryz.prog.underlying 56 with | some (.struct fs)=>fs | _=>#[]
theorem su56:Tryz.prog.underlying 56=some (.struct sf56):=by kernel_rfl
theorem ze56:vD Tryz.prog 56=some [.osl none 1 [],.int .u8 0,.int .i64 0,.int .u64 0,.int .u8 0,.int .u32 0,.int .u64 0,.str [],.osl none 5 [],.osl none 3 []]:=by kernel_rfl
theorem pl56:placesL Tryz.prog sf56=some [(0,1),(1,9)]:=by kernel_rfl
theorem ty56:∃ d,Ty Tryz.prog 56 d 10∧yZ d=true:=⟨_,mkTy Tryz.underlying56 (by kernel_rfl),by kernel_rfl⟩
theorem el53:El Tryz.prog 53 56 10:=mkEl Tryz.underlying53 (by kernel_rfl)
theorem ty53:Ty Tryz.prog 53 (.slice 56) 1:=mkTy Tryz.underlying53 (by kernel_rfl)
theorem fo56x0:Fo Tryz.prog 56 0 0 49 1:=mkFo (by kernel_rfl) (by kernel_rfl)
theorem fo56x1:Fo Tryz.prog 56 1 1 45 9:=mkFo (by kernel_rfl) (by kernel_rfl)
noncomputable def sf51:Array Field:=match Tryz.prog.underlying 51 with | some (.struct fs)=>fs | _=>#[]
theorem su51:Tryz.prog.underlying 51=some (.struct sf51):=by kernel_rfl
theorem pl51:placesL Tryz.prog sf51=some [(0,1),(1,1),(2,1),(3,1),(4,9),(13,9)]:=by kernel_rfl
theorem kq9:KQ Tryz.prog 9 AV.str (fun a b=>a==b):=.str ty9
theorem az51:aZeroM Tryz.prog 51=some ((fun x=>AV.agg (GEdit.row x)) (GEdit.mk ([]:List zH) (0:Int) false false (GLeaf.mk (0:Int) (0:Int) (0:Int) (GDot.mk (GActor.mk (0:Int) (0:Int)) (0:Int)) ([]:zH) ([]:List GItem) ([]:List GDot)) (GLeaf.mk (0:Int) (0:Int) (0:Int) (GDot.mk (GActor.mk (0:Int) (0:Int)) (0:Int)) ([]:zH) ([]:List GItem) ([]:List GDot)))):=by kernel_rfl
noncomputable def sf48:Array Field:=match Tryz.prog.underlying 48 with | some (.struct fs)=>fs | _=>#[]
theorem su48:Tryz.prog.underlying 48=some (.struct sf48):=by kernel_rfl
theorem pl48:placesL Tryz.prog sf48=some [(0,1),(1,1),(2,1)]:=by kernel_rfl
theorem ty119:Ty Tryz.prog 119 (.int .u64) 1:=mkTy Tryz.underlying119 (by kernel_rfl)
/-! varve/varveref07.size -/
theorem ok28N (n:Nat):∀ {t0:(List GNode)} {deep1:Int} {res:Int} {h:AH} , wh n t0 deep1=some res→Spec Tryz.prog 28 [.sl 3 (t0.map GNode.row),.int .i64 deep1] h (fun rr hh=>rr=.int .i64 res∧hh=h):=by
 induction n with
 | zero=>intro t0 deep1 res h  hF;simp [wh] at hF
 | succ n ih =>
  intro t0 deep1 res h  hF
  unfold wh at hF
  refine zt Tryz.func28 rfl (by kernel_rfl) (env:=[.sl 3 (t0.map GNode.row),.int .i64 deep1,za,za,za,za,za,za,za,za,za,za,za,za,za,za,za,za,za,za,za,za,za,za,za,za,za,za,za,za,za,za,za,za,za,za,za,za,za,za,za,za,za,za,za,za,za,za,za,za,za,za,za,za,za,za,za,za,za,za,za,za,za,za,za,za,za,za,za,za,za,za,za,za,za,za,za,za,za,za,za,za,za,za]) (by rfl) ?_
  refine zk (zd ?_)
  refine zc rfl (zi rfl rfl (zb rfl)) yz ?_
  refine ze (zj (zk (zd ?_)))
  refine zc rfl (zi rfl rfl (zb rfl)) xy ?_
  refine ze (zj (zk (zk (zd ?_))))
  refine zc rfl (zi rfl rfl (zb rfl)) xF ?_
  refine ze (zj (zQ ?_))
  refine r_loopWF (fun (s1:Int×Int)=>yO [2,3,4,7,8,9,10,11,12,13,14,15,16,17,18,19,20,21,22,23,24,25,26,27,28,29,30,31,32,33,34,35,36,37,38,39,40,41,42,43,44,45,46,47,48,49,50,51,52,53,54,55,56,57,58,59,60,61,62,63,64,65,66,67,68,69,70,71,72,73,74,75,76,77,78,79,80,81,82,83] [(5,.int .i64 s1.1),(6,.int .i64 s1.2)]) (fun s1=>h.ext [] []) hF (fun _=>by simp only [yO,upd,List.set_cons_succ,List.set_cons_zero];try rfl) (wk.le (by exact (.eq (.eq (.drop (.drop (.drop (.cons (leV.of_eq rfl) (.cons (leV.of_eq rfl) (.d16 (.d16 (.d16 (.d16 (.d4 (.d4 (.d4 (.drop leL.nil))))))))))))))))) ?_
  intro n1 s1 o1 hF hK1
  refine zk (zk (zd ?_))
  refine zc rfl (zf rfl yU (zb rfl)) yI ?_
  refine zc rfl (zf rfl yr (zb rfl)) yN ?_
  refine ya rfl (zR rfl rfl rfl rfl xn yA yb) yS fun hn66=>?_
  replace hn66:=xu hn66
  refine zc rfl (zy rfl yB yP rfl) yV ?_
  refine zc rfl (zf rfl yD (zb rfl)) y4 ?_
  refine zp rfl (fun hb=>zf rfl yE (zb rfl)) y8 ?_
  refine zp rfl (fun hb=>zy rfl (zn yT hb) rfl rfl) xg ?_
  refine zc rfl (zM rfl yX xf rfl (zX (fun ht=>gT ht))) xr ?_
  refine ze (zj ?_)
  refine zN xp hF (fun hc67 hF=>?_) (fun hc67 hF=>?_)
  ·refine zK (zj (zk (zQ (zk ?_))))
   refine yJ [16] [] trivial mixed (by kernel_rfl) ?_
   refine zq rfl rfl (zf rfl yM (zb rfl)) x4 ?_
   refine zq rfl rfl (zy rfl x5 rfl rfl) x9 ?_
   refine zq rfl rfl (zf rfl yr (zb rfl)) wl ?_
   refine zq rfl rfl (zf rfl yU (zb rfl)) x8 ?_
   refine zO hF (fun y68 hy68 hF=>?_)
   refine zq rfl rfl (xL rfl xn wi xX wZ hy68 (GNode.row_eq _)) we ?_
   refine zq rfl rfl (zg rfl fo48x0 wa rfl) wo ?_
   refine zq rfl rfl (yf rfl ty9 wm (zr rfl) (zb rfl)) wK ?_
   refine draw_len rfl rfl (vM rfl rfl rfl rfl ty9 wI) wR ?_
   refine zq rfl rfl (zy rfl x6 wV rfl) wQ ?_
   refine zq rfl rfl (zf rfl yr (zb rfl)) w9 ?_
   refine zq rfl rfl (zf rfl yU (zb rfl)) w8 ?_
   refine zO hF (fun y70 hy70 hF=>?_)
   refine zq rfl rfl (xL rfl xn vb vm wZ hy70 (GNode.row_eq _)) vh ?_
   refine zq rfl rfl (zg rfl fo48x2 vl rfl) vz ?_
   refine zq rfl rfl (yf rfl ty23 vk (zr rfl) (zb rfl)) vw ?_
   refine zq rfl rfl (zf rfl yE (zb rfl)) vu ?_
   refine zq rfl rfl (zy rfl vj rfl rfl) vt ?_
   refine zO hF (fun v71 hv71 hF=>?_)
   refine yw rfl rfl (fun _=>zC rfl rfl rfl (zo vC (zo vB zw)) (.cons (zb rfl) (.cons (zb rfl) .nil))) (by rintro _ ⟨B2,T2,rfl,hk2⟩;exact ih hv71) vg ?_
   refine zq rfl rfl (zy rfl wN va rfl) vr ?_
   refine zq rfl rfl (zi rfl vA (zb rfl)) xy ?_
   refine yo ?_
   refine zj (zk (zd ?_))
   refine zc rfl (zi rfl rfl (zb rfl)) xJ ?_
   refine ze (zj (zQ ?_))
   refine r_loopWF (fun (s2:Int×Int)=>yO [2,3,4,8,9,10,11,12,13,14,15,16,17,18,19,20,21,22,23,24,25,26,27,28,29,30,31,32,33,34,35,36,37,38,39,40,41,42,43,44,45,46,47,48,49,50,51,52,53,54,55,56,57,58,59,60,61,62,63,64,65,66,67,68,69,70,71,72,73,74,75,76,77,78,79,80,81,82,83] [(5,.int .i64 s2.1),(7,.int .i64 s2.2)]) (fun s2=>h.ext [] []) hF (fun _=>by simp only [yO,upd,List.set_cons_succ,List.set_cons_zero];try rfl) (wk.le (by exact (.eq (.eq (.drop (.drop (.drop (.cons (leV.of_eq rfl) (.eq (.cons (leV.of_eq rfl) (.d16 (.d16 (.d16 (.d16 (.d4 (.d4 (.d4 leL.nil))))))))))))))))) ?_
   intro n2 s2 o2 hF hK2
   refine zk (zk (zd ?_))
   refine zc rfl (zf rfl xC (zb rfl)) vK ?_
   refine zc rfl (zf rfl yr (zb rfl)) vJ ?_
   refine zc rfl (zf rfl yU (zb rfl)) (sk st0) ?_
   refine zO hF (fun y102 hy102 hF=>?_)
   refine zc rfl (xL rfl xn vG (gk yr) wZ hy102 (GNode.row_eq _)) (sk st1) ?_
   refine zc rfl (zg rfl xY (gk yE) rfl) (sk xe) ?_
   refine zc rfl (yf rfl ty46 (gk yW) (zr rfl) (zb rfl)) (sk wd) ?_
   refine ya rfl (zR rfl rfl rfl rfl wc (gk xw) yb) (sk yz) fun hn103=>?_
   replace hn103:=xu hn103
   refine zc rfl (zy rfl vO (gk ym) rfl) (sk xy) ?_
   refine ze (zj ?_)
   refine zN (gk yM) hF (fun hc104 hF=>?_) (fun hc104 hF=>?_)
   ·refine zK (zj (zk (zQ (zk (zd ?_)))))
    refine zc rfl (zf rfl yr (zb rfl)) (sk xP) ?_
    refine zc rfl (zf rfl yU (zb rfl)) (sk ww) ?_
    refine zO hF (fun y105 hy105 hF=>?_)
    refine zc rfl (xL rfl xn (gk xl) (gk xQ) wZ hy105 (GNode.row_eq _)) (sk yI) ?_
    refine zc rfl (zg rfl xY (gk yB) rfl) (sk yN) ?_
    refine zc rfl (yf rfl ty46 (gk yA) (zr rfl) (zb rfl)) (sk yS) ?_
    refine zc rfl (zf rfl xC (zb rfl)) (sk yV) ?_
    refine zO hF (fun y106 hy106 hF=>?_)
    refine zc rfl (yk rfl wc (gk yP) (gk yD) wZ hy106) (sk y4) ?_
    refine zc rfl (yf rfl ty45.choose_spec.1 (gk yX) (zI (cs':=[.int .u8 y106.typ,.int .i64 y106.n,.int .u64 y106.time,.int .u8 y106.dot.actor.rep,.int .u32 y106.dot.actor.inc,.int .u64 y106.dot.seq,.str y106.text,.sl 5 (y106.items.map GItem.row),.sl 3 (y106.tombs.map GDot.row)]) ty45.choose_spec.2 rfl rfl) (zb rfl)) (sk y8) ?_
    refine zc rfl (xc (n:=0) rfl ze45 rfl) xP ?_
    refine zc rfl (ye (cs':=[.int .u8 y106.typ,.int .i64 y106.n,.int .u64 y106.time,.int .u8 y106.dot.actor.rep,.int .u32 y106.dot.actor.inc,.int .u64 y106.dot.seq,.str y106.text,.sl 5 (y106.items.map GItem.row),.sl 3 (y106.tombs.map GDot.row)]) rfl ty45.choose_spec.1 xl (gk yT) (zb rfl) rfl rfl rfl rfl rfl) rfl ?_
    refine ze (zj (zk (zd ?_)))
    refine zc rfl (zf rfl yM (zb rfl)) (sk xg) ?_
    refine zc rfl (zy rfl (gk xf) rfl rfl) (sk xr) ?_
    refine zc rfl (zg rfl fo45x4 xl rfl) (sk xD) ?_
    refine zc rfl (zu rfl ty9 (gk xB) rfl (zr rfl) (zb rfl)) (sk xK) ?_
    refine ya rfl (vM rfl rfl rfl rfl ty9 (gk xI)) (sk x4) fun hn107=>?_
    replace hn107:=xu hn107
    refine zc rfl (zy rfl (gk xp) (gk x5) rfl) (sk x9) ?_
    refine zc rfl (zg rfl wj xl rfl) (sk wl) ?_
    refine zc rfl (zu rfl ty43 (gk wi) rfl (zr rfl) (zb rfl)) (sk x8) ?_
    refine ya rfl (zR rfl rfl rfl rfl el43 (gk xX) yb) (sk we) fun hn108=>?_
    replace hn108:=xu hn108
    refine zc rfl (zy rfl (gk x6) (gk wa) rfl) (sk wo) ?_
    refine zc rfl (zi rfl (gk wm) (zb rfl)) xy ?_
    refine ze (zj (zk (zd ?_)))
    refine zc rfl (zi rfl rfl (zb rfl)) ww ?_
    refine ze (zj (zQ ?_))
    refine yv (fun (n3:Nat) (s3:Int)=>yO [2,3,4,10,11,12,13,14,15,16,17,18,19,20,21,22,23,24,25,26,27,28,29,30,31,32,33,34,35,36,37,38,39,40,41,42,43,44,45,46,47,48,49,50,51,52,53,54,55,56,57,58,59,60,61,62,63,64,65,66,67,68,69,70,71,72,73,74,75,76,77,78,79,80,81,82,83] [(5,.int .i64 s3),(9,.int .i64 (n3:Int))]) (fun s3=>h.ext [.cells [.int .u8 y106.typ,.int .i64 y106.n,.int .u64 y106.time,.int .u8 y106.dot.actor.rep,.int .u32 y106.dot.actor.inc,.int .u64 y106.dot.seq,.str y106.text,.sl 5 (y106.items.map GItem.row),.sl 3 (y106.tombs.map GDot.row)]] []) hF (fun _ _=>by simp only [yO,upd,List.set_cons_succ,List.set_cons_zero];try rfl) (wk.le (by exact (.eq (.eq (.drop (.drop (.drop (.cons (leV.of_eq rfl) (.eq (.eq (.eq (.cons (leV.of_eq rfl) (.d16 (.d16 (.d16 (.d16 (.d4 (.d4 (.drop (.drop leL.nil)))))))))))))))))))) ?_
    intro n3 s3 hi3 hF
    refine zk (zk (zd ?_))
    refine zc rfl (zf rfl xQ (zb rfl)) (sk wK) ?_
    refine zc rfl (zg rfl xO xl rfl) (sk wR) ?_
    refine zc rfl (zu rfl qU (gk wV) rfl (zr rfl) (zb rfl)) (sk wQ) ?_
    refine ya rfl (zR rfl rfl rfl rfl vW (gk wN) yb) (sk w9) fun hn125=>?_
    replace hn125:=xu hn125
    refine zc rfl (zy rfl (gk wI) (gk vb) rfl) (sk w8) ?_
    refine ze (zj ?_)
    refine yK (gk vm) hF (fun x3 o3 hl3 hx3 hF hK3=>?_) (fun hF=>?_)
    ·refine zK (zj (zk (zQ (zd ?_))))
     refine zc rfl (zf rfl yM (zb rfl)) (sk vw) ?_
     refine zc rfl (zy rfl (gk vC) rfl rfl) (sk vu) ?_
     refine zc rfl (zg rfl xO xl rfl) (sk vt) ?_
     refine zc rfl (zu rfl qU (gk vB) rfl (zr rfl) (zb rfl)) (sk vg) ?_
     refine zc rfl (zf rfl xQ (zb rfl)) (sk vr) ?_
     refine zc rfl (yk rfl vW (gk va) (gk vA) wZ (yL hx3)) (sk vK) ?_
     refine zc rfl (zg rfl fo87x2 (gk vO) rfl) (sk vJ) ?_
     refine zc rfl (yf rfl ty9 (gk vG) (zr rfl) (zb rfl)) (sk (sk st0)) ?_
     refine ya rfl (vM rfl rfl rfl rfl ty9 (gk (gk yr))) (sk (sk st1)) fun hn126=>?_
     replace hn126:=xu hn126
     refine zc rfl (zy rfl (gk vj) (gk (gk yE)) rfl) (sk (sk xe)) ?_
     refine zc rfl (zi rfl (gk (gk yW)) (zb rfl)) xy ?_
     refine ze (yh (zj (zd ?_)))
     refine zc rfl (zf rfl xQ (zb rfl)) (sk vh) ?_
     refine zc rfl (zy rfl (gk vl) rfl rfl) (sk vz) ?_
     refine zc rfl (zi rfl (gk vk) (zb rfl)) ww ?_
     refine ze (yH ?_)
     obtain rfl:=Option.some.inj hF
     exact ⟨(IntKind.wrap .i64 ((IntKind.wrap .i64 (s3+(1:Int)))+((x3.text).length:Int))),hl3,hK3,wk.le (by exact (.eq (.eq (.drop (.drop (.drop (.cons (leV.of_eq rfl) (.eq (.eq (.eq (.cons (leV.of_eq (vf (by omega) (by omega))) (.d16 (.d16 (.d16 (.d16 (.d4 (.d4 (.drop (.drop leL.nil)))))))))))))))))))⟩
    ·refine yR ?_
     refine zZ ?_
     refine zU ?_
     refine zV ?_
     refine yh (zj (zd ?_))
     refine zc rfl (zf rfl xC (zb rfl)) (sk xF) ?_
     refine zc rfl (zy rfl (gk yU) rfl rfl) (sk xJ) ?_
     refine zc rfl (zi rfl (gk xC) (zb rfl)) xJ ?_
     refine ze (yH ?_)
     obtain rfl:=Option.some.inj hF
     exact ⟨(s3,(IntKind.wrap .i64 (s2.2+(1:Int)))),hK2,wk.trans (wk.le (by exact (.eq (.eq (.drop (.drop (.drop (.cons (leV.of_eq rfl) (.eq (.cons (leV.of_eq rfl) (.d16 (.d16 (.d16 (.d16 (.d4 (.d4 (.d4 leL.nil))))))))))))))))) (xN (by simp [yi,AV.low]) rfl rfl (by simp [Blk.low,yi,AV.low]))⟩
   ·refine yR ?_
    refine zZ ?_
    refine zU ?_
    obtain rfl:=Option.some.inj hF
    replace hF:=hK2
    refine zV ?_
    refine yh (zj (zd ?_))
    refine zc rfl (zf rfl yU (zb rfl)) xD ?_
    refine zc rfl (zy rfl xB rfl rfl) xK ?_
    refine zc rfl (zi rfl xI (zb rfl)) xF ?_
    refine ze (yH ?_)
    obtain rfl:=Option.some.inj hF
    exact ⟨(s2.1,(IntKind.wrap .i64 (s1.2+(1:Int)))),hK1,wk.le (by exact (.eq (.eq (.drop (.drop (.drop (.cons (leV.of_eq rfl) (.cons (leV.of_eq rfl) (.d16 (.d16 (.d16 (.d16 (.d4 (.d4 (.d4 (.drop leL.nil))))))))))))))))⟩
  ·refine yR ?_
   refine zZ ?_
   refine zU ?_
   obtain rfl:=Option.some.inj hF
   replace hF:=hK1
   refine zV ?_
   refine zj (zk (zd ?_))
   refine zc rfl (zf rfl yM (zb rfl)) (sk (sk wd)) ?_
   refine zc rfl (zi rfl (gk (gk xw)) (zb rfl)) yz ?_
   refine ze (zj (zJ ?_))
   obtain rfl:=Option.some.inj hF
   refine zz rfl (zD ym zF) (zA (leV.refl _) rfl ?_)
   exact ⟨rfl,rfl⟩
theorem ok28 {t0:(List GNode)} {deep1:Int} {res:Int} {h:AH}  (hF:ref07Xsize t0 deep1=some res):Spec Tryz.prog 28 [.sl 3 (t0.map GNode.row),.int .i64 deep1] h (fun rr hh=>rr=.int .i64 res∧hh=h):=by
 obtain ⟨n,hn⟩:=anyN_is hF
 exact ok28N n  hn
/-! varve/varveref07.Great -/
theorem ok12 {t0:(List GNode)} {res:Bool} {h:AH}  (hF:qG t0=some res):Spec Tryz.prog 12 [.sl 3 (t0.map GNode.row)] h (fun rr hh=>rr=.bool res∧hh=h):=by
 unfold qG at hF
 refine zt Tryz.func12 rfl (by kernel_rfl) (env:=[.sl 3 (t0.map GNode.row),za,za,za,za,za]) (by rfl) ?_
 refine zk (zd ?_)
 refine zc rfl (zi rfl rfl (zb rfl)) xe ?_
 refine ze (zj (zk (zd ?_)))
 refine zc rfl (zf rfl yr (zb rfl)) wd ?_
 refine zO hF (fun v1 hv1 hF=>?_)
 refine zL rfl (zC rfl rfl rfl (zo xw (zo rfl zw)) (.cons (zb rfl) (.cons (zb rfl) .nil))) (ok28 hv1) yz ?_
 refine zc rfl (zy rfl ym rfl rfl) xy ?_
 refine zc rfl (zi rfl yM (zb rfl)) xe ?_
 refine ze (zj (zJ ?_))
 obtain rfl:=Option.some.inj hF
 refine zz rfl (zD yW zF) (zA (leV.refl _) rfl ?_)
 exact ⟨rfl,rfl⟩
/-! varve/varveref31.Great -/
theorem ok13 {l0:(List GEdit)} {res:Bool} {h:AH}  (hF:ref31Great l0=some res):Spec Tryz.prog 13 [.sl 22 (l0.map GEdit.row)] h (fun rr hh=>rr=.bool res∧hh=h):=by
 unfold ref31Great at hF
 refine zt Tryz.func13 rfl (by kernel_rfl) (env:=[.sl 22 (l0.map GEdit.row),za,za,za,za,za,za,za,za,za,za,za,za,za,za,za,za,za,za,za,za,za,za,za,za,za,za,za,za,za,za,za,za,za,za,za,za,za,za,za,za,za,za,za,za,za,za,za,za,za,za,za,za,za,za,za,za,za,za,za,za]) (by rfl) ?_
 refine zk (zd ?_)
 refine zc rfl (zi rfl rfl (zb rfl)) xe ?_
 refine ze (zj (zk (zk (zd ?_))))
 refine zc rfl (zi rfl rfl (zb rfl)) wd ?_
 refine ze (zj (zQ ?_))
 refine yv (fun (n1:Nat) (s1:Unit)=>yO [1,2,4,5,6,7,8,9,10,11,12,13,14,15,16,17,18,19,20,21,22,23,24,25,26,27,28,29,30,31,32,33,34,35,36,37,38,39,40,41,42,43,44,45,46,47,48,49,50,51,52,53,54,55,56,57,58,59,60] [(3,.int .i64 (n1:Int))]) (fun s1=>h.ext [] []) hF (fun _ _=>by simp only [yO,upd,List.set_cons_succ,List.set_cons_zero];try rfl) (wk.le (by exact (.eq (.drop (.drop (.cons (leV.of_eq rfl) (.d16 (.d16 (.d16 (.d4 (.d4 (.drop leL.nil)))))))))))) ?_
 intro n1 s1 hi1 hF
 refine zk (zk (zd ?_))
 refine zc rfl (zf rfl xw (zb rfl)) xF ?_
 refine zc rfl (zf rfl yr (zb rfl)) xJ ?_
 refine ya rfl (zR rfl rfl rfl rfl el26 xC yb) xP fun hn45=>?_
 replace hn45:=xu hn45
 refine zc rfl (zy rfl yU xl rfl) ww ?_
 refine ze (zj ?_)
 refine yK xQ hF (fun x1 o1 hl1 hx1 hF hK1=>?_) (fun hF=>?_)
 ·refine zK (zj (zk (zQ (zk (zd ?_)))))
  refine zc rfl (zf rfl yr (zb rfl)) yS ?_
  refine zc rfl (zf rfl xw (zb rfl)) yV ?_
  refine zc rfl (yk rfl el26 yP yD wZ (yL hx1)) y4 ?_
  refine zc rfl (yf rfl ty51.choose_spec.1 yX (zI (cs':=[.sl 1 (x1.path.map zP),.int .u8 x1.typ,.bool x1.had,.bool x1.has,.int .u8 x1.was.typ,.int .i64 x1.was.n,.int .u64 x1.was.time,.int .u8 x1.was.dot.actor.rep,.int .u32 x1.was.dot.actor.inc,.int .u64 x1.was.dot.seq,.str x1.was.text,.sl 5 (x1.was.items.map GItem.row),.sl 3 (x1.was.tombs.map GDot.row),.int .u8 x1.is.typ,.int .i64 x1.is.n,.int .u64 x1.is.time,.int .u8 x1.is.dot.actor.rep,.int .u32 x1.is.dot.actor.inc,.int .u64 x1.is.dot.seq,.str x1.is.text,.sl 5 (x1.is.items.map GItem.row),.sl 3 (x1.is.tombs.map GDot.row)]) ty51.choose_spec.2 rfl rfl) (zb rfl)) y8 ?_
  refine zc rfl (xc (n:=0) rfl ze51 rfl) yz ?_
  refine zc rfl (ye (cs':=[.sl 1 (x1.path.map zP),.int .u8 x1.typ,.bool x1.had,.bool x1.has,.int .u8 x1.was.typ,.int .i64 x1.was.n,.int .u64 x1.was.time,.int .u8 x1.was.dot.actor.rep,.int .u32 x1.was.dot.actor.inc,.int .u64 x1.was.dot.seq,.str x1.was.text,.sl 5 (x1.was.items.map GItem.row),.sl 3 (x1.was.tombs.map GDot.row),.int .u8 x1.is.typ,.int .i64 x1.is.n,.int .u64 x1.is.time,.int .u8 x1.is.dot.actor.rep,.int .u32 x1.is.dot.actor.inc,.int .u64 x1.is.dot.seq,.str x1.is.text,.sl 5 (x1.is.items.map GItem.row),.sl 3 (x1.is.tombs.map GDot.row)]) rfl ty51.choose_spec.1 ym yT (zb rfl) rfl rfl rfl rfl rfl) rfl ?_
  refine ze (zj (zk (zk (zd ?_))))
  refine zc rfl (zg rfl fo51x0 ym rfl) xg ?_
  refine zc rfl (zu rfl ty49 xf rfl (zr rfl) (zb rfl)) xr ?_
  refine ya rfl (zR rfl rfl rfl rfl wA xp yb) xD fun hn46=>?_
  replace hn46:=xu hn46
  refine zc rfl (zy rfl xB rfl rfl) xK ?_
  refine zc rfl (zf rfl xI (zb rfl)) x4 ?_
  refine zp rfl (fun hb=>zg rfl fo51x4 ym rfl) x9 ?_
  refine zp rfl (fun hb=>zg rfl xO (zn x6 hb) rfl) wl ?_
  refine zp rfl (fun hb=>zu rfl qU (zn wi hb) rfl (zr rfl) (zb rfl)) x8 ?_
  refine xA rfl (fun hb=>zR rfl rfl rfl rfl vW (zn xX hb) yb) we fun hn47=>?_
  refine zp rfl (fun hb=>zg rfl fo51x5 ym rfl) wo ?_
  refine zp rfl (fun hb=>zg rfl xO (zn wm hb) rfl) wK ?_
  refine zp rfl (fun hb=>zu rfl qU (zn wI hb) rfl (zr rfl) (zb rfl)) wR ?_
  refine xA rfl (fun hb=>zR rfl rfl rfl rfl vW (zn wV hb) yb) wQ fun hn48=>?_
  refine zp rfl (fun hb=>zy rfl (zn wa hb) (zn wN hb) rfl) w9 ?_
  refine zp rfl (fun hb=>zy rfl (zn vb hb) rfl rfl) w8 ?_
  refine zc rfl (zM rfl x5 rfl vm (z8 (fun ht=>gF ht))) vh ?_
  refine zc rfl (zf rfl vl (zb rfl)) vz ?_
  refine zp rfl (fun hb=>zg rfl fo51x4 ym rfl) vw ?_
  refine zp rfl (fun hb=>zg rfl wj (zn vC hb) rfl) vu ?_
  refine zp rfl (fun hb=>zu rfl ty43 (zn vj hb) rfl (zr rfl) (zb rfl)) vt ?_
  refine xA rfl (fun hb=>zR rfl rfl rfl rfl el43 (zn vB hb) yb) vg fun hn49=>?_
  refine zp rfl (fun hb=>zg rfl fo51x5 ym rfl) vr ?_
  refine zp rfl (fun hb=>zg rfl wj (zn vA hb) rfl) vK ?_
  refine zp rfl (fun hb=>zu rfl ty43 (zn vO hb) rfl (zr rfl) (zb rfl)) vJ ?_
  refine xA rfl (fun hb=>zR rfl rfl rfl rfl el43 (zn vG hb) yb) (sk st0) fun hn50=>?_
  refine zp rfl (fun hb=>zy rfl (zn va hb) (zn (gk yr) hb) rfl) (sk st1) ?_
  refine zp rfl (fun hb=>zy rfl (zn (gk yE) hb) rfl rfl) (sk xe) ?_
  refine zc rfl (zM rfl vk rfl (gk yW) (z8 (fun ht=>gF ht))) (sk wd) ?_
  refine ze (zj ?_)
  refine zN (gk xw) hF (fun hc51 hF=>?_) (fun hc51 hF=>?_)
  ·refine zk (zd ?_)
   refine zc rfl (zi rfl rfl (zb rfl)) xe ?_
   refine ze (zj (zJ (zx ?_)))
   refine zG ?_
   refine zx ?_
   refine yd ?_
   obtain rfl:=Option.some.inj hF
   replace hF:=hK1
   refine zG ?_
   refine zx ?_
   obtain rfl:=Option.some.inj hF
   refine zz rfl (zD yW zF) (zA (leV.refl _) rfl ?_)
   exact ⟨rfl,rfl⟩
  ·refine zK (zj (zk (zd ?_)))
   refine zc rfl (zi rfl rfl (zb rfl)) xy ?_
   refine ze (zj (zQ ?_))
   refine yv (fun (n2:Nat) (s2:Unit)=>yO [1,2,6,7,8,9,10,11,12,13,14,15,16,17,18,19,20,21,22,23,24,25,26,27,28,29,30,31,32,33,34,35,36,37,38,39,40,41,42,43,44,45,46,47,48,49,50,51,52,53,54,55,56,57,58,59,60] [(5,.int .i64 (n2:Int))]) (fun s2=>h.ext [.cells [.sl 1 (x1.path.map zP),.int .u8 x1.typ,.bool x1.had,.bool x1.has,.int .u8 x1.was.typ,.int .i64 x1.was.n,.int .u64 x1.was.time,.int .u8 x1.was.dot.actor.rep,.int .u32 x1.was.dot.actor.inc,.int .u64 x1.was.dot.seq,.str x1.was.text,.sl 5 (x1.was.items.map GItem.row),.sl 3 (x1.was.tombs.map GDot.row),.int .u8 x1.is.typ,.int .i64 x1.is.n,.int .u64 x1.is.time,.int .u8 x1.is.dot.actor.rep,.int .u32 x1.is.dot.actor.inc,.int .u64 x1.is.dot.seq,.str x1.is.text,.sl 5 (x1.is.items.map GItem.row),.sl 3 (x1.is.tombs.map GDot.row)]] []) hF (fun _ _=>by simp only [yO,upd,List.set_cons_succ,List.set_cons_zero];try rfl) (wk.le (by exact (.eq (.drop (.drop (.eq (.eq (.cons (leV.of_eq rfl) (.d16 (.d16 (.d16 (.d4 (.drop (.drop (.drop leL.nil))))))))))))))) ?_
   intro n2 s2 hi2 hF
   refine zk (zk (zd ?_))
   refine zc rfl (zf rfl yM (zb rfl)) (sk yz) ?_
   refine zc rfl (zg rfl fo51x0 ym rfl) (sk xy) ?_
   refine zc rfl (zu rfl ty49 (gk yM) rfl (zr rfl) (zb rfl)) (sk xF) ?_
   refine ya rfl (zR rfl rfl rfl rfl wA (gk yU) yb) (sk xJ) fun hn81=>?_
   replace hn81:=xu hn81
   refine zc rfl (zy rfl (gk ym) (gk xC) rfl) (sk xP) ?_
   refine ze (zj ?_)
   refine yK (gk xl) hF (fun x2 o2 hl2 hx2 hF hK2=>?_) (fun hF=>?_)
   ·refine zK (zj (zk (zQ (zk (zd ?_)))))
    refine zc rfl (zg rfl fo51x0 ym rfl) (sk yN) ?_
    refine zc rfl (zu rfl ty49 (gk yA) rfl (zr rfl) (zb rfl)) (sk yS) ?_
    refine zc rfl (zf rfl yM (zb rfl)) (sk yV) ?_
    refine zc rfl (yk rfl wA (gk yP) (gk yD) wZ (yL hx2)) (sk y4) ?_
    refine zc rfl (yf rfl ty9 (gk yX) (zr rfl) (zb rfl)) (sk y8) ?_
    refine ya rfl (vM rfl rfl rfl rfl ty9 (gk yT)) (sk xg) fun hn82=>?_
    replace hn82:=xu hn82
    refine zc rfl (zy rfl (gk xf) rfl rfl) (sk xr) ?_
    refine ze (zj ?_)
    refine zN (gk xp) hF (fun hc83 hF=>?_) (fun hc83 hF=>?_)
    ·refine zk (zd ?_)
     refine zc rfl (zi rfl rfl (zb rfl)) xe ?_
     refine ze (zj (zJ ?_))
     refine zG ?_
     refine zx ?_
     refine yd ?_
     obtain rfl:=Option.some.inj hF
     replace hF:=hK2
     refine zG ?_
     refine zG ?_
     refine zx ?_
     refine yd ?_
     obtain rfl:=Option.some.inj hF
     replace hF:=hK1
     refine zG ?_
     refine zx ?_
     obtain rfl:=Option.some.inj hF
     refine zz rfl (zD yW zF) (zA (leV.refl _) rfl ?_)
     exact ⟨rfl,rfl⟩
    ·refine zK (yh (zj (zd ?_)))
     refine zc rfl (zf rfl yM (zb rfl)) (sk ww) ?_
     refine zc rfl (zy rfl (gk xQ) rfl rfl) (sk yI) ?_
     refine zc rfl (zi rfl (gk yB) (zb rfl)) xy ?_
     refine ze (yH ?_)
     obtain rfl:=Option.some.inj hF
     exact ⟨(),hl2,hK2,wk.le (by exact (.eq (.drop (.drop (.eq (.eq (.cons (leV.of_eq (vf (by omega) (by omega))) (.d16 (.d16 (.d16 (.d4 (.drop (.drop (.drop leL.nil))))))))))))))⟩
   ·refine yR ?_
    refine zZ ?_
    refine zU ?_
    refine zV ?_
    refine yh (zj (zd ?_))
    refine zc rfl (zf rfl xw (zb rfl)) yI ?_
    refine zc rfl (zy rfl yB rfl rfl) yN ?_
    refine zc rfl (zi rfl yA (zb rfl)) wd ?_
    refine ze (yH ?_)
    obtain rfl:=Option.some.inj hF
    exact ⟨(),hl1,hK1,wk.trans (wk.le (by exact (.eq (.drop (.drop (.cons (leV.of_eq (vf (by omega) (by omega))) (.d16 (.d16 (.d16 (.d4 (.d4 (.drop leL.nil)))))))))))) (xN (by simp [yi,AV.low]) rfl rfl (by simp [Blk.low,yi,AV.low]))⟩
 ·refine yR ?_
  refine zZ ?_
  refine zU ?_
  refine zV ?_
  refine zj (zk (zd ?_))
  refine zc rfl (zf rfl yr (zb rfl)) (sk xD) ?_
  refine ya rfl (zR rfl rfl rfl rfl el26 (gk xB) yb) (sk xK) fun hn84=>?_
  replace hn84:=xu hn84
  refine zc rfl (zy rfl (gk xI) rfl rfl) (sk x4) ?_
  refine zc rfl (zi rfl (gk x5) (zb rfl)) xe ?_
  refine ze (zj (zJ ?_))
  obtain rfl:=Option.some.inj hF
  refine zz rfl (zD yW zF) (zA (leV.refl _) rfl ?_)
  exact ⟨rfl,rfl⟩
/-! varve/varvelaw31.great -/
theorem ok4 {a0:(List GNode)} {b1:(List GNode)} {c2:(List GNode)} {l3:(List GEdit)} {m4:(List GEdit)} {res:Bool} {h:AH}  (hF:law31Xgreat a0 b1 c2 l3 m4=some res):Spec Tryz.prog 4 [.sl 3 (a0.map GNode.row),.sl 3 (b1.map GNode.row),.sl 3 (c2.map GNode.row),.sl 22 (l3.map GEdit.row),.sl 22 (m4.map GEdit.row)] h (fun rr hh=>rr=.bool res∧hh=h):=by
 unfold law31Xgreat at hF
 refine zt Tryz.func4 rfl (by kernel_rfl) (env:=[.sl 3 (a0.map GNode.row),.sl 3 (b1.map GNode.row),.sl 3 (c2.map GNode.row),.sl 22 (l3.map GEdit.row),.sl 22 (m4.map GEdit.row),za,za,za,za,za,za,za,za,za,za,za,za,za,za,za,za,za,za,za,za,za,za,za,za]) (by rfl) ?_
 refine zk (zd ?_)
 refine zc rfl (zi rfl rfl (zb rfl)) yI ?_
 refine ze (zj (zk (zd ?_)))
 refine zc rfl (zf rfl yr (zb rfl)) yN ?_
 refine zO hF (fun v1 hv1 hF=>?_)
 refine zL rfl (zC rfl rfl rfl (zo yA zw) (.cons (zb rfl) .nil)) (ok12 hv1) yS ?_
 refine zc rfl (zf rfl yP (zb rfl)) yV ?_
 refine zp rfl (fun hb=>zf rfl yE (zb rfl)) y4 ?_
 refine yQ hF (fun v2 hv2 hF=>?_)
 refine yj rfl (fun hb=>zC rfl rfl rfl (zo (zn yX hb) zw) (.cons (zb rfl) .nil)) (fun hb=>ok12 (hv2 hb)) y8 ?_
 refine zc rfl (zM rfl yD rfl yT (z8 (fun ht=>gF ht))) xg ?_
 refine zc rfl (zf rfl xf (zb rfl)) xr ?_
 refine zp rfl (fun hb=>zf rfl yW (zb rfl)) xD ?_
 refine yQ hF (fun v3 hv3 hF=>?_)
 refine yj rfl (fun hb=>zC rfl rfl rfl (zo (zn xB hb) zw) (.cons (zb rfl) .nil)) (fun hb=>ok12 (hv3 hb)) xK ?_
 refine zc rfl (zM rfl xp rfl xI (z8 (fun ht=>gF ht))) x4 ?_
 refine zc rfl (zf rfl x5 (zb rfl)) x9 ?_
 refine zp rfl (fun hb=>zf rfl xw (zb rfl)) wl ?_
 refine yQ hF (fun v4 hv4 hF=>?_)
 refine yj rfl (fun hb=>zC rfl rfl rfl (zo (zn wi hb) zw) (.cons (zb rfl) .nil)) (fun hb=>ok13 (hv4 hb)) x8 ?_
 refine zc rfl (zM rfl x6 rfl xX (z8 (fun ht=>gF ht))) we ?_
 refine zc rfl (zf rfl wa (zb rfl)) wo ?_
 refine zp rfl (fun hb=>zf rfl ym (zb rfl)) wK ?_
 refine yQ hF (fun v5 hv5 hF=>?_)
 refine yj rfl (fun hb=>zC rfl rfl rfl (zo (zn wI hb) zw) (.cons (zb rfl) .nil)) (fun hb=>ok13 (hv5 hb)) wR ?_
 refine zc rfl (zM rfl wm rfl wV (z8 (fun ht=>gF ht))) wQ ?_
 refine zc rfl (zi rfl wN (zb rfl)) yI ?_
 refine ze (zj (zJ ?_))
 obtain rfl:=Option.some.inj hF
 refine zz rfl (zD yB zF) (zA (leV.refl _) rfl ?_)
 exact ⟨rfl,rfl⟩
/-! strings.Join -/
def joinTryzRen:Go.Shelf.Ren :=
  { f:=fun x=>match x with
      | 156=>32
      | 165=>69
      | 166=>70
      | 169=>71
      | 240=>95
      | 241=>96
      | 276=>124
      | 277=>125
      | n=>n
    t:=fun x=>match x with
      | 0=>0
      | 3=>3
      | 4=>4
      | 9=>9
      | 20=>20
      | 31=>49
      | 37=>75
      | 70=>108
      | 72=>110
      | 75=>113
      | 76=>114
      | 127=>137
      | 164=>157
      | 5=>5
      | 80=>116
      | n=>n
    g:=fun n=>n }
theorem joinTryzLays:Go.Proofs.Lays.n156 Tryz.prog joinTryzRen where
  mixed:=mixed
  f156:=Tryz.func32.trans (by kernel_rfl)
  f165:=Tryz.func69.trans (by kernel_rfl)
  f166:=Tryz.func70.trans (by kernel_rfl)
  f169:=Tryz.func71.trans (by kernel_rfl)
  f240:=Tryz.func95.trans (by kernel_rfl)
  f241:=Tryz.func96.trans (by kernel_rfl)
  f276:=Tryz.func124.trans (by kernel_rfl)
  f277:=Tryz.func125.trans (by kernel_rfl)
  t0:=Tryz.underlying0
  a0:=Tryz.isAgg0
  z0:=Tryz.sizeOf0
  v0:=Tryz.zeroValue0
  t3:=Tryz.underlying3
  a3:=Tryz.isAgg3
  z3:=Tryz.sizeOf3
  v3:=Tryz.zeroValue3
  t4:=Tryz.underlying4
  a4:=Tryz.isAgg4
  z4:=Tryz.sizeOf4
  v4:=Tryz.zeroValue4
  t9:=Tryz.underlying9
  a9:=Tryz.isAgg9
  z9:=Tryz.sizeOf9
  v9:=Tryz.zeroValue9
  t20:=Tryz.underlying20
  a20:=Tryz.isAgg20
  z20:=Tryz.sizeOf20
  v20:=Tryz.zeroValue20
  t31:=Tryz.underlying49
  a31:=Tryz.isAgg49
  z31:=Tryz.sizeOf49
  v31:=Tryz.zeroValue49
  t37:=Tryz.underlying75
  a37:=Tryz.isAgg75
  z37:=Tryz.sizeOf75
  v37:=Tryz.zeroValue75
  t70:=Tryz.underlying108
  a70:=Tryz.isAgg108
  z70:=Tryz.sizeOf108
  v70:=Tryz.zeroValue108
  t72:=Tryz.underlying110
  a72:=Tryz.isAgg110
  z72:=Tryz.sizeOf110
  v72:=Tryz.zeroValue110
  t75:=Tryz.underlying113
  a75:=Tryz.isAgg113
  z75:=Tryz.sizeOf113
  v75:=Tryz.zeroValue113
  t76:=Tryz.underlying114
  a76:=Tryz.isAgg114
  z76:=Tryz.sizeOf114
  v76:=Tryz.zeroValue114
  t127:=Tryz.underlying137
  a127:=Tryz.isAgg137
  z127:=Tryz.sizeOf137
  v127:=Tryz.zeroValue137
  t164:=Tryz.underlying157
  a164:=Tryz.isAgg157
  z164:=Tryz.sizeOf157
  v164:=Tryz.zeroValue157
theorem joinTryzExtra:Go.Proofs.Builder.Extra Tryz.prog joinTryzRen where
  sizeBuilder:=by kernel_rfl
  liesBuilder:=by kernel_rfl
  t5:=Tryz.underlying5
  a5:=Tryz.isAgg5
  z5:=Tryz.sizeOf5
  v5:=Tryz.zeroValue5
  infoByte:=by kernel_rfl
  cellsByte:=by kernel_rfl
  sizeByte:=by kernel_rfl
  neB5:=by decide
theorem ok32 {p0:List zH} {p1:zH} {res:zH} {h:AH} (hF:stringsJoin p0 p1=some res):Spec Tryz.prog 32 [.sl 1 (p0.map zP),.str p1] h (fun rr hh=>rr=.str res∧hh=h) :=
 spec_join joinTryzLays joinTryzExtra hF
/-! varve/diff.key -/
theorem ok16 {path0:(List zH)} {kind1:Int} {res:zH} {h:AH}  (hF:qB path0 kind1=some res):Spec Tryz.prog 16 [.sl 1 (path0.map zP),.int .u8 kind1] h (fun rr hh=>rr=.str res∧hh=h):=by
 unfold qB at hF
 refine zt Tryz.func16 rfl (by kernel_rfl) (env:=[.sl 1 (path0.map zP),.int .u8 kind1,za,za,za,za,za,za,za,za,za,za]) (by rfl) ?_
 refine zk (zd ?_)
 refine zc rfl (zi rfl rfl (zb rfl)) yz ?_
 refine ze (zj (zk ?_))
 refine yJ [1] [] trivial mixed (by kernel_rfl) ?_
 refine zq rfl rfl (zf rfl yr (zb rfl)) xy ?_
 refine zO hF (fun v1 hv1 hF=>?_)
 refine yw rfl rfl (fun _=>zC rfl rfl rfl (zo yM (zo rfl zw)) (.cons (zb rfl) (.cons (zb rfl) .nil))) (by rintro _ ⟨B2,T2,rfl,hk2⟩;exact ok32 hv1) xF ?_
 refine wC hF (fun hm2 hF=>?_)
 refine zq rfl rfl (zy rfl yU rfl (if_pos hm2)) xJ ?_
 refine zq rfl rfl (zf rfl yE (zb rfl)) xP ?_
 refine wC hF (fun hm3 hF=>?_)
 refine zq rfl rfl (yu (es:=([(UInt8.ofNat kind1.toNat)]:List UInt8).map byteRow) rfl el75 ze5 rfl rfl (yg xl yl) (.cons (zb rfl) .nil) rfl rfl (by simp only [List.map_cons,List.map_nil,byteRow,byte_of hm3];rfl)) ww ?_
 refine wC hF (fun hm4 hF=>?_)
 refine draw_b rfl rfl rfl (convB rfl el75.u ty5.u ty9.u xQ (.inr ⟨_,zb rfl⟩) hm4) yI ?_
 refine wC hF (fun hm5 hF=>?_)
 refine zq rfl rfl (zy rfl xC yB (if_pos hm5)) yN ?_
 refine zq rfl rfl (zi rfl yA (zb rfl)) yz ?_
 refine yo ?_
 refine zj (zJ ?_)
 obtain rfl:=Option.some.inj hF
 refine zz rfl (zD ym zF) (zA (leV.refl _) rfl ?_)
 exact ⟨rfl,rfl⟩
/-! slices.SortFunc[[]varve/api.Edit,varve/api.Edit] -/
def sort33TryzRen:Go.Shelf.Ren :=
  { f:=fun x=>match x with
      | 6=>33
      | 15=>73
      | 14=>72
      | 28=>105
      | 29=>106
      | 20=>97
      | 21=>98
      | 22=>99
      | 23=>100
      | 24=>101
      | 25=>102
      | 26=>103
      | 27=>104
      | 46=>126
      | 47=>127
      | 48=>128
      | 49=>129
      | 50=>130
      | 57=>140
      | n=>n
    t:=fun x=>match x with
      | 22=>26
      | 24=>51
      | 25=>68
      | 3=>3
      | 39=>119
      | 0=>0
      | 53=>37
      | 55=>36
      | 4=>4
      | 46=>140
      | 45=>139
      | 50=>91
      | 5=>5
      | 9=>9
      | 66=>160
      | 70=>164
      | 76=>175
      | 77=>176
      | n=>n
    g:=fun n=>n }
theorem sort33TryzLays:Go.Proofs.SlLaysF0.n6 Tryz.prog sort33TryzRen where
  mixed:=mixed
  f6:=⟨Tryz.f33.name,by kernel_rfl,Tryz.func33.trans (by kernel_rfl)⟩
  f15:=Tryz.func73.trans (by kernel_rfl)
  f14:=⟨Tryz.f72.name,by kernel_rfl,Tryz.func72.trans (by kernel_rfl)⟩
  f28:=Tryz.func105.trans (by kernel_rfl)
  f29:=Tryz.func106.trans (by kernel_rfl)
  f20:=⟨Tryz.f97.name,by kernel_rfl,Tryz.func97.trans (by kernel_rfl)⟩
  f21:=⟨Tryz.f98.name,by kernel_rfl,Tryz.func98.trans (by kernel_rfl)⟩
  f22:=⟨Tryz.f99.name,by kernel_rfl,Tryz.func99.trans (by kernel_rfl)⟩
  f23:=⟨Tryz.f100.name,by kernel_rfl,Tryz.func100.trans (by kernel_rfl)⟩
  f24:=⟨Tryz.f101.name,by kernel_rfl,Tryz.func101.trans (by kernel_rfl)⟩
  f25:=⟨Tryz.f102.name,by kernel_rfl,Tryz.func102.trans (by kernel_rfl)⟩
  f26:=⟨Tryz.f103.name,by kernel_rfl,Tryz.func103.trans (by kernel_rfl)⟩
  f27:=⟨Tryz.f104.name,by kernel_rfl,Tryz.func104.trans (by kernel_rfl)⟩
  f46:=⟨Tryz.f126.name,by kernel_rfl,Tryz.func126.trans (by kernel_rfl)⟩
  f47:=Tryz.func127.trans (by kernel_rfl)
  f48:=Tryz.func128.trans (by kernel_rfl)
  f49:=⟨Tryz.f129.name,by kernel_rfl,Tryz.func129.trans (by kernel_rfl)⟩
  f50:=⟨Tryz.f130.name,by kernel_rfl,Tryz.func130.trans (by kernel_rfl)⟩
  f57:=⟨Tryz.f140.name,by kernel_rfl,Tryz.func140.trans (by kernel_rfl)⟩
  t0:=Tryz.underlying0
  a0:=Tryz.isAgg0
  z0:=Tryz.sizeOf0
  v0:=Tryz.zeroValue0
  t3:=Tryz.underlying3
  a3:=Tryz.isAgg3
  z3:=Tryz.sizeOf3
  v3:=Tryz.zeroValue3
  t4:=Tryz.underlying4
  a4:=Tryz.isAgg4
  z4:=Tryz.sizeOf4
  v4:=Tryz.zeroValue4
  t5:=Tryz.underlying5
  a5:=Tryz.isAgg5
  z5:=Tryz.sizeOf5
  v5:=Tryz.zeroValue5
  t9:=Tryz.underlying9
  a9:=Tryz.isAgg9
  z9:=Tryz.sizeOf9
  v9:=Tryz.zeroValue9
  t22:=Tryz.underlying26
  a22:=Tryz.isAgg26
  z22:=Tryz.sizeOf26
  v22:=Tryz.zeroValue26
  t25:=Tryz.underlying68
  a25:=Tryz.isAgg68
  z25:=Tryz.sizeOf68
  v25:=Tryz.zeroValue68
  t39:=Tryz.underlying119
  a39:=Tryz.isAgg119
  z39:=Tryz.sizeOf119
  v39:=Tryz.zeroValue119
  t45:=Tryz.underlying139
  a45:=Tryz.isAgg139
  z45:=Tryz.sizeOf139
  v45:=Tryz.zeroValue139
  t46:=Tryz.underlying140
  a46:=Tryz.isAgg140
  z46:=Tryz.sizeOf140
  v46:=Tryz.zeroValue140
  t50:=Tryz.underlying91
  a50:=Tryz.isAgg91
  z50:=Tryz.sizeOf91
  v50:=Tryz.zeroValue91
  t53:=Tryz.underlying37
  a53:=Tryz.isAgg37
  z53:=Tryz.sizeOf37
  v53:=Tryz.zeroValue37
  t55:=Tryz.underlying36
  a55:=Tryz.isAgg36
  z55:=Tryz.sizeOf36
  v55:=Tryz.zeroValue36
  t66:=Tryz.underlying160
  a66:=Tryz.isAgg160
  z66:=Tryz.sizeOf160
  v66:=Tryz.zeroValue160
  t70:=Tryz.underlying164
  a70:=Tryz.isAgg164
  z70:=Tryz.sizeOf164
  v70:=Tryz.zeroValue164
  t76:=Tryz.underlying175
  a76:=Tryz.isAgg175
  z76:=Tryz.sizeOf175
  v76:=Tryz.zeroValue175
  t77:=Tryz.underlying176
  a77:=Tryz.isAgg176
  z77:=Tryz.sizeOf176
  v77:=Tryz.zeroValue176
/-! cmp.Or[int] -/
theorem ok64 {vals0:(List Int)} {res:Int} {h:AH}  (hF:cmpOrInt vals0=some res):Spec Tryz.prog 64 [.sl 1 (vals0.map (intRow .i64))] h (fun rr hh=>rr=.int .i64 res∧hh=h):=by
 unfold cmpOrInt at hF
 refine zt Tryz.func64 rfl (by kernel_rfl) (env:=[.sl 1 (vals0.map (intRow .i64)),za,za,za,za,za,za,za,za,za,za,za,za,za,za,za,za,za]) (by rfl) ?_
 refine zk (zd ?_)
 refine zc rfl (zi rfl rfl (zb rfl)) xe ?_
 refine ze (zj (zk (zd ?_)))
 refine zc rfl (zi rfl rfl (zb rfl)) wd ?_
 refine ze (zj (zk (zk (zd ?_))))
 refine zc rfl (zf rfl yr (zb rfl)) xF ?_
 refine ya rfl (zR rfl rfl rfl rfl el136 yU yb) xJ fun hn1=>?_
 replace hn1:=xu hn1
 refine zc rfl (zf rfl rfl (zb rfl)) xP ?_
 refine ze (zj (zQ ?_))
 refine yv (fun (n1:Nat) (s1:Unit)=>yO [0,1,2,4,5,9,10,11,12,13,14,15,16,17] [(8,.int .i64 (n1:Int))]) (fun s1=>h.ext [] []) hF (fun _ _=>by simp only [yO,upd,List.set_cons_succ,List.set_cons_zero];try rfl) (wk.le (by exact (.drop (.drop (.drop (.eq (.drop (.drop (.eq (.eq (.cons (leV.of_eq rfl) (.d4 (.d4 (.drop leL.nil)))))))))))))) ?_
 intro n1 s1 hi1 hF
 refine zk (zd ?_)
 refine zc rfl (zy rfl xl xC rfl) ww ?_
 refine ze (zj (zk ?_))
 refine yK xQ hF (fun x1 o1 hl1 hx1 hF hK1=>?_) (fun hF=>?_)
 ·refine zK (zj (zk (zQ (zk (zd ?_)))))
  refine zc rfl (yk rfl el136 yU xl wZ (yL hx1)) yI ?_
  refine zc rfl (yf rfl ty3 yB (zr rfl) (zb rfl)) yN ?_
  refine zc rfl (zi rfl yA (zb rfl)) xy ?_
  refine ze (zj (zk (zd ?_)))
  refine zc rfl (zf rfl yM (zb rfl)) yS ?_
  refine zc rfl (zf rfl xw (zb rfl)) yV ?_
  refine zc rfl (zy rfl yP yD rfl) y4 ?_
  refine ze (zj ?_)
  refine zN yX hF (fun hc6 hF=>?_) (fun hc6 hF=>?_)
  ·refine zk (zd ?_)
   refine zc rfl (zf rfl yM (zb rfl)) y8 ?_
   refine zc rfl (zi rfl yT (zb rfl)) xe ?_
   refine ze (zj (zJ ?_))
   refine zG ?_
   refine zx ?_
   refine yd ?_
   obtain rfl:=Option.some.inj hF
   replace hF:=hK1
   refine zG ?_
   refine zx ?_
   obtain rfl:=Option.some.inj hF
   refine zz rfl (zD yW zF) (zA (leV.refl _) rfl ?_)
   exact ⟨rfl,rfl⟩
  ·refine zK (yh (zj (zd ?_)))
   refine zc rfl (zy rfl xl rfl rfl) xg ?_
   refine zc rfl (zf rfl xf (zb rfl)) xP ?_
   refine ze (yH ?_)
   obtain rfl:=Option.some.inj hF
   exact ⟨(),hl1,hK1,wk.le (by exact (.drop (.drop (.drop (.eq (.drop (.drop (.eq (.eq (.cons (leV.of_eq (vf (by omega) (by omega))) (.d4 (.d4 (.drop leL.nil)))))))))))))⟩
 ·refine yR ?_
  refine zZ ?_
  refine zU ?_
  refine zV ?_
  refine zj (zk (zd ?_))
  refine zc rfl (zf rfl xw (zb rfl)) xr ?_
  refine zc rfl (zi rfl xp (zb rfl)) xe ?_
  refine ze (zj (zJ ?_))
  obtain rfl:=Option.some.inj hF
  refine zz rfl (zD yW zF) (zA (leV.refl _) rfl ?_)
  exact ⟨rfl,rfl⟩
/-! cmp.isNaN[string] -/
theorem ok123 {x0:zH} {res:Bool} {h:AH}  (hF:wr x0=some res):Spec Tryz.prog 123 [.str x0] h (fun rr hh=>rr=.bool res∧hh=h):=by
 unfold wr at hF
 refine zt Tryz.func123 rfl (by kernel_rfl) (env:=[.str x0,za,za,za,za,za]) (by rfl) ?_
 refine zk (zd ?_)
 refine zc rfl (zi rfl rfl (zb rfl)) xe ?_
 refine ze (zj (zk (zd ?_)))
 refine zc rfl (zf rfl yr (zb rfl)) wd ?_
 refine zc rfl (zf rfl yr (zb rfl)) yz ?_
 refine zc rfl (zy rfl xw ym rfl) xy ?_
 refine zc rfl (zi rfl yM (zb rfl)) xe ?_
 refine ze (zj (zJ ?_))
 obtain rfl:=Option.some.inj hF
 refine zz rfl (zD yW zF) (zA (leV.refl _) rfl ?_)
 exact ⟨rfl,rfl⟩
/-! cmp.Compare[string] -/
theorem ok94 {x0:zH} {y1:zH} {res:Int} {h:AH}  (hF:xi x0 y1=some res):Spec Tryz.prog 94 [.str x0,.str y1] h (fun rr hh=>rr=.int .i64 res∧hh=h):=by
 unfold xi at hF
 refine zt Tryz.func94 rfl (by kernel_rfl) (env:=[.str x0,.str y1,za,za,za,za,za,za,za,za,za,za,za,za,za,za,za,za,za,za]) (by rfl) ?_
 refine zk (zd ?_)
 refine zc rfl (zi rfl rfl (zb rfl)) yz ?_
 refine ze (zj (zk (zd ?_)))
 refine zc rfl (zf rfl yr (zb rfl)) xJ ?_
 refine zO hF (fun v1 hv1 hF=>?_)
 refine zL rfl (zC rfl rfl rfl (zo xC zw) (.cons (zb rfl) .nil)) (ok123 hv1) xP ?_
 refine zc rfl (zi rfl xl (zb rfl)) xy ?_
 refine ze (zj (zk (zd ?_)))
 refine zc rfl (zf rfl yE (zb rfl)) ww ?_
 refine zO hF (fun v2 hv2 hF=>?_)
 refine zL rfl (zC rfl rfl rfl (zo xQ zw) (.cons (zb rfl) .nil)) (ok123 hv2) yI ?_
 refine zc rfl (zi rfl yB (zb rfl)) xF ?_
 refine ze (zj (zk (zk (zd ?_))))
 refine zc rfl (zf rfl yM (zb rfl)) yN ?_
 refine ze (zj ?_)
 refine zN yA hF (fun hc3 hF=>?_) (fun hc3 hF=>?_)
 ·refine zk (zk (zd ?_))
  refine zc rfl (zf rfl yU (zb rfl)) yS ?_
  refine ze (zj ?_)
  refine zN yP hF (fun hc4 hF=>?_) (fun hc4 hF=>?_)
  ·refine zk (zd ?_)
   refine zc rfl (zi rfl rfl (zb rfl)) yz ?_
   refine ze (zj (zJ (zx (zx ?_))))
   obtain rfl:=Option.some.inj hF
   refine zz rfl (zD ym zF) (zA (leV.refl _) rfl ?_)
   exact ⟨rfl,rfl⟩
  ·refine zK (zj (zk (zd ?_)))
   refine zc rfl (zi rfl rfl (zb rfl)) yz ?_
   refine ze (zj (zJ (zx ?_)))
   obtain rfl:=Option.some.inj hF
   refine zz rfl (zD ym zF) (zA (leV.refl _) rfl ?_)
   exact ⟨rfl,rfl⟩
 ·refine zK (zj (zk (zk (zd ?_))))
  refine zc rfl (zf rfl yU (zb rfl)) yV ?_
  refine ze (zj ?_)
  refine zN yD hF (fun hc5 hF=>?_) (fun hc5 hF=>?_)
  ·refine zk (zd ?_)
   refine zc rfl (zi rfl rfl (zb rfl)) yz ?_
   refine ze (zj (zJ (zx ?_)))
   obtain rfl:=Option.some.inj hF
   refine zz rfl (zD ym zF) (zA (leV.refl _) rfl ?_)
   exact ⟨rfl,rfl⟩
  ·refine zK (zj (zk (zk (zd ?_))))
   refine zc rfl (zf rfl yr (zb rfl)) y4 ?_
   refine zc rfl (zf rfl yE (zb rfl)) y8 ?_
   refine zc rfl (zy rfl yX yT rfl) xg ?_
   refine ze (zj ?_)
   refine zN xf hF (fun hc6 hF=>?_) (fun hc6 hF=>?_)
   ·refine zk (zd ?_)
    refine zc rfl (zi rfl rfl (zb rfl)) yz ?_
    refine ze (zj (zJ (zx ?_)))
    obtain rfl:=Option.some.inj hF
    refine zz rfl (zD ym zF) (zA (leV.refl _) rfl ?_)
    exact ⟨rfl,rfl⟩
   ·refine zK (zj (zk (zk (zd ?_))))
    refine zc rfl (zf rfl yr (zb rfl)) xr ?_
    refine zc rfl (zf rfl yE (zb rfl)) xD ?_
    refine zc rfl (zy rfl xp xB rfl) xK ?_
    refine ze (zj ?_)
    refine zN xI hF (fun hc7 hF=>?_) (fun hc7 hF=>?_)
    ·refine zk (zd ?_)
     refine zc rfl (zi rfl rfl (zb rfl)) yz ?_
     refine ze (zj (zJ (zx ?_)))
     obtain rfl:=Option.some.inj hF
     refine zz rfl (zD ym zF) (zA (leV.refl _) rfl ?_)
     exact ⟨rfl,rfl⟩
    ·refine zK (zj (zk (zd ?_)))
     refine zc rfl (zi rfl rfl (zb rfl)) yz ?_
     refine ze (zj (zJ ?_))
     obtain rfl:=Option.some.inj hF
     refine zz rfl (zD ym zF) (zA (leV.refl _) rfl ?_)
     exact ⟨rfl,rfl⟩
/-! slices.Compare[[]string,string] -/
theorem ok65 {s10:(List zH)} {s21:(List zH)} {res:Int} {h:AH}  (hF:xE s10 s21=some res):Spec Tryz.prog 65 [.sl 1 (s10.map zP),.sl 1 (s21.map zP)] h (fun rr hh=>rr=.int .i64 res∧hh=h):=by
 unfold xE at hF
 refine zt Tryz.func65 rfl (by kernel_rfl) (env:=[.sl 1 (s10.map zP),.sl 1 (s21.map zP),za,za,za,za,za,za,za,za,za,za,za,za,za,za,za,za,za,za,za,za,za,za,za,za,za,za,za,za,za,za,za,za,za,za]) (by rfl) ?_
 refine zk (zd ?_)
 refine zc rfl (zi rfl rfl (zb rfl)) yz ?_
 refine ze (zj (zk (zk (zd ?_))))
 refine zc rfl (zf rfl yr (zb rfl)) ww ?_
 refine ya rfl (zR rfl rfl rfl rfl wA xQ yb) yI fun hn1=>?_
 replace hn1:=xu hn1
 refine zc rfl (zf rfl rfl (zb rfl)) yN ?_
 refine ze (zj (zQ ?_))
 refine yv (fun (n1:Nat) (s1:Unit)=>yO [2,3,4,5,6,7,8,12,13,14,15,16,17,18,19,20,21,22,23,24,25,26,27,28,29,30,31,32,33,34,35] [(11,.int .i64 (n1:Int))]) (fun s1=>h.ext [] []) hF (fun _ _=>by simp only [yO,upd,List.set_cons_succ,List.set_cons_zero];try rfl) (wk.le (by exact (.eq (.eq (.d4 (.drop (.drop (.drop (.eq (.eq (.cons (leV.of_eq rfl) (.d16 (.d4 (.d4 leL.nil)))))))))))))) ?_
 intro n1 s1 hi1 hF
 refine zk (zd ?_)
 refine zc rfl (zy rfl yA yB rfl) yS ?_
 refine ze (zj (zk ?_))
 refine yK yP hF (fun x1 o1 hl1 hx1 hF hK1=>?_) (fun hF=>?_)
 ·refine zK (zj (zk (zQ (zk (zd ?_)))))
  refine zc rfl (zf rfl yA (zb rfl)) yV ?_
  refine zc rfl (yk rfl wA xQ yA wZ (yL hx1)) y4 ?_
  refine zc rfl (yf rfl ty9 yX (zr rfl) (zb rfl)) y8 ?_
  refine zc rfl (zi rfl yD (zb rfl)) xy ?_
  refine zc rfl (zi rfl yT (zb rfl)) xF ?_
  refine ze (zj (zk (zk (zd ?_))))
  refine zc rfl (zf rfl yM (zb rfl)) xg ?_
  refine zc rfl (zf rfl yE (zb rfl)) xr ?_
  refine ya rfl (zR rfl rfl rfl rfl wA xp yb) xD fun hn10=>?_
  replace hn10:=xu hn10
  refine zc rfl (zy rfl xf xB rfl) xK ?_
  refine ze (zj ?_)
  refine zN xI hF (fun hc11 hF=>?_) (fun hc11 hF=>?_)
  ·refine zk (zd ?_)
   refine zc rfl (zi rfl rfl (zb rfl)) yz ?_
   refine ze (zj (zJ (zx ?_)))
   refine zG ?_
   refine zx ?_
   refine yd ?_
   obtain rfl:=Option.some.inj hF
   replace hF:=hK1
   refine zG ?_
   refine zx ?_
   obtain rfl:=Option.some.inj hF
   refine zz rfl (zD ym zF) (zA (leV.refl _) rfl ?_)
   exact ⟨rfl,rfl⟩
  ·refine zK (zj (zk (zd ?_)))
   refine zc rfl (zf rfl yE (zb rfl)) x4 ?_
   refine zc rfl (zf rfl yM (zb rfl)) x9 ?_
   refine zO hF (fun y12 hy12 hF=>?_)
   refine zc rfl (yk rfl wA x5 x6 wZ hy12) wl ?_
   refine zc rfl (yf rfl ty9 wi (zr rfl) (zb rfl)) x8 ?_
   refine zc rfl (zi rfl xX (zb rfl)) xJ ?_
   refine ze (zj (zk (zd ?_)))
   refine zc rfl (zf rfl yU (zb rfl)) we ?_
   refine zc rfl (zf rfl xC (zb rfl)) wo ?_
   refine zO hF (fun v13 hv13 hF=>?_)
   refine zL rfl (zC rfl rfl rfl (zo wa (zo wm zw)) (.cons (zb rfl) (.cons (zb rfl) .nil))) (ok94 hv13) wK ?_
   refine zc rfl (zi rfl wI (zb rfl)) xP ?_
   refine ze (zj (zk (zd ?_)))
   refine zc rfl (zf rfl xl (zb rfl)) wR ?_
   refine zc rfl (zy rfl wV rfl rfl) wQ ?_
   refine ze (zj ?_)
   refine zN wN hF (fun hc14 hF=>?_) (fun hc14 hF=>?_)
   ·refine zk (zd ?_)
    refine zc rfl (zf rfl xl (zb rfl)) w9 ?_
    refine zc rfl (zi rfl vb (zb rfl)) yz ?_
    refine ze (zj (zJ ?_))
    refine zG ?_
    refine zx ?_
    refine yd ?_
    obtain rfl:=Option.some.inj hF
    replace hF:=hK1
    refine zG ?_
    refine zx ?_
    obtain rfl:=Option.some.inj hF
    refine zz rfl (zD ym zF) (zA (leV.refl _) rfl ?_)
    exact ⟨rfl,rfl⟩
   ·refine zK (yh (zj (zd ?_)))
    refine zc rfl (zy rfl yA rfl rfl) w8 ?_
    refine zc rfl (zf rfl vm (zb rfl)) yN ?_
    refine ze (yH ?_)
    obtain rfl:=Option.some.inj hF
    exact ⟨(),hl1,hK1,wk.le (by exact (.eq (.eq (.d4 (.drop (.drop (.drop (.eq (.eq (.cons (leV.of_eq (vf (by omega) (by omega))) (.d16 (.d4 (.d4 leL.nil)))))))))))))⟩
 ·refine yR ?_
  refine zZ ?_
  refine zU ?_
  refine zV ?_
  refine zj (zk (zk (zd ?_)))
  refine zc rfl (zf rfl yr (zb rfl)) vh ?_
  refine ya rfl (zR rfl rfl rfl rfl wA vl yb) vz fun hn15=>?_
  replace hn15:=xu hn15
  refine zc rfl (zf rfl yE (zb rfl)) vw ?_
  refine ya rfl (zR rfl rfl rfl rfl wA vC yb) vu fun hn16=>?_
  replace hn16:=xu hn16
  refine zc rfl (zy rfl vk vj rfl) vt ?_
  refine ze (zj ?_)
  refine zN vB hF (fun hc17 hF=>?_) (fun hc17 hF=>?_)
  ·refine zk (zd ?_)
   refine zc rfl (zi rfl rfl (zb rfl)) yz ?_
   refine ze (zj (zJ (zx ?_)))
   obtain rfl:=Option.some.inj hF
   refine zz rfl (zD ym zF) (zA (leV.refl _) rfl ?_)
   exact ⟨rfl,rfl⟩
  ·refine zK (zj (zk (zd ?_)))
   refine zc rfl (zi rfl rfl (zb rfl)) yz ?_
   refine ze (zj (zJ ?_))
   obtain rfl:=Option.some.inj hF
   refine zz rfl (zD ym zF) (zA (leV.refl _) rfl ?_)
   exact ⟨rfl,rfl⟩
/-! cmp.isNaN[uint8] -/
theorem ok85 {x0:Int} {res:Bool} {h:AH}  (hF:qh x0=some res):Spec Tryz.prog 85 [.int .u8 x0] h (fun rr hh=>rr=.bool res∧hh=h):=by
 unfold qh at hF
 refine zt Tryz.func85 rfl (by kernel_rfl) (env:=[.int .u8 x0,za,za,za,za,za]) (by rfl) ?_
 refine zk (zd ?_)
 refine zc rfl (zi rfl rfl (zb rfl)) xe ?_
 refine ze (zj (zk (zd ?_)))
 refine zc rfl (zf rfl yr (zb rfl)) wd ?_
 refine zc rfl (zf rfl yr (zb rfl)) yz ?_
 refine zc rfl (zy rfl xw ym rfl) xy ?_
 refine zc rfl (zi rfl yM (zb rfl)) xe ?_
 refine ze (zj (zJ ?_))
 obtain rfl:=Option.some.inj hF
 refine zz rfl (zD yW zF) (zA (leV.refl _) rfl ?_)
 exact ⟨rfl,rfl⟩
/-! cmp.Compare[uint8] -/
theorem ok57 {x0:Int} {y1:Int} {res:Int} {h:AH}  (hF:wt x0 y1=some res):Spec Tryz.prog 57 [.int .u8 x0,.int .u8 y1] h (fun rr hh=>rr=.int .i64 res∧hh=h):=by
 unfold wt at hF
 refine zt Tryz.func57 rfl (by kernel_rfl) (env:=[.int .u8 x0,.int .u8 y1,za,za,za,za,za,za,za,za,za,za,za,za,za,za,za,za,za,za]) (by rfl) ?_
 refine zk (zd ?_)
 refine zc rfl (zi rfl rfl (zb rfl)) yz ?_
 refine ze (zj (zk (zd ?_)))
 refine zc rfl (zf rfl yr (zb rfl)) xJ ?_
 refine zO hF (fun v1 hv1 hF=>?_)
 refine zL rfl (zC rfl rfl rfl (zo xC zw) (.cons (zb rfl) .nil)) (ok85 hv1) xP ?_
 refine zc rfl (zi rfl xl (zb rfl)) xy ?_
 refine ze (zj (zk (zd ?_)))
 refine zc rfl (zf rfl yE (zb rfl)) ww ?_
 refine zO hF (fun v2 hv2 hF=>?_)
 refine zL rfl (zC rfl rfl rfl (zo xQ zw) (.cons (zb rfl) .nil)) (ok85 hv2) yI ?_
 refine zc rfl (zi rfl yB (zb rfl)) xF ?_
 refine ze (zj (zk (zk (zd ?_))))
 refine zc rfl (zf rfl yM (zb rfl)) yN ?_
 refine ze (zj ?_)
 refine zN yA hF (fun hc3 hF=>?_) (fun hc3 hF=>?_)
 ·refine zk (zk (zd ?_))
  refine zc rfl (zf rfl yU (zb rfl)) yS ?_
  refine ze (zj ?_)
  refine zN yP hF (fun hc4 hF=>?_) (fun hc4 hF=>?_)
  ·refine zk (zd ?_)
   refine zc rfl (zi rfl rfl (zb rfl)) yz ?_
   refine ze (zj (zJ (zx (zx ?_))))
   obtain rfl:=Option.some.inj hF
   refine zz rfl (zD ym zF) (zA (leV.refl _) rfl ?_)
   exact ⟨rfl,rfl⟩
  ·refine zK (zj (zk (zd ?_)))
   refine zc rfl (zi rfl rfl (zb rfl)) yz ?_
   refine ze (zj (zJ (zx ?_)))
   obtain rfl:=Option.some.inj hF
   refine zz rfl (zD ym zF) (zA (leV.refl _) rfl ?_)
   exact ⟨rfl,rfl⟩
 ·refine zK (zj (zk (zk (zd ?_))))
  refine zc rfl (zf rfl yU (zb rfl)) yV ?_
  refine ze (zj ?_)
  refine zN yD hF (fun hc5 hF=>?_) (fun hc5 hF=>?_)
  ·refine zk (zd ?_)
   refine zc rfl (zi rfl rfl (zb rfl)) yz ?_
   refine ze (zj (zJ (zx ?_)))
   obtain rfl:=Option.some.inj hF
   refine zz rfl (zD ym zF) (zA (leV.refl _) rfl ?_)
   exact ⟨rfl,rfl⟩
  ·refine zK (zj (zk (zk (zd ?_))))
   refine zc rfl (zf rfl yr (zb rfl)) y4 ?_
   refine zc rfl (zf rfl yE (zb rfl)) y8 ?_
   refine zc rfl (zy rfl yX yT rfl) xg ?_
   refine ze (zj ?_)
   refine zN xf hF (fun hc6 hF=>?_) (fun hc6 hF=>?_)
   ·refine zk (zd ?_)
    refine zc rfl (zi rfl rfl (zb rfl)) yz ?_
    refine ze (zj (zJ (zx ?_)))
    obtain rfl:=Option.some.inj hF
    refine zz rfl (zD ym zF) (zA (leV.refl _) rfl ?_)
    exact ⟨rfl,rfl⟩
   ·refine zK (zj (zk (zk (zd ?_))))
    refine zc rfl (zf rfl yr (zb rfl)) xr ?_
    refine zc rfl (zf rfl yE (zb rfl)) xD ?_
    refine zc rfl (zy rfl xp xB rfl) xK ?_
    refine ze (zj ?_)
    refine zN xI hF (fun hc7 hF=>?_) (fun hc7 hF=>?_)
    ·refine zk (zd ?_)
     refine zc rfl (zi rfl rfl (zb rfl)) yz ?_
     refine ze (zj (zJ (zx ?_)))
     obtain rfl:=Option.some.inj hF
     refine zz rfl (zD ym zF) (zA (leV.refl _) rfl ?_)
     exact ⟨rfl,rfl⟩
    ·refine zK (zj (zk (zd ?_)))
     refine zc rfl (zi rfl rfl (zb rfl)) yz ?_
     refine ze (zj (zJ ?_))
     obtain rfl:=Option.some.inj hF
     refine zz rfl (zD ym zF) (zA (leV.refl _) rfl ?_)
     exact ⟨rfl,rfl⟩
/-! varve/diff.order -/
theorem ok26 {a0:GEdit} {b1:GEdit} {res:Int} {h:AH}  (hF:qe a0 b1=some res):Spec Tryz.prog 26 [.agg [.sl 1 (a0.path.map zP),.int .u8 a0.typ,.bool a0.had,.bool a0.has,.int .u8 a0.was.typ,.int .i64 a0.was.n,.int .u64 a0.was.time,.int .u8 a0.was.dot.actor.rep,.int .u32 a0.was.dot.actor.inc,.int .u64 a0.was.dot.seq,.str a0.was.text,.sl 5 (a0.was.items.map GItem.row),.sl 3 (a0.was.tombs.map GDot.row),.int .u8 a0.is.typ,.int .i64 a0.is.n,.int .u64 a0.is.time,.int .u8 a0.is.dot.actor.rep,.int .u32 a0.is.dot.actor.inc,.int .u64 a0.is.dot.seq,.str a0.is.text,.sl 5 (a0.is.items.map GItem.row),.sl 3 (a0.is.tombs.map GDot.row)],.agg [.sl 1 (b1.path.map zP),.int .u8 b1.typ,.bool b1.had,.bool b1.has,.int .u8 b1.was.typ,.int .i64 b1.was.n,.int .u64 b1.was.time,.int .u8 b1.was.dot.actor.rep,.int .u32 b1.was.dot.actor.inc,.int .u64 b1.was.dot.seq,.str b1.was.text,.sl 5 (b1.was.items.map GItem.row),.sl 3 (b1.was.tombs.map GDot.row),.int .u8 b1.is.typ,.int .i64 b1.is.n,.int .u64 b1.is.time,.int .u8 b1.is.dot.actor.rep,.int .u32 b1.is.dot.actor.inc,.int .u64 b1.is.dot.seq,.str b1.is.text,.sl 5 (b1.is.items.map GItem.row),.sl 3 (b1.is.tombs.map GDot.row)]] h (fun rr hh=>rr=.int .i64 res∧hh=h):=by
 unfold qe at hF
 refine zt Tryz.func26 rfl (by kernel_rfl) (env:=[.agg [.sl 1 (a0.path.map zP),.int .u8 a0.typ,.bool a0.had,.bool a0.has,.int .u8 a0.was.typ,.int .i64 a0.was.n,.int .u64 a0.was.time,.int .u8 a0.was.dot.actor.rep,.int .u32 a0.was.dot.actor.inc,.int .u64 a0.was.dot.seq,.str a0.was.text,.sl 5 (a0.was.items.map GItem.row),.sl 3 (a0.was.tombs.map GDot.row),.int .u8 a0.is.typ,.int .i64 a0.is.n,.int .u64 a0.is.time,.int .u8 a0.is.dot.actor.rep,.int .u32 a0.is.dot.actor.inc,.int .u64 a0.is.dot.seq,.str a0.is.text,.sl 5 (a0.is.items.map GItem.row),.sl 3 (a0.is.tombs.map GDot.row)],.agg [.sl 1 (b1.path.map zP),.int .u8 b1.typ,.bool b1.had,.bool b1.has,.int .u8 b1.was.typ,.int .i64 b1.was.n,.int .u64 b1.was.time,.int .u8 b1.was.dot.actor.rep,.int .u32 b1.was.dot.actor.inc,.int .u64 b1.was.dot.seq,.str b1.was.text,.sl 5 (b1.was.items.map GItem.row),.sl 3 (b1.was.tombs.map GDot.row),.int .u8 b1.is.typ,.int .i64 b1.is.n,.int .u64 b1.is.time,.int .u8 b1.is.dot.actor.rep,.int .u32 b1.is.dot.actor.inc,.int .u64 b1.is.dot.seq,.str b1.is.text,.sl 5 (b1.is.items.map GItem.row),.sl 3 (b1.is.tombs.map GDot.row)],za,za,za,za,za,za,za,za,za,za,za,za,za,za,za]) (by rfl) ?_
 refine zk (zd ?_)
 refine zc rfl (xq (n:=0) rfl yr (zb rfl) rfl rfl) xe ?_
 refine zc rfl (xq (n:=1) rfl yE (zb rfl) rfl rfl) wd ?_
 refine zc rfl (zi rfl rfl (zb rfl)) yz ?_
 refine ze (zj (zk ?_))
 refine yJ [4,9,11] [] trivial mixed (by kernel_rfl) ?_
 refine zq rfl rfl (zg rfl fo51x0 yW rfl) xy ?_
 refine zq rfl rfl (zu rfl ty49 yM rfl (zr rfl) (zb rfl)) xF ?_
 refine zq rfl rfl (zg rfl fo51x0 xw rfl) xJ ?_
 refine zq rfl rfl (zu rfl ty49 xC rfl (zr rfl) (zb rfl)) xP ?_
 refine zO hF (fun v1 hv1 hF=>?_)
 refine yw rfl rfl (fun _=>zC rfl rfl rfl (zo yU (zo xl zw)) (.cons (zb rfl) (.cons (zb rfl) .nil))) (by rintro _ ⟨B2,T2,rfl,hk2⟩;exact ok65 hv1) ww ?_
 refine zq rfl rfl (zg rfl fo51x1 yW rfl) yI ?_
 refine zq rfl rfl (zu rfl ty5 yB rfl (zr rfl) (zb rfl)) yN ?_
 refine zq rfl rfl (zg rfl fo51x1 xw rfl) yS ?_
 refine zq rfl rfl (zu rfl ty5 yP rfl (zr rfl) (zb rfl)) yV ?_
 refine zO hF (fun v2 hv2 hF=>?_)
 refine yw rfl rfl (fun _=>zC rfl rfl rfl (zo yA (zo yD zw)) (.cons (zb rfl) (.cons (zb rfl) .nil))) (by rintro _ ⟨B2,T2,rfl,hk2⟩;exact ok57 hv2) y4 ?_
 refine zq rfl rfl (yu (es:=([v1,v2]:List Int).map (intRow .i64)) rfl el136 ze3 rfl rfl (yg xQ (yg yX yl)) (.cons (zb rfl) (.cons (zb rfl) .nil)) rfl rfl rfl) y8 ?_
 refine zO hF (fun v3 hv3 hF=>?_)
 refine yw rfl rfl (fun _=>zC rfl rfl rfl (zo yT zw) (.cons (zb rfl) .nil)) (by rintro _ ⟨B2,T2,rfl,hk2⟩;exact (ok64 hv3).le (.cons (leV.osl _ _ _) leL.nil)) xg ?_
 refine zq rfl rfl (zi rfl xf (zb rfl)) yz ?_
 refine yo ?_
 refine zj (zJ ?_)
 obtain rfl:=Option.some.inj hF
 refine zz rfl (zD ym zF) (zA (leV.refl _) rfl ?_)
 exact ⟨rfl,rfl⟩
/-! slices.Equal[[]varve/api.Item,varve/api.Item] -/
theorem ok46 {s10:(List GItem)} {s21:(List GItem)} {res:Bool} {h:AH}  (hF:vL s10 s21=some res):Spec Tryz.prog 46 [.sl 5 (s10.map GItem.row),.sl 5 (s21.map GItem.row)] h (fun rr hh=>rr=.bool res∧hh=h):=by
 unfold vL at hF
 refine zt Tryz.func46 rfl (by kernel_rfl) (env:=[.sl 5 (s10.map GItem.row),.sl 5 (s21.map GItem.row),za,za,za,za,za,za,za,za,za,za,za,za,za,za,za,za,za,za,za,za,za,za,za,za]) (by rfl) ?_
 refine zk (zd ?_)
 refine zc rfl (zi rfl rfl (zb rfl)) yz ?_
 refine ze (zj (zk (zk (zd ?_))))
 refine zc rfl (zf rfl yr (zb rfl)) xF ?_
 refine ya rfl (zR rfl rfl rfl rfl vW yU yb) xJ fun hn1=>?_
 replace hn1:=xu hn1
 refine zc rfl (zf rfl yE (zb rfl)) xP ?_
 refine ya rfl (zR rfl rfl rfl rfl vW xl yb) ww fun hn2=>?_
 replace hn2:=xu hn2
 refine zc rfl (zy rfl xC xQ rfl) yI ?_
 refine ze (zj ?_)
 refine zN yB hF (fun hc3 hF=>?_) (fun hc3 hF=>?_)
 ·refine zk (zd ?_)
  refine zc rfl (zi rfl rfl (zb rfl)) yz ?_
  refine ze (zj (zJ (zx ?_)))
  obtain rfl:=Option.some.inj hF
  refine zz rfl (zD ym zF) (zA (leV.refl _) rfl ?_)
  exact ⟨rfl,rfl⟩
 ·refine zK (zj (zk (zk (zd ?_))))
  refine zc rfl (zf rfl yr (zb rfl)) yN ?_
  refine ya rfl (zR rfl rfl rfl rfl vW yA yb) yS fun hn4=>?_
  replace hn4:=xu hn4
  refine zc rfl (zf rfl rfl (zb rfl)) yV ?_
  refine ze (zj (zQ ?_))
  refine yv (fun (n1:Nat) (s1:Unit)=>yO [2,3,4,5,6,7,8,9,10,11,14,15,16,17,18,19,20,21,22,23,24,25] [(13,.int .i64 (n1:Int))]) (fun s1=>h.ext [] []) hF (fun _ _=>by simp only [yO,upd,List.set_cons_succ,List.set_cons_zero];try rfl) (wk.le (by exact (.eq (.eq (.d4 (.d4 (.drop (.drop (.eq (.cons (leV.of_eq rfl) (.d4 (.d4 (.d4 leL.nil))))))))))))) ?_
  intro n1 s1 hi1 hF
  refine zk (zd ?_)
  refine zc rfl (zy rfl yD yP rfl) y4 ?_
  refine ze (zj (zk ?_))
  refine yK yX hF (fun x1 o1 hl1 hx1 hF hK1=>?_) (fun hF=>?_)
  ·refine zK (zj (zk (zQ (zk (zd ?_)))))
   refine zc rfl (zf rfl yD (zb rfl)) y8 ?_
   refine zc rfl (zi rfl yT (zb rfl)) xy ?_
   refine ze (zj (zk ?_))
   refine yJ [] [] trivial mixed (by kernel_rfl) ?_
   refine zq rfl rfl (zf rfl yr (zb rfl)) xg ?_
   refine zq rfl rfl (zf rfl yM (zb rfl)) xr ?_
   refine zq rfl rfl (yk rfl vW xf xp wZ (yL hx1)) xD ?_
   refine zq rfl rfl (yf rfl ty87.choose_spec.1 xB (zI (cs':=[.int .u64 x1.time,.int .u8 x1.dot.actor.rep,.int .u32 x1.dot.actor.inc,.int .u64 x1.dot.seq,.str x1.text]) ty87.choose_spec.2 rfl rfl) (zb rfl)) xK ?_
   refine zq rfl rfl (zf rfl yE (zb rfl)) x4 ?_
   refine zq rfl rfl (zf rfl yM (zb rfl)) x9 ?_
   refine zO hF (fun y10 hy10 hF=>?_)
   refine zq rfl rfl (yk rfl vW x5 x6 wZ hy10) wl ?_
   refine zq rfl rfl (yf rfl ty87.choose_spec.1 wi (zI (cs':=[.int .u64 y10.time,.int .u8 y10.dot.actor.rep,.int .u32 y10.dot.actor.inc,.int .u64 y10.dot.seq,.str y10.text]) ty87.choose_spec.2 rfl rfl) (zb rfl)) x8 ?_
   refine zq rfl rfl (zy rfl xI xX (bin_ne pk87 rfl)) we ?_
   refine yo ?_
   refine zj ?_
   refine zN wa hF (fun hc11 hF=>?_) (fun hc11 hF=>?_)
   ·refine zk (zd ?_)
    refine zc rfl (zi rfl rfl (zb rfl)) yz ?_
    refine ze (zj (zJ ?_))
    refine zG ?_
    refine zx ?_
    refine yd ?_
    obtain rfl:=Option.some.inj hF
    replace hF:=hK1
    refine zG ?_
    refine zx ?_
    obtain rfl:=Option.some.inj hF
    refine zz rfl (zD ym zF) (zA (leV.refl _) rfl ?_)
    exact ⟨rfl,rfl⟩
   ·refine zK (yh (zj (zd ?_)))
    refine zc rfl (zy rfl yD rfl rfl) wo ?_
    refine zc rfl (zf rfl wm (zb rfl)) yV ?_
    refine ze (yH ?_)
    obtain rfl:=Option.some.inj hF
    exact ⟨(),hl1,hK1,wk.le (by exact (.eq (.eq (.d4 (.d4 (.drop (.drop (.eq (.cons (leV.of_eq (vf (by omega) (by omega))) (.d4 (.d4 (.d4 leL.nil))))))))))))⟩
  ·refine yR ?_
   refine zZ ?_
   refine zU ?_
   refine zV ?_
   refine zj (zk (zd ?_))
   refine zc rfl (zi rfl rfl (zb rfl)) yz ?_
   refine ze (zj (zJ ?_))
   obtain rfl:=Option.some.inj hF
   refine zz rfl (zD ym zF) (zA (leV.refl _) rfl ?_)
   exact ⟨rfl,rfl⟩
/-! slices.Equal[[]varve/api.Dot,varve/api.Dot] -/
theorem ok47 {s10:(List GDot)} {s21:(List GDot)} {res:Bool} {h:AH}  (hF:vX s10 s21=some res):Spec Tryz.prog 47 [.sl 3 (s10.map GDot.row),.sl 3 (s21.map GDot.row)] h (fun rr hh=>rr=.bool res∧hh=h):=by
 unfold vX at hF
 refine zt Tryz.func47 rfl (by kernel_rfl) (env:=[.sl 3 (s10.map GDot.row),.sl 3 (s21.map GDot.row),za,za,za,za,za,za,za,za,za,za,za,za,za,za,za,za,za,za,za,za,za,za,za,za]) (by rfl) ?_
 refine zk (zd ?_)
 refine zc rfl (zi rfl rfl (zb rfl)) yz ?_
 refine ze (zj (zk (zk (zd ?_))))
 refine zc rfl (zf rfl yr (zb rfl)) xF ?_
 refine ya rfl (zR rfl rfl rfl rfl el43 yU yb) xJ fun hn1=>?_
 replace hn1:=xu hn1
 refine zc rfl (zf rfl yE (zb rfl)) xP ?_
 refine ya rfl (zR rfl rfl rfl rfl el43 xl yb) ww fun hn2=>?_
 replace hn2:=xu hn2
 refine zc rfl (zy rfl xC xQ rfl) yI ?_
 refine ze (zj ?_)
 refine zN yB hF (fun hc3 hF=>?_) (fun hc3 hF=>?_)
 ·refine zk (zd ?_)
  refine zc rfl (zi rfl rfl (zb rfl)) yz ?_
  refine ze (zj (zJ (zx ?_)))
  obtain rfl:=Option.some.inj hF
  refine zz rfl (zD ym zF) (zA (leV.refl _) rfl ?_)
  exact ⟨rfl,rfl⟩
 ·refine zK (zj (zk (zk (zd ?_))))
  refine zc rfl (zf rfl yr (zb rfl)) yN ?_
  refine ya rfl (zR rfl rfl rfl rfl el43 yA yb) yS fun hn4=>?_
  replace hn4:=xu hn4
  refine zc rfl (zf rfl rfl (zb rfl)) yV ?_
  refine ze (zj (zQ ?_))
  refine yv (fun (n1:Nat) (s1:Unit)=>yO [2,3,4,5,6,7,8,9,10,11,14,15,16,17,18,19,20,21,22,23,24,25] [(13,.int .i64 (n1:Int))]) (fun s1=>h.ext [] []) hF (fun _ _=>by simp only [yO,upd,List.set_cons_succ,List.set_cons_zero];try rfl) (wk.le (by exact (.eq (.eq (.d4 (.d4 (.drop (.drop (.eq (.cons (leV.of_eq rfl) (.d4 (.d4 (.d4 leL.nil))))))))))))) ?_
  intro n1 s1 hi1 hF
  refine zk (zd ?_)
  refine zc rfl (zy rfl yD yP rfl) y4 ?_
  refine ze (zj (zk ?_))
  refine yK yX hF (fun x1 o1 hl1 hx1 hF hK1=>?_) (fun hF=>?_)
  ·refine zK (zj (zk (zQ (zk (zd ?_)))))
   refine zc rfl (zf rfl yD (zb rfl)) y8 ?_
   refine zc rfl (zi rfl yT (zb rfl)) xy ?_
   refine ze (zj (zk ?_))
   refine yJ [] [] trivial mixed (by kernel_rfl) ?_
   refine zq rfl rfl (zf rfl yr (zb rfl)) xg ?_
   refine zq rfl rfl (zf rfl yM (zb rfl)) xr ?_
   refine zq rfl rfl (yk rfl el43 xf xp wZ (yL hx1)) xD ?_
   refine zq rfl rfl (yf rfl ty41.choose_spec.1 xB (zI (cs':=[.int .u8 x1.actor.rep,.int .u32 x1.actor.inc,.int .u64 x1.seq]) ty41.choose_spec.2 rfl rfl) (zb rfl)) xK ?_
   refine zq rfl rfl (zf rfl yE (zb rfl)) x4 ?_
   refine zq rfl rfl (zf rfl yM (zb rfl)) x9 ?_
   refine zO hF (fun y10 hy10 hF=>?_)
   refine zq rfl rfl (yk rfl el43 x5 x6 wZ hy10) wl ?_
   refine zq rfl rfl (yf rfl ty41.choose_spec.1 wi (zI (cs':=[.int .u8 y10.actor.rep,.int .u32 y10.actor.inc,.int .u64 y10.seq]) ty41.choose_spec.2 rfl rfl) (zb rfl)) x8 ?_
   refine zq rfl rfl (zy rfl xI xX (bin_ne pk41 rfl)) we ?_
   refine yo ?_
   refine zj ?_
   refine zN wa hF (fun hc11 hF=>?_) (fun hc11 hF=>?_)
   ·refine zk (zd ?_)
    refine zc rfl (zi rfl rfl (zb rfl)) yz ?_
    refine ze (zj (zJ ?_))
    refine zG ?_
    refine zx ?_
    refine yd ?_
    obtain rfl:=Option.some.inj hF
    replace hF:=hK1
    refine zG ?_
    refine zx ?_
    obtain rfl:=Option.some.inj hF
    refine zz rfl (zD ym zF) (zA (leV.refl _) rfl ?_)
    exact ⟨rfl,rfl⟩
   ·refine zK (yh (zj (zd ?_)))
    refine zc rfl (zy rfl yD rfl rfl) wo ?_
    refine zc rfl (zf rfl wm (zb rfl)) yV ?_
    refine ze (yH ?_)
    obtain rfl:=Option.some.inj hF
    exact ⟨(),hl1,hK1,wk.le (by exact (.eq (.eq (.d4 (.d4 (.drop (.drop (.eq (.cons (leV.of_eq (vf (by omega) (by omega))) (.d4 (.d4 (.d4 leL.nil))))))))))))⟩
  ·refine yR ?_
   refine zZ ?_
   refine zU ?_
   refine zV ?_
   refine zj (zk (zd ?_))
   refine zc rfl (zi rfl rfl (zb rfl)) yz ?_
   refine ze (zj (zJ ?_))
   obtain rfl:=Option.some.inj hF
   refine zz rfl (zD ym zF) (zA (leV.refl _) rfl ?_)
   exact ⟨rfl,rfl⟩
/-! varve/leaf.Same -/
theorem ok21 {a0:GLeaf} {b1:GLeaf} {res:Bool} {h:AH}  (hF:wG a0 b1=some res):Spec Tryz.prog 21 [.agg [.int .u8 a0.typ,.int .i64 a0.n,.int .u64 a0.time,.int .u8 a0.dot.actor.rep,.int .u32 a0.dot.actor.inc,.int .u64 a0.dot.seq,.str a0.text,.sl 5 (a0.items.map GItem.row),.sl 3 (a0.tombs.map GDot.row)],.agg [.int .u8 b1.typ,.int .i64 b1.n,.int .u64 b1.time,.int .u8 b1.dot.actor.rep,.int .u32 b1.dot.actor.inc,.int .u64 b1.dot.seq,.str b1.text,.sl 5 (b1.items.map GItem.row),.sl 3 (b1.tombs.map GDot.row)]] h (fun rr hh=>rr=.bool res∧hh=h):=by
 unfold wG at hF
 refine zt Tryz.func21 rfl (by kernel_rfl) (env:=[.agg [.int .u8 a0.typ,.int .i64 a0.n,.int .u64 a0.time,.int .u8 a0.dot.actor.rep,.int .u32 a0.dot.actor.inc,.int .u64 a0.dot.seq,.str a0.text,.sl 5 (a0.items.map GItem.row),.sl 3 (a0.tombs.map GDot.row)],.agg [.int .u8 b1.typ,.int .i64 b1.n,.int .u64 b1.time,.int .u8 b1.dot.actor.rep,.int .u32 b1.dot.actor.inc,.int .u64 b1.dot.seq,.str b1.text,.sl 5 (b1.items.map GItem.row),.sl 3 (b1.tombs.map GDot.row)],za,za,za,za,za,za,za,za,za,za,za,za,za,za,za,za,za,za,za,za,za,za,za,za,za,za,za,za,za,za,za,za,za,za,za,za,za,za,za,za,za,za,za,za,za,za,za,za,za,za]) (by rfl) ?_
 refine zk (zd ?_)
 refine zc rfl (xq (n:=0) rfl yr (zb rfl) rfl rfl) xe ?_
 refine zc rfl (xq (n:=1) rfl yE (zb rfl) rfl rfl) wd ?_
 refine zc rfl (zi rfl rfl (zb rfl)) yz ?_
 refine ze (zj (zk (zd ?_)))
 refine zc rfl (zg rfl xV yW rfl) xy ?_
 refine zc rfl (zu rfl ty5 yM rfl (zr rfl) (zb rfl)) xF ?_
 refine zc rfl (zg rfl xV xw rfl) xJ ?_
 refine zc rfl (zu rfl ty5 xC rfl (zr rfl) (zb rfl)) xP ?_
 refine zc rfl (zy rfl yU xl rfl) ww ?_
 refine zc rfl (zf rfl xQ (zb rfl)) yI ?_
 refine zp rfl (fun hb=>zg rfl fo45x1 yW rfl) yN ?_
 refine zp rfl (fun hb=>zu rfl ty2 (zn yA hb) rfl (zr rfl) (zb rfl)) yS ?_
 refine zp rfl (fun hb=>zg rfl fo45x1 xw rfl) yV ?_
 refine zp rfl (fun hb=>zu rfl ty2 (zn yD hb) rfl (zr rfl) (zb rfl)) y4 ?_
 refine zp rfl (fun hb=>zy rfl (zn yP hb) (zn yX hb) rfl) y8 ?_
 refine zc rfl (zM rfl yB yT rfl (zX (fun ht=>gT ht))) xg ?_
 refine zc rfl (zf rfl xf (zb rfl)) xr ?_
 refine zp rfl (fun hb=>zg rfl fo45x2 yW rfl) xD ?_
 refine zp rfl (fun hb=>zu rfl qW (zn xB hb) rfl (zr rfl) (zb rfl)) xK ?_
 refine zp rfl (fun hb=>zg rfl fo45x2 xw rfl) x4 ?_
 refine zp rfl (fun hb=>zu rfl qW (zn x5 hb) rfl (zr rfl) (zb rfl)) x9 ?_
 refine zp rfl (fun hb=>zy rfl (zn xI hb) (zn x6 hb) rfl) wl ?_
 refine zc rfl (zM rfl xp wi rfl (zX (fun ht=>gT ht))) x8 ?_
 refine zc rfl (zf rfl xX (zb rfl)) we ?_
 refine zp rfl (fun hb=>zg rfl fo45x3 yW rfl) wo ?_
 refine zp rfl (fun hb=>zu rfl ty41.choose_spec.1 (zn wm hb) rfl (zI (cs':=[.int .u8 a0.dot.actor.rep,.int .u32 a0.dot.actor.inc,.int .u64 a0.dot.seq]) ty41.choose_spec.2 rfl rfl) (zb rfl)) wK ?_
 refine zp rfl (fun hb=>zg rfl fo45x3 xw rfl) wR ?_
 refine zp rfl (fun hb=>zu rfl ty41.choose_spec.1 (zn wV hb) rfl (zI (cs':=[.int .u8 b1.dot.actor.rep,.int .u32 b1.dot.actor.inc,.int .u64 b1.dot.seq]) ty41.choose_spec.2 rfl rfl) (zb rfl)) wQ ?_
 refine zp rfl (fun hb=>zy rfl (zn wI hb) (zn wN hb) (bin_eq pk41 rfl)) w9 ?_
 refine zc rfl (zM rfl wa vb rfl (zX (fun ht=>gT ht))) w8 ?_
 refine zc rfl (zf rfl vm (zb rfl)) vh ?_
 refine zp rfl (fun hb=>zg rfl fo45x4 yW rfl) vz ?_
 refine zp rfl (fun hb=>zu rfl ty9 (zn vk hb) rfl (zr rfl) (zb rfl)) vw ?_
 refine zp rfl (fun hb=>zg rfl fo45x4 xw rfl) vu ?_
 refine zp rfl (fun hb=>zu rfl ty9 (zn vj hb) rfl (zr rfl) (zb rfl)) vt ?_
 refine zp rfl (fun hb=>zy rfl (zn vC hb) (zn vB hb) rfl) vg ?_
 refine zc rfl (zM rfl vl va rfl (zX (fun ht=>gT ht))) vr ?_
 refine zc rfl (zf rfl vA (zb rfl)) vK ?_
 refine zp rfl (fun hb=>zg rfl xO yW rfl) vJ ?_
 refine zp rfl (fun hb=>zu rfl qU (zn vG hb) rfl (zr rfl) (zb rfl)) (sk st0) ?_
 refine zp rfl (fun hb=>zg rfl xO xw rfl) (sk st1) ?_
 refine zp rfl (fun hb=>zu rfl qU (zn (gk yE) hb) rfl (zr rfl) (zb rfl)) (sk xe) ?_
 refine yQ hF (fun v1 hv1 hF=>?_)
 refine yj rfl (fun hb=>zC rfl rfl rfl (zo (zn (gk yr) hb) (zo (zn (gk yW) hb) zw)) (.cons (zb rfl) (.cons (zb rfl) .nil))) (fun hb=>ok46 (hv1 hb)) (sk wd) ?_
 refine zc rfl (zM rfl vO (gk xw) rfl (zX (fun ht=>gT ht))) (sk yz) ?_
 refine zc rfl (zf rfl (gk ym) (zb rfl)) (sk xy) ?_
 refine zp rfl (fun hb=>zg rfl wj yW rfl) (sk xF) ?_
 refine zp rfl (fun hb=>zu rfl ty43 (zn (gk yU) hb) rfl (zr rfl) (zb rfl)) (sk xJ) ?_
 refine zp rfl (fun hb=>zg rfl wj xw rfl) (sk xP) ?_
 refine zp rfl (fun hb=>zu rfl ty43 (zn (gk xl) hb) rfl (zr rfl) (zb rfl)) (sk ww) ?_
 refine yQ hF (fun v2 hv2 hF=>?_)
 refine yj rfl (fun hb=>zC rfl rfl rfl (zo (zn (gk xC) hb) (zo (zn (gk xQ) hb) zw)) (.cons (zb rfl) (.cons (zb rfl) .nil))) (fun hb=>ok47 (hv2 hb)) (sk yI) ?_
 refine zc rfl (zM rfl (gk yM) (gk yB) rfl (zX (fun ht=>gT ht))) (sk yN) ?_
 refine zc rfl (zi rfl (gk yA) (zb rfl)) yz ?_
 refine ze (zj (zJ ?_))
 obtain rfl:=Option.some.inj hF
 refine zz rfl (zD ym zF) (zA (leV.refl _) rfl ?_)
 exact ⟨rfl,rfl⟩
/-! slices.Clone[[]string,string] -/
theorem ok59 {s0:(List zH)} {res:(List zH)} {h:AH}  (hF:xS s0=some res):Spec Tryz.prog 59 [.sl 1 (s0.map zP)] h (OwnK h 1 res.length (res.map zP)):=by
 unfold xS at hF
 refine zt Tryz.func59 rfl (by kernel_rfl) (env:=[.sl 1 (s0.map zP),za,za,za,za,za,za,za]) (by rfl) ?_
 refine zk (zd ?_)
 refine zc rfl (zi rfl rfl (xk wA)) xe ?_
 refine ze (zj (zk (zk (zd ?_))))
 refine zc rfl (zf rfl yr (zb rfl)) wd ?_
 refine ops_nilqE rfl rfl wA xw wZ rfl (fun _=>yz) hF (fun b1 hb1 hF=>?_)
 refine ze (zj ?_)
 refine zN ym hF (fun hc2 hF=>?_) (fun hc2 hF=>?_)
 ·refine zk (zd ?_)
  refine zc rfl (zi rfl rfl (xk wA)) xe ?_
  refine ze (zj (zJ (zx ?_)))
  obtain rfl:=Option.some.inj hF
  refine zz rfl (zD yW zF) (fin_own0 (row:=zP) (L:=([]:List zH)) ?_)
  exact ⟨rfl,rfl⟩
 ·refine zK (zj (zk (zd ?_)))
  refine zc rfl (yu (es:=([]:List zH).map zP) rfl wA ze9 rfl rfl yl .nil rfl rfl rfl) xy ?_
  refine zc rfl (zf rfl yr (zb rfl)) xF ?_
  refine wC hF (fun hm3 hF=>?_)
  refine zc rfl (e_appN (m:=0) (T':=[((([]:List zH)++s0)).length]) rfl rfl rfl rfl wA wA yM yU (zb rfl) (zb rfl) news_sl hm3 rfl rfl) xJ ?_
  refine zc rfl (zi rfl xC (zb rfl)) xe ?_
  refine ze (zj (zJ ?_))
  obtain rfl:=Option.some.inj hF
  refine zz rfl (zD yW zF) (fin_own ?_)
  exact ⟨rfl,rfl⟩
/-! slices.Clone[[]varve/api.Item,varve/api.Item] -/
theorem ok44 {s0:(List GItem)} {res:(List GItem)} {h:AH}  (hF:wq s0=some res):Spec Tryz.prog 44 [.sl 5 (s0.map GItem.row)] h (OwnK h 5 res.length (res.map GItem.row)):=by
 unfold wq at hF
 refine zt Tryz.func44 rfl (by kernel_rfl) (env:=[.sl 5 (s0.map GItem.row),za,za,za,za,za,za,za]) (by rfl) ?_
 refine zk (zd ?_)
 refine zc rfl (zi rfl rfl (xk vW)) xe ?_
 refine ze (zj (zk (zk (zd ?_))))
 refine zc rfl (zf rfl yr (zb rfl)) wd ?_
 refine ops_nilqE rfl rfl vW xw wZ rfl (fun _=>yz) hF (fun b1 hb1 hF=>?_)
 refine ze (zj ?_)
 refine zN ym hF (fun hc2 hF=>?_) (fun hc2 hF=>?_)
 ·refine zk (zd ?_)
  refine zc rfl (zi rfl rfl (xk vW)) xe ?_
  refine ze (zj (zJ (zx ?_)))
  obtain rfl:=Option.some.inj hF
  refine zz rfl (zD yW zF) (fin_own0 (row:=GItem.row) (L:=([]:List GItem)) ?_)
  exact ⟨rfl,rfl⟩
 ·refine zK (zj (zk (zd ?_)))
  refine zc rfl (yu (es:=([]:List GItem).map GItem.row) rfl vW ze87 rfl rfl yl .nil rfl rfl rfl) xy ?_
  refine zc rfl (zf rfl yr (zb rfl)) xF ?_
  refine wC hF (fun hm3 hF=>?_)
  refine zc rfl (e_appN (m:=0) (T':=[((([]:List GItem)++s0)).length]) rfl rfl rfl rfl vW vW yM yU (zb rfl) (zb rfl) news_sl hm3 rfl rfl) xJ ?_
  refine zc rfl (zi rfl xC (zb rfl)) xe ?_
  refine ze (zj (zJ ?_))
  obtain rfl:=Option.some.inj hF
  refine zz rfl (zD yW zF) (fin_own ?_)
  exact ⟨rfl,rfl⟩
/-! slices.Clone[[]varve/api.Dot,varve/api.Dot] -/
theorem ok45 {s0:(List GDot)} {res:(List GDot)} {h:AH}  (hF:wE s0=some res):Spec Tryz.prog 45 [.sl 3 (s0.map GDot.row)] h (OwnK h 3 res.length (res.map GDot.row)):=by
 unfold wE at hF
 refine zt Tryz.func45 rfl (by kernel_rfl) (env:=[.sl 3 (s0.map GDot.row),za,za,za,za,za,za,za]) (by rfl) ?_
 refine zk (zd ?_)
 refine zc rfl (zi rfl rfl (xk el43)) xe ?_
 refine ze (zj (zk (zk (zd ?_))))
 refine zc rfl (zf rfl yr (zb rfl)) wd ?_
 refine ops_nilqE rfl rfl el43 xw wZ rfl (fun _=>yz) hF (fun b1 hb1 hF=>?_)
 refine ze (zj ?_)
 refine zN ym hF (fun hc2 hF=>?_) (fun hc2 hF=>?_)
 ·refine zk (zd ?_)
  refine zc rfl (zi rfl rfl (xk el43)) xe ?_
  refine ze (zj (zJ (zx ?_)))
  obtain rfl:=Option.some.inj hF
  refine zz rfl (zD yW zF) (fin_own0 (row:=GDot.row) (L:=([]:List GDot)) ?_)
  exact ⟨rfl,rfl⟩
 ·refine zK (zj (zk (zd ?_)))
  refine zc rfl (yu (es:=([]:List GDot).map GDot.row) rfl el43 ze41 rfl rfl yl .nil rfl rfl rfl) xy ?_
  refine zc rfl (zf rfl yr (zb rfl)) xF ?_
  refine wC hF (fun hm3 hF=>?_)
  refine zc rfl (e_appN (m:=0) (T':=[((([]:List GDot)++s0)).length]) rfl rfl rfl rfl el43 el43 yM yU (zb rfl) (zb rfl) news_sl hm3 rfl rfl) xJ ?_
  refine zc rfl (zi rfl xC (zb rfl)) xe ?_
  refine ze (zj (zJ ?_))
  obtain rfl:=Option.some.inj hF
  refine zz rfl (zD yW zF) (fin_own ?_)
  exact ⟨rfl,rfl⟩
/-! varve/diff.own -/
theorem ok54 {l0:GLeaf} {res:GLeaf} {h:AH}  (hF:diffXown l0=some res):Spec Tryz.prog 54 [.agg [.int .u8 l0.typ,.int .i64 l0.n,.int .u64 l0.time,.int .u8 l0.dot.actor.rep,.int .u32 l0.dot.actor.inc,.int .u64 l0.dot.seq,.str l0.text,.sl 5 (l0.items.map GItem.row),.sl 3 (l0.tombs.map GDot.row)]] h (fun rr hh=>rr=.agg [.int .u8 res.typ,.int .i64 res.n,.int .u64 res.time,.int .u8 res.dot.actor.rep,.int .u32 res.dot.actor.inc,.int .u64 res.dot.seq,.str res.text,.sl 5 (res.items.map GItem.row),.sl 3 (res.tombs.map GDot.row)]∧hh=h):=by
 unfold diffXown at hF
 refine zt Tryz.func54 rfl (by kernel_rfl) (env:=[.agg [.int .u8 l0.typ,.int .i64 l0.n,.int .u64 l0.time,.int .u8 l0.dot.actor.rep,.int .u32 l0.dot.actor.inc,.int .u64 l0.dot.seq,.str l0.text,.sl 5 (l0.items.map GItem.row),.sl 3 (l0.tombs.map GDot.row)],za,za,za,za,za,za,za,za,za,za,za]) (by rfl) ?_
 refine zk (zd ?_)
 refine zc rfl (xq (n:=0) rfl yr (zb rfl) rfl rfl) st1 ?_
 refine zc rfl (xc (n:=1) rfl ze45 rfl) xe ?_
 refine ze (zj (zk ?_))
 refine yJ [] [] trivial mixed (by kernel_rfl) ?_
 refine zq rfl rfl (zg rfl xO yE rfl) wd ?_
 refine zq rfl rfl (zu rfl qU xw rfl (zr rfl) (zb rfl)) yz ?_
 refine zO hF (fun v1 hv1 hF=>?_)
 refine w6 rfl FOk.nil (by rfl) rfl (zC rfl rfl rfl (zo ym zw) (.cons (zb rfl) .nil)) (own_ext (T':=[(v1).length]) (ok44 hv1) (m:=0) rfl rfl) xy ?_
 refine zq rfl rfl (zg rfl wj yE rfl) xF ?_
 refine zq rfl rfl (zu rfl ty43 yU rfl (zr rfl) (zb rfl)) xJ ?_
 refine zO hF (fun v2 hv2 hF=>?_)
 refine w6 rfl FOk.nil (by rfl) rfl (zC rfl rfl rfl (zo xC zw) (.cons (zb rfl) .nil)) (own_ext (T':=[(v1).length,(v2).length]) (ok45 hv2) (m:=1) rfl rfl) xP ?_
 refine zq rfl rfl (zg rfl xO yE rfl) ww ?_
 refine xa rfl FOk.nil (by kernel_rfl) rfl (ye (cs':=[.int .u8 l0.typ,.int .i64 l0.n,.int .u64 l0.time,.int .u8 l0.dot.actor.rep,.int .u32 l0.dot.actor.inc,.int .u64 l0.dot.seq,.str l0.text,.osl (some (h.toks.length+0)) 5 (v1.map GItem.row),.sl 3 (l0.tombs.map GDot.row)]) rfl qU xQ yM (zb rfl) rfl rfl rfl rfl rfl) rfl ?_
 refine zq rfl rfl (zg rfl wj yE rfl) yI ?_
 refine xa rfl FOk.nil (by kernel_rfl) rfl (ye (cs':=[.int .u8 l0.typ,.int .i64 l0.n,.int .u64 l0.time,.int .u8 l0.dot.actor.rep,.int .u32 l0.dot.actor.inc,.int .u64 l0.dot.seq,.str l0.text,.osl (some (h.toks.length+0)) 5 (v1.map GItem.row),.osl (some (h.toks.length+1)) 3 (v2.map GDot.row)]) rfl ty43 yB xl (zb rfl) rfl rfl rfl rfl rfl) rfl ?_
 refine yo ?_
 refine zj (zk (zd ?_))
 refine zc rfl (zu rfl ty45.choose_spec.1 yE rfl (zI (cs':=[.int .u8 l0.typ,.int .i64 l0.n,.int .u64 l0.time,.int .u8 l0.dot.actor.rep,.int .u32 l0.dot.actor.inc,.int .u64 l0.dot.seq,.str l0.text,.osl (some (h.toks.length+0)) 5 (v1.map GItem.row),.osl (some (h.toks.length+1)) 3 (v2.map GDot.row)]) ty45.choose_spec.2 rfl rfl) (zb rfl)) yN ?_
 refine zc rfl (ye (cs':=[.int .u8 l0.typ,.int .i64 l0.n,.int .u64 l0.time,.int .u8 l0.dot.actor.rep,.int .u32 l0.dot.actor.inc,.int .u64 l0.dot.seq,.str l0.text,.osl (some (h.toks.length+0)) 5 (v1.map GItem.row),.osl (some (h.toks.length+1)) 3 (v2.map GDot.row)]) rfl ty45.choose_spec.1 yW yA (zb rfl) rfl rfl rfl rfl rfl) rfl ?_
 refine ze (zj (zJ ?_))
 obtain rfl:=Option.some.inj hF
 refine zz rfl (rl_cell ty45.choose_spec.1 yW rfl (zI (cs':=[.int .u8 l0.typ,.int .i64 l0.n,.int .u64 l0.time,.int .u8 l0.dot.actor.rep,.int .u32 l0.dot.actor.inc,.int .u64 l0.dot.seq,.str l0.text,.osl (some (h.toks.length+0)) 5 (v1.map GItem.row),.osl (some (h.toks.length+1)) 3 (v2.map GDot.row)]) ty45.choose_spec.2 rfl rfl) (zb rfl) zF) (zA (leV.agg (.eq (.eq (.eq (.eq (.eq (.eq (.eq (.cons (leV.osl _ _ _) (.cons (leV.osl _ _ _) leL.nil))))))))) rfl) rfl ?_)
 exact ⟨rfl,rfl⟩
/-! varve/diff.copied -/
theorem ok23 {e0:GEdit} {res:GEdit} {h:AH}  (hF:qg e0=some res):Spec Tryz.prog 23 [.agg [.sl 1 (e0.path.map zP),.int .u8 e0.typ,.bool e0.had,.bool e0.has,.int .u8 e0.was.typ,.int .i64 e0.was.n,.int .u64 e0.was.time,.int .u8 e0.was.dot.actor.rep,.int .u32 e0.was.dot.actor.inc,.int .u64 e0.was.dot.seq,.str e0.was.text,.sl 5 (e0.was.items.map GItem.row),.sl 3 (e0.was.tombs.map GDot.row),.int .u8 e0.is.typ,.int .i64 e0.is.n,.int .u64 e0.is.time,.int .u8 e0.is.dot.actor.rep,.int .u32 e0.is.dot.actor.inc,.int .u64 e0.is.dot.seq,.str e0.is.text,.sl 5 (e0.is.items.map GItem.row),.sl 3 (e0.is.tombs.map GDot.row)]] h (fun rr hh=>rr=.agg [.sl 1 (res.path.map zP),.int .u8 res.typ,.bool res.had,.bool res.has,.int .u8 res.was.typ,.int .i64 res.was.n,.int .u64 res.was.time,.int .u8 res.was.dot.actor.rep,.int .u32 res.was.dot.actor.inc,.int .u64 res.was.dot.seq,.str res.was.text,.sl 5 (res.was.items.map GItem.row),.sl 3 (res.was.tombs.map GDot.row),.int .u8 res.is.typ,.int .i64 res.is.n,.int .u64 res.is.time,.int .u8 res.is.dot.actor.rep,.int .u32 res.is.dot.actor.inc,.int .u64 res.is.dot.seq,.str res.is.text,.sl 5 (res.is.items.map GItem.row),.sl 3 (res.is.tombs.map GDot.row)]∧hh=h):=by
 unfold qg at hF
 refine zt Tryz.func23 rfl (by kernel_rfl) (env:=[.agg [.sl 1 (e0.path.map zP),.int .u8 e0.typ,.bool e0.had,.bool e0.has,.int .u8 e0.was.typ,.int .i64 e0.was.n,.int .u64 e0.was.time,.int .u8 e0.was.dot.actor.rep,.int .u32 e0.was.dot.actor.inc,.int .u64 e0.was.dot.seq,.str e0.was.text,.sl 5 (e0.was.items.map GItem.row),.sl 3 (e0.was.tombs.map GDot.row),.int .u8 e0.is.typ,.int .i64 e0.is.n,.int .u64 e0.is.time,.int .u8 e0.is.dot.actor.rep,.int .u32 e0.is.dot.actor.inc,.int .u64 e0.is.dot.seq,.str e0.is.text,.sl 5 (e0.is.items.map GItem.row),.sl 3 (e0.is.tombs.map GDot.row)],za,za,za,za,za,za,za,za,za,za,za,za,za,za,za]) (by rfl) ?_
 refine zk (zd ?_)
 refine zc rfl (xq (n:=0) rfl yr (zb rfl) rfl rfl) st1 ?_
 refine zc rfl (xc (n:=1) rfl ze51 rfl) xe ?_
 refine ze (zj (zk ?_))
 refine yJ [5,8] [] trivial mixed (by kernel_rfl) ?_
 refine zq rfl rfl (zg rfl fo51x0 yE rfl) wd ?_
 refine zq rfl rfl (zu rfl ty49 xw rfl (zr rfl) (zb rfl)) yz ?_
 refine zO hF (fun v1 hv1 hF=>?_)
 refine w6 rfl (FOk.cons (.inr (xU trivial)) (FOk.cons (.inr (xU trivial)) FOk.nil)) (by rfl) rfl (zC rfl rfl rfl (zo ym zw) (.cons (zb rfl) .nil)) (own_ext (T':=[(v1).length]) (ok59 hv1) (m:=0) rfl rfl) xy ?_
 refine zq rfl rfl (zg rfl fo51x4 yE rfl) xF ?_
 refine zq rfl rfl (zu rfl ty45.choose_spec.1 yU rfl (zI (cs':=[.int .u8 e0.was.typ,.int .i64 e0.was.n,.int .u64 e0.was.time,.int .u8 e0.was.dot.actor.rep,.int .u32 e0.was.dot.actor.inc,.int .u64 e0.was.dot.seq,.str e0.was.text,.sl 5 (e0.was.items.map GItem.row),.sl 3 (e0.was.tombs.map GDot.row)]) ty45.choose_spec.2 rfl rfl) (zb rfl)) xJ ?_
 refine zO hF (fun v2 hv2 hF=>?_)
 refine yw rfl rfl (fun _=>zC rfl rfl rfl (zo xC zw) (.cons (zb rfl) .nil)) (by rintro _ ⟨B2,T2,rfl,hk2⟩;exact ok54 hv2) xP ?_
 refine zq rfl rfl (zg rfl fo51x5 yE rfl) ww ?_
 refine zq rfl rfl (zu rfl ty45.choose_spec.1 xQ rfl (zI (cs':=[.int .u8 e0.is.typ,.int .i64 e0.is.n,.int .u64 e0.is.time,.int .u8 e0.is.dot.actor.rep,.int .u32 e0.is.dot.actor.inc,.int .u64 e0.is.dot.seq,.str e0.is.text,.sl 5 (e0.is.items.map GItem.row),.sl 3 (e0.is.tombs.map GDot.row)]) ty45.choose_spec.2 rfl rfl) (zb rfl)) yI ?_
 refine zO hF (fun v3 hv3 hF=>?_)
 refine yw rfl rfl (fun _=>zC rfl rfl rfl (zo yB zw) (.cons (zb rfl) .nil)) (by rintro _ ⟨B2,T2,rfl,hk2⟩;exact ok54 hv3) yN ?_
 refine zq rfl rfl (zg rfl fo51x0 yE rfl) yS ?_
 refine xa rfl (FOk.cons (.inr (xU trivial)) (FOk.cons (.inr (xU trivial)) FOk.nil)) (by kernel_rfl) rfl (ye (cs':=[.osl (some (h.toks.length+0)) 1 (v1.map zP),.int .u8 e0.typ,.bool e0.had,.bool e0.has,.int .u8 e0.was.typ,.int .i64 e0.was.n,.int .u64 e0.was.time,.int .u8 e0.was.dot.actor.rep,.int .u32 e0.was.dot.actor.inc,.int .u64 e0.was.dot.seq,.str e0.was.text,.sl 5 (e0.was.items.map GItem.row),.sl 3 (e0.was.tombs.map GDot.row),.int .u8 e0.is.typ,.int .i64 e0.is.n,.int .u64 e0.is.time,.int .u8 e0.is.dot.actor.rep,.int .u32 e0.is.dot.actor.inc,.int .u64 e0.is.dot.seq,.str e0.is.text,.sl 5 (e0.is.items.map GItem.row),.sl 3 (e0.is.tombs.map GDot.row)]) rfl ty49 yP yM (zb rfl) rfl rfl rfl rfl rfl) rfl ?_
 refine zq rfl rfl (zg rfl fo51x4 yE rfl) yV ?_
 refine xa rfl (FOk.cons (.inr (xU trivial)) (FOk.cons (.inr (xU trivial)) FOk.nil)) (by kernel_rfl) rfl (ye (cs':=[.osl (some (h.toks.length+0)) 1 (v1.map zP),.int .u8 e0.typ,.bool e0.had,.bool e0.has,.int .u8 v2.typ,.int .i64 v2.n,.int .u64 v2.time,.int .u8 v2.dot.actor.rep,.int .u32 v2.dot.actor.inc,.int .u64 v2.dot.seq,.str v2.text,.sl 5 (v2.items.map GItem.row),.sl 3 (v2.tombs.map GDot.row),.int .u8 e0.is.typ,.int .i64 e0.is.n,.int .u64 e0.is.time,.int .u8 e0.is.dot.actor.rep,.int .u32 e0.is.dot.actor.inc,.int .u64 e0.is.dot.seq,.str e0.is.text,.sl 5 (e0.is.items.map GItem.row),.sl 3 (e0.is.tombs.map GDot.row)]) rfl ty45.choose_spec.1 yD xl (zb rfl) rfl rfl rfl rfl rfl) rfl ?_
 refine zq rfl rfl (zg rfl fo51x5 yE rfl) y4 ?_
 refine xa rfl (FOk.cons (.inr (xU trivial)) (FOk.cons (.inr (xU trivial)) FOk.nil)) (by kernel_rfl) rfl (ye (cs':=[.osl (some (h.toks.length+0)) 1 (v1.map zP),.int .u8 e0.typ,.bool e0.had,.bool e0.has,.int .u8 v2.typ,.int .i64 v2.n,.int .u64 v2.time,.int .u8 v2.dot.actor.rep,.int .u32 v2.dot.actor.inc,.int .u64 v2.dot.seq,.str v2.text,.sl 5 (v2.items.map GItem.row),.sl 3 (v2.tombs.map GDot.row),.int .u8 v3.typ,.int .i64 v3.n,.int .u64 v3.time,.int .u8 v3.dot.actor.rep,.int .u32 v3.dot.actor.inc,.int .u64 v3.dot.seq,.str v3.text,.sl 5 (v3.items.map GItem.row),.sl 3 (v3.tombs.map GDot.row)]) rfl ty45.choose_spec.1 yX yA (zb rfl) rfl rfl rfl rfl rfl) rfl ?_
 refine yo ?_
 refine zj (zk (zd ?_))
 refine zc rfl (zu rfl ty51.choose_spec.1 yE rfl (zI (cs':=[.osl (some (h.toks.length+0)) 1 (v1.map zP),.int .u8 e0.typ,.bool e0.had,.bool e0.has,.int .u8 v2.typ,.int .i64 v2.n,.int .u64 v2.time,.int .u8 v2.dot.actor.rep,.int .u32 v2.dot.actor.inc,.int .u64 v2.dot.seq,.str v2.text,.sl 5 (v2.items.map GItem.row),.sl 3 (v2.tombs.map GDot.row),.int .u8 v3.typ,.int .i64 v3.n,.int .u64 v3.time,.int .u8 v3.dot.actor.rep,.int .u32 v3.dot.actor.inc,.int .u64 v3.dot.seq,.str v3.text,.sl 5 (v3.items.map GItem.row),.sl 3 (v3.tombs.map GDot.row)]) ty51.choose_spec.2 rfl rfl) (zb rfl)) y8 ?_
 refine zc rfl (ye (cs':=[.osl (some (h.toks.length+0)) 1 (v1.map zP),.int .u8 e0.typ,.bool e0.had,.bool e0.has,.int .u8 v2.typ,.int .i64 v2.n,.int .u64 v2.time,.int .u8 v2.dot.actor.rep,.int .u32 v2.dot.actor.inc,.int .u64 v2.dot.seq,.str v2.text,.sl 5 (v2.items.map GItem.row),.sl 3 (v2.tombs.map GDot.row),.int .u8 v3.typ,.int .i64 v3.n,.int .u64 v3.time,.int .u8 v3.dot.actor.rep,.int .u32 v3.dot.actor.inc,.int .u64 v3.dot.seq,.str v3.text,.sl 5 (v3.items.map GItem.row),.sl 3 (v3.tombs.map GDot.row)]) rfl ty51.choose_spec.1 yW yT (zb rfl) rfl rfl rfl rfl rfl) rfl ?_
 refine ze (zj (zJ ?_))
 obtain rfl:=Option.some.inj hF
 refine zz rfl (rl_cell ty51.choose_spec.1 yW rfl (zI (cs':=[.osl (some (h.toks.length+0)) 1 (v1.map zP),.int .u8 e0.typ,.bool e0.had,.bool e0.has,.int .u8 v2.typ,.int .i64 v2.n,.int .u64 v2.time,.int .u8 v2.dot.actor.rep,.int .u32 v2.dot.actor.inc,.int .u64 v2.dot.seq,.str v2.text,.sl 5 (v2.items.map GItem.row),.sl 3 (v2.tombs.map GDot.row),.int .u8 v3.typ,.int .i64 v3.n,.int .u64 v3.time,.int .u8 v3.dot.actor.rep,.int .u32 v3.dot.actor.inc,.int .u64 v3.dot.seq,.str v3.text,.sl 5 (v3.items.map GItem.row),.sl 3 (v3.tombs.map GDot.row)]) ty51.choose_spec.2 rfl rfl) (zb rfl) zF) (zA (leV.agg (.cons (leV.osl _ _ _) (.eq (.eq (.eq (.eq (.eq (.eq (.eq (.eq (.eq (.eq (.eq (.eq (.eq (.eq (.eq (.eq (.eq (.eq (.eq (.eq (.eq leL.nil)))))))))))))))))))))) rfl) rfl ?_)
 exact ⟨rfl,rfl⟩
/-! varve/diff.sorted -/
theorem ok17 {byy0:List (zH×GEdit)} {mbyy0:Nat} {res:(List GEdit)} {h:AH} (hbyy0:h.blk mbyy0=some (.mapo (byy0.map (qw AV.str (fun x=>AV.agg (GEdit.row x)))) 0)) (hF:qR byy0=some res):Spec Tryz.prog 17 [.map mbyy0] h (fun rr hh=>rr=.sl 22 (res.map GEdit.row)∧hh=h):=by
 unfold qR at hF
 refine zt Tryz.func17 rfl (by kernel_rfl) (env:=[.map mbyy0,za,za,za,za,za,za,za,za,za,za,za,za,za,za,za,za,za,za,za,za,za,za,za,za,za,za,za,za,za,za,za]) (by rfl) ?_
 have hlmbyy0:=blk_lt hbyy0 rfl
 have hlmbyy0b:∀ k,mbyy0 < h.blks.length+k:=fun k=>Nat.lt_of_lt_of_le hlmbyy0 (Nat.le_add_right _ _)
 refine zk (zd ?_)
 refine zc rfl (zi rfl rfl (xk el26)) xe ?_
 refine ze (zj (zk (zk (zd ?_))))
 refine zc rfl (zf rfl yr (zb rfl)) xy ?_
 refine ops_rangeM (kv:=AV.str) (vv:=(fun x=>AV.agg (GEdit.row x))) rfl rfl Tryz.underlying52 yM (blk_old hbyy0) rfl xF rfl ?_
 refine ze (zj (zQ ?_))
 refine r_loopMF (fun (s1:(List GEdit))=>[(0,.any),(1,.any),(2,.rsl (h.blks.length+1) (h.toks.length+0) 22 ((s1).length)),(3,.any),(4,.any),(5,.any),(7,.any),(8,.any),(9,.any),(10,.any),(11,.any),(12,.any),(13,.any),(14,.any),(15,.any),(16,.any),(17,.any),(18,.any),(19,.any),(20,.any),(21,.any),(22,.any),(23,.any),(24,.any),(25,.any),(26,.any),(27,.any),(28,.any),(29,.any),(30,.any),(31,.any)]) (fun seen1 s1=>h.ext [.miter mbyy0 byy0.length seen1,.row (h.toks.length+0) 22 (s1.map GEdit.row)] [(s1).length]) hF (fun _=>by simp only [upd,List.set_cons_succ,List.set_cons_zero];try rfl) (wk.trans ((swk_thaw yW rfl rfl xe rfl rfl).wk) (wk.le (by exact (.drop (.drop (.cons (leV.of_eq rfl) (.drop (.drop (.drop (.eq (.d16 (.d4 (.d4 (.drop leL.nil)))))))))))))) ?_
 intro seen1 s1 hF
 refine zk (zd ?_)
 refine ops_nextMF rfl rfl yU rfl (blk_old hbyy0) xJ hF (fun i1 x1 o1 hx1 hs1 hF hK1=>⟨_,xJ,?_⟩) (fun hF=>?_)
 ·refine zc rfl (yG rfl xC rfl (zb rfl)) xP ?_
  refine ze (zj (zk ?_))
  refine r_cond xl (fun _=>?_) (fun hh=>by cases hh)
  refine zK (zj (zQ (zk (zd ?_))))
  refine ops_entryM rfl rfl yU rfl (blk_old hbyy0) hx1 ww ?_
  refine zc rfl (yG rfl xQ rfl (zb rfl)) yI ?_
  refine zc rfl (xc (n:=2) rfl ze51 rfl) yz ?_
  refine zc rfl (ye (cs':=[.sl 1 (x1.2.path.map zP),.int .u8 x1.2.typ,.bool x1.2.had,.bool x1.2.has,.int .u8 x1.2.was.typ,.int .i64 x1.2.was.n,.int .u64 x1.2.was.time,.int .u8 x1.2.was.dot.actor.rep,.int .u32 x1.2.was.dot.actor.inc,.int .u64 x1.2.was.dot.seq,.str x1.2.was.text,.sl 5 (x1.2.was.items.map GItem.row),.sl 3 (x1.2.was.tombs.map GDot.row),.int .u8 x1.2.is.typ,.int .i64 x1.2.is.n,.int .u64 x1.2.is.time,.int .u8 x1.2.is.dot.actor.rep,.int .u32 x1.2.is.dot.actor.inc,.int .u64 x1.2.is.dot.seq,.str x1.2.is.text,.sl 5 (x1.2.is.items.map GItem.row),.sl 3 (x1.2.is.tombs.map GDot.row)]) rfl ty51.choose_spec.1 ym yB (zb rfl) rfl rfl rfl rfl rfl) rfl ?_
  refine ze (zj (zk (zd ?_)))
  refine zc rfl (zg rfl fo51x2 ym rfl) yN ?_
  refine zc rfl (zu rfl ty4 yA rfl (zr rfl) (zb rfl)) yS ?_
  refine zc rfl (zg rfl fo51x3 ym rfl) yV ?_
  refine zc rfl (zu rfl ty4 yD rfl (zr rfl) (zb rfl)) y4 ?_
  refine zc rfl (zy rfl yP yX (bin_boolE ty4)) y8 ?_
  refine zc rfl (zf rfl yT (zb rfl)) xg ?_
  refine zp rfl (fun hb=>zg rfl fo51x4 ym rfl) xr ?_
  refine zp rfl (fun hb=>zu rfl ty45.choose_spec.1 (zn xp hb) rfl (zI (cs':=[.int .u8 x1.2.was.typ,.int .i64 x1.2.was.n,.int .u64 x1.2.was.time,.int .u8 x1.2.was.dot.actor.rep,.int .u32 x1.2.was.dot.actor.inc,.int .u64 x1.2.was.dot.seq,.str x1.2.was.text,.sl 5 (x1.2.was.items.map GItem.row),.sl 3 (x1.2.was.tombs.map GDot.row)]) ty45.choose_spec.2 rfl rfl) (zb rfl)) xD ?_
  refine zp rfl (fun hb=>zg rfl fo51x5 ym rfl) xK ?_
  refine zp rfl (fun hb=>zu rfl ty45.choose_spec.1 (zn xI hb) rfl (zI (cs':=[.int .u8 x1.2.is.typ,.int .i64 x1.2.is.n,.int .u64 x1.2.is.time,.int .u8 x1.2.is.dot.actor.rep,.int .u32 x1.2.is.dot.actor.inc,.int .u64 x1.2.is.dot.seq,.str x1.2.is.text,.sl 5 (x1.2.is.items.map GItem.row),.sl 3 (x1.2.is.tombs.map GDot.row)]) ty45.choose_spec.2 rfl rfl) (zb rfl)) x4 ?_
  refine yQ hF (fun v7 hv7 hF=>?_)
  refine yj rfl (fun hb=>zC rfl rfl rfl (zo (zn xB hb) (zo (zn x5 hb) zw)) (.cons (zb rfl) (.cons (zb rfl) .nil))) (fun hb=>ok21 (hv7 hb)) x9 ?_
  refine zc rfl (zM rfl xf x6 rfl (zX (fun ht=>gT ht))) wl ?_
  refine zc rfl (xT rfl wi rfl) x8 ?_
  refine ze (zj ?_)
  refine zN xX hF (fun hc8 hF=>?_) (fun hc8 hF=>?_)
  ·refine zd ?_
   refine zc rfl (zf rfl yW (zb rfl)) we ?_
   refine zc rfl (zu rfl ty51.choose_spec.1 ym rfl (zI (cs':=[.sl 1 (x1.2.path.map zP),.int .u8 x1.2.typ,.bool x1.2.had,.bool x1.2.has,.int .u8 x1.2.was.typ,.int .i64 x1.2.was.n,.int .u64 x1.2.was.time,.int .u8 x1.2.was.dot.actor.rep,.int .u32 x1.2.was.dot.actor.inc,.int .u64 x1.2.was.dot.seq,.str x1.2.was.text,.sl 5 (x1.2.was.items.map GItem.row),.sl 3 (x1.2.was.tombs.map GDot.row),.int .u8 x1.2.is.typ,.int .i64 x1.2.is.n,.int .u64 x1.2.is.time,.int .u8 x1.2.is.dot.actor.rep,.int .u32 x1.2.is.dot.actor.inc,.int .u64 x1.2.is.dot.seq,.str x1.2.is.text,.sl 5 (x1.2.is.items.map GItem.row),.sl 3 (x1.2.is.tombs.map GDot.row)]) ty51.choose_spec.2 rfl rfl) (zb rfl)) wo ?_
   refine zO hF (fun v9 hv9 hF=>?_)
   refine zL rfl (zC rfl rfl rfl (zo wm zw) (.cons (zb rfl) .nil)) (ok23 hv9) wK ?_
   refine zc rfl (yu (es:=([v9]:List GEdit).map GEdit.row) rfl el26 ze51 rfl rfl (yg wI yl) (.cons (zb rfl) .nil) rfl rfl rfl) wR ?_
   refine wC hF (fun hm10 hF=>?_)
   refine zc rfl (e_appR (i:=1) (j:=0) (B':=[.miter mbyy0 byy0.length (seen1++[i1]),.row (h.toks.length+0) 22 ((s1++([v9]:List GEdit)).map GEdit.row),.cells [.sl 1 (x1.2.path.map zP),.int .u8 x1.2.typ,.bool x1.2.had,.bool x1.2.has,.int .u8 x1.2.was.typ,.int .i64 x1.2.was.n,.int .u64 x1.2.was.time,.int .u8 x1.2.was.dot.actor.rep,.int .u32 x1.2.was.dot.actor.inc,.int .u64 x1.2.was.dot.seq,.str x1.2.was.text,.sl 5 (x1.2.was.items.map GItem.row),.sl 3 (x1.2.was.tombs.map GDot.row),.int .u8 x1.2.is.typ,.int .i64 x1.2.is.n,.int .u64 x1.2.is.time,.int .u8 x1.2.is.dot.actor.rep,.int .u32 x1.2.is.dot.actor.inc,.int .u64 x1.2.is.dot.seq,.str x1.2.is.text,.sl 5 (x1.2.is.items.map GItem.row),.sl 3 (x1.2.is.tombs.map GDot.row)]]) (T':=[((s1++([v9]:List GEdit))).length]) rfl rfl rfl rfl el26 el26 wa wV rfl (zb rfl) qZ hm10 rfl rfl rfl rfl rfl) wQ ?_
   refine zc rfl (zi rfl wN (zb rfl)) xe ?_
   refine ze (yh (yH ?_))
   obtain rfl:=Option.some.inj hF
   exact ⟨i1,(s1++([v9]:List GEdit)),hs1,hK1,wk.trans (wk.le (by exact (.drop (.drop (.cons (leV.of_eq rfl) (.drop (.drop (.drop (.eq (.d16 (.d4 (.d4 (.drop leL.nil))))))))))))) (xN (by simp [yi,AV.low,hlmbyy0,hlmbyy0b]) rfl rfl (by simp [Blk.low,yi,AV.low,hlmbyy0,hlmbyy0b]))⟩
  ·refine zK (yh (yH ?_))
   obtain rfl:=Option.some.inj hF
   exact ⟨i1,s1,hs1,hK1,wk.trans (wk.le (by exact (.drop (.drop (.cons (leV.of_eq rfl) (.drop (.drop (.drop (.eq (.d16 (.d4 (.d4 (.drop leL.nil))))))))))))) (xN (by simp [yi,AV.low,hlmbyy0,hlmbyy0b]) rfl rfl (by simp [Blk.low,yi,AV.low,hlmbyy0,hlmbyy0b]))⟩
 ·refine zc rfl (yG rfl xC rfl (zb rfl)) xP ?_
  refine ze (zj (zk ?_))
  refine r_cond xl (fun hh=>by cases hh) (fun _=>?_)
  refine yR ?_
  refine zZ ?_
  refine zU ?_
  refine zV ?_
  refine zj (zk (zd ?_))
  refine zc rfl (zf rfl yW (zb rfl)) w9 ?_
  refine zO hF (fun v11 hv11 hF=>?_)
  refine ops_callH rfl (zC rfl rfl rfl (zo vb (zo rfl zw)) (.cons (zb rfl) (.cons (zb rfl) .nil))) (spec_sortO sort33TryzLays Tryz.isAgg51 Tryz.sizeOf51 (fun _=>rfl) (fun _=>rfl) (enters_fn Tryz.func26 rfl (by kernel_rfl)) (fun _ _ _ h=>ok26 h) hv11 (i:=1) (B':=[.miter mbyy0 byy0.length seen1,.row (h.toks.length+0) 22 (v11.map GEdit.row)]) rfl rfl) w8 ?_
  refine ze ?_
  refine q_seqw ((swk_freeze (j:=1) (m:=0) (B':=[.miter mbyy0 byy0.length seen1,.dead]) (T':=[(v11.map GEdit.row).length+1]) rfl (by exact (FzL.cons (FzA.same _) (FzL.cons (FzA.same _) (FzL.cons (FzA.hit2 _ _ (by rw [List.length_map];exact (sortO_len hv11).symm)) (FzL.cons (FzA.same _) (FzL.cons (FzA.same _) (FzL.cons (FzA.same _) (FzL.cons (FzA.same _) (FzL.cons (FzA.same _) (FzL.cons (FzA.same _) (FzL.cons (FzA.same _) (FzL.cons (FzA.same _) (FzL.cons (FzA.same _) (FzL.cons (FzA.same _) (FzL.cons (FzA.same _) (FzL.cons (FzA.same _) (FzL.cons (FzA.same _) (FzL.cons (FzA.same _) (FzL.cons (FzA.same _) (FzL.cons (FzA.same _) (FzL.cons (FzA.same _) (FzL.cons (FzA.same _) (FzL.cons (FzA.same _) (FzL.cons (FzA.same _) (FzL.cons (FzA.same _) (FzL.cons (FzA.same _) (FzL.cons (FzA.same _) (FzL.cons (FzA.same _) (FzL.cons (FzA.same _) (FzL.cons (FzA.same _) (FzL.cons (FzA.hit2 _ _ (by rw [List.length_map];exact (sortO_len hv11).symm)) (FzL.refl _)))))))))))))))))))))))))))))))) rfl rfl).wk) ?_
  refine zk (zd ?_)
  refine zc rfl (zf rfl yW (zb rfl)) vh ?_
  refine zc rfl (zi rfl vl (zb rfl)) xe ?_
  refine ze (zj (zJ ?_))
  obtain rfl:=Option.some.inj hF
  refine zz rfl (zD yW zF) (zA (leV.refl _) rfl ?_)
  exact ⟨rfl,rfl⟩
/-! strings.indexFunc -/
theorem ok134 {s0:zH} {f1:(Int→Option Bool)} {ff1:FuncId} {af1 kf1:List AV} {truth2:Bool} {res:Int} {h:AH} (hf1:∀ x0 v (L:List Blk) (M:List Nat),f1 x0=some v→Spec Tryz.prog ff1 (af1++[.int .i32 x0]++kf1) (h.ext L M) (fun rr hh=>rr=.bool v∧hh=h.ext L M)) (hF:vU s0 f1 truth2=some res):Spec Tryz.prog 134 [.str s0,.fn (.func ff1) af1 kf1,.bool truth2] h (fun rr hh=>rr=.int .i64 res∧hh=h):=by
 unfold vU at hF
 refine yC Tryz.func134 rfl (by kernel_rfl) (env:=[.str s0,.fn (.func ff1) af1 kf1,.bool truth2,za,za,za,za,za,za,za,za,za,za,za,za,za,za,za,za,za,za]) (by rfl) (fun hlow hC=>?_)
 simp only [yi,AV.low,Bool.and_eq_true,Bool.true_and,and_true] at hlow
 have hlaf1:∀ n m,h.blks.length≤n→h.toks.length≤m→yi n m af1=true:=fun n m h1 h2=>yY h1 h2 _ (by simp [hlow])
 have hlkf1:∀ n m,h.blks.length≤n→h.toks.length≤m→yi n m kf1=true:=fun n m h1 h2=>yY h1 h2 _ (by simp [hlow])
 refine zk (zd ?_)
 refine zc rfl (zi rfl rfl (zb rfl)) xF ?_
 refine ze (zj (zk (zk (zd ?_))))
 refine zc rfl (zf rfl yr (zb rfl)) ww ?_
 refine zc rfl (e_range (n:=0) rfl ty9 xQ rfl) yI ?_
 refine ze (zj (zQ ?_))
 refine r_loopWF (fun (s1:Nat)=>yO [0,3,4,5,6,7,8,9,11,12,13,14,15,16,17,18,19,20] []) (fun s1=>h.ext [.siter s0 s1] []) hF (fun _=>by simp only [yO,upd,List.set_cons_succ,List.set_cons_zero];try rfl) (wk.le (by exact (.drop (.eq (.eq (.d4 (.drop (.drop (.drop (.eq (.d4 (.d4 (.drop (.drop leL.nil)))))))))))))) ?_
 intro n1 s1 o1 hF hK1
 refine zk (zd ?_)
 refine ops_nextF rfl rfl yB rfl yN yN hF (fun hp5 hF=>?_) (fun hF=>?_)
 ·refine zc rfl (yG rfl yA rfl (zb rfl)) yS ?_
  refine ze (zj (zk ?_))
  refine r_cond yP (fun _=>?_) (fun hh=>by cases hh)
  refine zK (zj (zQ (zk (zd ?_))))
  refine zc rfl (yG rfl yA rfl (zb rfl)) yV ?_
  refine zc rfl (yG rfl yA rfl (zb rfl)) y4 ?_
  refine zc rfl (zi rfl yD (zb rfl)) xJ ?_
  refine zc rfl (zi rfl yX (zb rfl)) xP ?_
  refine ze (zj (zk (zd ?_)))
  refine zc rfl (zf rfl yE (zb rfl)) y8 ?_
  refine zc rfl (zf rfl xl (zb rfl)) xg ?_
  refine zO hF (fun v6 hv6 hF=>?_)
  refine zL rfl (s_callC rfl rfl yT (zo xf zw) (.cons (zb rfl) .nil) rfl) (hf1 _ _ _ _ hv6) xr ?_
  refine zc rfl (zf rfl yW (zb rfl)) xD ?_
  refine zc rfl (zy rfl xp xB (bin_boolE ty4)) xK ?_
  refine ze (zj ?_)
  refine zN xI hF (fun hc7 hF=>?_) (fun hc7 hF=>?_)
  ·refine zk (zd ?_)
   refine zc rfl (zf rfl xC (zb rfl)) x4 ?_
   refine zc rfl (zi rfl x5 (zb rfl)) xF ?_
   refine ze (zj (zJ ?_))
   refine zG ?_
   refine yd ?_
   obtain rfl:=Option.some.inj hF
   replace hF:=hK1
   refine zG ?_
   refine zx ?_
   obtain rfl:=Option.some.inj hF
   refine zz rfl (zD yU zF) (zA (leV.refl _) rfl ?_)
   exact ⟨rfl,rfl⟩
  ·refine zK (yh (yH ?_))
   obtain rfl:=Option.some.inj hF
   exact ⟨(s1+(dec s0 s1).2),hK1,wk.le (by exact (.drop (.eq (.eq (.d4 (.drop (.drop (.drop (.eq (.d4 (.d4 (.drop (.drop leL.nil)))))))))))))⟩
 ·refine zc rfl (yG rfl yA rfl (zb rfl)) yS ?_
  refine ze (zj (zk ?_))
  refine r_cond yP (fun hh=>by cases hh) (fun _=>?_)
  refine yR ?_
  refine zZ ?_
  refine zU ?_
  obtain rfl:=Option.some.inj hF
  replace hF:=hK1
  refine zV ?_
  refine zj (zk (zd ?_))
  refine zc rfl (zi rfl rfl (zb rfl)) xF ?_
  refine ze (zj (zJ ?_))
  obtain rfl:=Option.some.inj hF
  refine zz rfl (zD yU zF) (zA (leV.refl _) rfl ?_)
  exact ⟨rfl,rfl⟩
/-! strings.IndexFunc -/
theorem ok117 {s0:zH} {f1:(Int→Option Bool)} {ff1:FuncId} {af1 kf1:List AV} {res:Int} {h:AH} (hf1:∀ x0 v (L:List Blk) (M:List Nat),f1 x0=some v→Spec Tryz.prog ff1 (af1++[.int .i32 x0]++kf1) (h.ext L M) (fun rr hh=>rr=.bool v∧hh=h.ext L M)) (hF:qj s0 f1=some res):Spec Tryz.prog 117 [.str s0,.fn (.func ff1) af1 kf1] h (fun rr hh=>rr=.int .i64 res∧hh=h):=by
 unfold qj at hF
 refine yC Tryz.func117 rfl (by kernel_rfl) (env:=[.str s0,.fn (.func ff1) af1 kf1,za,za,za,za,za,za]) (by rfl) (fun hlow hC=>?_)
 simp only [yi,AV.low,Bool.and_eq_true,Bool.true_and,and_true] at hlow
 have hlaf1:∀ n m,h.blks.length≤n→h.toks.length≤m→yi n m af1=true:=fun n m h1 h2=>yY h1 h2 _ (by simp [hlow])
 have hlkf1:∀ n m,h.blks.length≤n→h.toks.length≤m→yi n m kf1=true:=fun n m h1 h2=>yY h1 h2 _ (by simp [hlow])
 refine zk (zd ?_)
 refine zc rfl (zi rfl rfl (zb rfl)) yz ?_
 refine ze (zj (zk (zd ?_)))
 refine zc rfl (zf rfl yr (zb rfl)) xy ?_
 refine zc rfl (zf rfl yE (zb rfl)) xF ?_
 refine zO hF (fun v1 hv1 hF=>?_)
 refine zL rfl (zC rfl rfl rfl (zo yM (zo yU (zo rfl zw))) (.cons (zb rfl) (.cons (zb rfl) (.cons (zb rfl) .nil)))) (ok134 (fun x0 v L M hv=>by rw [wb];exact hf1 x0 v _ _ hv) hv1) xJ ?_
 refine zc rfl (zi rfl xC (zb rfl)) yz ?_
 refine ze (zj (zJ ?_))
 obtain rfl:=Option.some.inj hF
 refine zz rfl (zD ym zF) (zA (leV.refl _) rfl ?_)
 exact ⟨rfl,rfl⟩
/-! strings.ContainsFunc -/
theorem ok88 {s0:zH} {f1:(Int→Option Bool)} {ff1:FuncId} {af1 kf1:List AV} {res:Bool} {h:AH} (hf1:∀ x0 v (L:List Blk) (M:List Nat),f1 x0=some v→Spec Tryz.prog ff1 (af1++[.int .i32 x0]++kf1) (h.ext L M) (fun rr hh=>rr=.bool v∧hh=h.ext L M)) (hF:wu s0 f1=some res):Spec Tryz.prog 88 [.str s0,.fn (.func ff1) af1 kf1] h (fun rr hh=>rr=.bool res∧hh=h):=by
 unfold wu at hF
 refine yC Tryz.func88 rfl (by kernel_rfl) (env:=[.str s0,.fn (.func ff1) af1 kf1,za,za,za,za,za,za,za]) (by rfl) (fun hlow hC=>?_)
 simp only [yi,AV.low,Bool.and_eq_true,Bool.true_and,and_true] at hlow
 have hlaf1:∀ n m,h.blks.length≤n→h.toks.length≤m→yi n m af1=true:=fun n m h1 h2=>yY h1 h2 _ (by simp [hlow])
 have hlkf1:∀ n m,h.blks.length≤n→h.toks.length≤m→yi n m kf1=true:=fun n m h1 h2=>yY h1 h2 _ (by simp [hlow])
 refine zk (zd ?_)
 refine zc rfl (zi rfl rfl (zb rfl)) yz ?_
 refine ze (zj (zk (zd ?_)))
 refine zc rfl (zf rfl yr (zb rfl)) xy ?_
 refine zc rfl (zf rfl yE (zb rfl)) xF ?_
 refine zO hF (fun v1 hv1 hF=>?_)
 refine zL rfl (zC rfl rfl rfl (zo yM (zo yU zw)) (.cons (zb rfl) (.cons (zb rfl) .nil))) (ok117 (fun x0 v L M hv=>by rw [wb];exact hf1 x0 v _ _ hv) hv1) xJ ?_
 refine zc rfl (zy rfl xC rfl rfl) xP ?_
 refine zc rfl (zi rfl xl (zb rfl)) yz ?_
 refine ze (zj (zJ ?_))
 obtain rfl:=Option.some.inj hF
 refine zz rfl (zD ym zF) (zA (leV.refl _) rfl ?_)
 exact ⟨rfl,rfl⟩
/-! varve/op.IsName 1 -/
theorem ok87 {r0:Int} {res:Bool} {h:AH}  (hF:opIsNameC1 r0=some res):Spec Tryz.prog 87 [.int .i32 r0] h (fun rr hh=>rr=.bool res∧hh=h):=by
 unfold opIsNameC1 at hF
 refine zt Tryz.func87 rfl (by kernel_rfl) (env:=[.int .i32 r0,za,za,za,za,za,za,za,za,za,za,za,za,za,za,za,za,za,za,za,za,za,za,za,za]) (by rfl) ?_
 refine zk (zd ?_)
 refine zc rfl (zi rfl rfl (zb rfl)) xe ?_
 refine ze (zj (zk (zd ?_)))
 refine zc rfl (zf rfl yr (zb rfl)) wd ?_
 refine zc rfl (zy rfl xw rfl rfl) yz ?_
 refine zc rfl (zf rfl ym (zb rfl)) xy ?_
 refine zp rfl (fun hb=>zf rfl yr (zb rfl)) xF ?_
 refine zp rfl (fun hb=>zy rfl (zn yU hb) rfl rfl) xJ ?_
 refine zc rfl (zM rfl yM rfl xC (z8 (fun ht=>gF ht))) xP ?_
 refine zc rfl (zf rfl xl (zb rfl)) ww ?_
 refine zp rfl (fun hb=>zf rfl yr (zb rfl)) yI ?_
 refine zp rfl (fun hb=>zy rfl (zn yB hb) rfl rfl) yN ?_
 refine zp rfl (fun hb=>zf rfl (zn yA hb) (zb rfl)) yS ?_
 refine zp (z7 rfl rfl rfl) (fun hb=>zf rfl yr (zb rfl)) yV ?_
 refine zp (z7 rfl rfl rfl) (fun hb=>zy rfl (zn yD hb) rfl rfl) y4 ?_
 refine zp rfl (fun hb=>zM rfl (zn yP hb) rfl yX (z8 (fun ht=>gF2 hb ht))) y8 ?_
 refine zc rfl (zM rfl xQ yT rfl (zX (fun ht=>gT ht))) xg ?_
 refine zc rfl (zf rfl xf (zb rfl)) xr ?_
 refine zp rfl (fun hb=>zf rfl yr (zb rfl)) xD ?_
 refine zp rfl (fun hb=>zy rfl (zn xB hb) rfl rfl) xK ?_
 refine zp rfl (fun hb=>zf rfl (zn xI hb) (zb rfl)) x4 ?_
 refine zp (z7 rfl rfl rfl) (fun hb=>zf rfl yr (zb rfl)) x9 ?_
 refine zp (z7 rfl rfl rfl) (fun hb=>zy rfl (zn x6 hb) rfl rfl) wl ?_
 refine zp rfl (fun hb=>zM rfl (zn x5 hb) rfl wi (z8 (fun ht=>gF2 hb ht))) x8 ?_
 refine zc rfl (zM rfl xp xX rfl (zX (fun ht=>gT ht))) we ?_
 refine zc rfl (zi rfl wa (zb rfl)) xe ?_
 refine ze (zj (zJ ?_))
 obtain rfl:=Option.some.inj hF
 refine zz rfl (zD yW zF) (zA (leV.refl _) rfl ?_)
 exact ⟨rfl,rfl⟩
/-! varve/op.IsName -/
theorem ok62 {s0:zH} {res:Bool} {h:AH}  (hF:opIsName s0=some res):Spec Tryz.prog 62 [.str s0] h (fun rr hh=>rr=.bool res∧hh=h):=by
 unfold opIsName at hF
 refine zt Tryz.func62 rfl (by kernel_rfl) (env:=[.str s0,za,za,za,za,za,za,za,za,za,za,za,za,za,za,za,za,za]) (by rfl) ?_
 refine zk (zd ?_)
 refine zc rfl (zi rfl rfl (zb rfl)) xe ?_
 refine ze (zj (zk (zd ?_)))
 refine zc rfl (zi rfl rfl (zb rfl)) wd ?_
 refine ze (zj (zk (zd ?_)))
 refine zc rfl (zf rfl yr (zb rfl)) yz ?_
 refine ya rfl (vM rfl rfl rfl rfl ty9 ym) xy fun hn1=>?_
 replace hn1:=xu hn1
 refine zc rfl (zy rfl yM rfl rfl) xF ?_
 refine zc rfl (zf rfl yU (zb rfl)) xJ ?_
 refine zp rfl (fun hb=>zf rfl yr (zb rfl)) xP ?_
 refine xA rfl (fun hb=>vM rfl rfl rfl rfl ty9 (zn xl hb)) ww fun hn2=>?_
 refine zp rfl (fun hb=>zy rfl (zn xQ hb) rfl rfl) yI ?_
 refine zc rfl (zM rfl xC yB rfl (zX (fun ht=>gT ht))) yN ?_
 refine zc rfl (zf rfl yA (zb rfl)) yS ?_
 refine zp rfl (fun hb=>zf rfl yr (zb rfl)) yV ?_
 refine zp rfl (fun hb=>zf rfl xw (zb rfl)) y4 ?_
 refine yQ hF (fun v3 hv3 hF=>?_)
 refine yj rfl (fun hb=>zC rfl rfl rfl (zo (zn yD hb) (zo (zn yX hb) zw)) (.cons (zb rfl) (.cons (zb rfl) .nil))) (fun hb=>ok88 (fun _ v L M hv=>ok87  hv) (hv3 hb)) y8 ?_
 refine zp rfl (fun hb=>xT rfl (zn yT hb) rfl) xg ?_
 refine zc rfl (zM rfl yP xf rfl (zX (fun ht=>gT ht))) xr ?_
 refine zc rfl (zi rfl xp (zb rfl)) xe ?_
 refine ze (zj (zJ ?_))
 obtain rfl:=Option.some.inj hF
 refine zz rfl (zD yW zF) (zA (leV.refl _) rfl ?_)
 exact ⟨rfl,rfl⟩
/-! varve/leaf.isTime -/
theorem ok89 {n0:Int} {res:Bool} {h:AH}  (hF:leafXisTime n0=some res):Spec Tryz.prog 89 [.int .u64 n0] h (fun rr hh=>rr=.bool res∧hh=h):=by
 unfold leafXisTime at hF
 refine zt Tryz.func89 rfl (by kernel_rfl) (env:=[.int .u64 n0,za,za,za,za,za,za,za,za]) (by rfl) ?_
 refine zk (zd ?_)
 refine zc rfl (zi rfl rfl (zb rfl)) xe ?_
 refine ze (zj (zk (zd ?_)))
 refine zc rfl (zf rfl yr (zb rfl)) wd ?_
 refine zc rfl (zy rfl xw rfl rfl) yz ?_
 refine zc rfl (zf rfl ym (zb rfl)) xy ?_
 refine zp rfl (fun hb=>zf rfl yr (zb rfl)) xF ?_
 refine zp rfl (fun hb=>zy rfl (zn yU hb) rfl rfl) xJ ?_
 refine zc rfl (zM rfl yM xC rfl (zX (fun ht=>gT ht))) xP ?_
 refine zc rfl (zi rfl xl (zb rfl)) xe ?_
 refine ze (zj (zJ ?_))
 obtain rfl:=Option.some.inj hF
 refine zz rfl (zD yW zF) (zA (leV.refl _) rfl ?_)
 exact ⟨rfl,rfl⟩
/-! varve/dot.MayActor -/
theorem ok118 {a0:GActor} {res:Bool} {h:AH}  (hF:dotMayActor a0=some res):Spec Tryz.prog 118 [.agg [.int .u8 a0.rep,.int .u32 a0.inc]] h (fun rr hh=>rr=.bool res∧hh=h):=by
 unfold dotMayActor at hF
 refine zt Tryz.func118 rfl (by kernel_rfl) (env:=[.agg [.int .u8 a0.rep,.int .u32 a0.inc],za,za,za,za,za,za,za,za,za,za,za,za,za,za,za]) (by rfl) ?_
 refine zk (zd ?_)
 refine zc rfl (xq (n:=0) rfl yr (zb rfl) rfl rfl) st1 ?_
 refine zc rfl (zi rfl rfl (zb rfl)) xe ?_
 refine ze (zj (zk (zd ?_)))
 refine zc rfl (zg rfl fo39x0 yE rfl) wd ?_
 refine zc rfl (zu rfl ty5 xw rfl (zr rfl) (zb rfl)) yz ?_
 refine zc rfl (zy rfl ym rfl rfl) xy ?_
 refine zc rfl (zf rfl yM (zb rfl)) xF ?_
 refine zp rfl (fun hb=>zg rfl fo39x1 yE rfl) xJ ?_
 refine zp rfl (fun hb=>zu rfl ty37 (zn xC hb) rfl (zr rfl) (zb rfl)) xP ?_
 refine zp rfl (fun hb=>zy rfl (zn xl hb) rfl rfl) ww ?_
 refine zc rfl (zM rfl yU xQ rfl (zX (fun ht=>gT ht))) yI ?_
 refine zc rfl (zf rfl yB (zb rfl)) yN ?_
 refine zp rfl (fun hb=>zg rfl fo39x1 yE rfl) yS ?_
 refine zp rfl (fun hb=>zu rfl ty37 (zn yP hb) rfl (zr rfl) (zb rfl)) yV ?_
 refine zp rfl (fun hb=>zy rfl (zn yD hb) rfl rfl) y4 ?_
 refine zc rfl (zM rfl yA yX rfl (zX (fun ht=>gT ht))) y8 ?_
 refine zc rfl (zi rfl yT (zb rfl)) xe ?_
 refine ze (zj (zJ ?_))
 obtain rfl:=Option.some.inj hF
 refine zz rfl (zD yW zF) (zA (leV.refl _) rfl ?_)
 exact ⟨rfl,rfl⟩
/-! varve/dot.May -/
theorem ok90 {d0:GDot} {res:Bool} {h:AH}  (hF:dotMay d0=some res):Spec Tryz.prog 90 [.agg [.int .u8 d0.actor.rep,.int .u32 d0.actor.inc,.int .u64 d0.seq]] h (fun rr hh=>rr=.bool res∧hh=h):=by
 unfold dotMay at hF
 refine zt Tryz.func90 rfl (by kernel_rfl) (env:=[.agg [.int .u8 d0.actor.rep,.int .u32 d0.actor.inc,.int .u64 d0.seq],za,za,za,za,za,za,za,za,za,za,za,za,za,za,za]) (by rfl) ?_
 refine zk (zd ?_)
 refine zc rfl (xq (n:=0) rfl yr (zb rfl) rfl rfl) st1 ?_
 refine zc rfl (zi rfl rfl (zb rfl)) xe ?_
 refine ze (zj (zk (zd ?_)))
 refine zc rfl (zg rfl fo41x0 yE rfl) wd ?_
 refine zc rfl (zu rfl ty39.choose_spec.1 xw rfl (zI (cs':=[.int .u8 d0.actor.rep,.int .u32 d0.actor.inc]) ty39.choose_spec.2 rfl rfl) (zb rfl)) yz ?_
 refine zO hF (fun v1 hv1 hF=>?_)
 refine zL rfl (zC rfl rfl rfl (zo ym zw) (.cons (zb rfl) .nil)) (ok118 hv1) xy ?_
 refine zc rfl (zf rfl yM (zb rfl)) xF ?_
 refine zp rfl (fun hb=>zg rfl fo41x1 yE rfl) xJ ?_
 refine zp rfl (fun hb=>zu rfl qW (zn xC hb) rfl (zr rfl) (zb rfl)) xP ?_
 refine zp rfl (fun hb=>zy rfl (zn xl hb) rfl rfl) ww ?_
 refine zc rfl (zM rfl yU xQ rfl (zX (fun ht=>gT ht))) yI ?_
 refine zc rfl (zf rfl yB (zb rfl)) yN ?_
 refine zp rfl (fun hb=>zg rfl fo41x1 yE rfl) yS ?_
 refine zp rfl (fun hb=>zu rfl qW (zn yP hb) rfl (zr rfl) (zb rfl)) yV ?_
 refine zp rfl (fun hb=>zy rfl (zn yD hb) rfl rfl) y4 ?_
 refine zc rfl (zM rfl yA yX rfl (zX (fun ht=>gT ht))) y8 ?_
 refine zc rfl (zi rfl yT (zb rfl)) xe ?_
 refine ze (zj (zJ ?_))
 obtain rfl:=Option.some.inj hF
 refine zz rfl (zD yW zF) (zA (leV.refl _) rfl ?_)
 exact ⟨rfl,rfl⟩
/-! varve/leaf.isText -/
theorem ok91 {s0:zH} {res:Bool} {h:AH}  (hF:qP s0=some res):Spec Tryz.prog 91 [.str s0] h (fun rr hh=>rr=.bool res∧hh=h):=by
 unfold qP at hF
 refine zt Tryz.func91 rfl (by kernel_rfl) (env:=[.str s0,za,za,za,za,za]) (by rfl) ?_
 refine zk (zd ?_)
 refine zc rfl (zi rfl rfl (zb rfl)) xe ?_
 refine ze (zj (zk (zd ?_)))
 refine zc rfl (zf rfl yr (zb rfl)) wd ?_
 refine ya rfl (vM rfl rfl rfl rfl ty9 xw) yz fun hn1=>?_
 replace hn1:=xu hn1
 refine zc rfl (zy rfl ym rfl rfl) xy ?_
 refine zc rfl (zi rfl yM (zb rfl)) xe ?_
 refine ze (zj (zJ ?_))
 obtain rfl:=Option.some.inj hF
 refine zz rfl (zD yW zF) (zA (leV.refl _) rfl ?_)
 exact ⟨rfl,rfl⟩
/-! cmp.isNaN[uint64] -/
theorem ok143 {x0:Int} {res:Bool} {h:AH}  (hF:vP x0=some res):Spec Tryz.prog 143 [.int .u64 x0] h (fun rr hh=>rr=.bool res∧hh=h):=by
 unfold vP at hF
 refine zt Tryz.func143 rfl (by kernel_rfl) (env:=[.int .u64 x0,za,za,za,za,za]) (by rfl) ?_
 refine zk (zd ?_)
 refine zc rfl (zi rfl rfl (zb rfl)) xe ?_
 refine ze (zj (zk (zd ?_)))
 refine zc rfl (zf rfl yr (zb rfl)) wd ?_
 refine zc rfl (zf rfl yr (zb rfl)) yz ?_
 refine zc rfl (zy rfl xw ym rfl) xy ?_
 refine zc rfl (zi rfl yM (zb rfl)) xe ?_
 refine ze (zj (zJ ?_))
 obtain rfl:=Option.some.inj hF
 refine zz rfl (zD yW zF) (zA (leV.refl _) rfl ?_)
 exact ⟨rfl,rfl⟩
/-! cmp.Compare[uint64] -/
theorem ok137 {x0:Int} {y1:Int} {res:Int} {h:AH}  (hF:wB x0 y1=some res):Spec Tryz.prog 137 [.int .u64 x0,.int .u64 y1] h (fun rr hh=>rr=.int .i64 res∧hh=h):=by
 unfold wB at hF
 refine zt Tryz.func137 rfl (by kernel_rfl) (env:=[.int .u64 x0,.int .u64 y1,za,za,za,za,za,za,za,za,za,za,za,za,za,za,za,za,za,za]) (by rfl) ?_
 refine zk (zd ?_)
 refine zc rfl (zi rfl rfl (zb rfl)) yz ?_
 refine ze (zj (zk (zd ?_)))
 refine zc rfl (zf rfl yr (zb rfl)) xJ ?_
 refine zO hF (fun v1 hv1 hF=>?_)
 refine zL rfl (zC rfl rfl rfl (zo xC zw) (.cons (zb rfl) .nil)) (ok143 hv1) xP ?_
 refine zc rfl (zi rfl xl (zb rfl)) xy ?_
 refine ze (zj (zk (zd ?_)))
 refine zc rfl (zf rfl yE (zb rfl)) ww ?_
 refine zO hF (fun v2 hv2 hF=>?_)
 refine zL rfl (zC rfl rfl rfl (zo xQ zw) (.cons (zb rfl) .nil)) (ok143 hv2) yI ?_
 refine zc rfl (zi rfl yB (zb rfl)) xF ?_
 refine ze (zj (zk (zk (zd ?_))))
 refine zc rfl (zf rfl yM (zb rfl)) yN ?_
 refine ze (zj ?_)
 refine zN yA hF (fun hc3 hF=>?_) (fun hc3 hF=>?_)
 ·refine zk (zk (zd ?_))
  refine zc rfl (zf rfl yU (zb rfl)) yS ?_
  refine ze (zj ?_)
  refine zN yP hF (fun hc4 hF=>?_) (fun hc4 hF=>?_)
  ·refine zk (zd ?_)
   refine zc rfl (zi rfl rfl (zb rfl)) yz ?_
   refine ze (zj (zJ (zx (zx ?_))))
   obtain rfl:=Option.some.inj hF
   refine zz rfl (zD ym zF) (zA (leV.refl _) rfl ?_)
   exact ⟨rfl,rfl⟩
  ·refine zK (zj (zk (zd ?_)))
   refine zc rfl (zi rfl rfl (zb rfl)) yz ?_
   refine ze (zj (zJ (zx ?_)))
   obtain rfl:=Option.some.inj hF
   refine zz rfl (zD ym zF) (zA (leV.refl _) rfl ?_)
   exact ⟨rfl,rfl⟩
 ·refine zK (zj (zk (zk (zd ?_))))
  refine zc rfl (zf rfl yU (zb rfl)) yV ?_
  refine ze (zj ?_)
  refine zN yD hF (fun hc5 hF=>?_) (fun hc5 hF=>?_)
  ·refine zk (zd ?_)
   refine zc rfl (zi rfl rfl (zb rfl)) yz ?_
   refine ze (zj (zJ (zx ?_)))
   obtain rfl:=Option.some.inj hF
   refine zz rfl (zD ym zF) (zA (leV.refl _) rfl ?_)
   exact ⟨rfl,rfl⟩
  ·refine zK (zj (zk (zk (zd ?_))))
   refine zc rfl (zf rfl yr (zb rfl)) y4 ?_
   refine zc rfl (zf rfl yE (zb rfl)) y8 ?_
   refine zc rfl (zy rfl yX yT rfl) xg ?_
   refine ze (zj ?_)
   refine zN xf hF (fun hc6 hF=>?_) (fun hc6 hF=>?_)
   ·refine zk (zd ?_)
    refine zc rfl (zi rfl rfl (zb rfl)) yz ?_
    refine ze (zj (zJ (zx ?_)))
    obtain rfl:=Option.some.inj hF
    refine zz rfl (zD ym zF) (zA (leV.refl _) rfl ?_)
    exact ⟨rfl,rfl⟩
   ·refine zK (zj (zk (zk (zd ?_))))
    refine zc rfl (zf rfl yr (zb rfl)) xr ?_
    refine zc rfl (zf rfl yE (zb rfl)) xD ?_
    refine zc rfl (zy rfl xp xB rfl) xK ?_
    refine ze (zj ?_)
    refine zN xI hF (fun hc7 hF=>?_) (fun hc7 hF=>?_)
    ·refine zk (zd ?_)
     refine zc rfl (zi rfl rfl (zb rfl)) yz ?_
     refine ze (zj (zJ (zx ?_)))
     obtain rfl:=Option.some.inj hF
     refine zz rfl (zD ym zF) (zA (leV.refl _) rfl ?_)
     exact ⟨rfl,rfl⟩
    ·refine zK (zj (zk (zd ?_)))
     refine zc rfl (zi rfl rfl (zb rfl)) yz ?_
     refine ze (zj (zJ ?_))
     obtain rfl:=Option.some.inj hF
     refine zz rfl (zD ym zF) (zA (leV.refl _) rfl ?_)
     exact ⟨rfl,rfl⟩
/-! cmp.isNaN[uint32] -/
theorem ok145 {x0:Int} {res:Bool} {h:AH}  (hF:vQ x0=some res):Spec Tryz.prog 145 [.int .u32 x0] h (fun rr hh=>rr=.bool res∧hh=h):=by
 unfold vQ at hF
 refine zt Tryz.func145 rfl (by kernel_rfl) (env:=[.int .u32 x0,za,za,za,za,za]) (by rfl) ?_
 refine zk (zd ?_)
 refine zc rfl (zi rfl rfl (zb rfl)) xe ?_
 refine ze (zj (zk (zd ?_)))
 refine zc rfl (zf rfl yr (zb rfl)) wd ?_
 refine zc rfl (zf rfl yr (zb rfl)) yz ?_
 refine zc rfl (zy rfl xw ym rfl) xy ?_
 refine zc rfl (zi rfl yM (zb rfl)) xe ?_
 refine ze (zj (zJ ?_))
 obtain rfl:=Option.some.inj hF
 refine zz rfl (zD yW zF) (zA (leV.refl _) rfl ?_)
 exact ⟨rfl,rfl⟩
/-! cmp.Compare[uint32] -/
theorem ok142 {x0:Int} {y1:Int} {res:Int} {h:AH}  (hF:vo x0 y1=some res):Spec Tryz.prog 142 [.int .u32 x0,.int .u32 y1] h (fun rr hh=>rr=.int .i64 res∧hh=h):=by
 unfold vo at hF
 refine zt Tryz.func142 rfl (by kernel_rfl) (env:=[.int .u32 x0,.int .u32 y1,za,za,za,za,za,za,za,za,za,za,za,za,za,za,za,za,za,za]) (by rfl) ?_
 refine zk (zd ?_)
 refine zc rfl (zi rfl rfl (zb rfl)) yz ?_
 refine ze (zj (zk (zd ?_)))
 refine zc rfl (zf rfl yr (zb rfl)) xJ ?_
 refine zO hF (fun v1 hv1 hF=>?_)
 refine zL rfl (zC rfl rfl rfl (zo xC zw) (.cons (zb rfl) .nil)) (ok145 hv1) xP ?_
 refine zc rfl (zi rfl xl (zb rfl)) xy ?_
 refine ze (zj (zk (zd ?_)))
 refine zc rfl (zf rfl yE (zb rfl)) ww ?_
 refine zO hF (fun v2 hv2 hF=>?_)
 refine zL rfl (zC rfl rfl rfl (zo xQ zw) (.cons (zb rfl) .nil)) (ok145 hv2) yI ?_
 refine zc rfl (zi rfl yB (zb rfl)) xF ?_
 refine ze (zj (zk (zk (zd ?_))))
 refine zc rfl (zf rfl yM (zb rfl)) yN ?_
 refine ze (zj ?_)
 refine zN yA hF (fun hc3 hF=>?_) (fun hc3 hF=>?_)
 ·refine zk (zk (zd ?_))
  refine zc rfl (zf rfl yU (zb rfl)) yS ?_
  refine ze (zj ?_)
  refine zN yP hF (fun hc4 hF=>?_) (fun hc4 hF=>?_)
  ·refine zk (zd ?_)
   refine zc rfl (zi rfl rfl (zb rfl)) yz ?_
   refine ze (zj (zJ (zx (zx ?_))))
   obtain rfl:=Option.some.inj hF
   refine zz rfl (zD ym zF) (zA (leV.refl _) rfl ?_)
   exact ⟨rfl,rfl⟩
  ·refine zK (zj (zk (zd ?_)))
   refine zc rfl (zi rfl rfl (zb rfl)) yz ?_
   refine ze (zj (zJ (zx ?_)))
   obtain rfl:=Option.some.inj hF
   refine zz rfl (zD ym zF) (zA (leV.refl _) rfl ?_)
   exact ⟨rfl,rfl⟩
 ·refine zK (zj (zk (zk (zd ?_))))
  refine zc rfl (zf rfl yU (zb rfl)) yV ?_
  refine ze (zj ?_)
  refine zN yD hF (fun hc5 hF=>?_) (fun hc5 hF=>?_)
  ·refine zk (zd ?_)
   refine zc rfl (zi rfl rfl (zb rfl)) yz ?_
   refine ze (zj (zJ (zx ?_)))
   obtain rfl:=Option.some.inj hF
   refine zz rfl (zD ym zF) (zA (leV.refl _) rfl ?_)
   exact ⟨rfl,rfl⟩
  ·refine zK (zj (zk (zk (zd ?_))))
   refine zc rfl (zf rfl yr (zb rfl)) y4 ?_
   refine zc rfl (zf rfl yE (zb rfl)) y8 ?_
   refine zc rfl (zy rfl yX yT rfl) xg ?_
   refine ze (zj ?_)
   refine zN xf hF (fun hc6 hF=>?_) (fun hc6 hF=>?_)
   ·refine zk (zd ?_)
    refine zc rfl (zi rfl rfl (zb rfl)) yz ?_
    refine ze (zj (zJ (zx ?_)))
    obtain rfl:=Option.some.inj hF
    refine zz rfl (zD ym zF) (zA (leV.refl _) rfl ?_)
    exact ⟨rfl,rfl⟩
   ·refine zK (zj (zk (zk (zd ?_))))
    refine zc rfl (zf rfl yr (zb rfl)) xr ?_
    refine zc rfl (zf rfl yE (zb rfl)) xD ?_
    refine zc rfl (zy rfl xp xB rfl) xK ?_
    refine ze (zj ?_)
    refine zN xI hF (fun hc7 hF=>?_) (fun hc7 hF=>?_)
    ·refine zk (zd ?_)
     refine zc rfl (zi rfl rfl (zb rfl)) yz ?_
     refine ze (zj (zJ (zx ?_)))
     obtain rfl:=Option.some.inj hF
     refine zz rfl (zD ym zF) (zA (leV.refl _) rfl ?_)
     exact ⟨rfl,rfl⟩
    ·refine zK (zj (zk (zd ?_)))
     refine zc rfl (zi rfl rfl (zb rfl)) yz ?_
     refine ze (zj (zJ ?_))
     obtain rfl:=Option.some.inj hF
     refine zz rfl (zD ym zF) (zA (leV.refl _) rfl ?_)
     exact ⟨rfl,rfl⟩
/-! varve/dot.compare -/
theorem ok136 {a0:GActor} {b1:GActor} {res:Int} {h:AH}  (hF:dotXcompare a0 b1=some res):Spec Tryz.prog 136 [.agg [.int .u8 a0.rep,.int .u32 a0.inc],.agg [.int .u8 b1.rep,.int .u32 b1.inc]] h (fun rr hh=>rr=.int .i64 res∧hh=h):=by
 unfold dotXcompare at hF
 refine zt Tryz.func136 rfl (by kernel_rfl) (env:=[.agg [.int .u8 a0.rep,.int .u32 a0.inc],.agg [.int .u8 b1.rep,.int .u32 b1.inc],za,za,za,za,za,za,za,za,za,za,za,za,za,za,za]) (by rfl) ?_
 refine zk (zd ?_)
 refine zc rfl (xq (n:=0) rfl yr (zb rfl) rfl rfl) xe ?_
 refine zc rfl (xq (n:=1) rfl yE (zb rfl) rfl rfl) wd ?_
 refine zc rfl (zi rfl rfl (zb rfl)) yz ?_
 refine ze (zj (zk ?_))
 refine yJ [4,9,11] [] trivial mixed (by kernel_rfl) ?_
 refine zq rfl rfl (zg rfl fo39x0 yW rfl) xy ?_
 refine zq rfl rfl (zu rfl ty5 yM rfl (zr rfl) (zb rfl)) xF ?_
 refine zq rfl rfl (zg rfl fo39x0 xw rfl) xJ ?_
 refine zq rfl rfl (zu rfl ty5 xC rfl (zr rfl) (zb rfl)) xP ?_
 refine zO hF (fun v1 hv1 hF=>?_)
 refine yw rfl rfl (fun _=>zC rfl rfl rfl (zo yU (zo xl zw)) (.cons (zb rfl) (.cons (zb rfl) .nil))) (by rintro _ ⟨B2,T2,rfl,hk2⟩;exact ok57 hv1) ww ?_
 refine zq rfl rfl (zg rfl fo39x1 yW rfl) yI ?_
 refine zq rfl rfl (zu rfl ty37 yB rfl (zr rfl) (zb rfl)) yN ?_
 refine zq rfl rfl (zg rfl fo39x1 xw rfl) yS ?_
 refine zq rfl rfl (zu rfl ty37 yP rfl (zr rfl) (zb rfl)) yV ?_
 refine zO hF (fun v2 hv2 hF=>?_)
 refine yw rfl rfl (fun _=>zC rfl rfl rfl (zo yA (zo yD zw)) (.cons (zb rfl) (.cons (zb rfl) .nil))) (by rintro _ ⟨B2,T2,rfl,hk2⟩;exact ok142 hv2) y4 ?_
 refine zq rfl rfl (yu (es:=([v1,v2]:List Int).map (intRow .i64)) rfl el136 ze3 rfl rfl (yg xQ (yg yX yl)) (.cons (zb rfl) (.cons (zb rfl) .nil)) rfl rfl rfl) y8 ?_
 refine zO hF (fun v3 hv3 hF=>?_)
 refine yw rfl rfl (fun _=>zC rfl rfl rfl (zo yT zw) (.cons (zb rfl) .nil)) (by rintro _ ⟨B2,T2,rfl,hk2⟩;exact (ok64 hv3).le (.cons (leV.osl _ _ _) leL.nil)) xg ?_
 refine zq rfl rfl (zi rfl xf (zb rfl)) yz ?_
 refine yo ?_
 refine zj (zJ ?_)
 obtain rfl:=Option.some.inj hF
 refine zz rfl (zD ym zF) (zA (leV.refl _) rfl ?_)
 exact ⟨rfl,rfl⟩
/-! varve/dot.Compare -/
theorem ok121 {a0:GDot} {b1:GDot} {res:Int} {h:AH}  (hF:dotCompare a0 b1=some res):Spec Tryz.prog 121 [.agg [.int .u8 a0.actor.rep,.int .u32 a0.actor.inc,.int .u64 a0.seq],.agg [.int .u8 b1.actor.rep,.int .u32 b1.actor.inc,.int .u64 b1.seq]] h (fun rr hh=>rr=.int .i64 res∧hh=h):=by
 unfold dotCompare at hF
 refine zt Tryz.func121 rfl (by kernel_rfl) (env:=[.agg [.int .u8 a0.actor.rep,.int .u32 a0.actor.inc,.int .u64 a0.seq],.agg [.int .u8 b1.actor.rep,.int .u32 b1.actor.inc,.int .u64 b1.seq],za,za,za,za,za,za,za,za,za,za,za,za,za,za,za]) (by rfl) ?_
 refine zk (zd ?_)
 refine zc rfl (xq (n:=0) rfl yr (zb rfl) rfl rfl) xe ?_
 refine zc rfl (xq (n:=1) rfl yE (zb rfl) rfl rfl) wd ?_
 refine zc rfl (zi rfl rfl (zb rfl)) yz ?_
 refine ze (zj (zk ?_))
 refine yJ [4,9,11] [] trivial mixed (by kernel_rfl) ?_
 refine zq rfl rfl (zg rfl fo41x0 yW rfl) xy ?_
 refine zq rfl rfl (zu rfl ty39.choose_spec.1 yM rfl (zI (cs':=[.int .u8 a0.actor.rep,.int .u32 a0.actor.inc]) ty39.choose_spec.2 rfl rfl) (zb rfl)) xF ?_
 refine zq rfl rfl (zg rfl fo41x0 xw rfl) xJ ?_
 refine zq rfl rfl (zu rfl ty39.choose_spec.1 xC rfl (zI (cs':=[.int .u8 b1.actor.rep,.int .u32 b1.actor.inc]) ty39.choose_spec.2 rfl rfl) (zb rfl)) xP ?_
 refine zO hF (fun v1 hv1 hF=>?_)
 refine yw rfl rfl (fun _=>zC rfl rfl rfl (zo yU (zo xl zw)) (.cons (zb rfl) (.cons (zb rfl) .nil))) (by rintro _ ⟨B2,T2,rfl,hk2⟩;exact ok136 hv1) ww ?_
 refine zq rfl rfl (zg rfl fo41x1 yW rfl) yI ?_
 refine zq rfl rfl (zu rfl qW yB rfl (zr rfl) (zb rfl)) yN ?_
 refine zq rfl rfl (zg rfl fo41x1 xw rfl) yS ?_
 refine zq rfl rfl (zu rfl qW yP rfl (zr rfl) (zb rfl)) yV ?_
 refine zO hF (fun v2 hv2 hF=>?_)
 refine yw rfl rfl (fun _=>zC rfl rfl rfl (zo yA (zo yD zw)) (.cons (zb rfl) (.cons (zb rfl) .nil))) (by rintro _ ⟨B2,T2,rfl,hk2⟩;exact ok137 hv2) y4 ?_
 refine zq rfl rfl (yu (es:=([v1,v2]:List Int).map (intRow .i64)) rfl el136 ze3 rfl rfl (yg xQ (yg yX yl)) (.cons (zb rfl) (.cons (zb rfl) .nil)) rfl rfl rfl) y8 ?_
 refine zO hF (fun v3 hv3 hF=>?_)
 refine yw rfl rfl (fun _=>zC rfl rfl rfl (zo yT zw) (.cons (zb rfl) .nil)) (by rintro _ ⟨B2,T2,rfl,hk2⟩;exact (ok64 hv3).le (.cons (leV.osl _ _ _) leL.nil)) xg ?_
 refine zq rfl rfl (zi rfl xf (zb rfl)) yz ?_
 refine yo ?_
 refine zj (zJ ?_)
 obtain rfl:=Option.some.inj hF
 refine zz rfl (zD ym zF) (zA (leV.refl _) rfl ?_)
 exact ⟨rfl,rfl⟩
/-! varve/leaf.compare -/
theorem ok135 {a0:Int} {d1:GDot} {b2:Int} {o3:GDot} {res:Int} {h:AH}  (hF:leafXcompare a0 d1 b2 o3=some res):Spec Tryz.prog 135 [.int .u64 a0,.agg [.int .u8 d1.actor.rep,.int .u32 d1.actor.inc,.int .u64 d1.seq],.int .u64 b2,.agg [.int .u8 o3.actor.rep,.int .u32 o3.actor.inc,.int .u64 o3.seq]] h (fun rr hh=>rr=.int .i64 res∧hh=h):=by
 unfold leafXcompare at hF
 refine zt Tryz.func135 rfl (by kernel_rfl) (env:=[.int .u64 a0,.agg [.int .u8 d1.actor.rep,.int .u32 d1.actor.inc,.int .u64 d1.seq],.int .u64 b2,.agg [.int .u8 o3.actor.rep,.int .u32 o3.actor.inc,.int .u64 o3.seq],za,za,za,za,za,za,za,za,za,za,za,za,za]) (by rfl) ?_
 refine zk (zd ?_)
 refine zc rfl (xq (n:=0) rfl yE (zb rfl) rfl rfl) xy ?_
 refine zc rfl (xq (n:=1) rfl xw (zb rfl) rfl rfl) xJ ?_
 refine zc rfl (zi rfl rfl (zb rfl)) xP ?_
 refine ze (zj (zk ?_))
 refine yJ [2,5,7] [] trivial mixed (by kernel_rfl) ?_
 refine zq rfl rfl (zf rfl yr (zb rfl)) ww ?_
 refine zq rfl rfl (zf rfl yW (zb rfl)) yI ?_
 refine zO hF (fun v1 hv1 hF=>?_)
 refine yw rfl rfl (fun _=>zC rfl rfl rfl (zo xQ (zo yB zw)) (.cons (zb rfl) (.cons (zb rfl) .nil))) (by rintro _ ⟨B2,T2,rfl,hk2⟩;exact ok137 hv1) yN ?_
 refine zq rfl rfl (zu rfl ty41.choose_spec.1 yM rfl (zI (cs':=[.int .u8 d1.actor.rep,.int .u32 d1.actor.inc,.int .u64 d1.seq]) ty41.choose_spec.2 rfl rfl) (zb rfl)) yS ?_
 refine zq rfl rfl (zu rfl ty41.choose_spec.1 xC rfl (zI (cs':=[.int .u8 o3.actor.rep,.int .u32 o3.actor.inc,.int .u64 o3.seq]) ty41.choose_spec.2 rfl rfl) (zb rfl)) yV ?_
 refine zO hF (fun v2 hv2 hF=>?_)
 refine yw rfl rfl (fun _=>zC rfl rfl rfl (zo yP (zo yD zw)) (.cons (zb rfl) (.cons (zb rfl) .nil))) (by rintro _ ⟨B2,T2,rfl,hk2⟩;exact ok121 hv2) y4 ?_
 refine zq rfl rfl (yu (es:=([v1,v2]:List Int).map (intRow .i64)) rfl el136 ze3 rfl rfl (yg yA (yg yX yl)) (.cons (zb rfl) (.cons (zb rfl) .nil)) rfl rfl rfl) y8 ?_
 refine zO hF (fun v3 hv3 hF=>?_)
 refine yw rfl rfl (fun _=>zC rfl rfl rfl (zo yT zw) (.cons (zb rfl) .nil)) (by rintro _ ⟨B2,T2,rfl,hk2⟩;exact (ok64 hv3).le (.cons (leV.osl _ _ _) leL.nil)) xg ?_
 refine zq rfl rfl (zi rfl xf (zb rfl)) xP ?_
 refine yo ?_
 refine zj (zJ ?_)
 obtain rfl:=Option.some.inj hF
 refine zz rfl (zD xl zF) (zA (leV.refl _) rfl ?_)
 exact ⟨rfl,rfl⟩
/-! varve/leaf.Ahead -/
theorem ok119 {time0:Int} {d1:GDot} {other2:Int} {o3:GDot} {res:Bool} {h:AH}  (hF:leafAhead time0 d1 other2 o3=some res):Spec Tryz.prog 119 [.int .u64 time0,.agg [.int .u8 d1.actor.rep,.int .u32 d1.actor.inc,.int .u64 d1.seq],.int .u64 other2,.agg [.int .u8 o3.actor.rep,.int .u32 o3.actor.inc,.int .u64 o3.seq]] h (fun rr hh=>rr=.bool res∧hh=h):=by
 unfold leafAhead at hF
 refine zt Tryz.func119 rfl (by kernel_rfl) (env:=[.int .u64 time0,.agg [.int .u8 d1.actor.rep,.int .u32 d1.actor.inc,.int .u64 d1.seq],.int .u64 other2,.agg [.int .u8 o3.actor.rep,.int .u32 o3.actor.inc,.int .u64 o3.seq],za,za,za,za,za,za,za,za,za,za,za]) (by rfl) ?_
 refine zk (zd ?_)
 refine zc rfl (xq (n:=0) rfl yE (zb rfl) rfl rfl) xy ?_
 refine zc rfl (xq (n:=1) rfl xw (zb rfl) rfl rfl) xJ ?_
 refine zc rfl (zi rfl rfl (zb rfl)) xP ?_
 refine ze (zj (zk (zd ?_)))
 refine zc rfl (zf rfl yr (zb rfl)) ww ?_
 refine zc rfl (zu rfl ty41.choose_spec.1 yM rfl (zI (cs':=[.int .u8 d1.actor.rep,.int .u32 d1.actor.inc,.int .u64 d1.seq]) ty41.choose_spec.2 rfl rfl) (zb rfl)) yI ?_
 refine zc rfl (zf rfl yW (zb rfl)) yN ?_
 refine zc rfl (zu rfl ty41.choose_spec.1 xC rfl (zI (cs':=[.int .u8 o3.actor.rep,.int .u32 o3.actor.inc,.int .u64 o3.seq]) ty41.choose_spec.2 rfl rfl) (zb rfl)) yS ?_
 refine zO hF (fun v1 hv1 hF=>?_)
 refine zL rfl (zC rfl rfl rfl (zo xQ (zo yB (zo yA (zo yP zw)))) (.cons (zb rfl) (.cons (zb rfl) (.cons (zb rfl) (.cons (zb rfl) .nil))))) (ok135 hv1) yV ?_
 refine zc rfl (zy rfl yD rfl rfl) y4 ?_
 refine zc rfl (zi rfl yX (zb rfl)) xP ?_
 refine ze (zj (zJ ?_))
 obtain rfl:=Option.some.inj hF
 refine zz rfl (zD xl zF) (zA (leV.refl _) rfl ?_)
 exact ⟨rfl,rfl⟩
/-! varve/leaf.twice -/
theorem ok120 {l0:(List GItem)} {res:Bool} {h:AH}  (hF:leafXtwice l0=some res):Spec Tryz.prog 120 [.sl 5 (l0.map GItem.row)] h (fun rr hh=>rr=.bool res∧hh=h):=by
 unfold leafXtwice at hF
 refine zt Tryz.func120 rfl (by kernel_rfl) (env:=[.sl 5 (l0.map GItem.row),za,za,za,za,za,za,za,za,za,za,za,za,za,za,za,za,za,za,za,za,za,za,za,za,za]) (by rfl) ?_
 refine zk (zd ?_)
 refine zc rfl (zi rfl rfl (zb rfl)) xe ?_
 refine ze (zj (zk (zd ?_)))
 refine zc rfl (e_makeMap (n:=0) rfl rfl) xF ?_
 refine zc rfl (zi rfl yU (zb rfl)) wd ?_
 refine ze (zj (zk (zk (zd ?_))))
 refine zc rfl (zf rfl yr (zb rfl)) xJ ?_
 refine ya rfl (zR rfl rfl rfl rfl vW xC yb) xP fun hn1=>?_
 replace hn1:=xu hn1
 refine zc rfl (zf rfl rfl (zb rfl)) ww ?_
 refine ze (zj (zQ ?_))
 refine yv (fun (n1:Nat) (s1:List (GDot×Int))=>yO [1,2,4,5,6,10,11,12,13,14,15,16,17,18,19,20,21,22,23,24,25] [(9,.int .i64 (n1:Int))]) (fun s1=>h.ext [.mapo (s1.map (qw (fun x=>AV.agg (GDot.row x)) (AV.int .i64))) 0] []) hF (fun _ _=>by simp only [yO,upd,List.set_cons_succ,List.set_cons_zero];try rfl) (wk.le (by exact (.eq (.drop (.drop (.eq (.drop (.drop (.drop (.eq (.eq (.cons (leV.of_eq rfl) (.d16 leL.nil))))))))))))) ?_
 intro n1 s1 hi1 hF
 refine zk (zd ?_)
 refine zc rfl (zy rfl xQ xl rfl) yI ?_
 refine ze (zj (zk ?_))
 refine yK yB hF (fun x1 o1 hl1 hx1 hF hK1=>?_) (fun hF=>?_)
 ·refine zK (zj (zk (zQ (zk (zd ?_)))))
  refine zc rfl (yk rfl vW xC xQ wZ (yL hx1)) yN ?_
  refine zc rfl (yf rfl ty87.choose_spec.1 yA (zI (cs':=[.int .u64 x1.time,.int .u8 x1.dot.actor.rep,.int .u32 x1.dot.actor.inc,.int .u64 x1.dot.seq,.str x1.text]) ty87.choose_spec.2 rfl rfl) (zb rfl)) yS ?_
  refine zc rfl (xc (n:=1) rfl ze87 rfl) xy ?_
  refine zc rfl (ye (cs':=[.int .u64 x1.time,.int .u8 x1.dot.actor.rep,.int .u32 x1.dot.actor.inc,.int .u64 x1.dot.seq,.str x1.text]) rfl ty87.choose_spec.1 yM yP (zb rfl) rfl rfl rfl rfl rfl) rfl ?_
  refine ze (zj ?_)
  refine r_drawnF [3] (fun _=>MapE h 0 (s1.map (qw (fun x=>AV.agg (GDot.row x)) (AV.int .i64))) ((ment GDot.eqb (0:Int) s1 x1.dot).map (qw (fun x=>AV.agg (GDot.row x)) (AV.int .i64)))) (fun _=>⟨_,_,rfl,.inl rfl⟩) mixed (by kernel_rfl) ?_
  refine zq rfl rfl (zf rfl xw (zb rfl)) yV ?_
  refine zq rfl rfl (zg rfl fo87x1 yM rfl) y4 ?_
  refine zq rfl rfl (zu rfl ty41.choose_spec.1 yX rfl (zI (cs':=[.int .u8 x1.dot.actor.rep,.int .u32 x1.dot.actor.inc,.int .u64 x1.dot.seq]) ty41.choose_spec.2 rfl rfl) (zb rfl)) y8 ?_
  refine draw_okN rfl rfl (e_lookupF (m:=s1) (k:=x1.dot) (d:=(0:Int)) (j:=0) (kv:=(fun x=>AV.agg (GDot.row x))) (vv:=(AV.int .i64)) rfl Tryz.underlying170 kq41 az3 yD yT) xg ?_
  refine zq rfl rfl (zy rfl xf rfl rfl) xr ?_
  refine xa rfl (FOk.all ⟨_,_,rfl,.inr rfl⟩) (by kernel_rfl) rfl (e_entry (m:=s1) (k:=x1.dot) (d:=(0:Int)) (j:=0) (kv:=(fun x=>AV.agg (GDot.row x))) (vv:=(AV.int .i64)) rfl Tryz.underlying170 kq41 az3 yD rfl yT rfl) xD ?_
  refine zq rfl rfl (yG rfl xB rfl (zb rfl)) xK ?_
  refine xa rfl (FOk.skip (by kernel_rfl)) (by kernel_rfl) rfl (e_entryStore (m:=s1) (k:=x1.dot) (d:=(0:Int)) (v:=(IntKind.wrap .i64 ((zS GDot.eqb (0:Int) s1 x1.dot)+(1:Int)))) (j:=0) (eq:=GDot.eqb) (kv:=(fun x=>AV.agg (GDot.row x))) (vv:=(AV.int .i64)) rfl yD rfl xI rfl xp rfl rfl) rfl ?_
  refine yo ?_
  refine yh (zj (zd ?_))
  refine zc rfl (zy rfl xQ rfl rfl) x4 ?_
  refine zc rfl (zf rfl x5 (zb rfl)) ww ?_
  refine ze (yH ?_)
  obtain rfl:=Option.some.inj hF
  exact ⟨(mput GDot.eqb s1 x1.dot (IntKind.wrap .i64 ((zS GDot.eqb (0:Int) s1 x1.dot)+(1:Int)))),hl1,hK1,wk.trans (wk.le (by exact (.eq (.drop (.drop (.eq (.drop (.drop (.drop (.eq (.eq (.cons (leV.of_eq (vf (by omega) (by omega))) (.d16 leL.nil))))))))))))) (xN (by simp [yi,AV.low]) rfl rfl (by simp [Blk.low,yi,AV.low,GDot.row,qw]))⟩
 ·refine yR ?_
  refine zZ ?_
  refine zU ?_
  refine zV ?_
  refine zj (zk (zd ?_))
  refine zc rfl (zf rfl xw (zb rfl)) x9 ?_
  refine ops_mlen (m:=s1) (j:=0) (kv:=(fun x=>AV.agg (GDot.row x))) (vv:=(AV.int .i64)) rfl rfl rfl rfl rfl Tryz.underlying170 x6 rfl wl ?_
  refine zc rfl (zf rfl yr (zb rfl)) x8 ?_
  refine ya rfl (zR rfl rfl rfl rfl vW xX yb) we fun hn7=>?_
  replace hn7:=xu hn7
  refine zc rfl (zy rfl wi wa rfl) wo ?_
  refine zc rfl (zi rfl wm (zb rfl)) xe ?_
  refine ze (zj (zJ ?_))
  obtain rfl:=Option.some.inj hF
  refine zz rfl (zD yW zF) (zA (leV.refl _) rfl ?_)
  exact ⟨rfl,rfl⟩
/-! varve/leaf.items -/
theorem ok92 {l0:(List GItem)} {timed1:Bool} {res:Bool} {h:AH}  (hF:leafXitems l0 timed1=some res):Spec Tryz.prog 92 [.sl 5 (l0.map GItem.row),.bool timed1] h (fun rr hh=>rr=.bool res∧hh=h):=by
 unfold leafXitems at hF
 refine zt Tryz.func92 rfl (by kernel_rfl) (env:=[.sl 5 (l0.map GItem.row),.bool timed1,za,za,za,za,za,za,za,za,za,za,za,za,za,za,za,za,za,za,za,za,za,za,za,za,za,za,za,za,za,za,za,za,za,za,za,za,za,za,za,za,za,za,za,za,za,za,za,za,za,za,za,za,za,za,za,za,za,za,za,za,za,za,za,za]) (by rfl) ?_
 refine zk (zd ?_)
 refine zc rfl (zi rfl rfl (zb rfl)) yz ?_
 refine ze (zj (zk (zk (zd ?_))))
 refine zc rfl (zf rfl yr (zb rfl)) xJ ?_
 refine ya rfl (zR rfl rfl rfl rfl vW xC yb) xP fun hn1=>?_
 replace hn1:=xu hn1
 refine zc rfl (zf rfl rfl (zb rfl)) ww ?_
 refine ze (zj (zQ ?_))
 refine yv (fun (n1:Nat) (s1:Unit)=>yO [2,3,4,5,6,10,11,12,13,14,15,16,17,18,19,20,21,22,23,24,25,26,27,28,29,30,31,32,33,34,35,36,37,38,39,40,41,42,43,44,45,46,47,48,49,50,51,52,53,54,55,56,57,58,59,60,61,62,63,64,65] [(9,.int .i64 (n1:Int))]) (fun s1=>h.ext [] []) hF (fun _ _=>by simp only [yO,upd,List.set_cons_succ,List.set_cons_zero];try rfl) (wk.le (by exact (.eq (.eq (.d4 (.drop (.eq (.eq (.cons (leV.of_eq rfl) (.d16 (.d16 (.d16 (.d4 (.d4 leL.nil)))))))))))))) ?_
 intro n1 s1 hi1 hF
 refine zk (zd ?_)
 refine zc rfl (zy rfl xQ xl rfl) yI ?_
 refine ze (zj (zk ?_))
 refine yK yB hF (fun x1 o1 hl1 hx1 hF hK1=>?_) (fun hF=>?_)
 ·refine zK (zj (zk (zQ (zk (zd ?_)))))
  refine zc rfl (zf rfl xQ (zb rfl)) yN ?_
  refine zc rfl (yk rfl vW xC xQ wZ (yL hx1)) yS ?_
  refine zc rfl (yf rfl ty87.choose_spec.1 yP (zI (cs':=[.int .u64 x1.time,.int .u8 x1.dot.actor.rep,.int .u32 x1.dot.actor.inc,.int .u64 x1.dot.seq,.str x1.text]) ty87.choose_spec.2 rfl rfl) (zb rfl)) yV ?_
  refine zc rfl (xc (n:=0) rfl ze87 rfl) xF ?_
  refine zc rfl (zi rfl yA (zb rfl)) xy ?_
  refine zc rfl (ye (cs':=[.int .u64 x1.time,.int .u8 x1.dot.actor.rep,.int .u32 x1.dot.actor.inc,.int .u64 x1.dot.seq,.str x1.text]) rfl ty87.choose_spec.1 yU yD (zb rfl) rfl rfl rfl rfl rfl) rfl ?_
  refine ze (zj (zk (zk (zd ?_))))
  refine zc rfl (zg rfl fo87x1 yU rfl) y4 ?_
  refine zc rfl (zu rfl ty41.choose_spec.1 yX rfl (zI (cs':=[.int .u8 x1.dot.actor.rep,.int .u32 x1.dot.actor.inc,.int .u64 x1.dot.seq]) ty41.choose_spec.2 rfl rfl) (zb rfl)) y8 ?_
  refine zO hF (fun v13 hv13 hF=>?_)
  refine zL rfl (zC rfl rfl rfl (zo yT zw) (.cons (zb rfl) .nil)) (ok90 hv13) xg ?_
  refine zc rfl (xT rfl xf rfl) xr ?_
  refine zc rfl (zf rfl xp (zb rfl)) xD ?_
  refine zp rfl (fun hb=>zg rfl fo87x2 yU rfl) xK ?_
  refine zp rfl (fun hb=>zu rfl ty9 (zn xI hb) rfl (zr rfl) (zb rfl)) x4 ?_
  refine yQ hF (fun v14 hv14 hF=>?_)
  refine yj rfl (fun hb=>zC rfl rfl rfl (zo (zn x5 hb) zw) (.cons (zb rfl) .nil)) (fun hb=>ok91 (hv14 hb)) x9 ?_
  refine zp rfl (fun hb=>xT rfl (zn x6 hb) rfl) wl ?_
  refine zc rfl (zM rfl xB rfl wi (z8 (fun ht=>gF ht))) x8 ?_
  refine zc rfl (zf rfl xX (zb rfl)) we ?_
  refine zp rfl (fun hb=>zf rfl yE (zb rfl)) wo ?_
  refine zp rfl (fun hb=>zg rfl fo87x0 yU rfl) wK ?_
  refine zp rfl (fun hb=>zu rfl qW (zn wI hb) rfl (zr rfl) (zb rfl)) wR ?_
  refine yQ hF (fun v15 hv15 hF=>?_)
  refine yj rfl (fun hb=>zC rfl rfl rfl (zo (zn wV hb) zw) (.cons (zb rfl) .nil)) (fun hb=>ok89 (hv15 hb)) wQ ?_
  refine zp rfl (fun hb=>zy rfl (zn wm hb) (zn wN hb) (bin_boolN ty4)) w9 ?_
  refine zc rfl (zM rfl wa rfl vb (z8 (fun ht=>gF ht))) w8 ?_
  refine zc rfl (zf rfl vm (zb rfl)) vh ?_
  refine zp rfl (fun hb=>zf rfl yE (zb rfl)) vz ?_
  refine zp rfl (fun hb=>xT rfl (zn vk hb) rfl) vw ?_
  refine zp rfl (fun hb=>zf rfl (zn vC hb) (zb rfl)) vu ?_
  refine zp (z7 rfl rfl rfl) (fun hb=>zg rfl fo87x0 yU rfl) vt ?_
  refine zp (z7 rfl rfl rfl) (fun hb=>zu rfl qW (zn vB hb) rfl (zr rfl) (zb rfl)) vg ?_
  refine zp (z7 rfl rfl rfl) (fun hb=>zy rfl (zn va hb) rfl rfl) vr ?_
  refine zp rfl (fun hb=>zM rfl (zn vj hb) vA rfl (zX (fun ht=>gT2 hb ht))) vK ?_
  refine zc rfl (zM rfl vl rfl vO (z8 (fun ht=>gF ht))) vJ ?_
  refine ze (zj ?_)
  refine zN vG hF (fun hc16 hF=>?_) (fun hc16 hF=>?_)
  ·refine zk (zd ?_)
   refine zc rfl (zi rfl rfl (zb rfl)) yz ?_
   refine ze (zj (zJ (zx ?_)))
   refine zG ?_
   refine zx ?_
   refine yd ?_
   obtain rfl:=Option.some.inj hF
   replace hF:=hK1
   refine zG ?_
   refine zx ?_
   obtain rfl:=Option.some.inj hF
   refine zz rfl (zD ym zF) (zA (leV.refl _) rfl ?_)
   exact ⟨rfl,rfl⟩
  ·refine zK (zj (zk ?_))
   refine yJ [] [] trivial mixed (by kernel_rfl) ?_
   refine zq rfl rfl (zf rfl yM (zb rfl)) (sk st0) ?_
   refine zq rfl rfl (zy rfl (gk yr) rfl rfl) (sk st1) ?_
   refine zq rfl rfl (zf rfl (gk yE) (zb rfl)) (sk xe) ?_
   refine zB rfl rfl (fun hb=>zf rfl yr (zb rfl)) (sk wd) ?_
   refine zB rfl rfl (fun hb=>zf rfl yM (zb rfl)) (sk yz) ?_
   refine zB rfl rfl (fun hb=>zy rfl (zn (gk ym) hb) rfl rfl) (sk xy) ?_
   refine wC hF (fun hg17 hF=>?_)
   refine zB rfl rfl (fun hb=>xM default rfl vW (zn (gk xw) hb) (zn (gk yM) hb) wZ (hg17 hb)) (sk xF) ?_
   refine zB rfl rfl (fun hb=>zg rfl fo87x0 (zn (gk yU) hb) rfl) (sk xJ) ?_
   refine zB rfl rfl (fun hb=>yf rfl qW (zn (gk xC) hb) (zr rfl) (zb rfl)) (sk xP) ?_
   refine zB rfl rfl (fun hb=>zf rfl yr (zb rfl)) (sk ww) ?_
   refine zB rfl rfl (fun hb=>zf rfl yM (zb rfl)) (sk yI) ?_
   refine zB rfl rfl (fun hb=>zy rfl (zn (gk yB) hb) rfl rfl) (sk yN) ?_
   refine wC hF (fun hg18 hF=>?_)
   refine zB rfl rfl (fun hb=>xM default rfl vW (zn (gk xQ) hb) (zn (gk yA) hb) wZ (hg18 hb)) (sk yS) ?_
   refine zB rfl rfl (fun hb=>zg rfl fo87x1 (zn (gk yP) hb) rfl) (sk yV) ?_
   refine zB rfl rfl (fun hb=>yf rfl ty41.choose_spec.1 (zn (gk yD) hb) (zI (cs':=[.int .u8 (((l0).getD (IntKind.wrap .i64 ((n1:Int) - (1:Int))).toNat default).dot.actor.rep),.int .u32 (((l0).getD (IntKind.wrap .i64 ((n1:Int) - (1:Int))).toNat default).dot.actor.inc),.int .u64 (((l0).getD (IntKind.wrap .i64 ((n1:Int) - (1:Int))).toNat default).dot.seq)]) ty41.choose_spec.2 rfl rfl) (zb rfl)) (sk y4) ?_
   refine zB rfl rfl (fun hb=>zg rfl fo87x0 yU rfl) (sk y8) ?_
   refine zB rfl rfl (fun hb=>zu rfl qW (zn (gk yT) hb) rfl (zr rfl) (zb rfl)) (sk xg) ?_
   refine zB rfl rfl (fun hb=>zg rfl fo87x1 yU rfl) (sk xr) ?_
   refine zB rfl rfl (fun hb=>zu rfl ty41.choose_spec.1 (zn (gk xp) hb) rfl (zI (cs':=[.int .u8 x1.dot.actor.rep,.int .u32 x1.dot.actor.inc,.int .u64 x1.dot.seq]) ty41.choose_spec.2 rfl rfl) (zb rfl)) (sk xD) ?_
   refine yQ hF (fun v19 hv19 hF=>?_)
   refine w5 rfl rfl (fun hb=>zC rfl rfl rfl (zo (zn (gk xl) hb) (zo (zn (gk yX) hb) (zo (zn (gk xf) hb) (zo (zn (gk xB) hb) zw)))) (.cons (zb rfl) (.cons (zb rfl) (.cons (zb rfl) (.cons (zb rfl) .nil))))) (fun hb=>ok119 (hv19 hb)) (sk xK) ?_
   refine zB rfl rfl (fun hb=>xT rfl (zn (gk xI) hb) rfl) (sk x4) ?_
   refine zq rfl rfl (zM rfl (gk yW) (gk x5) rfl (zX (fun ht=>gT ht))) (sk x9) ?_
   refine yo ?_
   refine zj ?_
   refine zN (gk x6) hF (fun hc20 hF=>?_) (fun hc20 hF=>?_)
   ·refine zk (zd ?_)
    refine zc rfl (zi rfl rfl (zb rfl)) yz ?_
    refine ze (zj (zJ ?_))
    refine zG ?_
    refine zx ?_
    refine yd ?_
    obtain rfl:=Option.some.inj hF
    replace hF:=hK1
    refine zG ?_
    refine zx ?_
    obtain rfl:=Option.some.inj hF
    refine zz rfl (zD ym zF) (zA (leV.refl _) rfl ?_)
    exact ⟨rfl,rfl⟩
   ·refine zK (yh (zj (zd ?_)))
    refine zc rfl (zy rfl xQ rfl rfl) (sk wl) ?_
    refine zc rfl (zf rfl (gk wi) (zb rfl)) ww ?_
    refine ze (yH ?_)
    obtain rfl:=Option.some.inj hF
    exact ⟨(),hl1,hK1,wk.trans (wk.le (by exact (.eq (.eq (.d4 (.drop (.eq (.eq (.cons (leV.of_eq (vf (by omega) (by omega))) (.d16 (.d16 (.d16 (.d4 (.d4 leL.nil)))))))))))))) (xN (by simp [yi,AV.low]) rfl rfl (by simp [Blk.low,yi,AV.low]))⟩
 ·refine yR ?_
  refine zZ ?_
  refine zU ?_
  refine zV ?_
  refine zj (zk (zd ?_))
  refine zc rfl (zf rfl yr (zb rfl)) (sk x8) ?_
  refine zO hF (fun v21 hv21 hF=>?_)
  refine zL rfl (zC rfl rfl rfl (zo (gk xX) zw) (.cons (zb rfl) .nil)) (ok120 hv21) (sk we) ?_
  refine zc rfl (xT rfl (gk wa) rfl) (sk wo) ?_
  refine zc rfl (zi rfl (gk wm) (zb rfl)) yz ?_
  refine ze (zj (zJ ?_))
  obtain rfl:=Option.some.inj hF
  refine zz rfl (zD ym zF) (zA (leV.refl _) rfl ?_)
  exact ⟨rfl,rfl⟩
/-! slices.IndexFunc[[]varve/api.Item,varve/api.Item] -/
theorem ok144 {s0:(List GItem)} {f1:(GItem→Option Bool)} {ff1:FuncId} {af1 kf1:List AV} {res:Int} {h:AH} (hf1:∀ x0 v (L:List Blk) (M:List Nat),f1 x0=some v→Spec Tryz.prog ff1 (af1++[.agg [.int .u64 x0.time,.int .u8 x0.dot.actor.rep,.int .u32 x0.dot.actor.inc,.int .u64 x0.dot.seq,.str x0.text]]++kf1) (h.ext L M) (fun rr hh=>rr=.bool v∧hh=h.ext L M)) (hF:vc s0 f1=some res):Spec Tryz.prog 144 [.sl 5 (s0.map GItem.row),.fn (.func ff1) af1 kf1] h (fun rr hh=>rr=.int .i64 res∧hh=h):=by
 unfold vc at hF
 refine yC Tryz.func144 rfl (by kernel_rfl) (env:=[.sl 5 (s0.map GItem.row),.fn (.func ff1) af1 kf1,za,za,za,za,za,za,za,za,za,za,za,za,za,za,za,za,za]) (by rfl) (fun hlow hC=>?_)
 simp only [yi,AV.low,Bool.and_eq_true,Bool.true_and,and_true] at hlow
 have hlaf1:∀ n m,h.blks.length≤n→h.toks.length≤m→yi n m af1=true:=fun n m h1 h2=>yY h1 h2 _ (by simp [hlow])
 have hlkf1:∀ n m,h.blks.length≤n→h.toks.length≤m→yi n m kf1=true:=fun n m h1 h2=>yY h1 h2 _ (by simp [hlow])
 refine zk (zd ?_)
 refine zc rfl (zi rfl rfl (zb rfl)) yz ?_
 refine ze (zj (zk (zk (zd ?_))))
 refine zc rfl (zf rfl yr (zb rfl)) xF ?_
 refine ya rfl (zR rfl rfl rfl rfl vW yU yb) xJ fun hn1=>?_
 replace hn1:=xu hn1
 refine zc rfl (zf rfl rfl (zb rfl)) xP ?_
 refine ze (zj (zQ ?_))
 refine yv (fun (n1:Nat) (s1:Unit)=>yO [2,3,4,5,6,9,10,11,12,13,14,15,16,17,18] [(8,.int .i64 (n1:Int))]) (fun s1=>h.ext [] []) hF (fun _ _=>by simp only [yO,upd,List.set_cons_succ,List.set_cons_zero];try rfl) (wk.le (by exact (.eq (.eq (.d4 (.drop (.eq (.cons (leV.of_eq rfl) (.d4 (.d4 (.drop (.drop leL.nil)))))))))))) ?_
 intro n1 s1 hi1 hF
 refine zk (zd ?_)
 refine zc rfl (zy rfl xl xC rfl) ww ?_
 refine ze (zj (zk ?_))
 refine yK xQ hF (fun x1 o1 hl1 hx1 hF hK1=>?_) (fun hF=>?_)
 ·refine zK (zj (zk (zQ (zk (zd ?_)))))
  refine zc rfl (zf rfl xl (zb rfl)) yI ?_
  refine zc rfl (zi rfl yB (zb rfl)) xy ?_
  refine ze (zj (zk (zd ?_)))
  refine zc rfl (zf rfl yE (zb rfl)) yN ?_
  refine zc rfl (zf rfl yr (zb rfl)) yS ?_
  refine zc rfl (zf rfl yM (zb rfl)) yV ?_
  refine zc rfl (yk rfl vW yP yD wZ (yL hx1)) y4 ?_
  refine zc rfl (yf rfl ty87.choose_spec.1 yX (zI (cs':=[.int .u64 x1.time,.int .u8 x1.dot.actor.rep,.int .u32 x1.dot.actor.inc,.int .u64 x1.dot.seq,.str x1.text]) ty87.choose_spec.2 rfl rfl) (zb rfl)) y8 ?_
  refine zO hF (fun v7 hv7 hF=>?_)
  refine zL rfl (s_callC rfl rfl yA (zo yT zw) (.cons (zb rfl) .nil) rfl) (hf1 _ _ _ _ hv7) xg ?_
  refine ze (zj ?_)
  refine zN xf hF (fun hc8 hF=>?_) (fun hc8 hF=>?_)
  ·refine zk (zd ?_)
   refine zc rfl (zf rfl yM (zb rfl)) xr ?_
   refine zc rfl (zi rfl xp (zb rfl)) yz ?_
   refine ze (zj (zJ ?_))
   refine zG ?_
   refine zx ?_
   refine yd ?_
   obtain rfl:=Option.some.inj hF
   replace hF:=hK1
   refine zG ?_
   refine zx ?_
   obtain rfl:=Option.some.inj hF
   refine zz rfl (zD ym zF) (zA (leV.refl _) rfl ?_)
   exact ⟨rfl,rfl⟩
  ·refine zK (yh (zj (zd ?_)))
   refine zc rfl (zy rfl xl rfl rfl) xD ?_
   refine zc rfl (zf rfl xB (zb rfl)) xP ?_
   refine ze (yH ?_)
   obtain rfl:=Option.some.inj hF
   exact ⟨(),hl1,hK1,wk.le (by exact (.eq (.eq (.d4 (.drop (.eq (.cons (leV.of_eq (vf (by omega) (by omega))) (.d4 (.d4 (.drop (.drop leL.nil)))))))))))⟩
 ·refine yR ?_
  refine zZ ?_
  refine zU ?_
  refine zV ?_
  refine zj (zk (zd ?_))
  refine zc rfl (zi rfl rfl (zb rfl)) yz ?_
  refine ze (zj (zJ ?_))
  obtain rfl:=Option.some.inj hF
  refine zz rfl (zD ym zF) (zA (leV.refl _) rfl ?_)
  exact ⟨rfl,rfl⟩
/-! slices.ContainsFunc[[]varve/api.Item,varve/api.Item] -/
theorem ok138 {s0:(List GItem)} {f1:(GItem→Option Bool)} {ff1:FuncId} {af1 kf1:List AV} {res:Bool} {h:AH} (hf1:∀ x0 v (L:List Blk) (M:List Nat),f1 x0=some v→Spec Tryz.prog ff1 (af1++[.agg [.int .u64 x0.time,.int .u8 x0.dot.actor.rep,.int .u32 x0.dot.actor.inc,.int .u64 x0.dot.seq,.str x0.text]]++kf1) (h.ext L M) (fun rr hh=>rr=.bool v∧hh=h.ext L M)) (hF:xR s0 f1=some res):Spec Tryz.prog 138 [.sl 5 (s0.map GItem.row),.fn (.func ff1) af1 kf1] h (fun rr hh=>rr=.bool res∧hh=h):=by
 unfold xR at hF
 refine yC Tryz.func138 rfl (by kernel_rfl) (env:=[.sl 5 (s0.map GItem.row),.fn (.func ff1) af1 kf1,za,za,za,za,za,za,za]) (by rfl) (fun hlow hC=>?_)
 simp only [yi,AV.low,Bool.and_eq_true,Bool.true_and,and_true] at hlow
 have hlaf1:∀ n m,h.blks.length≤n→h.toks.length≤m→yi n m af1=true:=fun n m h1 h2=>yY h1 h2 _ (by simp [hlow])
 have hlkf1:∀ n m,h.blks.length≤n→h.toks.length≤m→yi n m kf1=true:=fun n m h1 h2=>yY h1 h2 _ (by simp [hlow])
 refine zk (zd ?_)
 refine zc rfl (zi rfl rfl (zb rfl)) yz ?_
 refine ze (zj (zk (zd ?_)))
 refine zc rfl (zf rfl yr (zb rfl)) xy ?_
 refine zc rfl (zf rfl yE (zb rfl)) xF ?_
 refine zO hF (fun v1 hv1 hF=>?_)
 refine zL rfl (zC rfl rfl rfl (zo yM (zo yU zw)) (.cons (zb rfl) (.cons (zb rfl) .nil))) (ok144 (fun x0 v L M hv=>by rw [wb];exact hf1 x0 v _ _ hv) hv1) xJ ?_
 refine zc rfl (zy rfl xC rfl rfl) xP ?_
 refine zc rfl (zi rfl xl (zb rfl)) yz ?_
 refine ze (zj (zJ ?_))
 obtain rfl:=Option.some.inj hF
 refine zz rfl (zD ym zF) (zA (leV.refl _) rfl ?_)
 exact ⟨rfl,rfl⟩
/-! varve/leaf.has 1 -/
theorem ok139 {x0:GItem} {c0:GDot} {i0:Nat} {res:Bool} {h:AH} (hb0:h.blk i0=some (.cells [.int .u8 c0.actor.rep,.int .u32 c0.actor.inc,.int .u64 c0.seq])) (hF:leafXhasC1 x0 c0=some res):Spec Tryz.prog 139 [.agg [.int .u64 x0.time,.int .u8 x0.dot.actor.rep,.int .u32 x0.dot.actor.inc,.int .u64 x0.dot.seq,.str x0.text],.ptr i0 0] h (fun rr hh=>rr=.bool res∧hh=h):=by
 unfold leafXhasC1 at hF
 refine zt Tryz.func139 rfl (by kernel_rfl) (env:=[.agg [.int .u64 x0.time,.int .u8 x0.dot.actor.rep,.int .u32 x0.dot.actor.inc,.int .u64 x0.dot.seq,.str x0.text],.ptr i0 0,za,za,za,za,za,za]) (by rfl) ?_
 refine zk (zd ?_)
 refine zc rfl (xq (n:=0) rfl yr (zb rfl) rfl rfl) xe ?_
 refine zc rfl (zi rfl rfl (zb rfl)) wd ?_
 refine ze (zj (zk (zd ?_)))
 refine zc rfl (zg rfl fo87x1 yW rfl) yz ?_
 refine zc rfl (zu rfl ty41.choose_spec.1 ym rfl (zI (cs':=[.int .u8 x0.dot.actor.rep,.int .u32 x0.dot.actor.inc,.int .u64 x0.dot.seq]) ty41.choose_spec.2 rfl rfl) (zb rfl)) xy ?_
 refine zc rfl (b_load rfl ty41.choose_spec.1 yE hb0 (zI (cs':=[.int .u8 c0.actor.rep,.int .u32 c0.actor.inc,.int .u64 c0.seq]) ty41.choose_spec.2 rfl rfl) (zb rfl)) xF ?_
 refine zc rfl (zy rfl yM yU (bin_eq pk41 rfl)) xJ ?_
 refine zc rfl (zi rfl xC (zb rfl)) wd ?_
 refine ze (zj (zJ ?_))
 obtain rfl:=Option.some.inj hF
 refine zz rfl (zD xw zF) (zA (leV.refl _) rfl ?_)
 exact ⟨rfl,rfl⟩
/-! varve/leaf.has -/
theorem ok122 {l0:(List GItem)} {d1:GDot} {res:Bool} {h:AH}  (hF:leafXhas l0 d1=some res):Spec Tryz.prog 122 [.sl 5 (l0.map GItem.row),.agg [.int .u8 d1.actor.rep,.int .u32 d1.actor.inc,.int .u64 d1.seq]] h (fun rr hh=>rr=.bool res∧hh=h):=by
 unfold leafXhas at hF
 refine zt Tryz.func122 rfl (by kernel_rfl) (env:=[.sl 5 (l0.map GItem.row),.agg [.int .u8 d1.actor.rep,.int .u32 d1.actor.inc,.int .u64 d1.seq],za,za,za,za,za,za]) (by rfl) ?_
 refine zk (zd ?_)
 refine zc rfl (xq (n:=0) rfl yE (zb rfl) rfl rfl) wd ?_
 refine zc rfl (zi rfl rfl (zb rfl)) yz ?_
 refine ze (zj (zk (zd ?_)))
 refine zc rfl (zf rfl yr (zb rfl)) xy ?_
 refine zc rfl (s_makeFunc rfl rfl rfl) xF ?_
 refine zO hF (fun v1 hv1 hF=>?_)
 refine zL rfl (zC rfl rfl rfl (zo yM (zo yU zw)) (.cons (zb rfl) (.cons (zb rfl) .nil))) (ok138 (fun _ v L M hv=>ok139 (blk_ext2 (j:=0) rfl) hv) hv1) xJ ?_
 refine zc rfl (zi rfl xC (zb rfl)) yz ?_
 refine ze (zj (zJ ?_))
 obtain rfl:=Option.some.inj hF
 refine zz rfl (zD ym zF) (zA (leV.refl _) rfl ?_)
 exact ⟨rfl,rfl⟩
/-! varve/leaf.tombs -/
theorem ok93 {l0:GLeaf} {res:Bool} {h:AH}  (hF:leafXtombs l0=some res):Spec Tryz.prog 93 [.agg [.int .u8 l0.typ,.int .i64 l0.n,.int .u64 l0.time,.int .u8 l0.dot.actor.rep,.int .u32 l0.dot.actor.inc,.int .u64 l0.dot.seq,.str l0.text,.sl 5 (l0.items.map GItem.row),.sl 3 (l0.tombs.map GDot.row)]] h (fun rr hh=>rr=.bool res∧hh=h):=by
 unfold leafXtombs at hF
 refine zt Tryz.func93 rfl (by kernel_rfl) (env:=[.agg [.int .u8 l0.typ,.int .i64 l0.n,.int .u64 l0.time,.int .u8 l0.dot.actor.rep,.int .u32 l0.dot.actor.inc,.int .u64 l0.dot.seq,.str l0.text,.sl 5 (l0.items.map GItem.row),.sl 3 (l0.tombs.map GDot.row)],za,za,za,za,za,za,za,za,za,za,za,za,za,za,za,za,za,za,za,za,za,za,za,za,za,za,za,za,za,za,za,za,za,za,za,za,za]) (by rfl) ?_
 refine zk (zd ?_)
 refine zc rfl (xq (n:=0) rfl yr (zb rfl) rfl rfl) st1 ?_
 refine zc rfl (zi rfl rfl (zb rfl)) xe ?_
 refine ze (zj (zk (zk (zd ?_))))
 refine zc rfl (zg rfl wj yE rfl) xy ?_
 refine zc rfl (zu rfl ty43 yM rfl (zr rfl) (zb rfl)) xF ?_
 refine ya rfl (zR rfl rfl rfl rfl el43 yU yb) xJ fun hn1=>?_
 replace hn1:=xu hn1
 refine zc rfl (zf rfl rfl (zb rfl)) xP ?_
 refine ze (zj (zQ ?_))
 refine yv (fun (n1:Nat) (s1:Unit)=>yO [0,2,3,4,5,9,10,11,12,13,14,15,16,17,18,19,20,21,22,23,24,25,26,27,28,29,30,31,32,33,34,35,36,37] [(8,.int .i64 (n1:Int))]) (fun s1=>h.ext [.cells [.int .u8 l0.typ,.int .i64 l0.n,.int .u64 l0.time,.int .u8 l0.dot.actor.rep,.int .u32 l0.dot.actor.inc,.int .u64 l0.dot.seq,.str l0.text,.sl 5 (l0.items.map GItem.row),.sl 3 (l0.tombs.map GDot.row)]] []) hF (fun _ _=>by simp only [yO,upd,List.set_cons_succ,List.set_cons_zero];try rfl) (wk.le (by exact (.drop (.eq (.d4 (.eq (.eq (.cons (leV.of_eq rfl) (.d16 (.d4 (.d4 (.d4 (.drop leL.nil))))))))))))) ?_
 intro n1 s1 hi1 hF
 refine zk (zd ?_)
 refine zc rfl (zy rfl xl xC rfl) ww ?_
 refine ze (zj (zk ?_))
 refine yK xQ hF (fun x1 o1 hl1 hx1 hF hK1=>?_) (fun hF=>?_)
 ·refine zK (zj (zk (zQ (zk (zd ?_)))))
  refine zc rfl (zf rfl xl (zb rfl)) yI ?_
  refine zc rfl (yk rfl el43 yU xl wZ (yL hx1)) yN ?_
  refine zc rfl (yf rfl ty41.choose_spec.1 yA (zI (cs':=[.int .u8 x1.actor.rep,.int .u32 x1.actor.inc,.int .u64 x1.seq]) ty41.choose_spec.2 rfl rfl) (zb rfl)) yS ?_
  refine zc rfl (xc (n:=1) rfl ze41 rfl) yz ?_
  refine zc rfl (zi rfl yB (zb rfl)) wd ?_
  refine zc rfl (ye (cs':=[.int .u8 x1.actor.rep,.int .u32 x1.actor.inc,.int .u64 x1.seq]) rfl ty41.choose_spec.1 ym yP (zb rfl) rfl rfl rfl rfl rfl) rfl ?_
  refine ze (zj (zk ?_))
  refine yJ [1] [] trivial mixed (by kernel_rfl) ?_
  refine zq rfl rfl (zu rfl ty41.choose_spec.1 ym rfl (zI (cs':=[.int .u8 x1.actor.rep,.int .u32 x1.actor.inc,.int .u64 x1.seq]) ty41.choose_spec.2 rfl rfl) (zb rfl)) yV ?_
  refine zO hF (fun v19 hv19 hF=>?_)
  refine yw rfl rfl (fun _=>zC rfl rfl rfl (zo yD zw) (.cons (zb rfl) .nil)) (by rintro _ ⟨B2,T2,rfl,hk2⟩;exact ok90 hv19) y4 ?_
  refine zq rfl rfl (xT rfl yX rfl) y8 ?_
  refine zq rfl rfl (zf rfl yT (zb rfl)) xg ?_
  refine zB rfl rfl (fun hb=>zf rfl xw (zb rfl)) xr ?_
  refine zB rfl rfl (fun hb=>zy rfl (zn xp hb) rfl rfl) xD ?_
  refine zB rfl rfl (fun hb=>zf rfl (zn xB hb) (zb rfl)) xK ?_
  refine zB rfl (z7 rfl rfl rfl) (fun hb=>zg rfl wj yE rfl) x4 ?_
  refine zB rfl (z7 rfl rfl rfl) (fun hb=>zu rfl ty43 (zn x5 hb) rfl (zr rfl) (zb rfl)) x9 ?_
  refine zB rfl (z7 rfl rfl rfl) (fun hb=>zf rfl xw (zb rfl)) wl ?_
  refine zB rfl (z7 rfl rfl rfl) (fun hb=>zy rfl (zn wi hb) rfl rfl) x8 ?_
  refine wC hF (fun hg20 hF=>?_)
  refine zB rfl (z7 rfl rfl rfl) (fun hb=>xM default rfl el43 (zn x6 hb) (zn xX hb) wZ (hg20 hb)) we ?_
  refine zB rfl (z7 rfl rfl rfl) (fun hb=>yf rfl ty41.choose_spec.1 (zn wa hb) (zI (cs':=[.int .u8 (((l0.tombs).getD (IntKind.wrap .i64 ((n1:Int) - (1:Int))).toNat default).actor.rep),.int .u32 (((l0.tombs).getD (IntKind.wrap .i64 ((n1:Int) - (1:Int))).toNat default).actor.inc),.int .u64 (((l0.tombs).getD (IntKind.wrap .i64 ((n1:Int) - (1:Int))).toNat default).seq)]) ty41.choose_spec.2 rfl rfl) (zb rfl)) wo ?_
  refine zB rfl (z7 rfl rfl rfl) (fun hb=>zu rfl ty41.choose_spec.1 ym rfl (zI (cs':=[.int .u8 x1.actor.rep,.int .u32 x1.actor.inc,.int .u64 x1.seq]) ty41.choose_spec.2 rfl rfl) (zb rfl)) wK ?_
  refine yQ hF (fun v21 hv21 hF=>?_)
  refine w5 rfl (z7 rfl rfl rfl) (fun hb=>zC rfl rfl rfl (zo (zn wm hb) (zo (zn wI hb) zw)) (.cons (zb rfl) (.cons (zb rfl) .nil))) (fun hb=>ok121 (hv21 hb)) wR ?_
  refine zB rfl (z7 rfl rfl rfl) (fun hb=>zy rfl (zn wV hb) rfl rfl) wQ ?_
  refine zB rfl rfl (fun hb=>zM rfl (zn xI hb) wN rfl (zX (fun ht=>gT2 hb ht))) w9 ?_
  refine zq rfl rfl (zM rfl xf rfl vb (z8 (fun ht=>gF ht))) w8 ?_
  refine zq rfl rfl (zf rfl vm (zb rfl)) vh ?_
  refine zB rfl rfl (fun hb=>zg rfl xO yE rfl) vz ?_
  refine zB rfl rfl (fun hb=>zu rfl qU (zn vk hb) rfl (zr rfl) (zb rfl)) vw ?_
  refine zB rfl rfl (fun hb=>zu rfl ty41.choose_spec.1 ym rfl (zI (cs':=[.int .u8 x1.actor.rep,.int .u32 x1.actor.inc,.int .u64 x1.seq]) ty41.choose_spec.2 rfl rfl) (zb rfl)) vu ?_
  refine yQ hF (fun v22 hv22 hF=>?_)
  refine w5 rfl rfl (fun hb=>zC rfl rfl rfl (zo (zn vC hb) (zo (zn vj hb) zw)) (.cons (zb rfl) (.cons (zb rfl) .nil))) (fun hb=>ok122 (hv22 hb)) vt ?_
  refine zq rfl rfl (zM rfl vl rfl vB (z8 (fun ht=>gF ht))) vg ?_
  refine yo ?_
  refine zj ?_
  refine zN va hF (fun hc23 hF=>?_) (fun hc23 hF=>?_)
  ·refine zk (zd ?_)
   refine zc rfl (zi rfl rfl (zb rfl)) xe ?_
   refine ze (zj (zJ ?_))
   refine zG ?_
   refine zx ?_
   refine yd ?_
   obtain rfl:=Option.some.inj hF
   replace hF:=hK1
   refine zG ?_
   refine zx ?_
   obtain rfl:=Option.some.inj hF
   refine zz rfl (zD yW zF) (zA (leV.refl _) rfl ?_)
   exact ⟨rfl,rfl⟩
  ·refine zK (yh (zj (zd ?_)))
   refine zc rfl (zy rfl xl rfl rfl) vr ?_
   refine zc rfl (zf rfl vA (zb rfl)) xP ?_
   refine ze (yH ?_)
   obtain rfl:=Option.some.inj hF
   exact ⟨(),hl1,hK1,wk.trans (wk.le (by exact (.drop (.eq (.d4 (.eq (.eq (.cons (leV.of_eq (vf (by omega) (by omega))) (.d16 (.d4 (.d4 (.d4 (.drop leL.nil))))))))))))) (xN (by simp [yi,AV.low]) rfl rfl (by simp [Blk.low,yi,AV.low]))⟩
 ·refine yR ?_
  refine zZ ?_
  refine zU ?_
  refine zV ?_
  refine zj (zk (zd ?_))
  refine zc rfl (zi rfl rfl (zb rfl)) xe ?_
  refine ze (zj (zJ ?_))
  obtain rfl:=Option.some.inj hF
  refine zz rfl (zD yW zF) (zA (leV.refl _) rfl ?_)
  exact ⟨rfl,rfl⟩
end Go.Vv
