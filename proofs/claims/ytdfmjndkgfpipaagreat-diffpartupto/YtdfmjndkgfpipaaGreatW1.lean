/- Each function that the law reaches computes what its reading says; printed by a program. -/
import Derived.Test.YtdfmjndkgfpipaaGreatVvMl
import Derived.Test.YtdfmjndkgfpipaaGreatVvRb
import Derived.Test.YtdfmjndkgfpipaaGreatVvSo
import Derived.Test.YtdfmjndkgfpipaaGreatVvZ
import Derived.Test.YtdfmjndkgfpipaaGreatVvAn
import Derived.Test.YtdfmjndkgfpipaaGreatVvLb
import Derived.Test.YtdfmjndkgfpipaaGreatVvLc
import Derived.Test.YtdfmjndkgfpipaaGreatVvMr
import Derived.Test.YtdfmjndkgfpipaaGreatVvIt
import Derived.Test.YtdfmjndkgfpipaaGreatVvRd
import Derived.Test.YtdfmjndkgfpipaaGreatD
import Derived.Test.YtdfmjndkgfpipaaGreatProg
namespace Go.Vv
open Go Go.Proofs
set_option maxRecDepth 100000
set_option maxHeartbeats 1000000
set_option linter.unusedSimpArgs false
set_option linter.unusedVariables false
section
variable {v a0 a1 a2 a3 a4 a5 a6 a7 a8 a9 a10 a11 a12 a13 a14 a15 a16 a17 a18 a19 a20 a21 a22 a23 a24 a25 a26 a27 a28 a29 a30 a31 a32 a33 a34 a35 a36 a37 a38 a39:AV} {r q:List AV} {t:Nat}
theorem yq:xf (a0::r) (.tmp 0)=some a0:=rfl
theorem st0:vp (some 0) (a0::r) v=some (v::r):=rfl
theorem yF:xf (a0::a1::r) (.tmp 1)=some a1:=rfl
theorem st1:vp (some 1) (a0::a1::r) v=some (a0::v::r):=rfl
theorem yW:xf (a0::a1::a2::r) (.tmp 2)=some a2:=rfl
theorem xg:vp (some 2) (a0::a1::a2::r) v=some (a0::a1::v::r):=rfl
theorem xu:xf (a0::a1::a2::a3::r) (.tmp 3)=some a3:=rfl
theorem wa:vp (some 3) (a0::a1::a2::a3::r) v=some (a0::a1::a2::v::r):=rfl
theorem yx:xf (a0::a1::a2::a3::a4::r) (.tmp 4)=some a4:=rfl
theorem yC:vp (some 4) (a0::a1::a2::a3::a4::r) v=some (a0::a1::a2::a3::v::r):=rfl
theorem yR:xf (a0::a1::a2::a3::a4::a5::r) (.tmp 5)=some a5:=rfl
theorem xw:vp (some 5) (a0::a1::a2::a3::a4::a5::r) v=some (a0::a1::a2::a3::a4::v::r):=rfl
theorem yV:xf (a0::a1::a2::a3::a4::a5::a6::r) (.tmp 6)=some a6:=rfl
theorem xD:vp (some 6) (a0::a1::a2::a3::a4::a5::a6::r) v=some (a0::a1::a2::a3::a4::a5::v::r):=rfl
theorem xE:xf (a0::a1::a2::a3::a4::a5::a6::a7::r) (.tmp 7)=some a7:=rfl
theorem xM:vp (some 7) (a0::a1::a2::a3::a4::a5::a6::a7::r) v=some (a0::a1::a2::a3::a4::a5::a6::v::r):=rfl
theorem xp:xf (a0::a1::a2::a3::a4::a5::a6::a7::a8::r) (.tmp 8)=some a8:=rfl
theorem xU:vp (some 8) (a0::a1::a2::a3::a4::a5::a6::a7::a8::r) v=some (a0::a1::a2::a3::a4::a5::a6::a7::v::r):=rfl
theorem xQ:xf (a0::a1::a2::a3::a4::a5::a6::a7::a8::a9::r) (.tmp 9)=some a9:=rfl
theorem wy:vp (some 9) (a0::a1::a2::a3::a4::a5::a6::a7::a8::a9::r) v=some (a0::a1::a2::a3::a4::a5::a6::a7::a8::v::r):=rfl
theorem yD:xf (a0::a1::a2::a3::a4::a5::a6::a7::a8::a9::a10::r) (.tmp 10)=some a10:=rfl
theorem yJ:vp (some 10) (a0::a1::a2::a3::a4::a5::a6::a7::a8::a9::a10::r) v=some (a0::a1::a2::a3::a4::a5::a6::a7::a8::a9::v::r):=rfl
theorem yy:xf (a0::a1::a2::a3::a4::a5::a6::a7::a8::a9::a10::a11::r) (.tmp 11)=some a11:=rfl
theorem yN:vp (some 11) (a0::a1::a2::a3::a4::a5::a6::a7::a8::a9::a10::a11::r) v=some (a0::a1::a2::a3::a4::a5::a6::a7::a8::a9::a10::v::r):=rfl
theorem yM:xf (a0::a1::a2::a3::a4::a5::a6::a7::a8::a9::a10::a11::a12::r) (.tmp 12)=some a12:=rfl
theorem yX:vp (some 12) (a0::a1::a2::a3::a4::a5::a6::a7::a8::a9::a10::a11::a12::r) v=some (a0::a1::a2::a3::a4::a5::a6::a7::a8::a9::a10::a11::v::r):=rfl
theorem yE:xf (a0::a1::a2::a3::a4::a5::a6::a7::a8::a9::a10::a11::a12::a13::r) (.tmp 13)=some a13:=rfl
theorem y4:vp (some 13) (a0::a1::a2::a3::a4::a5::a6::a7::a8::a9::a10::a11::a12::a13::r) v=some (a0::a1::a2::a3::a4::a5::a6::a7::a8::a9::a10::a11::a12::v::r):=rfl
theorem yS:xf (a0::a1::a2::a3::a4::a5::a6::a7::a8::a9::a10::a11::a12::a13::a14::r) (.tmp 14)=some a14:=rfl
theorem yZ:vp (some 14) (a0::a1::a2::a3::a4::a5::a6::a7::a8::a9::a10::a11::a12::a13::a14::r) v=some (a0::a1::a2::a3::a4::a5::a6::a7::a8::a9::a10::a11::a12::a13::v::r):=rfl
theorem yY:xf (a0::a1::a2::a3::a4::a5::a6::a7::a8::a9::a10::a11::a12::a13::a14::a15::r) (.tmp 15)=some a15:=rfl
theorem y6:vp (some 15) (a0::a1::a2::a3::a4::a5::a6::a7::a8::a9::a10::a11::a12::a13::a14::a15::r) v=some (a0::a1::a2::a3::a4::a5::a6::a7::a8::a9::a10::a11::a12::a13::a14::v::r):=rfl
theorem xh:xf (a0::a1::a2::a3::a4::a5::a6::a7::a8::a9::a10::a11::a12::a13::a14::a15::a16::r) (.tmp 16)=some a16:=rfl
theorem xj:vp (some 16) (a0::a1::a2::a3::a4::a5::a6::a7::a8::a9::a10::a11::a12::a13::a14::a15::a16::r) v=some (a0::a1::a2::a3::a4::a5::a6::a7::a8::a9::a10::a11::a12::a13::a14::a15::v::r):=rfl
theorem xq:xf (a0::a1::a2::a3::a4::a5::a6::a7::a8::a9::a10::a11::a12::a13::a14::a15::a16::a17::r) (.tmp 17)=some a17:=rfl
theorem xy:vp (some 17) (a0::a1::a2::a3::a4::a5::a6::a7::a8::a9::a10::a11::a12::a13::a14::a15::a16::a17::r) v=some (a0::a1::a2::a3::a4::a5::a6::a7::a8::a9::a10::a11::a12::a13::a14::a15::a16::v::r):=rfl
theorem xC:xf (a0::a1::a2::a3::a4::a5::a6::a7::a8::a9::a10::a11::a12::a13::a14::a15::a16::a17::a18::r) (.tmp 18)=some a18:=rfl
theorem xF:vp (some 18) (a0::a1::a2::a3::a4::a5::a6::a7::a8::a9::a10::a11::a12::a13::a14::a15::a16::a17::a18::r) v=some (a0::a1::a2::a3::a4::a5::a6::a7::a8::a9::a10::a11::a12::a13::a14::a15::a16::a17::v::r):=rfl
theorem xL:xf (a0::a1::a2::a3::a4::a5::a6::a7::a8::a9::a10::a11::a12::a13::a14::a15::a16::a17::a18::a19::r) (.tmp 19)=some a19:=rfl
theorem xN:vp (some 19) (a0::a1::a2::a3::a4::a5::a6::a7::a8::a9::a10::a11::a12::a13::a14::a15::a16::a17::a18::a19::r) v=some (a0::a1::a2::a3::a4::a5::a6::a7::a8::a9::a10::a11::a12::a13::a14::a15::a16::a17::a18::v::r):=rfl
theorem x9:xf (a0::a1::a2::a3::a4::a5::a6::a7::a8::a9::a10::a11::a12::a13::a14::a15::a16::a17::a18::a19::a20::r) (.tmp 20)=some a20:=rfl
theorem x8:vp (some 20) (a0::a1::a2::a3::a4::a5::a6::a7::a8::a9::a10::a11::a12::a13::a14::a15::a16::a17::a18::a19::a20::r) v=some (a0::a1::a2::a3::a4::a5::a6::a7::a8::a9::a10::a11::a12::a13::a14::a15::a16::a17::a18::a19::v::r):=rfl
theorem wb:xf (a0::a1::a2::a3::a4::a5::a6::a7::a8::a9::a10::a11::a12::a13::a14::a15::a16::a17::a18::a19::a20::a21::r) (.tmp 21)=some a21:=rfl
theorem wg:vp (some 21) (a0::a1::a2::a3::a4::a5::a6::a7::a8::a9::a10::a11::a12::a13::a14::a15::a16::a17::a18::a19::a20::a21::r) v=some (a0::a1::a2::a3::a4::a5::a6::a7::a8::a9::a10::a11::a12::a13::a14::a15::a16::a17::a18::a19::a20::v::r):=rfl
theorem wl:xf (a0::a1::a2::a3::a4::a5::a6::a7::a8::a9::a10::a11::a12::a13::a14::a15::a16::a17::a18::a19::a20::a21::a22::r) (.tmp 22)=some a22:=rfl
theorem wo:vp (some 22) (a0::a1::a2::a3::a4::a5::a6::a7::a8::a9::a10::a11::a12::a13::a14::a15::a16::a17::a18::a19::a20::a21::a22::r) v=some (a0::a1::a2::a3::a4::a5::a6::a7::a8::a9::a10::a11::a12::a13::a14::a15::a16::a17::a18::a19::a20::a21::v::r):=rfl
theorem x4:xf (a0::a1::a2::a3::a4::a5::a6::a7::a8::a9::a10::a11::a12::a13::a14::a15::a16::a17::a18::a19::a20::a21::a22::a23::r) (.tmp 23)=some a23:=rfl
theorem we:vp (some 23) (a0::a1::a2::a3::a4::a5::a6::a7::a8::a9::a10::a11::a12::a13::a14::a15::a16::a17::a18::a19::a20::a21::a22::a23::r) v=some (a0::a1::a2::a3::a4::a5::a6::a7::a8::a9::a10::a11::a12::a13::a14::a15::a16::a17::a18::a19::a20::a21::a22::v::r):=rfl
theorem wh:xf (a0::a1::a2::a3::a4::a5::a6::a7::a8::a9::a10::a11::a12::a13::a14::a15::a16::a17::a18::a19::a20::a21::a22::a23::a24::r) (.tmp 24)=some a24:=rfl
theorem wi:vp (some 24) (a0::a1::a2::a3::a4::a5::a6::a7::a8::a9::a10::a11::a12::a13::a14::a15::a16::a17::a18::a19::a20::a21::a22::a23::a24::r) v=some (a0::a1::a2::a3::a4::a5::a6::a7::a8::a9::a10::a11::a12::a13::a14::a15::a16::a17::a18::a19::a20::a21::a22::a23::v::r):=rfl
theorem wp:xf (a0::a1::a2::a3::a4::a5::a6::a7::a8::a9::a10::a11::a12::a13::a14::a15::a16::a17::a18::a19::a20::a21::a22::a23::a24::a25::r) (.tmp 25)=some a25:=rfl
theorem wt:vp (some 25) (a0::a1::a2::a3::a4::a5::a6::a7::a8::a9::a10::a11::a12::a13::a14::a15::a16::a17::a18::a19::a20::a21::a22::a23::a24::a25::r) v=some (a0::a1::a2::a3::a4::a5::a6::a7::a8::a9::a10::a11::a12::a13::a14::a15::a16::a17::a18::a19::a20::a21::a22::a23::a24::v::r):=rfl
theorem wO:xf (a0::a1::a2::a3::a4::a5::a6::a7::a8::a9::a10::a11::a12::a13::a14::a15::a16::a17::a18::a19::a20::a21::a22::a23::a24::a25::a26::r) (.tmp 26)=some a26:=rfl
theorem wQ:vp (some 26) (a0::a1::a2::a3::a4::a5::a6::a7::a8::a9::a10::a11::a12::a13::a14::a15::a16::a17::a18::a19::a20::a21::a22::a23::a24::a25::a26::r) v=some (a0::a1::a2::a3::a4::a5::a6::a7::a8::a9::a10::a11::a12::a13::a14::a15::a16::a17::a18::a19::a20::a21::a22::a23::a24::a25::v::r):=rfl
theorem wU:xf (a0::a1::a2::a3::a4::a5::a6::a7::a8::a9::a10::a11::a12::a13::a14::a15::a16::a17::a18::a19::a20::a21::a22::a23::a24::a25::a26::a27::r) (.tmp 27)=some a27:=rfl
theorem wY:vp (some 27) (a0::a1::a2::a3::a4::a5::a6::a7::a8::a9::a10::a11::a12::a13::a14::a15::a16::a17::a18::a19::a20::a21::a22::a23::a24::a25::a26::a27::r) v=some (a0::a1::a2::a3::a4::a5::a6::a7::a8::a9::a10::a11::a12::a13::a14::a15::a16::a17::a18::a19::a20::a21::a22::a23::a24::a25::a26::v::r):=rfl
theorem wT:xf (a0::a1::a2::a3::a4::a5::a6::a7::a8::a9::a10::a11::a12::a13::a14::a15::a16::a17::a18::a19::a20::a21::a22::a23::a24::a25::a26::a27::a28::r) (.tmp 28)=some a28:=rfl
theorem wX:vp (some 28) (a0::a1::a2::a3::a4::a5::a6::a7::a8::a9::a10::a11::a12::a13::a14::a15::a16::a17::a18::a19::a20::a21::a22::a23::a24::a25::a26::a27::a28::r) v=some (a0::a1::a2::a3::a4::a5::a6::a7::a8::a9::a10::a11::a12::a13::a14::a15::a16::a17::a18::a19::a20::a21::a22::a23::a24::a25::a26::a27::v::r):=rfl
theorem vm:xf (a0::a1::a2::a3::a4::a5::a6::a7::a8::a9::a10::a11::a12::a13::a14::a15::a16::a17::a18::a19::a20::a21::a22::a23::a24::a25::a26::a27::a28::a29::r) (.tmp 29)=some a29:=rfl
theorem vi:vp (some 29) (a0::a1::a2::a3::a4::a5::a6::a7::a8::a9::a10::a11::a12::a13::a14::a15::a16::a17::a18::a19::a20::a21::a22::a23::a24::a25::a26::a27::a28::a29::r) v=some (a0::a1::a2::a3::a4::a5::a6::a7::a8::a9::a10::a11::a12::a13::a14::a15::a16::a17::a18::a19::a20::a21::a22::a23::a24::a25::a26::a27::a28::v::r):=rfl
theorem vE:xf (a0::a1::a2::a3::a4::a5::a6::a7::a8::a9::a10::a11::a12::a13::a14::a15::a16::a17::a18::a19::a20::a21::a22::a23::a24::a25::a26::a27::a28::a29::a30::r) (.tmp 30)=some a30:=rfl
theorem vh:vp (some 30) (a0::a1::a2::a3::a4::a5::a6::a7::a8::a9::a10::a11::a12::a13::a14::a15::a16::a17::a18::a19::a20::a21::a22::a23::a24::a25::a26::a27::a28::a29::a30::r) v=some (a0::a1::a2::a3::a4::a5::a6::a7::a8::a9::a10::a11::a12::a13::a14::a15::a16::a17::a18::a19::a20::a21::a22::a23::a24::a25::a26::a27::a28::a29::v::r):=rfl
theorem vl:xf (a0::a1::a2::a3::a4::a5::a6::a7::a8::a9::a10::a11::a12::a13::a14::a15::a16::a17::a18::a19::a20::a21::a22::a23::a24::a25::a26::a27::a28::a29::a30::a31::r) (.tmp 31)=some a31:=rfl
theorem vg:vp (some 31) (a0::a1::a2::a3::a4::a5::a6::a7::a8::a9::a10::a11::a12::a13::a14::a15::a16::a17::a18::a19::a20::a21::a22::a23::a24::a25::a26::a27::a28::a29::a30::a31::r) v=some (a0::a1::a2::a3::a4::a5::a6::a7::a8::a9::a10::a11::a12::a13::a14::a15::a16::a17::a18::a19::a20::a21::a22::a23::a24::a25::a26::a27::a28::a29::a30::v::r):=rfl
theorem vk:xf (a0::a1::a2::a3::a4::a5::a6::a7::a8::a9::a10::a11::a12::a13::a14::a15::a16::a17::a18::a19::a20::a21::a22::a23::a24::a25::a26::a27::a28::a29::a30::a31::a32::r) (.tmp 32)=some a32:=rfl
theorem vz:vp (some 32) (a0::a1::a2::a3::a4::a5::a6::a7::a8::a9::a10::a11::a12::a13::a14::a15::a16::a17::a18::a19::a20::a21::a22::a23::a24::a25::a26::a27::a28::a29::a30::a31::a32::r) v=some (a0::a1::a2::a3::a4::a5::a6::a7::a8::a9::a10::a11::a12::a13::a14::a15::a16::a17::a18::a19::a20::a21::a22::a23::a24::a25::a26::a27::a28::a29::a30::a31::v::r):=rfl
theorem vD:xf (a0::a1::a2::a3::a4::a5::a6::a7::a8::a9::a10::a11::a12::a13::a14::a15::a16::a17::a18::a19::a20::a21::a22::a23::a24::a25::a26::a27::a28::a29::a30::a31::a32::a33::r) (.tmp 33)=some a33:=rfl
theorem vw:vp (some 33) (a0::a1::a2::a3::a4::a5::a6::a7::a8::a9::a10::a11::a12::a13::a14::a15::a16::a17::a18::a19::a20::a21::a22::a23::a24::a25::a26::a27::a28::a29::a30::a31::a32::a33::r) v=some (a0::a1::a2::a3::a4::a5::a6::a7::a8::a9::a10::a11::a12::a13::a14::a15::a16::a17::a18::a19::a20::a21::a22::a23::a24::a25::a26::a27::a28::a29::a30::a31::a32::v::r):=rfl
theorem vj:xf (a0::a1::a2::a3::a4::a5::a6::a7::a8::a9::a10::a11::a12::a13::a14::a15::a16::a17::a18::a19::a20::a21::a22::a23::a24::a25::a26::a27::a28::a29::a30::a31::a32::a33::a34::r) (.tmp 34)=some a34:=rfl
theorem vu:vp (some 34) (a0::a1::a2::a3::a4::a5::a6::a7::a8::a9::a10::a11::a12::a13::a14::a15::a16::a17::a18::a19::a20::a21::a22::a23::a24::a25::a26::a27::a28::a29::a30::a31::a32::a33::a34::r) v=some (a0::a1::a2::a3::a4::a5::a6::a7::a8::a9::a10::a11::a12::a13::a14::a15::a16::a17::a18::a19::a20::a21::a22::a23::a24::a25::a26::a27::a28::a29::a30::a31::a32::a33::v::r):=rfl
theorem vC:xf (a0::a1::a2::a3::a4::a5::a6::a7::a8::a9::a10::a11::a12::a13::a14::a15::a16::a17::a18::a19::a20::a21::a22::a23::a24::a25::a26::a27::a28::a29::a30::a31::a32::a33::a34::a35::r) (.tmp 35)=some a35:=rfl
theorem vt:vp (some 35) (a0::a1::a2::a3::a4::a5::a6::a7::a8::a9::a10::a11::a12::a13::a14::a15::a16::a17::a18::a19::a20::a21::a22::a23::a24::a25::a26::a27::a28::a29::a30::a31::a32::a33::a34::a35::r) v=some (a0::a1::a2::a3::a4::a5::a6::a7::a8::a9::a10::a11::a12::a13::a14::a15::a16::a17::a18::a19::a20::a21::a22::a23::a24::a25::a26::a27::a28::a29::a30::a31::a32::a33::a34::v::r):=rfl
theorem vb:xf (a0::a1::a2::a3::a4::a5::a6::a7::a8::a9::a10::a11::a12::a13::a14::a15::a16::a17::a18::a19::a20::a21::a22::a23::a24::a25::a26::a27::a28::a29::a30::a31::a32::a33::a34::a35::a36::r) (.tmp 36)=some a36:=rfl
theorem vf:vp (some 36) (a0::a1::a2::a3::a4::a5::a6::a7::a8::a9::a10::a11::a12::a13::a14::a15::a16::a17::a18::a19::a20::a21::a22::a23::a24::a25::a26::a27::a28::a29::a30::a31::a32::a33::a34::a35::a36::r) v=some (a0::a1::a2::a3::a4::a5::a6::a7::a8::a9::a10::a11::a12::a13::a14::a15::a16::a17::a18::a19::a20::a21::a22::a23::a24::a25::a26::a27::a28::a29::a30::a31::a32::a33::a34::a35::v::r):=rfl
theorem vB:xf (a0::a1::a2::a3::a4::a5::a6::a7::a8::a9::a10::a11::a12::a13::a14::a15::a16::a17::a18::a19::a20::a21::a22::a23::a24::a25::a26::a27::a28::a29::a30::a31::a32::a33::a34::a35::a36::a37::r) (.tmp 37)=some a37:=rfl
theorem vr:vp (some 37) (a0::a1::a2::a3::a4::a5::a6::a7::a8::a9::a10::a11::a12::a13::a14::a15::a16::a17::a18::a19::a20::a21::a22::a23::a24::a25::a26::a27::a28::a29::a30::a31::a32::a33::a34::a35::a36::a37::r) v=some (a0::a1::a2::a3::a4::a5::a6::a7::a8::a9::a10::a11::a12::a13::a14::a15::a16::a17::a18::a19::a20::a21::a22::a23::a24::a25::a26::a27::a28::a29::a30::a31::a32::a33::a34::a35::a36::v::r):=rfl
theorem vQ:xf (a0::a1::a2::a3::a4::a5::a6::a7::a8::a9::a10::a11::a12::a13::a14::a15::a16::a17::a18::a19::a20::a21::a22::a23::a24::a25::a26::a27::a28::a29::a30::a31::a32::a33::a34::a35::a36::a37::a38::r) (.tmp 38)=some a38:=rfl
theorem vN:vp (some 38) (a0::a1::a2::a3::a4::a5::a6::a7::a8::a9::a10::a11::a12::a13::a14::a15::a16::a17::a18::a19::a20::a21::a22::a23::a24::a25::a26::a27::a28::a29::a30::a31::a32::a33::a34::a35::a36::a37::a38::r) v=some (a0::a1::a2::a3::a4::a5::a6::a7::a8::a9::a10::a11::a12::a13::a14::a15::a16::a17::a18::a19::a20::a21::a22::a23::a24::a25::a26::a27::a28::a29::a30::a31::a32::a33::a34::a35::a36::a37::v::r):=rfl
theorem vJ:xf (a0::a1::a2::a3::a4::a5::a6::a7::a8::a9::a10::a11::a12::a13::a14::a15::a16::a17::a18::a19::a20::a21::a22::a23::a24::a25::a26::a27::a28::a29::a30::a31::a32::a33::a34::a35::a36::a37::a38::a39::r) (.tmp 39)=some a39:=rfl
theorem vM:vp (some 39) (a0::a1::a2::a3::a4::a5::a6::a7::a8::a9::a10::a11::a12::a13::a14::a15::a16::a17::a18::a19::a20::a21::a22::a23::a24::a25::a26::a27::a28::a29::a30::a31::a32::a33::a34::a35::a36::a37::a38::a39::r) v=some (a0::a1::a2::a3::a4::a5::a6::a7::a8::a9::a10::a11::a12::a13::a14::a15::a16::a17::a18::a19::a20::a21::a22::a23::a24::a25::a26::a27::a28::a29::a30::a31::a32::a33::a34::a35::a36::a37::a38::v::r):=rfl
theorem gk (h:xf r (.tmp t)=some v):xf (a0::a1::a2::a3::a4::a5::a6::a7::a8::a9::a10::a11::a12::a13::a14::a15::a16::a17::a18::a19::a20::a21::a22::a23::a24::a25::a26::a27::a28::a29::a30::a31::a32::a33::a34::a35::a36::a37::a38::a39::r) (.tmp (t+40))=some v:=h
theorem sk (h:vp (some t) r v=some q):vp (some (t+40)) (a0::a1::a2::a3::a4::a5::a6::a7::a8::a9::a10::a11::a12::a13::a14::a15::a16::a17::a18::a19::a20::a21::a22::a23::a24::a25::a26::a27::a28::a29::a30::a31::a32::a33::a34::a35::a36::a37::a38::a39::r) v=some (a0::a1::a2::a3::a4::a5::a6::a7::a8::a9::a10::a11::a12::a13::a14::a15::a16::a17::a18::a19::a20::a21::a22::a23::a24::a25::a26::a27::a28::a29::a30::a31::a32::a33::a34::a35::a36::a37::a38::a39::q):=congrArg (fun x=>some (a0::a1::a2::a3::a4::a5::a6::a7::a8::a9::a10::a11::a12::a13::a14::a15::a16::a17::a18::a19::a20::a21::a22::a23::a24::a25::a26::a27::a28::a29::a30::a31::a32::a33::a34::a35::a36::a37::a38::a39::x)) (Option.some.inj h)
end

def GActor.row (x:GActor):List AV:=[.int .u8 x.rep,.int .u32 x.inc]
def GDot.row (x:GDot):List AV:=[.int .u8 x.actor.rep,.int .u32 x.actor.inc,.int .u64 x.seq]
def GItem.row (x:GItem):List AV:=[.int .u64 x.time,.int .u8 x.dot.actor.rep,.int .u32 x.dot.actor.inc,.int .u64 x.dot.seq,.str x.text]
def GLeaf.row (x:GLeaf):List AV:=[.int .u8 x.typ,.int .i64 x.n,.int .u64 x.time,.int .u8 x.dot.actor.rep,.int .u32 x.dot.actor.inc,.int .u64 x.dot.seq,.str x.text,.sl 5 (x.items.map GItem.row),.sl 3 (x.tombs.map GDot.row)]
mutual
def GNode.row:GNode→List AV
  | ⟨name,leaves,subs⟩=>[.str name,.sl 9 (leaves.map GLeaf.row),.sl 3 (GNode.rows subs)]
def GNode.rows:List GNode→List (List AV)
  | []=>[]
  | x::r=>x.row::GNode.rows r
end
theorem GNode.rows_eq (l:List GNode):GNode.rows l=l.map GNode.row:=by
  induction l with
  | nil=>rfl
  | cons x r ih=>simp only [GNode.rows,List.map_cons,ih]
theorem GNode.row_eq (x:GNode):x.row=[.str x.name,.sl 9 (x.leaves.map GLeaf.row),.sl 3 (x.subs.map GNode.row)]:=by
  cases x;simp only [GNode.row,GNode.rows_eq]
def GEdit.row (x:GEdit):List AV:=[.sl 1 (x.path.map zP),.int .u8 x.typ,.bool x.had,.bool x.has,.int .u8 x.was.typ,.int .i64 x.was.n,.int .u64 x.was.time,.int .u8 x.was.dot.actor.rep,.int .u32 x.was.dot.actor.inc,.int .u64 x.was.dot.seq,.str x.was.text,.sl 5 (x.was.items.map GItem.row),.sl 3 (x.was.tombs.map GDot.row),.int .u8 x.is.typ,.int .i64 x.is.n,.int .u64 x.is.time,.int .u8 x.is.dot.actor.rep,.int .u32 x.is.dot.actor.inc,.int .u64 x.is.dot.seq,.str x.is.text,.sl 5 (x.is.items.map GItem.row),.sl 3 (x.is.tombs.map GDot.row)]
def GRow.row (x:GRow):List AV:=[.sl 1 (x.path.map zP),.int .u8 x.leaf.typ,.int .i64 x.leaf.n,.int .u64 x.leaf.time,.int .u8 x.leaf.dot.actor.rep,.int .u32 x.leaf.dot.actor.inc,.int .u64 x.leaf.dot.seq,.str x.leaf.text,.sl 5 (x.leaf.items.map GItem.row),.sl 3 (x.leaf.tombs.map GDot.row)]
theorem xl:El Tryz.prog 23 59 3:=mkEl Tryz.underlying23 (by kernel_rfl)
theorem mixed:Tryz.prog.follows .mixedOrders=true:=by kernel_rfl
theorem fo59x0:Fo Tryz.prog 59 0 0 9 1:=mkFo (by kernel_rfl) (by kernel_rfl)
theorem ty9:Ty Tryz.prog 9 .string 1:=mkTy Tryz.underlying9 (by kernel_rfl)
theorem fo59x2:Fo Tryz.prog 59 2 2 23 1:=mkFo (by kernel_rfl) (by kernel_rfl)
theorem ty23:Ty Tryz.prog 23 (.slice 59) 1:=mkTy Tryz.underlying23 (by kernel_rfl)
theorem x6:Fo Tryz.prog 59 1 1 57 1:=mkFo (by kernel_rfl) (by kernel_rfl)
theorem ty57:Ty Tryz.prog 57 (.slice 42) 1:=mkTy Tryz.underlying57 (by kernel_rfl)
theorem wn:El Tryz.prog 57 42 9:=mkEl Tryz.underlying57 (by kernel_rfl)
theorem ty42:∃ d,Ty Tryz.prog 42 d 9∧y5 d=true:=⟨_,mkTy Tryz.underlying42 (by kernel_rfl),by kernel_rfl⟩
theorem ze42:vK Tryz.prog 42=some [.int .u8 0,.int .i64 0,.int .u64 0,.int .u8 0,.int .u32 0,.int .u64 0,.str [],.osl none 5 [],.osl none 3 []]:=by kernel_rfl
theorem fo42x4:Fo Tryz.prog 42 4 6 9 1:=mkFo (by kernel_rfl) (by kernel_rfl)
theorem wm:Fo Tryz.prog 42 6 8 40 1:=mkFo (by kernel_rfl) (by kernel_rfl)
theorem ty40:Ty Tryz.prog 40 (.slice 38) 1:=mkTy Tryz.underlying40 (by kernel_rfl)
theorem el40:El Tryz.prog 40 38 3:=mkEl Tryz.underlying40 (by kernel_rfl)
theorem xR:Fo Tryz.prog 42 5 7 39 1:=mkFo (by kernel_rfl) (by kernel_rfl)
theorem ty39:Ty Tryz.prog 39 (.slice 93) 1:=mkTy Tryz.underlying39 (by kernel_rfl)
theorem qe:El Tryz.prog 39 93 5:=mkEl Tryz.underlying39 (by kernel_rfl)
theorem fo93x2:Fo Tryz.prog 93 2 4 9 1:=mkFo (by kernel_rfl) (by kernel_rfl)
theorem el29:El Tryz.prog 29 44 22:=mkEl Tryz.underlying29 (by kernel_rfl)
theorem ty44:∃ d,Ty Tryz.prog 44 d 22∧y5 d=true:=⟨_,mkTy Tryz.underlying44 (by kernel_rfl),by kernel_rfl⟩
theorem ze44:vK Tryz.prog 44=some [.osl none 1 [],.int .u8 0,.bool false,.bool false,.int .u8 0,.int .i64 0,.int .u64 0,.int .u8 0,.int .u32 0,.int .u64 0,.str [],.osl none 5 [],.osl none 3 [],.int .u8 0,.int .i64 0,.int .u64 0,.int .u8 0,.int .u32 0,.int .u64 0,.str [],.osl none 5 [],.osl none 3 []]:=by kernel_rfl
theorem fo44x0:Fo Tryz.prog 44 0 0 24 1:=mkFo (by kernel_rfl) (by kernel_rfl)
theorem ty24:Ty Tryz.prog 24 (.slice 9) 1:=mkTy Tryz.underlying24 (by kernel_rfl)
theorem wD:El Tryz.prog 24 9 1:=mkEl Tryz.underlying24 (by kernel_rfl)
theorem fo44x4:Fo Tryz.prog 44 4 4 42 9:=mkFo (by kernel_rfl) (by kernel_rfl)
theorem fo44x5:Fo Tryz.prog 44 5 13 42 9:=mkFo (by kernel_rfl) (by kernel_rfl)
theorem fo36x0:Fo Tryz.prog 36 0 0 5 1:=mkFo (by kernel_rfl) (by kernel_rfl)
theorem ty5:Ty Tryz.prog 5 (.int .u8) 1:=mkTy Tryz.underlying5 (by kernel_rfl)
theorem fo36x1:Fo Tryz.prog 36 1 1 34 1:=mkFo (by kernel_rfl) (by kernel_rfl)
theorem ty34:Ty Tryz.prog 34 (.int .u32) 1:=mkTy Tryz.underlying34 (by kernel_rfl)
theorem fo38x0:Fo Tryz.prog 38 0 0 36 2:=mkFo (by kernel_rfl) (by kernel_rfl)
theorem ty36:∃ d,Ty Tryz.prog 36 d 2∧y5 d=true:=⟨_,mkTy Tryz.underlying36 (by kernel_rfl),by kernel_rfl⟩
theorem fo38x1:Fo Tryz.prog 38 1 2 33 1:=mkFo (by kernel_rfl) (by kernel_rfl)
theorem ty33:Ty Tryz.prog 33 (.int .u64) 1:=mkTy Tryz.underlying33 (by kernel_rfl)
theorem fo93x1:Fo Tryz.prog 93 1 1 38 3:=mkFo (by kernel_rfl) (by kernel_rfl)
theorem ty38:∃ d,Ty Tryz.prog 38 d 3∧y5 d=true:=⟨_,mkTy Tryz.underlying38 (by kernel_rfl),by kernel_rfl⟩
theorem pk38:PK Tryz.prog 38 [.i,.i,.i]:=mkPK (by kernel_rfl) (by kernel_rfl) (by kernel_rfl)
theorem xY:Fo Tryz.prog 42 0 0 5 1:=mkFo (by kernel_rfl) (by kernel_rfl)
theorem fo42x1:Fo Tryz.prog 42 1 1 2 1:=mkFo (by kernel_rfl) (by kernel_rfl)
theorem ty2:Ty Tryz.prog 2 (.int .i64) 1:=mkTy Tryz.underlying2 (by kernel_rfl)
noncomputable def sf38:Array Field:=match Tryz.prog.underlying 38 with | some (.struct fs)=>fs | _=>#[]
theorem su38:Tryz.prog.underlying 38=some (.struct sf38):=by kernel_rfl
theorem ze38:vK Tryz.prog 38=some [.int .u8 0,.int .u32 0,.int .u64 0]:=by kernel_rfl
theorem pl38:placesL Tryz.prog sf38=some [(0,2),(2,1)]:=by kernel_rfl
theorem fo42x2:Fo Tryz.prog 42 2 2 33 1:=mkFo (by kernel_rfl) (by kernel_rfl)
theorem fo42x3:Fo Tryz.prog 42 3 3 38 3:=mkFo (by kernel_rfl) (by kernel_rfl)
theorem ty93:∃ d,Ty Tryz.prog 93 d 5∧y5 d=true:=⟨_,mkTy Tryz.underlying93 (by kernel_rfl),by kernel_rfl⟩
theorem ze93:vK Tryz.prog 93=some [.int .u64 0,.int .u8 0,.int .u32 0,.int .u64 0,.str []]:=by kernel_rfl
theorem fo93x0:Fo Tryz.prog 93 0 0 33 1:=mkFo (by kernel_rfl) (by kernel_rfl)
theorem ty59:∃ d,Ty Tryz.prog 59 d 3∧y5 d=true:=⟨_,mkTy Tryz.underlying59 (by kernel_rfl),by kernel_rfl⟩
theorem ze59:vK Tryz.prog 59=some [.str [],.osl none 9 [],.osl none 3 []]:=by kernel_rfl
theorem ty4:Ty Tryz.prog 4 .bool 1:=mkTy Tryz.underlying4 (by kernel_rfl)
theorem el149:El Tryz.prog 149 3 1:=mkEl Tryz.underlying149 (by kernel_rfl)
theorem ty3:Ty Tryz.prog 3 (.int .i64) 1:=mkTy Tryz.underlying3 (by kernel_rfl)
theorem fo44x1:Fo Tryz.prog 44 1 1 5 1:=mkFo (by kernel_rfl) (by kernel_rfl)
theorem ze3:vK Tryz.prog 3=some [.int .i64 0]:=by kernel_rfl
theorem pk93:PK Tryz.prog 93 [.i,.i,.i,.i,.s]:=mkPK (by kernel_rfl) (by kernel_rfl) (by kernel_rfl)
theorem ze9:vK Tryz.prog 9=some [.str []]:=by kernel_rfl
theorem fo44x2:Fo Tryz.prog 44 2 2 4 1:=mkFo (by kernel_rfl) (by kernel_rfl)
theorem fo44x3:Fo Tryz.prog 44 3 3 4 1:=mkFo (by kernel_rfl) (by kernel_rfl)
theorem kq38:KQ Tryz.prog 38 (fun x=>AV.agg (GDot.row x)) GDot.eqb:=.struct su38 pk38 (fun _ _=>rfl) (fun a=>by simp [GDot.eqb])
theorem az3:aZeroM Tryz.prog 3=some ((AV.int .i64) (0:Int)):=by kernel_rfl
noncomputable def sf42:Array Field:=match Tryz.prog.underlying 42 with | some (.struct fs)=>fs | _=>#[]
theorem su42:Tryz.prog.underlying 42=some (.struct sf42):=by kernel_rfl
theorem pl42:placesL Tryz.prog sf42=some [(0,1),(1,1),(2,1),(3,3),(6,1),(7,1),(8,1)]:=by kernel_rfl
theorem el61:El Tryz.prog 61 64 10:=mkEl Tryz.underlying61 (by kernel_rfl)
theorem ze64:vK Tryz.prog 64=some [.osl none 1 [],.int .u8 0,.int .i64 0,.int .u64 0,.int .u8 0,.int .u32 0,.int .u64 0,.str [],.osl none 5 [],.osl none 3 []]:=by kernel_rfl
theorem ty64:∃ d,Ty Tryz.prog 64 d 10∧y5 d=true:=⟨_,mkTy Tryz.underlying64 (by kernel_rfl),by kernel_rfl⟩
theorem ty61:Ty Tryz.prog 61 (.slice 64) 1:=mkTy Tryz.underlying61 (by kernel_rfl)
theorem ty116:Ty Tryz.prog 116 (.func #[64] #[4] false) 1:=mkTy Tryz.underlying116 (by kernel_rfl)
noncomputable def sf64:Array Field:=match Tryz.prog.underlying 64 with | some (.struct fs)=>fs | _=>#[]
theorem su64:Tryz.prog.underlying 64=some (.struct sf64):=by kernel_rfl
theorem pl64:placesL Tryz.prog sf64=some [(0,1),(1,9)]:=by kernel_rfl
theorem el82:El Tryz.prog 82 5 1:=mkEl Tryz.underlying82 (by kernel_rfl)
theorem ze5:vK Tryz.prog 5=some [.int .u8 0]:=by kernel_rfl
theorem fo64x0:Fo Tryz.prog 64 0 0 24 1:=mkFo (by kernel_rfl) (by kernel_rfl)
theorem fo64x1:Fo Tryz.prog 64 1 1 42 9:=mkFo (by kernel_rfl) (by kernel_rfl)
noncomputable def sf44:Array Field:=match Tryz.prog.underlying 44 with | some (.struct fs)=>fs | _=>#[]
theorem su44:Tryz.prog.underlying 44=some (.struct sf44):=by kernel_rfl
theorem pl44:placesL Tryz.prog sf44=some [(0,1),(1,1),(2,1),(3,1),(4,9),(13,9)]:=by kernel_rfl
theorem kq9:KQ Tryz.prog 9 AV.str (fun a b=>a==b):=.str ty9
theorem az44:aZeroM Tryz.prog 44=some ((fun x=>AV.agg (GEdit.row x)) (GEdit.mk ([]:List zJ) (0:Int) false false yw yw)):=by kernel_rfl
noncomputable def sf59:Array Field:=match Tryz.prog.underlying 59 with | some (.struct fs)=>fs | _=>#[]
theorem su59:Tryz.prog.underlying 59=some (.struct sf59):=by kernel_rfl
theorem pl59:placesL Tryz.prog sf59=some [(0,1),(1,1),(2,1)]:=by kernel_rfl
theorem ty128:Ty Tryz.prog 128 (.int .u64) 1:=mkTy Tryz.underlying128 (by kernel_rfl)
/-! varve/varveref07.size -/
theorem ok34N (n:Nat):∀ {t0:(List GNode)} {deep1:Int} {res:Int} {h:AH} , wj n t0 deep1=some res→Spec Tryz.prog 34 [.sl 3 (t0.map GNode.row),.int .i64 deep1] h (fun rr hh=>rr=.int .i64 res∧hh=h):=by
 induction n with
 | zero=>intro t0 deep1 res h  hF;simp [wj] at hF
 | succ n ih =>
  intro t0 deep1 res h  hF
  unfold wj at hF
  refine zt Tryz.func34 rfl (by kernel_rfl) (env:=[.sl 3 (t0.map GNode.row),.int .i64 deep1,za,za,za,za,za,za,za,za,za,za,za,za,za,za,za,za,za,za,za,za,za,za,za,za,za,za,za,za,za,za,za,za,za,za,za,za,za,za,za,za,za,za,za,za,za,za,za,za,za,za,za,za,za,za,za,za,za,za,za,za,za,za,za,za,za,za,za,za,za,za,za,za,za,za,za,za,za,za,za,za,za,za]) (by rfl) ?_
  refine zk (zd ?_)
  refine zc rfl (zi rfl rfl (zb rfl)) yC ?_
  refine ze (zj (zk (zd ?_)))
  refine zc rfl (zi rfl rfl (zb rfl)) xw ?_
  refine ze (zj (zk (zk (zd ?_))))
  refine zc rfl (zi rfl rfl (zb rfl)) xD ?_
  refine ze (zj (zR ?_))
  refine r_loopWF (fun (s1:Int×Int)=>yQ [2,3,4,7,8,9,10,11,12,13,14,15,16,17,18,19,20,21,22,23,24,25,26,27,28,29,30,31,32,33,34,35,36,37,38,39,40,41,42,43,44,45,46,47,48,49,50,51,52,53,54,55,56,57,58,59,60,61,62,63,64,65,66,67,68,69,70,71,72,73,74,75,76,77,78,79,80,81,82,83] [(5,.int .i64 s1.1),(6,.int .i64 s1.2)]) (fun s1=>h.ext [] []) hF (fun _=>by simp only [yQ,upd,List.set_cons_succ,List.set_cons_zero];try rfl) (wk.le (by exact (.eq (.eq (.drop (.drop (.drop (.cons (leV.of_eq rfl) (.cons (leV.of_eq rfl) (.d16 (.d16 (.d16 (.d16 (.d4 (.d4 (.d4 (.drop leL.nil))))))))))))))))) ?_
  intro n1 s1 o1 hF hK1
  refine zk (zk (zd ?_))
  refine zc rfl (zf rfl yV (zb rfl)) yJ ?_
  refine zc rfl (zf rfl yq (zb rfl)) yN ?_
  refine ya rfl (zS rfl rfl rfl rfl xl yy yb) yX fun hn66=>?_
  replace hn66:=xB hn66
  refine zc rfl (zy rfl yD yM rfl) y4 ?_
  refine zc rfl (zf rfl yE (zb rfl)) yZ ?_
  refine zp rfl (fun hb=>zf rfl yF (zb rfl)) y6 ?_
  refine zp rfl (fun hb=>zy rfl (zn yY hb) rfl rfl) xj ?_
  refine zc rfl (zM rfl yS xh rfl (zU (fun ht=>gT ht))) xy ?_
  refine ze (zj ?_)
  refine zN xq hF (fun hc67 hF=>?_) (fun hc67 hF=>?_)
  ·refine zK (zj (zk (zR (zk ?_))))
   refine yK [16] [] trivial mixed (by kernel_rfl) ?_
   refine zq rfl rfl (zf rfl yR (zb rfl)) x8 ?_
   refine zq rfl rfl (zy rfl x9 rfl rfl) wg ?_
   refine zq rfl rfl (zf rfl yq (zb rfl)) wo ?_
   refine zq rfl rfl (zf rfl yV (zb rfl)) we ?_
   refine zQ hF (fun y68 hy68 hF=>?_)
   refine zq rfl rfl (xO rfl xl wl x4 va hy68 (GNode.row_eq _)) wi ?_
   refine zq rfl rfl (zg rfl fo59x0 wh rfl) wt ?_
   refine zq rfl rfl (ye rfl ty9 wp (zr rfl) (zb rfl)) wQ ?_
   refine draw_len rfl rfl (vU rfl rfl rfl rfl ty9 wO) wY ?_
   refine zq rfl rfl (zy rfl wb wU rfl) wX ?_
   refine zq rfl rfl (zf rfl yq (zb rfl)) vi ?_
   refine zq rfl rfl (zf rfl yV (zb rfl)) vh ?_
   refine zQ hF (fun y70 hy70 hF=>?_)
   refine zq rfl rfl (xO rfl xl vm vE va hy70 (GNode.row_eq _)) vg ?_
   refine zq rfl rfl (zg rfl fo59x2 vl rfl) vz ?_
   refine zq rfl rfl (ye rfl ty23 vk (zr rfl) (zb rfl)) vw ?_
   refine zq rfl rfl (zf rfl yF (zb rfl)) vu ?_
   refine zq rfl rfl (zy rfl vj rfl rfl) vt ?_
   refine zQ hF (fun v71 hv71 hF=>?_)
   refine yv rfl rfl (fun _=>zC rfl rfl rfl (zo vD (zo vC zw)) (.cons (zb rfl) (.cons (zb rfl) .nil))) (by rintro _ ⟨B2,T2,rfl,hk2⟩;exact ih hv71) vf ?_
   refine zq rfl rfl (zy rfl wT vb rfl) vr ?_
   refine zq rfl rfl (zi rfl vB (zb rfl)) xw ?_
   refine yo ?_
   refine zj (zk (zd ?_))
   refine zc rfl (zi rfl rfl (zb rfl)) xM ?_
   refine ze (zj (zR ?_))
   refine r_loopWF (fun (s2:Int×Int)=>yQ [2,3,4,8,9,10,11,12,13,14,15,16,17,18,19,20,21,22,23,24,25,26,27,28,29,30,31,32,33,34,35,36,37,38,39,40,41,42,43,44,45,46,47,48,49,50,51,52,53,54,55,56,57,58,59,60,61,62,63,64,65,66,67,68,69,70,71,72,73,74,75,76,77,78,79,80,81,82,83] [(5,.int .i64 s2.1),(7,.int .i64 s2.2)]) (fun s2=>h.ext [] []) hF (fun _=>by simp only [yQ,upd,List.set_cons_succ,List.set_cons_zero];try rfl) (wk.le (by exact (.eq (.eq (.drop (.drop (.drop (.cons (leV.of_eq rfl) (.eq (.cons (leV.of_eq rfl) (.d16 (.d16 (.d16 (.d16 (.d4 (.d4 (.d4 leL.nil))))))))))))))))) ?_
   intro n2 s2 o2 hF hK2
   refine zk (zk (zd ?_))
   refine zc rfl (zf rfl xE (zb rfl)) vN ?_
   refine zc rfl (zf rfl yq (zb rfl)) vM ?_
   refine zc rfl (zf rfl yV (zb rfl)) (sk st0) ?_
   refine zQ hF (fun y102 hy102 hF=>?_)
   refine zc rfl (xO rfl xl vJ (gk yq) va hy102 (GNode.row_eq _)) (sk st1) ?_
   refine zc rfl (zg rfl x6 (gk yF) rfl) (sk xg) ?_
   refine zc rfl (ye rfl ty57 (gk yW) (zr rfl) (zb rfl)) (sk wa) ?_
   refine ya rfl (zS rfl rfl rfl rfl wn (gk xu) yb) (sk yC) fun hn103=>?_
   replace hn103:=xB hn103
   refine zc rfl (zy rfl vQ (gk yx) rfl) (sk xw) ?_
   refine ze (zj ?_)
   refine zN (gk yR) hF (fun hc104 hF=>?_) (fun hc104 hF=>?_)
   ·refine zK (zj (zk (zR (zk (zd ?_)))))
    refine zc rfl (zf rfl yq (zb rfl)) (sk xU) ?_
    refine zc rfl (zf rfl yV (zb rfl)) (sk wy) ?_
    refine zQ hF (fun y105 hy105 hF=>?_)
    refine zc rfl (xO rfl xl (gk xp) (gk xQ) va hy105 (GNode.row_eq _)) (sk yJ) ?_
    refine zc rfl (zg rfl x6 (gk yD) rfl) (sk yN) ?_
    refine zc rfl (ye rfl ty57 (gk yy) (zr rfl) (zb rfl)) (sk yX) ?_
    refine zc rfl (zf rfl xE (zb rfl)) (sk y4) ?_
    refine zQ hF (fun y106 hy106 hF=>?_)
    refine zc rfl (yk rfl wn (gk yM) (gk yE) va hy106) (sk yZ) ?_
    refine zc rfl (ye rfl ty42.choose_spec.1 (gk yS) (zH (cs':=[.int .u8 y106.typ,.int .i64 y106.n,.int .u64 y106.time,.int .u8 y106.dot.actor.rep,.int .u32 y106.dot.actor.inc,.int .u64 y106.dot.seq,.str y106.text,.sl 5 (y106.items.map GItem.row),.sl 3 (y106.tombs.map GDot.row)]) ty42.choose_spec.2 rfl rfl) (zb rfl)) (sk y6) ?_
    refine zc rfl (xe (n:=0) rfl ze42 rfl) xU ?_
    refine zc rfl (yf (cs':=[.int .u8 y106.typ,.int .i64 y106.n,.int .u64 y106.time,.int .u8 y106.dot.actor.rep,.int .u32 y106.dot.actor.inc,.int .u64 y106.dot.seq,.str y106.text,.sl 5 (y106.items.map GItem.row),.sl 3 (y106.tombs.map GDot.row)]) rfl ty42.choose_spec.1 xp (gk yY) (zb rfl) rfl rfl rfl rfl rfl) rfl ?_
    refine ze (zj (zk (zd ?_)))
    refine zc rfl (zf rfl yR (zb rfl)) (sk xj) ?_
    refine zc rfl (zy rfl (gk xh) rfl rfl) (sk xy) ?_
    refine zc rfl (zg rfl fo42x4 xp rfl) (sk xF) ?_
    refine zc rfl (zu rfl ty9 (gk xC) rfl (zr rfl) (zb rfl)) (sk xN) ?_
    refine ya rfl (vU rfl rfl rfl rfl ty9 (gk xL)) (sk x8) fun hn107=>?_
    replace hn107:=xB hn107
    refine zc rfl (zy rfl (gk xq) (gk x9) rfl) (sk wg) ?_
    refine zc rfl (zg rfl wm xp rfl) (sk wo) ?_
    refine zc rfl (zu rfl ty40 (gk wl) rfl (zr rfl) (zb rfl)) (sk we) ?_
    refine ya rfl (zS rfl rfl rfl rfl el40 (gk x4) yb) (sk wi) fun hn108=>?_
    replace hn108:=xB hn108
    refine zc rfl (zy rfl (gk wb) (gk wh) rfl) (sk wt) ?_
    refine zc rfl (zi rfl (gk wp) (zb rfl)) xw ?_
    refine ze (zj (zk (zd ?_)))
    refine zc rfl (zi rfl rfl (zb rfl)) wy ?_
    refine ze (zj (zR ?_))
    refine yu (fun (n3:Nat) (s3:Int)=>yQ [2,3,4,10,11,12,13,14,15,16,17,18,19,20,21,22,23,24,25,26,27,28,29,30,31,32,33,34,35,36,37,38,39,40,41,42,43,44,45,46,47,48,49,50,51,52,53,54,55,56,57,58,59,60,61,62,63,64,65,66,67,68,69,70,71,72,73,74,75,76,77,78,79,80,81,82,83] [(5,.int .i64 s3),(9,.int .i64 (n3:Int))]) (fun s3=>h.ext [.cells [.int .u8 y106.typ,.int .i64 y106.n,.int .u64 y106.time,.int .u8 y106.dot.actor.rep,.int .u32 y106.dot.actor.inc,.int .u64 y106.dot.seq,.str y106.text,.sl 5 (y106.items.map GItem.row),.sl 3 (y106.tombs.map GDot.row)]] []) hF (fun _ _=>by simp only [yQ,upd,List.set_cons_succ,List.set_cons_zero];try rfl) (wk.le (by exact (.eq (.eq (.drop (.drop (.drop (.cons (leV.of_eq rfl) (.eq (.eq (.eq (.cons (leV.of_eq rfl) (.d16 (.d16 (.d16 (.d16 (.d4 (.d4 (.drop (.drop leL.nil)))))))))))))))))))) ?_
    intro n3 s3 hi3 hF
    refine zk (zk (zd ?_))
    refine zc rfl (zf rfl xQ (zb rfl)) (sk wQ) ?_
    refine zc rfl (zg rfl xR xp rfl) (sk wY) ?_
    refine zc rfl (zu rfl ty39 (gk wU) rfl (zr rfl) (zb rfl)) (sk wX) ?_
    refine ya rfl (zS rfl rfl rfl rfl qe (gk wT) yb) (sk vi) fun hn125=>?_
    replace hn125:=xB hn125
    refine zc rfl (zy rfl (gk wO) (gk vm) rfl) (sk vh) ?_
    refine ze (zj ?_)
    refine yL (gk vE) hF (fun x3 o3 hl3 hx3 hF hK3=>?_) (fun hF=>?_)
    ·refine zK (zj (zk (zR (zd ?_))))
     refine zc rfl (zf rfl yR (zb rfl)) (sk vw) ?_
     refine zc rfl (zy rfl (gk vD) rfl rfl) (sk vu) ?_
     refine zc rfl (zg rfl xR xp rfl) (sk vt) ?_
     refine zc rfl (zu rfl ty39 (gk vC) rfl (zr rfl) (zb rfl)) (sk vf) ?_
     refine zc rfl (zf rfl xQ (zb rfl)) (sk vr) ?_
     refine zc rfl (yk rfl qe (gk vb) (gk vB) va (yO hx3)) (sk vN) ?_
     refine zc rfl (zg rfl fo93x2 (gk vQ) rfl) (sk vM) ?_
     refine zc rfl (ye rfl ty9 (gk vJ) (zr rfl) (zb rfl)) (sk (sk st0)) ?_
     refine ya rfl (vU rfl rfl rfl rfl ty9 (gk (gk yq))) (sk (sk st1)) fun hn126=>?_
     replace hn126:=xB hn126
     refine zc rfl (zy rfl (gk vj) (gk (gk yF)) rfl) (sk (sk xg)) ?_
     refine zc rfl (zi rfl (gk (gk yW)) (zb rfl)) xw ?_
     refine ze (yg (zj (zd ?_)))
     refine zc rfl (zf rfl xQ (zb rfl)) (sk vg) ?_
     refine zc rfl (zy rfl (gk vl) rfl rfl) (sk vz) ?_
     refine zc rfl (zi rfl (gk vk) (zb rfl)) wy ?_
     refine ze (yH ?_)
     obtain rfl:=Option.some.inj hF
     exact ⟨(IntKind.wrap .i64 ((IntKind.wrap .i64 (s3+(1:Int)))+((x3.text).length:Int))),hl3,hK3,wk.le (by exact (.eq (.eq (.drop (.drop (.drop (.cons (leV.of_eq rfl) (.eq (.eq (.eq (.cons (leV.of_eq (ve (by omega) (by omega))) (.d16 (.d16 (.d16 (.d16 (.d4 (.d4 (.drop (.drop leL.nil)))))))))))))))))))⟩
    ·refine yU ?_
     refine zZ ?_
     refine zW ?_
     refine zX ?_
     refine yg (zj (zd ?_))
     refine zc rfl (zf rfl xE (zb rfl)) (sk xD) ?_
     refine zc rfl (zy rfl (gk yV) rfl rfl) (sk xM) ?_
     refine zc rfl (zi rfl (gk xE) (zb rfl)) xM ?_
     refine ze (yH ?_)
     obtain rfl:=Option.some.inj hF
     exact ⟨(s3,(IntKind.wrap .i64 (s2.2+(1:Int)))),hK2,wk.trans (wk.le (by exact (.eq (.eq (.drop (.drop (.drop (.cons (leV.of_eq rfl) (.eq (.cons (leV.of_eq rfl) (.d16 (.d16 (.d16 (.d16 (.d4 (.d4 (.d4 leL.nil))))))))))))))))) (xJ (by simp [yi,AV.low]) rfl rfl (by simp [Blk.low,yi,AV.low]))⟩
   ·refine yU ?_
    refine zZ ?_
    refine zW ?_
    obtain rfl:=Option.some.inj hF
    replace hF:=hK2
    refine zX ?_
    refine yg (zj (zd ?_))
    refine zc rfl (zf rfl yV (zb rfl)) xF ?_
    refine zc rfl (zy rfl xC rfl rfl) xN ?_
    refine zc rfl (zi rfl xL (zb rfl)) xD ?_
    refine ze (yH ?_)
    obtain rfl:=Option.some.inj hF
    exact ⟨(s2.1,(IntKind.wrap .i64 (s1.2+(1:Int)))),hK1,wk.le (by exact (.eq (.eq (.drop (.drop (.drop (.cons (leV.of_eq rfl) (.cons (leV.of_eq rfl) (.d16 (.d16 (.d16 (.d16 (.d4 (.d4 (.d4 (.drop leL.nil))))))))))))))))⟩
  ·refine yU ?_
   refine zZ ?_
   refine zW ?_
   obtain rfl:=Option.some.inj hF
   replace hF:=hK1
   refine zX ?_
   refine zj (zk (zd ?_))
   refine zc rfl (zf rfl yR (zb rfl)) (sk (sk wa)) ?_
   refine zc rfl (zi rfl (gk (gk xu)) (zb rfl)) yC ?_
   refine ze (zj (zI ?_))
   obtain rfl:=Option.some.inj hF
   refine zz rfl (zD yx zF) (zA (leV.refl _) rfl ?_)
   exact ⟨rfl,rfl⟩
theorem ok34 {t0:(List GNode)} {deep1:Int} {res:Int} {h:AH}  (hF:ref07Xsize t0 deep1=some res):Spec Tryz.prog 34 [.sl 3 (t0.map GNode.row),.int .i64 deep1] h (fun rr hh=>rr=.int .i64 res∧hh=h):=by
 obtain ⟨n,hn⟩:=anyN_is hF
 exact ok34N n  hn
/-! varve/varveref07.Great -/
theorem ok14 {t0:(List GNode)} {res:Bool} {h:AH}  (hF:qL t0=some res):Spec Tryz.prog 14 [.sl 3 (t0.map GNode.row)] h (fun rr hh=>rr=.bool res∧hh=h):=by
 unfold qL at hF
 refine zt Tryz.func14 rfl (by kernel_rfl) (env:=[.sl 3 (t0.map GNode.row),za,za,za,za,za]) (by rfl) ?_
 refine zk (zd ?_)
 refine zc rfl (zi rfl rfl (zb rfl)) xg ?_
 refine ze (zj (zk (zd ?_)))
 refine zc rfl (zf rfl yq (zb rfl)) wa ?_
 refine zQ hF (fun v1 hv1 hF=>?_)
 refine zL rfl (zC rfl rfl rfl (zo xu (zo rfl zw)) (.cons (zb rfl) (.cons (zb rfl) .nil))) (ok34 hv1) yC ?_
 refine zc rfl (zy rfl yx rfl rfl) xw ?_
 refine zc rfl (zi rfl yR (zb rfl)) xg ?_
 refine ze (zj (zI ?_))
 obtain rfl:=Option.some.inj hF
 refine zz rfl (zD yW zF) (zA (leV.refl _) rfl ?_)
 exact ⟨rfl,rfl⟩
/-! varve/varveref31.Great -/
theorem ok15 {l0:(List GEdit)} {res:Bool} {h:AH}  (hF:ref31Great l0=some res):Spec Tryz.prog 15 [.sl 22 (l0.map GEdit.row)] h (fun rr hh=>rr=.bool res∧hh=h):=by
 unfold ref31Great at hF
 refine zt Tryz.func15 rfl (by kernel_rfl) (env:=[.sl 22 (l0.map GEdit.row),za,za,za,za,za,za,za,za,za,za,za,za,za,za,za,za,za,za,za,za,za,za,za,za,za,za,za,za,za,za,za,za,za,za,za,za,za,za,za,za,za,za,za,za,za,za,za,za,za,za,za,za,za,za,za,za,za,za,za,za]) (by rfl) ?_
 refine zk (zd ?_)
 refine zc rfl (zi rfl rfl (zb rfl)) xg ?_
 refine ze (zj (zk (zk (zd ?_))))
 refine zc rfl (zi rfl rfl (zb rfl)) wa ?_
 refine ze (zj (zR ?_))
 refine yu (fun (n1:Nat) (s1:Unit)=>yQ [1,2,4,5,6,7,8,9,10,11,12,13,14,15,16,17,18,19,20,21,22,23,24,25,26,27,28,29,30,31,32,33,34,35,36,37,38,39,40,41,42,43,44,45,46,47,48,49,50,51,52,53,54,55,56,57,58,59,60] [(3,.int .i64 (n1:Int))]) (fun s1=>h.ext [] []) hF (fun _ _=>by simp only [yQ,upd,List.set_cons_succ,List.set_cons_zero];try rfl) (wk.le (by exact (.eq (.drop (.drop (.cons (leV.of_eq rfl) (.d16 (.d16 (.d16 (.d4 (.d4 (.drop leL.nil)))))))))))) ?_
 intro n1 s1 hi1 hF
 refine zk (zk (zd ?_))
 refine zc rfl (zf rfl xu (zb rfl)) xD ?_
 refine zc rfl (zf rfl yq (zb rfl)) xM ?_
 refine ya rfl (zS rfl rfl rfl rfl el29 xE yb) xU fun hn45=>?_
 replace hn45:=xB hn45
 refine zc rfl (zy rfl yV xp rfl) wy ?_
 refine ze (zj ?_)
 refine yL xQ hF (fun x1 o1 hl1 hx1 hF hK1=>?_) (fun hF=>?_)
 ·refine zK (zj (zk (zR (zk (zd ?_)))))
  refine zc rfl (zf rfl yq (zb rfl)) yX ?_
  refine zc rfl (zf rfl xu (zb rfl)) y4 ?_
  refine zc rfl (yk rfl el29 yM yE va (yO hx1)) yZ ?_
  refine zc rfl (ye rfl ty44.choose_spec.1 yS (zH (cs':=[.sl 1 (x1.path.map zP),.int .u8 x1.typ,.bool x1.had,.bool x1.has,.int .u8 x1.was.typ,.int .i64 x1.was.n,.int .u64 x1.was.time,.int .u8 x1.was.dot.actor.rep,.int .u32 x1.was.dot.actor.inc,.int .u64 x1.was.dot.seq,.str x1.was.text,.sl 5 (x1.was.items.map GItem.row),.sl 3 (x1.was.tombs.map GDot.row),.int .u8 x1.is.typ,.int .i64 x1.is.n,.int .u64 x1.is.time,.int .u8 x1.is.dot.actor.rep,.int .u32 x1.is.dot.actor.inc,.int .u64 x1.is.dot.seq,.str x1.is.text,.sl 5 (x1.is.items.map GItem.row),.sl 3 (x1.is.tombs.map GDot.row)]) ty44.choose_spec.2 rfl rfl) (zb rfl)) y6 ?_
  refine zc rfl (xe (n:=0) rfl ze44 rfl) yC ?_
  refine zc rfl (yf (cs':=[.sl 1 (x1.path.map zP),.int .u8 x1.typ,.bool x1.had,.bool x1.has,.int .u8 x1.was.typ,.int .i64 x1.was.n,.int .u64 x1.was.time,.int .u8 x1.was.dot.actor.rep,.int .u32 x1.was.dot.actor.inc,.int .u64 x1.was.dot.seq,.str x1.was.text,.sl 5 (x1.was.items.map GItem.row),.sl 3 (x1.was.tombs.map GDot.row),.int .u8 x1.is.typ,.int .i64 x1.is.n,.int .u64 x1.is.time,.int .u8 x1.is.dot.actor.rep,.int .u32 x1.is.dot.actor.inc,.int .u64 x1.is.dot.seq,.str x1.is.text,.sl 5 (x1.is.items.map GItem.row),.sl 3 (x1.is.tombs.map GDot.row)]) rfl ty44.choose_spec.1 yx yY (zb rfl) rfl rfl rfl rfl rfl) rfl ?_
  refine ze (zj (zk (zk (zd ?_))))
  refine zc rfl (zg rfl fo44x0 yx rfl) xj ?_
  refine zc rfl (zu rfl ty24 xh rfl (zr rfl) (zb rfl)) xy ?_
  refine ya rfl (zS rfl rfl rfl rfl wD xq yb) xF fun hn46=>?_
  replace hn46:=xB hn46
  refine zc rfl (zy rfl xC rfl rfl) xN ?_
  refine zc rfl (zf rfl xL (zb rfl)) x8 ?_
  refine zp rfl (fun hb=>zg rfl fo44x4 yx rfl) wg ?_
  refine zp rfl (fun hb=>zg rfl xR (zn wb hb) rfl) wo ?_
  refine zp rfl (fun hb=>zu rfl ty39 (zn wl hb) rfl (zr rfl) (zb rfl)) we ?_
  refine xA rfl (fun hb=>zS rfl rfl rfl rfl qe (zn x4 hb) yb) wi fun hn47=>?_
  refine zp rfl (fun hb=>zg rfl fo44x5 yx rfl) wt ?_
  refine zp rfl (fun hb=>zg rfl xR (zn wp hb) rfl) wQ ?_
  refine zp rfl (fun hb=>zu rfl ty39 (zn wO hb) rfl (zr rfl) (zb rfl)) wY ?_
  refine xA rfl (fun hb=>zS rfl rfl rfl rfl qe (zn wU hb) yb) wX fun hn48=>?_
  refine zp rfl (fun hb=>zy rfl (zn wh hb) (zn wT hb) rfl) vi ?_
  refine zp rfl (fun hb=>zy rfl (zn vm hb) rfl rfl) vh ?_
  refine zc rfl (zM rfl x9 rfl vE (z8 (fun ht=>gF ht))) vg ?_
  refine zc rfl (zf rfl vl (zb rfl)) vz ?_
  refine zp rfl (fun hb=>zg rfl fo44x4 yx rfl) vw ?_
  refine zp rfl (fun hb=>zg rfl wm (zn vD hb) rfl) vu ?_
  refine zp rfl (fun hb=>zu rfl ty40 (zn vj hb) rfl (zr rfl) (zb rfl)) vt ?_
  refine xA rfl (fun hb=>zS rfl rfl rfl rfl el40 (zn vC hb) yb) vf fun hn49=>?_
  refine zp rfl (fun hb=>zg rfl fo44x5 yx rfl) vr ?_
  refine zp rfl (fun hb=>zg rfl wm (zn vB hb) rfl) vN ?_
  refine zp rfl (fun hb=>zu rfl ty40 (zn vQ hb) rfl (zr rfl) (zb rfl)) vM ?_
  refine xA rfl (fun hb=>zS rfl rfl rfl rfl el40 (zn vJ hb) yb) (sk st0) fun hn50=>?_
  refine zp rfl (fun hb=>zy rfl (zn vb hb) (zn (gk yq) hb) rfl) (sk st1) ?_
  refine zp rfl (fun hb=>zy rfl (zn (gk yF) hb) rfl rfl) (sk xg) ?_
  refine zc rfl (zM rfl vk rfl (gk yW) (z8 (fun ht=>gF ht))) (sk wa) ?_
  refine ze (zj ?_)
  refine zN (gk xu) hF (fun hc51 hF=>?_) (fun hc51 hF=>?_)
  ·refine zk (zd ?_)
   refine zc rfl (zi rfl rfl (zb rfl)) xg ?_
   refine ze (zj (zI (zx ?_)))
   refine zG ?_
   refine zx ?_
   refine yd ?_
   obtain rfl:=Option.some.inj hF
   replace hF:=hK1
   refine zG ?_
   refine zx ?_
   obtain rfl:=Option.some.inj hF
   refine zz rfl (zD yW zF) (zA (leV.refl _) rfl ?_)
   exact ⟨rfl,rfl⟩
  ·refine zK (zj (zk (zd ?_)))
   refine zc rfl (zi rfl rfl (zb rfl)) xw ?_
   refine ze (zj (zR ?_))
   refine yu (fun (n2:Nat) (s2:Unit)=>yQ [1,2,6,7,8,9,10,11,12,13,14,15,16,17,18,19,20,21,22,23,24,25,26,27,28,29,30,31,32,33,34,35,36,37,38,39,40,41,42,43,44,45,46,47,48,49,50,51,52,53,54,55,56,57,58,59,60] [(5,.int .i64 (n2:Int))]) (fun s2=>h.ext [.cells [.sl 1 (x1.path.map zP),.int .u8 x1.typ,.bool x1.had,.bool x1.has,.int .u8 x1.was.typ,.int .i64 x1.was.n,.int .u64 x1.was.time,.int .u8 x1.was.dot.actor.rep,.int .u32 x1.was.dot.actor.inc,.int .u64 x1.was.dot.seq,.str x1.was.text,.sl 5 (x1.was.items.map GItem.row),.sl 3 (x1.was.tombs.map GDot.row),.int .u8 x1.is.typ,.int .i64 x1.is.n,.int .u64 x1.is.time,.int .u8 x1.is.dot.actor.rep,.int .u32 x1.is.dot.actor.inc,.int .u64 x1.is.dot.seq,.str x1.is.text,.sl 5 (x1.is.items.map GItem.row),.sl 3 (x1.is.tombs.map GDot.row)]] []) hF (fun _ _=>by simp only [yQ,upd,List.set_cons_succ,List.set_cons_zero];try rfl) (wk.le (by exact (.eq (.drop (.drop (.eq (.eq (.cons (leV.of_eq rfl) (.d16 (.d16 (.d16 (.d4 (.drop (.drop (.drop leL.nil))))))))))))))) ?_
   intro n2 s2 hi2 hF
   refine zk (zk (zd ?_))
   refine zc rfl (zf rfl yR (zb rfl)) (sk yC) ?_
   refine zc rfl (zg rfl fo44x0 yx rfl) (sk xw) ?_
   refine zc rfl (zu rfl ty24 (gk yR) rfl (zr rfl) (zb rfl)) (sk xD) ?_
   refine ya rfl (zS rfl rfl rfl rfl wD (gk yV) yb) (sk xM) fun hn81=>?_
   replace hn81:=xB hn81
   refine zc rfl (zy rfl (gk yx) (gk xE) rfl) (sk xU) ?_
   refine ze (zj ?_)
   refine yL (gk xp) hF (fun x2 o2 hl2 hx2 hF hK2=>?_) (fun hF=>?_)
   ·refine zK (zj (zk (zR (zk (zd ?_)))))
    refine zc rfl (zg rfl fo44x0 yx rfl) (sk yN) ?_
    refine zc rfl (zu rfl ty24 (gk yy) rfl (zr rfl) (zb rfl)) (sk yX) ?_
    refine zc rfl (zf rfl yR (zb rfl)) (sk y4) ?_
    refine zc rfl (yk rfl wD (gk yM) (gk yE) va (yO hx2)) (sk yZ) ?_
    refine zc rfl (ye rfl ty9 (gk yS) (zr rfl) (zb rfl)) (sk y6) ?_
    refine ya rfl (vU rfl rfl rfl rfl ty9 (gk yY)) (sk xj) fun hn82=>?_
    replace hn82:=xB hn82
    refine zc rfl (zy rfl (gk xh) rfl rfl) (sk xy) ?_
    refine ze (zj ?_)
    refine zN (gk xq) hF (fun hc83 hF=>?_) (fun hc83 hF=>?_)
    ·refine zk (zd ?_)
     refine zc rfl (zi rfl rfl (zb rfl)) xg ?_
     refine ze (zj (zI ?_))
     refine zG ?_
     refine zx ?_
     refine yd ?_
     obtain rfl:=Option.some.inj hF
     replace hF:=hK2
     refine zG ?_
     refine zG ?_
     refine zx ?_
     refine yd ?_
     obtain rfl:=Option.some.inj hF
     replace hF:=hK1
     refine zG ?_
     refine zx ?_
     obtain rfl:=Option.some.inj hF
     refine zz rfl (zD yW zF) (zA (leV.refl _) rfl ?_)
     exact ⟨rfl,rfl⟩
    ·refine zK (yg (zj (zd ?_)))
     refine zc rfl (zf rfl yR (zb rfl)) (sk wy) ?_
     refine zc rfl (zy rfl (gk xQ) rfl rfl) (sk yJ) ?_
     refine zc rfl (zi rfl (gk yD) (zb rfl)) xw ?_
     refine ze (yH ?_)
     obtain rfl:=Option.some.inj hF
     exact ⟨(),hl2,hK2,wk.le (by exact (.eq (.drop (.drop (.eq (.eq (.cons (leV.of_eq (ve (by omega) (by omega))) (.d16 (.d16 (.d16 (.d4 (.drop (.drop (.drop leL.nil))))))))))))))⟩
   ·refine yU ?_
    refine zZ ?_
    refine zW ?_
    refine zX ?_
    refine yg (zj (zd ?_))
    refine zc rfl (zf rfl xu (zb rfl)) yJ ?_
    refine zc rfl (zy rfl yD rfl rfl) yN ?_
    refine zc rfl (zi rfl yy (zb rfl)) wa ?_
    refine ze (yH ?_)
    obtain rfl:=Option.some.inj hF
    exact ⟨(),hl1,hK1,wk.trans (wk.le (by exact (.eq (.drop (.drop (.cons (leV.of_eq (ve (by omega) (by omega))) (.d16 (.d16 (.d16 (.d4 (.d4 (.drop leL.nil)))))))))))) (xJ (by simp [yi,AV.low]) rfl rfl (by simp [Blk.low,yi,AV.low]))⟩
 ·refine yU ?_
  refine zZ ?_
  refine zW ?_
  refine zX ?_
  refine zj (zk (zd ?_))
  refine zc rfl (zf rfl yq (zb rfl)) (sk xF) ?_
  refine ya rfl (zS rfl rfl rfl rfl el29 (gk xC) yb) (sk xN) fun hn84=>?_
  replace hn84:=xB hn84
  refine zc rfl (zy rfl (gk xL) rfl rfl) (sk x8) ?_
  refine zc rfl (zi rfl (gk x9) (zb rfl)) xg ?_
  refine ze (zj (zI ?_))
  obtain rfl:=Option.some.inj hF
  refine zz rfl (zD yW zF) (zA (leV.refl _) rfl ?_)
  exact ⟨rfl,rfl⟩
/-! varve/varvelaw31.great -/
theorem ok4 {a0:(List GNode)} {b1:(List GNode)} {c2:(List GNode)} {l3:(List GEdit)} {m4:(List GEdit)} {res:Bool} {h:AH}  (hF:qY a0 b1 c2 l3 m4=some res):Spec Tryz.prog 4 [.sl 3 (a0.map GNode.row),.sl 3 (b1.map GNode.row),.sl 3 (c2.map GNode.row),.sl 22 (l3.map GEdit.row),.sl 22 (m4.map GEdit.row)] h (fun rr hh=>rr=.bool res∧hh=h):=by
 unfold qY at hF
 refine zt Tryz.func4 rfl (by kernel_rfl) (env:=[.sl 3 (a0.map GNode.row),.sl 3 (b1.map GNode.row),.sl 3 (c2.map GNode.row),.sl 22 (l3.map GEdit.row),.sl 22 (m4.map GEdit.row),za,za,za,za,za,za,za,za,za,za,za,za,za,za,za,za,za,za,za,za,za,za,za,za]) (by rfl) ?_
 refine zk (zd ?_)
 refine zc rfl (zi rfl rfl (zb rfl)) yJ ?_
 refine ze (zj (zk (zd ?_)))
 refine zc rfl (zf rfl yq (zb rfl)) yN ?_
 refine zQ hF (fun v1 hv1 hF=>?_)
 refine zL rfl (zC rfl rfl rfl (zo yy zw) (.cons (zb rfl) .nil)) (ok14 hv1) yX ?_
 refine zc rfl (zf rfl yM (zb rfl)) y4 ?_
 refine zp rfl (fun hb=>zf rfl yF (zb rfl)) yZ ?_
 refine yP hF (fun v2 hv2 hF=>?_)
 refine yj rfl (fun hb=>zC rfl rfl rfl (zo (zn yS hb) zw) (.cons (zb rfl) .nil)) (fun hb=>ok14 (hv2 hb)) y6 ?_
 refine zc rfl (zM rfl yE rfl yY (z8 (fun ht=>gF ht))) xj ?_
 refine zc rfl (zf rfl xh (zb rfl)) xy ?_
 refine zp rfl (fun hb=>zf rfl yW (zb rfl)) xF ?_
 refine yP hF (fun v3 hv3 hF=>?_)
 refine yj rfl (fun hb=>zC rfl rfl rfl (zo (zn xC hb) zw) (.cons (zb rfl) .nil)) (fun hb=>ok14 (hv3 hb)) xN ?_
 refine zc rfl (zM rfl xq rfl xL (z8 (fun ht=>gF ht))) x8 ?_
 refine zc rfl (zf rfl x9 (zb rfl)) wg ?_
 refine zp rfl (fun hb=>zf rfl xu (zb rfl)) wo ?_
 refine yP hF (fun v4 hv4 hF=>?_)
 refine yj rfl (fun hb=>zC rfl rfl rfl (zo (zn wl hb) zw) (.cons (zb rfl) .nil)) (fun hb=>ok15 (hv4 hb)) we ?_
 refine zc rfl (zM rfl wb rfl x4 (z8 (fun ht=>gF ht))) wi ?_
 refine zc rfl (zf rfl wh (zb rfl)) wt ?_
 refine zp rfl (fun hb=>zf rfl yx (zb rfl)) wQ ?_
 refine yP hF (fun v5 hv5 hF=>?_)
 refine yj rfl (fun hb=>zC rfl rfl rfl (zo (zn wO hb) zw) (.cons (zb rfl) .nil)) (fun hb=>ok15 (hv5 hb)) wY ?_
 refine zc rfl (zM rfl wp rfl wU (z8 (fun ht=>gF ht))) wX ?_
 refine zc rfl (zi rfl wT (zb rfl)) yJ ?_
 refine ze (zj (zI ?_))
 obtain rfl:=Option.some.inj hF
 refine zz rfl (zD yD zF) (zA (leV.refl _) rfl ?_)
 exact ⟨rfl,rfl⟩
/-! varve/varveref04.IsName -/
theorem ok35 {s0:zJ} {res:Bool} {h:AH}  (hF:ref04IsName s0=some res):Spec Tryz.prog 35 [.str s0] h (fun rr hh=>rr=.bool res∧hh=h):=by
 unfold ref04IsName at hF
 refine zt Tryz.func35 rfl (by kernel_rfl) (env:=[.str s0,za,za,za,za,za,za,za,za,za,za,za,za,za,za,za,za,za,za,za,za,za,za,za,za,za,za,za,za,za,za,za,za,za,za,za,za,za,za,za,za,za,za,za,za]) (by rfl) ?_
 refine zk (zd ?_)
 refine zc rfl (zi rfl rfl (zb rfl)) xg ?_
 refine ze (zj (zk (zk (zd ?_))))
 refine zc rfl (zf rfl yq (zb rfl)) xw ?_
 refine ya rfl (vU rfl rfl rfl rfl ty9 yR) xD fun hn1=>?_
 replace hn1:=xB hn1
 refine zc rfl (zy rfl yV rfl rfl) xM ?_
 refine zc rfl (zf rfl xE (zb rfl)) xU ?_
 refine zp rfl (fun hb=>zf rfl yq (zb rfl)) wy ?_
 refine xA rfl (fun hb=>vU rfl rfl rfl rfl ty9 (zn xQ hb)) yJ fun hn2=>?_
 refine zp rfl (fun hb=>zy rfl (zn yD hb) rfl rfl) yN ?_
 refine zc rfl (zM rfl xp rfl yy (z8 (fun ht=>gF ht))) yX ?_
 refine ze (zj ?_)
 refine zN yM hF (fun hc3 hF=>?_) (fun hc3 hF=>?_)
 ·refine zk (zd ?_)
  refine zc rfl (zi rfl rfl (zb rfl)) xg ?_
  refine ze (zj (zI (zx ?_)))
  obtain rfl:=Option.some.inj hF
  refine zz rfl (zD yW zF) (zA (leV.refl _) rfl ?_)
  exact ⟨rfl,rfl⟩
 ·refine zK (zj (zk (zk (zd ?_))))
  refine zc rfl (zi rfl rfl (zb rfl)) wa ?_
  refine ze (zj (zR ?_))
  refine yu (fun (n1:Nat) (s1:Unit)=>yQ [1,2,4,5,6,7,8,9,10,11,12,13,14,15,16,17,18,19,20,21,22,23,24,25,26,27,28,29,30,31,32,33,34,35,36,37,38,39,40,41,42,43,44] [(3,.int .i64 (n1:Int))]) (fun s1=>h.ext [] []) hF (fun _ _=>by simp only [yQ,upd,List.set_cons_succ,List.set_cons_zero];try rfl) (wk.le (by exact (.eq (.drop (.drop (.cons (leV.of_eq rfl) (.d16 (.d16 (.d4 (.d4 (.drop leL.nil))))))))))) ?_
  intro n1 s1 hi1 hF
  refine zk (zk (zd ?_))
  refine zc rfl (zf rfl xu (zb rfl)) y4 ?_
  refine zc rfl (zf rfl yq (zb rfl)) yZ ?_
  refine ya rfl (vU rfl rfl rfl rfl ty9 yS) y6 fun hn10=>?_
  replace hn10:=xB hn10
  refine zc rfl (zy rfl yE yY rfl) xj ?_
  refine ze (zj ?_)
  refine yL xh hF (fun x1 o1 hl1 hx1 hF hK1=>?_) (fun hF=>?_)
  ·refine zK (zj (zk (zR (zk (zd ?_)))))
   refine zc rfl (zf rfl yq (zb rfl)) xN ?_
   refine zc rfl (zf rfl xu (zb rfl)) x8 ?_
   refine zc rfl (s_idxStr rfl ty9 xL x9 (yO hx1)) wg ?_
   refine zc rfl (zi rfl wb (zb rfl)) yC ?_
   refine ze (zj (zk (zd ?_)))
   refine zc rfl (zf rfl yx (zb rfl)) wo ?_
   refine zc rfl (zy rfl wl rfl rfl) we ?_
   refine zc rfl (zf rfl x4 (zb rfl)) wi ?_
   refine zp rfl (fun hb=>zf rfl yx (zb rfl)) wt ?_
   refine zp rfl (fun hb=>zy rfl (zn wp hb) rfl rfl) wQ ?_
   refine zc rfl (zM rfl wh wO rfl (zU (fun ht=>gT ht))) wY ?_
   refine zc rfl (zf rfl wU (zb rfl)) wX ?_
   refine zp rfl (fun hb=>zf rfl yx (zb rfl)) vi ?_
   refine zp rfl (fun hb=>zy rfl (zn vm hb) rfl rfl) vh ?_
   refine zp rfl (fun hb=>zf rfl (zn vE hb) (zb rfl)) vg ?_
   refine zp (z7 rfl rfl rfl) (fun hb=>zf rfl yx (zb rfl)) vz ?_
   refine zp (z7 rfl rfl rfl) (fun hb=>zy rfl (zn vk hb) rfl rfl) vw ?_
   refine zp rfl (fun hb=>zM rfl (zn vl hb) vD rfl (zU (fun ht=>gT2 hb ht))) vu ?_
   refine zc rfl (zM rfl wT rfl vj (z8 (fun ht=>gF ht))) vt ?_
   refine zc rfl (zf rfl vC (zb rfl)) vf ?_
   refine zp rfl (fun hb=>zf rfl yx (zb rfl)) vr ?_
   refine zp rfl (fun hb=>zy rfl (zn vB hb) rfl rfl) vN ?_
   refine zp rfl (fun hb=>zf rfl (zn vQ hb) (zb rfl)) vM ?_
   refine zp (z7 rfl rfl rfl) (fun hb=>zf rfl yx (zb rfl)) (sk st0) ?_
   refine zp (z7 rfl rfl rfl) (fun hb=>zy rfl (zn (gk yq) hb) rfl rfl) (sk st1) ?_
   refine zp rfl (fun hb=>zM rfl (zn vJ hb) (gk yF) rfl (zU (fun ht=>gT2 hb ht))) (sk xg) ?_
   refine zc rfl (zM rfl vb rfl (gk yW) (z8 (fun ht=>gF ht))) (sk wa) ?_
   refine zc rfl (xT rfl (gk xu) rfl) (sk yC) ?_
   refine ze (zj ?_)
   refine zN (gk yx) hF (fun hc11 hF=>?_) (fun hc11 hF=>?_)
   ·refine zk (zd ?_)
    refine zc rfl (zi rfl rfl (zb rfl)) xg ?_
    refine ze (zj (zI ?_))
    refine zG ?_
    refine zx ?_
    refine yd ?_
    obtain rfl:=Option.some.inj hF
    replace hF:=hK1
    refine zG ?_
    refine zx ?_
    obtain rfl:=Option.some.inj hF
    refine zz rfl (zD yW zF) (zA (leV.refl _) rfl ?_)
    exact ⟨rfl,rfl⟩
   ·refine zK (yg (zj (zd ?_)))
    refine zc rfl (zf rfl xu (zb rfl)) xy ?_
    refine zc rfl (zy rfl xq rfl rfl) xF ?_
    refine zc rfl (zi rfl xC (zb rfl)) wa ?_
    refine ze (yH ?_)
    obtain rfl:=Option.some.inj hF
    exact ⟨(),hl1,hK1,wk.le (by exact (.eq (.drop (.drop (.cons (leV.of_eq (ve (by omega) (by omega))) (.d16 (.d16 (.d4 (.d4 (.drop leL.nil))))))))))⟩
  ·refine yU ?_
   refine zZ ?_
   refine zW ?_
   refine zX ?_
   refine zj (zk (zd ?_))
   refine zc rfl (zi rfl rfl (zb rfl)) xg ?_
   refine ze (zj (zI ?_))
   obtain rfl:=Option.some.inj hF
   refine zz rfl (zD yW zF) (zA (leV.refl _) rfl ?_)
   exact ⟨rfl,rfl⟩
/-! varve/varveref03.MayActor -/
theorem ok91 {a0:GActor} {res:Bool} {h:AH}  (hF:qD a0=some res):Spec Tryz.prog 91 [.agg [.int .u8 a0.rep,.int .u32 a0.inc]] h (fun rr hh=>rr=.bool res∧hh=h):=by
 unfold qD at hF
 refine zt Tryz.func91 rfl (by kernel_rfl) (env:=[.agg [.int .u8 a0.rep,.int .u32 a0.inc],za,za,za,za,za,za,za,za,za,za,za,za,za,za,za]) (by rfl) ?_
 refine zk (zd ?_)
 refine zc rfl (xr (n:=0) rfl yq (zb rfl) rfl rfl) st1 ?_
 refine zc rfl (zi rfl rfl (zb rfl)) xg ?_
 refine ze (zj (zk (zd ?_)))
 refine zc rfl (zg rfl fo36x0 yF rfl) wa ?_
 refine zc rfl (zu rfl ty5 xu rfl (zr rfl) (zb rfl)) yC ?_
 refine zc rfl (zy rfl yx rfl rfl) xw ?_
 refine zc rfl (zf rfl yR (zb rfl)) xD ?_
 refine zp rfl (fun hb=>zg rfl fo36x1 yF rfl) xM ?_
 refine zp rfl (fun hb=>zu rfl ty34 (zn xE hb) rfl (zr rfl) (zb rfl)) xU ?_
 refine zp rfl (fun hb=>zy rfl (zn xp hb) rfl rfl) wy ?_
 refine zc rfl (zM rfl yV xQ rfl (zU (fun ht=>gT ht))) yJ ?_
 refine zc rfl (zf rfl yD (zb rfl)) yN ?_
 refine zp rfl (fun hb=>zg rfl fo36x1 yF rfl) yX ?_
 refine zp rfl (fun hb=>zu rfl ty34 (zn yM hb) rfl (zr rfl) (zb rfl)) y4 ?_
 refine zp rfl (fun hb=>zy rfl (zn yE hb) rfl rfl) yZ ?_
 refine zc rfl (zM rfl yy yS rfl (zU (fun ht=>gT ht))) y6 ?_
 refine zc rfl (zi rfl yY (zb rfl)) xg ?_
 refine ze (zj (zI ?_))
 obtain rfl:=Option.some.inj hF
 refine zz rfl (zD yW zF) (zA (leV.refl _) rfl ?_)
 exact ⟨rfl,rfl⟩
/-! varve/varveref03.May -/
theorem ok70 {d0:GDot} {res:Bool} {h:AH}  (hF:ref03May d0=some res):Spec Tryz.prog 70 [.agg [.int .u8 d0.actor.rep,.int .u32 d0.actor.inc,.int .u64 d0.seq]] h (fun rr hh=>rr=.bool res∧hh=h):=by
 unfold ref03May at hF
 refine zt Tryz.func70 rfl (by kernel_rfl) (env:=[.agg [.int .u8 d0.actor.rep,.int .u32 d0.actor.inc,.int .u64 d0.seq],za,za,za,za,za,za,za,za,za,za,za,za,za,za,za]) (by rfl) ?_
 refine zk (zd ?_)
 refine zc rfl (xr (n:=0) rfl yq (zb rfl) rfl rfl) st1 ?_
 refine zc rfl (zi rfl rfl (zb rfl)) xg ?_
 refine ze (zj (zk (zd ?_)))
 refine zc rfl (zg rfl fo38x0 yF rfl) wa ?_
 refine zc rfl (zu rfl ty36.choose_spec.1 xu rfl (zH (cs':=[.int .u8 d0.actor.rep,.int .u32 d0.actor.inc]) ty36.choose_spec.2 rfl rfl) (zb rfl)) yC ?_
 refine zQ hF (fun v1 hv1 hF=>?_)
 refine zL rfl (zC rfl rfl rfl (zo yx zw) (.cons (zb rfl) .nil)) (ok91 hv1) xw ?_
 refine zc rfl (zf rfl yR (zb rfl)) xD ?_
 refine zp rfl (fun hb=>zg rfl fo38x1 yF rfl) xM ?_
 refine zp rfl (fun hb=>zu rfl ty33 (zn xE hb) rfl (zr rfl) (zb rfl)) xU ?_
 refine zp rfl (fun hb=>zy rfl (zn xp hb) rfl rfl) wy ?_
 refine zc rfl (zM rfl yV xQ rfl (zU (fun ht=>gT ht))) yJ ?_
 refine zc rfl (zf rfl yD (zb rfl)) yN ?_
 refine zp rfl (fun hb=>zg rfl fo38x1 yF rfl) yX ?_
 refine zp rfl (fun hb=>zu rfl ty33 (zn yM hb) rfl (zr rfl) (zb rfl)) y4 ?_
 refine zp rfl (fun hb=>zy rfl (zn yE hb) rfl rfl) yZ ?_
 refine zc rfl (zM rfl yy yS rfl (zU (fun ht=>gT ht))) y6 ?_
 refine zc rfl (zi rfl yY (zb rfl)) xg ?_
 refine ze (zj (zI ?_))
 obtain rfl:=Option.some.inj hF
 refine zz rfl (zD yW zF) (zA (leV.refl _) rfl ?_)
 exact ⟨rfl,rfl⟩
/-! varve/varveref05.Item -/
theorem ok71 {l0:(List GItem)} {d1:GDot} {res:Int} {h:AH}  (hF:ref05Item l0 d1=some res):Spec Tryz.prog 71 [.sl 5 (l0.map GItem.row),.agg [.int .u8 d1.actor.rep,.int .u32 d1.actor.inc,.int .u64 d1.seq]] h (fun rr hh=>rr=.int .i64 res∧hh=h):=by
 unfold ref05Item at hF
 refine zt Tryz.func71 rfl (by kernel_rfl) (env:=[.sl 5 (l0.map GItem.row),.agg [.int .u8 d1.actor.rep,.int .u32 d1.actor.inc,.int .u64 d1.seq],za,za,za,za,za,za,za,za,za,za,za,za,za,za,za,za,za,za]) (by rfl) ?_
 refine zk (zd ?_)
 refine zc rfl (xr (n:=0) rfl yF (zb rfl) rfl rfl) wa ?_
 refine zc rfl (zi rfl rfl (zb rfl)) yC ?_
 refine ze (zj (zk (zk (zd ?_))))
 refine zc rfl (zi rfl rfl (zb rfl)) xw ?_
 refine ze (zj (zR ?_))
 refine yu (fun (n1:Nat) (s1:Unit)=>yQ [1,2,4,6,7,8,9,10,11,12,13,14,15,16,17,18,19] [(5,.int .i64 (n1:Int))]) (fun s1=>h.ext [.cells [.int .u8 d1.actor.rep,.int .u32 d1.actor.inc,.int .u64 d1.seq]] []) hF (fun _ _=>by simp only [yQ,upd,List.set_cons_succ,List.set_cons_zero];try rfl) (wk.le (by exact (.eq (.drop (.drop (.eq (.drop (.cons (leV.of_eq rfl) (.d4 (.d4 (.d4 (.drop (.drop leL.nil))))))))))))) ?_
 intro n1 s1 hi1 hF
 refine zk (zk (zd ?_))
 refine zc rfl (zf rfl yR (zb rfl)) xD ?_
 refine zc rfl (zf rfl yq (zb rfl)) xM ?_
 refine ya rfl (zS rfl rfl rfl rfl qe xE yb) xU fun hn10=>?_
 replace hn10:=xB hn10
 refine zc rfl (zy rfl yV xp rfl) wy ?_
 refine ze (zj ?_)
 refine yL xQ hF (fun x1 o1 hl1 hx1 hF hK1=>?_) (fun hF=>?_)
 ·refine zK (zj (zk (zR (zk ?_))))
  refine yK [] [] trivial mixed (by kernel_rfl) ?_
  refine zq rfl rfl (zf rfl yq (zb rfl)) yX ?_
  refine zq rfl rfl (zf rfl yR (zb rfl)) y4 ?_
  refine zq rfl rfl (yk rfl qe yM yE va (yO hx1)) yZ ?_
  refine zq rfl rfl (zg rfl fo93x1 yS rfl) y6 ?_
  refine zq rfl rfl (ye rfl ty38.choose_spec.1 yY (zH (cs':=[.int .u8 x1.dot.actor.rep,.int .u32 x1.dot.actor.inc,.int .u64 x1.dot.seq]) ty38.choose_spec.2 rfl rfl) (zb rfl)) xj ?_
  refine zq rfl rfl (zu rfl ty38.choose_spec.1 xu rfl (zH (cs':=[.int .u8 d1.actor.rep,.int .u32 d1.actor.inc,.int .u64 d1.seq]) ty38.choose_spec.2 rfl rfl) (zb rfl)) xy ?_
  refine zq rfl rfl (zy rfl xh xq (bin_eq pk38 rfl)) xF ?_
  refine yo ?_
  refine zj ?_
  refine zN xC hF (fun hc11 hF=>?_) (fun hc11 hF=>?_)
  ·refine zk (zd ?_)
   refine zc rfl (zf rfl yR (zb rfl)) xN ?_
   refine zc rfl (zi rfl xL (zb rfl)) yC ?_
   refine ze (zj (zI ?_))
   refine zG ?_
   refine zx ?_
   refine yd ?_
   obtain rfl:=Option.some.inj hF
   replace hF:=hK1
   refine zG ?_
   refine zx ?_
   obtain rfl:=Option.some.inj hF
   refine zz rfl (zD yx zF) (zA (leV.refl _) rfl ?_)
   exact ⟨rfl,rfl⟩
  ·refine zK (yg (zj (zd ?_)))
   refine zc rfl (zf rfl yR (zb rfl)) yJ ?_
   refine zc rfl (zy rfl yD rfl rfl) yN ?_
   refine zc rfl (zi rfl yy (zb rfl)) xw ?_
   refine ze (yH ?_)
   obtain rfl:=Option.some.inj hF
   exact ⟨(),hl1,hK1,wk.le (by exact (.eq (.drop (.drop (.eq (.drop (.cons (leV.of_eq (ve (by omega) (by omega))) (.d4 (.d4 (.d4 (.drop (.drop leL.nil))))))))))))⟩
 ·refine yU ?_
  refine zZ ?_
  refine zW ?_
  refine zX ?_
  refine zj (zk (zd ?_))
  refine zc rfl (zi rfl rfl (zb rfl)) yC ?_
  refine ze (zj (zI ?_))
  obtain rfl:=Option.some.inj hF
  refine zz rfl (zD yx zF) (zA (leV.refl _) rfl ?_)
  exact ⟨rfl,rfl⟩
/-! varve/varveref05.Tomb -/
theorem ok72 {l0:(List GDot)} {d1:GDot} {res:Bool} {h:AH}  (hF:ref05Tomb l0 d1=some res):Spec Tryz.prog 72 [.sl 3 (l0.map GDot.row),.agg [.int .u8 d1.actor.rep,.int .u32 d1.actor.inc,.int .u64 d1.seq]] h (fun rr hh=>rr=.bool res∧hh=h):=by
 unfold ref05Tomb at hF
 refine zt Tryz.func72 rfl (by kernel_rfl) (env:=[.sl 3 (l0.map GDot.row),.agg [.int .u8 d1.actor.rep,.int .u32 d1.actor.inc,.int .u64 d1.seq],za,za,za,za,za,za,za,za,za,za,za,za,za,za,za,za]) (by rfl) ?_
 refine zk (zd ?_)
 refine zc rfl (xr (n:=0) rfl yF (zb rfl) rfl rfl) wa ?_
 refine zc rfl (zi rfl rfl (zb rfl)) yC ?_
 refine ze (zj (zk (zk (zd ?_))))
 refine zc rfl (zi rfl rfl (zb rfl)) xw ?_
 refine ze (zj (zR ?_))
 refine yu (fun (n1:Nat) (s1:Unit)=>yQ [1,2,4,6,7,8,9,10,11,12,13,14,15,16,17] [(5,.int .i64 (n1:Int))]) (fun s1=>h.ext [.cells [.int .u8 d1.actor.rep,.int .u32 d1.actor.inc,.int .u64 d1.seq]] []) hF (fun _ _=>by simp only [yQ,upd,List.set_cons_succ,List.set_cons_zero];try rfl) (wk.le (by exact (.eq (.drop (.drop (.eq (.drop (.cons (leV.of_eq rfl) (.d4 (.d4 (.d4 leL.nil))))))))))) ?_
 intro n1 s1 hi1 hF
 refine zk (zk (zd ?_))
 refine zc rfl (zf rfl yR (zb rfl)) xD ?_
 refine zc rfl (zf rfl yq (zb rfl)) xM ?_
 refine ya rfl (zS rfl rfl rfl rfl el40 xE yb) xU fun hn10=>?_
 replace hn10:=xB hn10
 refine zc rfl (zy rfl yV xp rfl) wy ?_
 refine ze (zj ?_)
 refine yL xQ hF (fun x1 o1 hl1 hx1 hF hK1=>?_) (fun hF=>?_)
 ·refine zK (zj (zk (zR (zk ?_))))
  refine yK [] [] trivial mixed (by kernel_rfl) ?_
  refine zq rfl rfl (zf rfl yq (zb rfl)) yX ?_
  refine zq rfl rfl (zf rfl yR (zb rfl)) y4 ?_
  refine zq rfl rfl (yk rfl el40 yM yE va (yO hx1)) yZ ?_
  refine zq rfl rfl (ye rfl ty38.choose_spec.1 yS (zH (cs':=[.int .u8 x1.actor.rep,.int .u32 x1.actor.inc,.int .u64 x1.seq]) ty38.choose_spec.2 rfl rfl) (zb rfl)) y6 ?_
  refine zq rfl rfl (zu rfl ty38.choose_spec.1 xu rfl (zH (cs':=[.int .u8 d1.actor.rep,.int .u32 d1.actor.inc,.int .u64 d1.seq]) ty38.choose_spec.2 rfl rfl) (zb rfl)) xj ?_
  refine zq rfl rfl (zy rfl yY xh (bin_eq pk38 rfl)) xy ?_
  refine yo ?_
  refine zj ?_
  refine zN xq hF (fun hc11 hF=>?_) (fun hc11 hF=>?_)
  ·refine zk (zd ?_)
   refine zc rfl (zi rfl rfl (zb rfl)) yC ?_
   refine ze (zj (zI ?_))
   refine zG ?_
   refine zx ?_
   refine yd ?_
   obtain rfl:=Option.some.inj hF
   replace hF:=hK1
   refine zG ?_
   refine zx ?_
   obtain rfl:=Option.some.inj hF
   refine zz rfl (zD yx zF) (zA (leV.refl _) rfl ?_)
   exact ⟨rfl,rfl⟩
  ·refine zK (yg (zj (zd ?_)))
   refine zc rfl (zf rfl yR (zb rfl)) yJ ?_
   refine zc rfl (zy rfl yD rfl rfl) yN ?_
   refine zc rfl (zi rfl yy (zb rfl)) xw ?_
   refine ze (yH ?_)
   obtain rfl:=Option.some.inj hF
   exact ⟨(),hl1,hK1,wk.le (by exact (.eq (.drop (.drop (.eq (.drop (.cons (leV.of_eq (ve (by omega) (by omega))) (.d4 (.d4 (.d4 leL.nil))))))))))⟩
 ·refine yU ?_
  refine zZ ?_
  refine zW ?_
  refine zX ?_
  refine zj (zk (zd ?_))
  refine zc rfl (zi rfl rfl (zb rfl)) yC ?_
  refine ze (zj (zI ?_))
  obtain rfl:=Option.some.inj hF
  refine zz rfl (zD yx zF) (zA (leV.refl _) rfl ?_)
  exact ⟨rfl,rfl⟩
/-! varve/varveref03.Less -/
theorem ok74 {a0:GDot} {b1:GDot} {res:Bool} {h:AH}  (hF:ref03Less a0 b1=some res):Spec Tryz.prog 74 [.agg [.int .u8 a0.actor.rep,.int .u32 a0.actor.inc,.int .u64 a0.seq],.agg [.int .u8 b1.actor.rep,.int .u32 b1.actor.inc,.int .u64 b1.seq]] h (fun rr hh=>rr=.bool res∧hh=h):=by
 unfold ref03Less at hF
 refine zt Tryz.func74 rfl (by kernel_rfl) (env:=[.agg [.int .u8 a0.actor.rep,.int .u32 a0.actor.inc,.int .u64 a0.seq],.agg [.int .u8 b1.actor.rep,.int .u32 b1.actor.inc,.int .u64 b1.seq],za,za,za,za,za,za,za,za,za,za,za,za,za,za,za,za,za,za,za,za,za,za,za,za,za,za,za,za,za,za,za,za,za,za,za,za]) (by rfl) ?_
 refine zk (zd ?_)
 refine zc rfl (xr (n:=0) rfl yq (zb rfl) rfl rfl) xg ?_
 refine zc rfl (xr (n:=1) rfl yF (zb rfl) rfl rfl) wa ?_
 refine zc rfl (zi rfl rfl (zb rfl)) yC ?_
 refine ze (zj (zk (zk (zd ?_))))
 refine zc rfl (zg rfl fo38x0 yW rfl) xw ?_
 refine zc rfl (zg rfl fo36x0 yR rfl) xD ?_
 refine zc rfl (zu rfl ty5 yV rfl (zr rfl) (zb rfl)) xM ?_
 refine zc rfl (zg rfl fo38x0 xu rfl) xU ?_
 refine zc rfl (zg rfl fo36x0 xp rfl) wy ?_
 refine zc rfl (zu rfl ty5 xQ rfl (zr rfl) (zb rfl)) yJ ?_
 refine zc rfl (zy rfl xE yD rfl) yN ?_
 refine ze (zj ?_)
 refine zN yy hF (fun hc1 hF=>?_) (fun hc1 hF=>?_)
 ·refine zk (zd ?_)
  refine zc rfl (zg rfl fo38x0 yW rfl) yX ?_
  refine zc rfl (zg rfl fo36x0 yM rfl) y4 ?_
  refine zc rfl (zu rfl ty5 yE rfl (zr rfl) (zb rfl)) yZ ?_
  refine zc rfl (zg rfl fo38x0 xu rfl) y6 ?_
  refine zc rfl (zg rfl fo36x0 yY rfl) xj ?_
  refine zc rfl (zu rfl ty5 xh rfl (zr rfl) (zb rfl)) xy ?_
  refine zc rfl (zy rfl yS xq rfl) xF ?_
  refine zc rfl (zi rfl xC (zb rfl)) yC ?_
  refine ze (zj (zI (zx ?_)))
  obtain rfl:=Option.some.inj hF
  refine zz rfl (zD yx zF) (zA (leV.refl _) rfl ?_)
  exact ⟨rfl,rfl⟩
 ·refine zK (zj (zk (zk (zd ?_))))
  refine zc rfl (zg rfl fo38x0 yW rfl) xN ?_
  refine zc rfl (zg rfl fo36x1 xL rfl) x8 ?_
  refine zc rfl (zu rfl ty34 x9 rfl (zr rfl) (zb rfl)) wg ?_
  refine zc rfl (zg rfl fo38x0 xu rfl) wo ?_
  refine zc rfl (zg rfl fo36x1 wl rfl) we ?_
  refine zc rfl (zu rfl ty34 x4 rfl (zr rfl) (zb rfl)) wi ?_
  refine zc rfl (zy rfl wb wh rfl) wt ?_
  refine ze (zj ?_)
  refine zN wp hF (fun hc2 hF=>?_) (fun hc2 hF=>?_)
  ·refine zk (zd ?_)
   refine zc rfl (zg rfl fo38x0 yW rfl) wQ ?_
   refine zc rfl (zg rfl fo36x1 wO rfl) wY ?_
   refine zc rfl (zu rfl ty34 wU rfl (zr rfl) (zb rfl)) wX ?_
   refine zc rfl (zg rfl fo38x0 xu rfl) vi ?_
   refine zc rfl (zg rfl fo36x1 vm rfl) vh ?_
   refine zc rfl (zu rfl ty34 vE rfl (zr rfl) (zb rfl)) vg ?_
   refine zc rfl (zy rfl wT vl rfl) vz ?_
   refine zc rfl (zi rfl vk (zb rfl)) yC ?_
   refine ze (zj (zI (zx ?_)))
   obtain rfl:=Option.some.inj hF
   refine zz rfl (zD yx zF) (zA (leV.refl _) rfl ?_)
   exact ⟨rfl,rfl⟩
  ·refine zK (zj (zk (zd ?_)))
   refine zc rfl (zg rfl fo38x1 yW rfl) vw ?_
   refine zc rfl (zu rfl ty33 vD rfl (zr rfl) (zb rfl)) vu ?_
   refine zc rfl (zg rfl fo38x1 xu rfl) vt ?_
   refine zc rfl (zu rfl ty33 vC rfl (zr rfl) (zb rfl)) vf ?_
   refine zc rfl (zy rfl vj vb rfl) vr ?_
   refine zc rfl (zi rfl vB (zb rfl)) yC ?_
   refine ze (zj (zI ?_))
   obtain rfl:=Option.some.inj hF
   refine zz rfl (zD yx zF) (zA (leV.refl _) rfl ?_)
   exact ⟨rfl,rfl⟩
/-! varve/varveref05.Ahead -/
theorem ok73 {time0:Int} {d1:GDot} {other2:Int} {o3:GDot} {res:Bool} {h:AH}  (hF:ref05Ahead time0 d1 other2 o3=some res):Spec Tryz.prog 73 [.int .u64 time0,.agg [.int .u8 d1.actor.rep,.int .u32 d1.actor.inc,.int .u64 d1.seq],.int .u64 other2,.agg [.int .u8 o3.actor.rep,.int .u32 o3.actor.inc,.int .u64 o3.seq]] h (fun rr hh=>rr=.bool res∧hh=h):=by
 unfold ref05Ahead at hF
 refine zt Tryz.func73 rfl (by kernel_rfl) (env:=[.int .u64 time0,.agg [.int .u8 d1.actor.rep,.int .u32 d1.actor.inc,.int .u64 d1.seq],.int .u64 other2,.agg [.int .u8 o3.actor.rep,.int .u32 o3.actor.inc,.int .u64 o3.seq],za,za,za,za,za,za,za,za,za,za,za,za,za,za]) (by rfl) ?_
 refine zk (zd ?_)
 refine zc rfl (xr (n:=0) rfl yF (zb rfl) rfl rfl) xw ?_
 refine zc rfl (xr (n:=1) rfl xu (zb rfl) rfl rfl) xM ?_
 refine zc rfl (zi rfl rfl (zb rfl)) xU ?_
 refine ze (zj (zk (zk (zd ?_))))
 refine zc rfl (zf rfl yq (zb rfl)) wy ?_
 refine zc rfl (zf rfl yW (zb rfl)) yJ ?_
 refine zc rfl (zy rfl xQ yD rfl) yN ?_
 refine ze (zj ?_)
 refine zN yy hF (fun hc1 hF=>?_) (fun hc1 hF=>?_)
 ·refine zk (zd ?_)
  refine zc rfl (zf rfl yq (zb rfl)) yX ?_
  refine zc rfl (zf rfl yW (zb rfl)) y4 ?_
  refine zc rfl (zy rfl yM yE rfl) yZ ?_
  refine zc rfl (zi rfl yS (zb rfl)) xU ?_
  refine ze (zj (zI (zx ?_)))
  obtain rfl:=Option.some.inj hF
  refine zz rfl (zD xp zF) (zA (leV.refl _) rfl ?_)
  exact ⟨rfl,rfl⟩
 ·refine zK (zj (zk (zd ?_)))
  refine zc rfl (zu rfl ty38.choose_spec.1 yR rfl (zH (cs':=[.int .u8 d1.actor.rep,.int .u32 d1.actor.inc,.int .u64 d1.seq]) ty38.choose_spec.2 rfl rfl) (zb rfl)) y6 ?_
  refine zc rfl (zu rfl ty38.choose_spec.1 xE rfl (zH (cs':=[.int .u8 o3.actor.rep,.int .u32 o3.actor.inc,.int .u64 o3.seq]) ty38.choose_spec.2 rfl rfl) (zb rfl)) xj ?_
  refine zQ hF (fun v2 hv2 hF=>?_)
  refine zL rfl (zC rfl rfl rfl (zo yY (zo xh zw)) (.cons (zb rfl) (.cons (zb rfl) .nil))) (ok74 hv2) xy ?_
  refine zc rfl (zi rfl xq (zb rfl)) xU ?_
  refine ze (zj (zI ?_))
  obtain rfl:=Option.some.inj hF
  refine zz rfl (zD xp zF) (zA (leV.refl _) rfl ?_)
  exact ⟨rfl,rfl⟩
/-! varve/varveref05.May -/
theorem ok36 {l0:GLeaf} {res:Bool} {h:AH}  (hF:ref05May l0=some res):Spec Tryz.prog 36 [.agg [.int .u8 l0.typ,.int .i64 l0.n,.int .u64 l0.time,.int .u8 l0.dot.actor.rep,.int .u32 l0.dot.actor.inc,.int .u64 l0.dot.seq,.str l0.text,.sl 5 (l0.items.map GItem.row),.sl 3 (l0.tombs.map GDot.row)]] h (fun rr hh=>rr=.bool res∧hh=h):=by
 unfold ref05May at hF
 refine zt Tryz.func36 rfl (by kernel_rfl) (env:=[.agg [.int .u8 l0.typ,.int .i64 l0.n,.int .u64 l0.time,.int .u8 l0.dot.actor.rep,.int .u32 l0.dot.actor.inc,.int .u64 l0.dot.seq,.str l0.text,.sl 5 (l0.items.map GItem.row),.sl 3 (l0.tombs.map GDot.row)],za,za,za,za,za,za,za,za,za,za,za,za,za,za,za,za,za,za,za,za,za,za,za,za,za,za,za,za,za,za,za,za,za,za,za,za,za,za,za,za,za,za,za,za,za,za,za,za,za,za,za,za,za,za,za,za,za,za,za,za,za,za,za,za,za,za,za,za,za,za,za,za,za,za,za,za,za,za,za,za,za,za,za,za,za,za,za,za,za,za,za,za,za,za,za,za,za,za,za,za,za,za,za,za,za,za,za,za,za,za,za,za,za,za,za,za,za,za,za,za,za,za,za,za,za,za,za,za,za,za,za,za,za,za,za,za,za,za,za,za,za,za,za,za,za,za,za,za,za,za,za,za,za,za,za,za,za,za,za,za,za,za,za,za,za,za,za,za,za,za,za,za,za,za,za,za,za,za,za,za,za,za,za,za,za,za,za,za,za,za,za,za,za,za,za,za,za,za,za,za,za,za,za,za]) (by rfl) ?_
 refine zk (zd ?_)
 refine zc rfl (xr (n:=0) rfl yq (zb rfl) rfl rfl) st1 ?_
 refine zc rfl (zi rfl rfl (zb rfl)) xg ?_
 refine ze (zj (zk (zk (zd ?_))))
 refine zc rfl (zg rfl xY yF rfl) xM ?_
 refine zc rfl (zu rfl ty5 xE rfl (zr rfl) (zb rfl)) xU ?_
 refine zc rfl (zy rfl xp rfl rfl) wy ?_
 refine zc rfl (zf rfl xQ (zb rfl)) yJ ?_
 refine zp rfl (fun hb=>zg rfl xY yF rfl) yN ?_
 refine zp rfl (fun hb=>zu rfl ty5 (zn yy hb) rfl (zr rfl) (zb rfl)) yX ?_
 refine zp rfl (fun hb=>zy rfl (zn yM hb) rfl rfl) y4 ?_
 refine zc rfl (zM rfl yD rfl yE (z8 (fun ht=>gF ht))) yZ ?_
 refine zc rfl (zf rfl yS (zb rfl)) y6 ?_
 refine zp rfl (fun hb=>zg rfl xY yF rfl) xj ?_
 refine zp rfl (fun hb=>zu rfl ty5 (zn xh hb) rfl (zr rfl) (zb rfl)) xy ?_
 refine zp rfl (fun hb=>zy rfl (zn xq hb) rfl rfl) xF ?_
 refine zp rfl (fun hb=>zf rfl (zn xC hb) (zb rfl)) xN ?_
 refine zp (z7 rfl rfl rfl) (fun hb=>zg rfl fo42x1 yF rfl) x8 ?_
 refine zp (z7 rfl rfl rfl) (fun hb=>zu rfl ty2 (zn x9 hb) rfl (zr rfl) (zb rfl)) wg ?_
 refine zp (z7 rfl rfl rfl) (fun hb=>zy rfl (zn wb hb) rfl rfl) wo ?_
 refine zp rfl (fun hb=>zM rfl (zn xL hb) wl rfl (zU (fun ht=>gT2 hb ht))) we ?_
 refine zc rfl (zM rfl yY rfl x4 (z8 (fun ht=>gF ht))) wi ?_
 refine zc rfl (zf rfl wh (zb rfl)) wt ?_
 refine zp rfl (fun hb=>zg rfl xY yF rfl) wQ ?_
 refine zp rfl (fun hb=>zu rfl ty5 (zn wO hb) rfl (zr rfl) (zb rfl)) wY ?_
 refine zp rfl (fun hb=>zy rfl (zn wU hb) rfl rfl) wX ?_
 refine zp rfl (fun hb=>zf rfl (zn wT hb) (zb rfl)) vi ?_
 refine zp (z7 rfl rfl rfl) (fun hb=>zg rfl xR yF rfl) vh ?_
 refine zp (z7 rfl rfl rfl) (fun hb=>zu rfl ty39 (zn vE hb) rfl (zr rfl) (zb rfl)) vg ?_
 refine xA (z7 rfl rfl rfl) (fun hb=>zS rfl rfl rfl rfl qe (zn vl hb) yb) vz fun hn1=>?_
 refine zp (z7 rfl rfl rfl) (fun hb=>zy rfl (zn vk hb) rfl rfl) vw ?_
 refine zp rfl (fun hb=>zM rfl (zn vm hb) vD rfl (zU (fun ht=>gT2 hb ht))) vu ?_
 refine zc rfl (zM rfl wp rfl vj (z8 (fun ht=>gF ht))) vt ?_
 refine zc rfl (zf rfl vC (zb rfl)) vf ?_
 refine zp rfl (fun hb=>zg rfl xY yF rfl) vr ?_
 refine zp rfl (fun hb=>zu rfl ty5 (zn vB hb) rfl (zr rfl) (zb rfl)) vN ?_
 refine zp rfl (fun hb=>zy rfl (zn vQ hb) rfl rfl) vM ?_
 refine zp rfl (fun hb=>zf rfl (zn vJ hb) (zb rfl)) (sk st0) ?_
 refine zp (z7 rfl rfl rfl) (fun hb=>zg rfl wm yF rfl) (sk st1) ?_
 refine zp (z7 rfl rfl rfl) (fun hb=>zu rfl ty40 (zn (gk yF) hb) rfl (zr rfl) (zb rfl)) (sk xg) ?_
 refine xA (z7 rfl rfl rfl) (fun hb=>zS rfl rfl rfl rfl el40 (zn (gk yW) hb) yb) (sk wa) fun hn2=>?_
 refine zp (z7 rfl rfl rfl) (fun hb=>zy rfl (zn (gk xu) hb) rfl rfl) (sk yC) ?_
 refine zp rfl (fun hb=>zM rfl (zn (gk yq) hb) (gk yx) rfl (zU (fun ht=>gT2 hb ht))) (sk xw) ?_
 refine zc rfl (zM rfl vb rfl (gk yR) (z8 (fun ht=>gF ht))) (sk xD) ?_
 refine ze (zj ?_)
 refine zN (gk yV) hF (fun hc3 hF=>?_) (fun hc3 hF=>?_)
 ·refine zk (zd ?_)
  refine zc rfl (zi rfl rfl (zb rfl)) xg ?_
  refine ze (zj (zI (zx ?_)))
  obtain rfl:=Option.some.inj hF
  refine zz rfl (zD yW zF) (zA (leV.refl _) rfl ?_)
  exact ⟨rfl,rfl⟩
 ·refine zK (zj (zk (zd ?_)))
  refine zc rfl (qu (cs':=[.int .u8 (0:Int),.int .u32 (0:Int),.int .u64 (0:Int)]) rfl su38 ze38 pl38 ym .nil rfl rfl) (sk xM) ?_
  refine zc rfl (xe (n:=1) rfl ze38 rfl) wa ?_
  refine zc rfl (yf (cs':=[.int .u8 (0:Int),.int .u32 (0:Int),.int .u64 (0:Int)]) rfl ty38.choose_spec.1 xu (gk xE) (zb rfl) rfl rfl rfl rfl rfl) rfl ?_
  refine ze (zj ?_)
  refine r_join (fun (s1:Unit)=>yQ [0,2,3,4,5,6,7,8,9,10,11,12,13,14,15,16,17,18,19,20,21,22,23,24,25,26,27,28,29,30,31,32,33,34,35,36,37,38,39,40,41,42,43,44,45,46,47,48,49,50,51,52,53,54,55,56,57,58,59,60,61,62,63,64,65,66,67,68,69,70,71,72,73,74,75,76,77,78,79,80,81,82,83,84,85,86,87,88,89,90,91,92,93,94,95,96,97,98,99,100,101,102,103,104,105,106,107,108,109,110,111,112,113,114,115,116,117,118,119,120,121,122,123,124,125,126,127,128,129,130,131,132,133,134,135,136,137,138,139,140,141,142,143,144,145,146,147,148,149,150,151,152,153,154,155,156,157,158,159,160,161,162,163,164,165,166,167,168,169,170,171,172,173,174,175,176,177,178,179,180,181,182,183,184,185,186,187,188,189,190,191,192,193,194,195,196,197,198,199,200,201,202,203,204] []) (fun s1=>h.ext [.cells [.int .u8 l0.typ,.int .i64 l0.n,.int .u64 l0.time,.int .u8 l0.dot.actor.rep,.int .u32 l0.dot.actor.inc,.int .u64 l0.dot.seq,.str l0.text,.sl 5 (l0.items.map GItem.row),.sl 3 (l0.tombs.map GDot.row)],.cells [.int .u8 (0:Int),.int .u32 (0:Int),.int .u64 (0:Int)]] []) hF (fun _=>by simp only [yQ,upd,List.set_cons_succ,List.set_cons_zero];try rfl) (fun o1 hF hK1=>?_) (fun s1 hF=>?_)
  ·refine zk (zd ?_)
   refine zc rfl (zg rfl xY yF rfl) (sk xU) ?_
   refine zc rfl (zu rfl ty5 (gk xp) rfl (zr rfl) (zb rfl)) (sk wy) ?_
   refine zc rfl (zy rfl (gk xQ) rfl rfl) (sk yJ) ?_
   refine zc rfl (zf rfl (gk yD) (zb rfl)) (sk yN) ?_
   refine zp rfl (fun hb=>zg rfl fo42x2 yF rfl) (sk yX) ?_
   refine zp rfl (fun hb=>zu rfl ty33 (zn (gk yM) hb) rfl (zr rfl) (zb rfl)) (sk y4) ?_
   refine zp rfl (fun hb=>zy rfl (zn (gk yE) hb) rfl rfl) (sk yZ) ?_
   refine zc rfl (zM rfl (gk yy) rfl (gk yS) (z8 (fun ht=>gF ht))) (sk y6) ?_
   refine ze (zj ?_)
   refine zN (gk yY) hF (fun hc9 hF=>?_) (fun hc9 hF=>?_)
   ·refine zk (zd ?_)
    refine zc rfl (zg rfl fo42x2 yF rfl) (sk xj) ?_
    refine zc rfl (zu rfl ty33 (gk xh) rfl (zr rfl) (zb rfl)) (sk xy) ?_
    refine zc rfl (zy rfl (gk xq) rfl rfl) (sk xF) ?_
    refine zc rfl (zf rfl (gk xC) (zb rfl)) (sk xN) ?_
    refine zp rfl (fun hb=>zg rfl fo42x3 yF rfl) (sk x8) ?_
    refine zp rfl (fun hb=>zu rfl ty38.choose_spec.1 (zn (gk x9) hb) rfl (zH (cs':=[.int .u8 l0.dot.actor.rep,.int .u32 l0.dot.actor.inc,.int .u64 l0.dot.seq]) ty38.choose_spec.2 rfl rfl) (zb rfl)) (sk wg) ?_
    refine zp rfl (fun hb=>zu rfl ty38.choose_spec.1 xu rfl (zH (cs':=[.int .u8 (0:Int),.int .u32 (0:Int),.int .u64 (0:Int)]) ty38.choose_spec.2 rfl rfl) (zb rfl)) (sk wo) ?_
    refine zp rfl (fun hb=>zy rfl (zn (gk wb) hb) (zn (gk wl) hb) (bin_ne pk38 rfl)) (sk we) ?_
    refine zc rfl (zM rfl (gk xL) rfl (gk x4) (z8 (fun ht=>gF ht))) (sk wi) ?_
    refine zc rfl (zf rfl (gk wh) (zb rfl)) (sk wt) ?_
    refine zp rfl (fun hb=>zg rfl fo42x4 yF rfl) (sk wQ) ?_
    refine zp rfl (fun hb=>zu rfl ty9 (zn (gk wO) hb) rfl (zr rfl) (zb rfl)) (sk wY) ?_
    refine zp rfl (fun hb=>zy rfl (zn (gk wU) hb) rfl rfl) (sk wX) ?_
    refine zc rfl (zM rfl (gk wp) rfl (gk wT) (z8 (fun ht=>gF ht))) (sk vi) ?_
    refine ze (zj ?_)
    refine zN (gk vm) hF (fun hc10 hF=>?_) (fun hc10 hF=>?_)
    ·refine zk (zd ?_)
     refine zc rfl (zi rfl rfl (zb rfl)) xg ?_
     refine ze (zj (zI ?_))
     refine q_join_ret ?_
     obtain rfl:=Option.some.inj hF
     replace hF:=hK1
     obtain rfl:=Option.some.inj hF
     refine zz rfl (zD yW zF) (zA (leV.refl _) rfl ?_)
     exact ⟨rfl,rfl⟩
    ·refine zK (q_join ?_)
     obtain rfl:=Option.some.inj hF
     exact ⟨(),hK1,wk.le (by exact (.drop (.eq (.d16 (.d16 (.d16 (.d16 (.d16 (.d16 (.d16 (.d16 (.d16 (.d16 (.d16 (.d16 (.d4 (.d4 (.drop (.drop (.drop leL.nil))))))))))))))))))))⟩
   ·refine zk (zd ?_)
    refine zc rfl (zg rfl fo42x2 yF rfl) (sk vh) ?_
    refine zc rfl (zu rfl ty33 (gk vE) rfl (zr rfl) (zb rfl)) (sk vg) ?_
    refine zc rfl (zy rfl (gk vl) rfl rfl) (sk vz) ?_
    refine zc rfl (zf rfl (gk vk) (zb rfl)) (sk vw) ?_
    refine zp rfl (fun hb=>zg rfl fo42x3 yF rfl) (sk vu) ?_
    refine zp rfl (fun hb=>zu rfl ty38.choose_spec.1 (zn (gk vj) hb) rfl (zH (cs':=[.int .u8 l0.dot.actor.rep,.int .u32 l0.dot.actor.inc,.int .u64 l0.dot.seq]) ty38.choose_spec.2 rfl rfl) (zb rfl)) (sk vt) ?_
    refine yP hF (fun v11 hv11 hF=>?_)
    refine yj rfl (fun hb=>zC rfl rfl rfl (zo (zn (gk vC) hb) zw) (.cons (zb rfl) .nil)) (fun hb=>ok70 (hv11 hb)) (sk vf) ?_
    refine zp rfl (fun hb=>xT rfl (zn (gk vb) hb) rfl) (sk vr) ?_
    refine zc rfl (zM rfl (gk vD) rfl (gk vB) (z8 (fun ht=>gF ht))) (sk vN) ?_
    refine zc rfl (zf rfl (gk vQ) (zb rfl)) (sk vM) ?_
    refine zp rfl (fun hb=>zg rfl fo42x4 yF rfl) (sk (sk st0)) ?_
    refine zp rfl (fun hb=>zu rfl ty9 (zn (gk (gk yq)) hb) rfl (zr rfl) (zb rfl)) (sk (sk st1)) ?_
    refine xA rfl (fun hb=>vU rfl rfl rfl rfl ty9 (zn (gk (gk yF)) hb)) (sk (sk xg)) fun hn12=>?_
    refine zp rfl (fun hb=>zy rfl (zn (gk (gk yW)) hb) rfl rfl) (sk (sk wa)) ?_
    refine zc rfl (zM rfl (gk vJ) rfl (gk (gk xu)) (z8 (fun ht=>gF ht))) (sk (sk yC)) ?_
    refine ze (zj ?_)
    refine zN (gk (gk yx)) hF (fun hc13 hF=>?_) (fun hc13 hF=>?_)
    ·refine zk (zd ?_)
     refine zc rfl (zi rfl rfl (zb rfl)) xg ?_
     refine ze (zj (zI ?_))
     refine q_join_ret ?_
     obtain rfl:=Option.some.inj hF
     replace hF:=hK1
     obtain rfl:=Option.some.inj hF
     refine zz rfl (zD yW zF) (zA (leV.refl _) rfl ?_)
     exact ⟨rfl,rfl⟩
    ·refine zK (q_join ?_)
     obtain rfl:=Option.some.inj hF
     exact ⟨(),hK1,wk.le (by exact (.drop (.eq (.d16 (.d16 (.d16 (.d16 (.d16 (.d16 (.d16 (.d16 (.d16 (.d16 (.d16 (.d16 (.d4 (.d4 (.drop (.drop (.drop leL.nil))))))))))))))))))))⟩
  ·refine zk (zk (zd ?_))
   refine zc rfl (zi rfl rfl (zb rfl)) yC ?_
   refine ze (zj (zR ?_))
   refine yu (fun (n2:Nat) (s2:Unit)=>yQ [0,2,3,5,6,7,8,9,10,11,12,13,14,15,16,17,18,19,20,21,22,23,24,25,26,27,28,29,30,31,32,33,34,35,36,37,38,39,40,41,42,43,44,45,46,47,48,49,50,51,52,53,54,55,56,57,58,59,60,61,62,63,64,65,66,67,68,69,70,71,72,73,74,75,76,77,78,79,80,81,82,83,84,85,86,87,88,89,90,91,92,93,94,95,96,97,98,99,100,101,102,103,104,105,106,107,108,109,110,111,112,113,114,115,116,117,118,119,120,121,122,123,124,125,126,127,128,129,130,131,132,133,134,135,136,137,138,139,140,141,142,143,144,145,146,147,148,149,150,151,152,153,154,155,156,157,158,159,160,161,162,163,164,165,166,167,168,169,170,171,172,173,174,175,176,177,178,179,180,181,182,183,184,185,186,187,188,189,190,191,192,193,194,195,196,197,198,199,200,201,202,203,204] [(4,.int .i64 (n2:Int))]) (fun s2=>h.ext [.cells [.int .u8 l0.typ,.int .i64 l0.n,.int .u64 l0.time,.int .u8 l0.dot.actor.rep,.int .u32 l0.dot.actor.inc,.int .u64 l0.dot.seq,.str l0.text,.sl 5 (l0.items.map GItem.row),.sl 3 (l0.tombs.map GDot.row)],.cells [.int .u8 (0:Int),.int .u32 (0:Int),.int .u64 (0:Int)]] []) hF (fun _ _=>by simp only [yQ,upd,List.set_cons_succ,List.set_cons_zero];try rfl) (wk.le (by exact (.drop (.eq (.drop (.drop (.cons (leV.of_eq rfl) (.d16 (.d16 (.d16 (.d16 (.d16 (.d16 (.d16 (.d16 (.d16 (.d16 (.d16 (.d16 (.d4 (.d4 leL.nil))))))))))))))))))))) ?_
   intro n2 s2 hi2 hF
   refine zk (zk (zd ?_))
   refine zc rfl (zf rfl yx (zb rfl)) (sk (sk xw)) ?_
   refine zc rfl (zg rfl xR yF rfl) (sk (sk xD)) ?_
   refine zc rfl (zu rfl ty39 (gk (gk yV)) rfl (zr rfl) (zb rfl)) (sk (sk xM)) ?_
   refine ya rfl (zS rfl rfl rfl rfl qe (gk (gk xE)) yb) (sk (sk xU)) fun hn40=>?_
   replace hn40:=xB hn40
   refine zc rfl (zy rfl (gk (gk yR)) (gk (gk xp)) rfl) (sk (sk wy)) ?_
   refine ze (zj ?_)
   refine yL (gk (gk xQ)) hF (fun x2 o2 hl2 hx2 hF hK2=>?_) (fun hF=>?_)
   ·refine zK (zj (zk (zR (zk (zd ?_)))))
    refine zc rfl (zg rfl xR yF rfl) (sk (sk yX)) ?_
    refine zc rfl (zu rfl ty39 (gk (gk yM)) rfl (zr rfl) (zb rfl)) (sk (sk y4)) ?_
    refine zc rfl (zf rfl yx (zb rfl)) (sk (sk yZ)) ?_
    refine zc rfl (yk rfl qe (gk (gk yE)) (gk (gk yS)) va (yO hx2)) (sk (sk y6)) ?_
    refine zc rfl (ye rfl ty93.choose_spec.1 (gk (gk yY)) (zH (cs':=[.int .u64 x2.time,.int .u8 x2.dot.actor.rep,.int .u32 x2.dot.actor.inc,.int .u64 x2.dot.seq,.str x2.text]) ty93.choose_spec.2 rfl rfl) (zb rfl)) (sk (sk xj)) ?_
    refine zc rfl (xe (n:=2) rfl ze93 rfl) xw ?_
    refine zc rfl (yf (cs':=[.int .u64 x2.time,.int .u8 x2.dot.actor.rep,.int .u32 x2.dot.actor.inc,.int .u64 x2.dot.seq,.str x2.text]) rfl ty93.choose_spec.1 yR (gk (gk xh)) (zb rfl) rfl rfl rfl rfl rfl) rfl ?_
    refine ze (zj (zk (zk (zd ?_))))
    refine zc rfl (zg rfl fo93x1 yR rfl) (sk (sk xy)) ?_
    refine zc rfl (zu rfl ty38.choose_spec.1 (gk (gk xq)) rfl (zH (cs':=[.int .u8 x2.dot.actor.rep,.int .u32 x2.dot.actor.inc,.int .u64 x2.dot.seq]) ty38.choose_spec.2 rfl rfl) (zb rfl)) (sk (sk xF)) ?_
    refine zQ hF (fun v41 hv41 hF=>?_)
    refine zL rfl (zC rfl rfl rfl (zo (gk (gk xC)) zw) (.cons (zb rfl) .nil)) (ok70 hv41) (sk (sk xN)) ?_
    refine zc rfl (xT rfl (gk (gk xL)) rfl) (sk (sk x8)) ?_
    refine zc rfl (zf rfl (gk (gk x9)) (zb rfl)) (sk (sk wg)) ?_
    refine zp rfl (fun hb=>zg rfl fo93x2 yR rfl) (sk (sk wo)) ?_
    refine zp rfl (fun hb=>zu rfl ty9 (zn (gk (gk wl)) hb) rfl (zr rfl) (zb rfl)) (sk (sk we)) ?_
    refine xA rfl (fun hb=>vU rfl rfl rfl rfl ty9 (zn (gk (gk x4)) hb)) (sk (sk wi)) fun hn42=>?_
    refine zp rfl (fun hb=>zy rfl (zn (gk (gk wh)) hb) rfl rfl) (sk (sk wt)) ?_
    refine zc rfl (zM rfl (gk (gk wb)) rfl (gk (gk wp)) (z8 (fun ht=>gF ht))) (sk (sk wQ)) ?_
    refine zc rfl (zf rfl (gk (gk wO)) (zb rfl)) (sk (sk wY)) ?_
    refine zp rfl (fun hb=>zg rfl xY yF rfl) (sk (sk wX)) ?_
    refine zp rfl (fun hb=>zu rfl ty5 (zn (gk (gk wT)) hb) rfl (zr rfl) (zb rfl)) (sk (sk vi)) ?_
    refine zp rfl (fun hb=>zy rfl (zn (gk (gk vm)) hb) rfl rfl) (sk (sk vh)) ?_
    refine zp rfl (fun hb=>zf rfl (zn (gk (gk vE)) hb) (zb rfl)) (sk (sk vg)) ?_
    refine zp (z7 rfl rfl rfl) (fun hb=>zg rfl fo93x0 yR rfl) (sk (sk vz)) ?_
    refine zp (z7 rfl rfl rfl) (fun hb=>zu rfl ty33 (zn (gk (gk vk)) hb) rfl (zr rfl) (zb rfl)) (sk (sk vw)) ?_
    refine zp (z7 rfl rfl rfl) (fun hb=>zy rfl (zn (gk (gk vD)) hb) rfl rfl) (sk (sk vu)) ?_
    refine zp rfl (fun hb=>zM rfl (zn (gk (gk vl)) hb) (gk (gk vj)) rfl (zU (fun ht=>gT2 hb ht))) (sk (sk vt)) ?_
    refine zc rfl (zM rfl (gk (gk wU)) rfl (gk (gk vC)) (z8 (fun ht=>gF ht))) (sk (sk vf)) ?_
    refine zc rfl (zf rfl (gk (gk vb)) (zb rfl)) (sk (sk vr)) ?_
    refine zp rfl (fun hb=>zg rfl xY yF rfl) (sk (sk vN)) ?_
    refine zp rfl (fun hb=>zu rfl ty5 (zn (gk (gk vQ)) hb) rfl (zr rfl) (zb rfl)) (sk (sk vM)) ?_
    refine zp rfl (fun hb=>zy rfl (zn (gk (gk vJ)) hb) rfl rfl) (sk (sk (sk st0))) ?_
    refine zp rfl (fun hb=>zf rfl (zn (gk (gk (gk yq))) hb) (zb rfl)) (sk (sk (sk st1))) ?_
    refine zp (z7 rfl rfl rfl) (fun hb=>zg rfl fo93x0 yR rfl) (sk (sk (sk xg))) ?_
    refine zp (z7 rfl rfl rfl) (fun hb=>zu rfl ty33 (zn (gk (gk (gk yW))) hb) rfl (zr rfl) (zb rfl)) (sk (sk (sk wa))) ?_
    refine zp (z7 rfl rfl rfl) (fun hb=>zy rfl (zn (gk (gk (gk xu))) hb) rfl rfl) (sk (sk (sk yC))) ?_
    refine zp (z7 rfl rfl rfl) (fun hb=>zf rfl (zn (gk (gk (gk yx))) hb) (zb rfl)) (sk (sk (sk xw))) ?_
    refine zp (z7 rfl rfl rfl) (fun hb=>zg rfl fo93x0 yR rfl) (sk (sk (sk xD))) ?_
    refine zp (z7 rfl rfl rfl) (fun hb=>zu rfl ty33 (zn (gk (gk (gk yV))) hb) rfl (zr rfl) (zb rfl)) (sk (sk (sk xM))) ?_
    refine zp (z7 rfl rfl rfl) (fun hb=>zy rfl (zn (gk (gk (gk xE))) hb) rfl rfl) (sk (sk (sk xU))) ?_
    refine zp (z7 rfl rfl rfl) (fun hb=>zM rfl (zn (gk (gk (gk yR))) hb) rfl (gk (gk (gk xp))) (z8 (fun ht=>gF2 hb ht))) (sk (sk (sk wy))) ?_
    refine zp rfl (fun hb=>zM rfl (zn (gk (gk (gk yF))) hb) (gk (gk (gk xQ))) rfl (zU (fun ht=>gT2 hb ht))) (sk (sk (sk yJ))) ?_
    refine zc rfl (zM rfl (gk (gk vB)) rfl (gk (gk (gk yD))) (z8 (fun ht=>gF ht))) (sk (sk (sk yN))) ?_
    refine zc rfl (zf rfl (gk (gk (gk yy))) (zb rfl)) (sk (sk (sk yX))) ?_
    refine zp rfl (fun hb=>zg rfl xR yF rfl) (sk (sk (sk y4))) ?_
    refine zp rfl (fun hb=>zu rfl ty39 (zn (gk (gk (gk yE))) hb) rfl (zr rfl) (zb rfl)) (sk (sk (sk yZ))) ?_
    refine zp rfl (fun hb=>zg rfl fo93x1 yR rfl) (sk (sk (sk y6))) ?_
    refine zp rfl (fun hb=>zu rfl ty38.choose_spec.1 (zn (gk (gk (gk yY))) hb) rfl (zH (cs':=[.int .u8 x2.dot.actor.rep,.int .u32 x2.dot.actor.inc,.int .u64 x2.dot.seq]) ty38.choose_spec.2 rfl rfl) (zb rfl)) (sk (sk (sk xj))) ?_
    refine yP hF (fun v43 hv43 hF=>?_)
    refine yj rfl (fun hb=>zC rfl rfl rfl (zo (zn (gk (gk (gk yS))) hb) (zo (zn (gk (gk (gk xh))) hb) zw)) (.cons (zb rfl) (.cons (zb rfl) .nil))) (fun hb=>ok71 (hv43 hb)) (sk (sk (sk xy))) ?_
    refine zp rfl (fun hb=>zf rfl yx (zb rfl)) (sk (sk (sk xF))) ?_
    refine zp rfl (fun hb=>zy rfl (zn (gk (gk (gk xq))) hb) (zn (gk (gk (gk xC))) hb) rfl) (sk (sk (sk xN))) ?_
    refine zc rfl (zM rfl (gk (gk (gk yM))) rfl (gk (gk (gk xL))) (z8 (fun ht=>gF ht))) (sk (sk (sk x8))) ?_
    refine zc rfl (zf rfl (gk (gk (gk x9))) (zb rfl)) (sk (sk (sk wg))) ?_
    refine zp rfl (fun hb=>zg rfl wm yF rfl) (sk (sk (sk wo))) ?_
    refine zp rfl (fun hb=>zu rfl ty40 (zn (gk (gk (gk wl))) hb) rfl (zr rfl) (zb rfl)) (sk (sk (sk we))) ?_
    refine zp rfl (fun hb=>zg rfl fo93x1 yR rfl) (sk (sk (sk wi))) ?_
    refine zp rfl (fun hb=>zu rfl ty38.choose_spec.1 (zn (gk (gk (gk wh))) hb) rfl (zH (cs':=[.int .u8 x2.dot.actor.rep,.int .u32 x2.dot.actor.inc,.int .u64 x2.dot.seq]) ty38.choose_spec.2 rfl rfl) (zb rfl)) (sk (sk (sk wt))) ?_
    refine yP hF (fun v44 hv44 hF=>?_)
    refine yj rfl (fun hb=>zC rfl rfl rfl (zo (zn (gk (gk (gk x4))) hb) (zo (zn (gk (gk (gk wp))) hb) zw)) (.cons (zb rfl) (.cons (zb rfl) .nil))) (fun hb=>ok72 (hv44 hb)) (sk (sk (sk wQ))) ?_
    refine zc rfl (zM rfl (gk (gk (gk wb))) rfl (gk (gk (gk wO))) (z8 (fun ht=>gF ht))) (sk (sk (sk wY))) ?_
    refine ze (zj ?_)
    refine zN (gk (gk (gk wU))) hF (fun hc45 hF=>?_) (fun hc45 hF=>?_)
    ·refine zk (zd ?_)
     refine zc rfl (zi rfl rfl (zb rfl)) xg ?_
     refine ze (zj (zI (zx ?_)))
     refine zG ?_
     refine zx ?_
     refine yd ?_
     obtain rfl:=Option.some.inj hF
     replace hF:=hK2
     refine zG ?_
     refine zx ?_
     obtain rfl:=Option.some.inj hF
     refine zz rfl (zD yW zF) (zA (leV.refl _) rfl ?_)
     exact ⟨rfl,rfl⟩
    ·refine zK (zj (zk ?_))
     refine yK [] [] trivial mixed (by kernel_rfl) ?_
     refine zq rfl rfl (zf rfl yx (zb rfl)) (sk (sk (sk wX))) ?_
     refine zq rfl rfl (zy rfl (gk (gk (gk wT))) rfl rfl) (sk (sk (sk vi))) ?_
     refine zq rfl rfl (zf rfl (gk (gk (gk vm))) (zb rfl)) (sk (sk (sk vh))) ?_
     refine zB rfl rfl (fun hb=>zg rfl xR yF rfl) (sk (sk (sk vg))) ?_
     refine zB rfl rfl (fun hb=>zu rfl ty39 (zn (gk (gk (gk vl))) hb) rfl (zr rfl) (zb rfl)) (sk (sk (sk vz))) ?_
     refine zB rfl rfl (fun hb=>zf rfl yx (zb rfl)) (sk (sk (sk vw))) ?_
     refine zB rfl rfl (fun hb=>zy rfl (zn (gk (gk (gk vD))) hb) rfl rfl) (sk (sk (sk vu))) ?_
     refine wJ hF (fun hg46 hF=>?_)
     refine zB rfl rfl (fun hb=>xP default rfl qe (zn (gk (gk (gk vk))) hb) (zn (gk (gk (gk vj))) hb) va (hg46 hb)) (sk (sk (sk vt))) ?_
     refine zB rfl rfl (fun hb=>zg rfl fo93x0 (zn (gk (gk (gk vC))) hb) rfl) (sk (sk (sk vf))) ?_
     refine zB rfl rfl (fun hb=>ye rfl ty33 (zn (gk (gk (gk vb))) hb) (zr rfl) (zb rfl)) (sk (sk (sk vr))) ?_
     refine zB rfl rfl (fun hb=>zg rfl xR yF rfl) (sk (sk (sk vN))) ?_
     refine zB rfl rfl (fun hb=>zu rfl ty39 (zn (gk (gk (gk vQ))) hb) rfl (zr rfl) (zb rfl)) (sk (sk (sk vM))) ?_
     refine zB rfl rfl (fun hb=>zf rfl yx (zb rfl)) (sk (sk (sk (sk st0)))) ?_
     refine zB rfl rfl (fun hb=>zy rfl (zn (gk (gk (gk (gk yq)))) hb) rfl rfl) (sk (sk (sk (sk st1)))) ?_
     refine wJ hF (fun hg47 hF=>?_)
     refine zB rfl rfl (fun hb=>xP default rfl qe (zn (gk (gk (gk vJ))) hb) (zn (gk (gk (gk (gk yF)))) hb) va (hg47 hb)) (sk (sk (sk (sk xg)))) ?_
     refine zB rfl rfl (fun hb=>zg rfl fo93x1 (zn (gk (gk (gk (gk yW)))) hb) rfl) (sk (sk (sk (sk wa)))) ?_
     refine zB rfl rfl (fun hb=>ye rfl ty38.choose_spec.1 (zn (gk (gk (gk (gk xu)))) hb) (zH (cs':=[.int .u8 (((l0.items).getD (IntKind.wrap .i64 ((n2:Int) - (1:Int))).toNat default).dot.actor.rep),.int .u32 (((l0.items).getD (IntKind.wrap .i64 ((n2:Int) - (1:Int))).toNat default).dot.actor.inc),.int .u64 (((l0.items).getD (IntKind.wrap .i64 ((n2:Int) - (1:Int))).toNat default).dot.seq)]) ty38.choose_spec.2 rfl rfl) (zb rfl)) (sk (sk (sk (sk yC)))) ?_
     refine zB rfl rfl (fun hb=>zg rfl fo93x0 yR rfl) (sk (sk (sk (sk xw)))) ?_
     refine zB rfl rfl (fun hb=>zu rfl ty33 (zn (gk (gk (gk (gk yR)))) hb) rfl (zr rfl) (zb rfl)) (sk (sk (sk (sk xD)))) ?_
     refine zB rfl rfl (fun hb=>zg rfl fo93x1 yR rfl) (sk (sk (sk (sk xM)))) ?_
     refine zB rfl rfl (fun hb=>zu rfl ty38.choose_spec.1 (zn (gk (gk (gk (gk xE)))) hb) rfl (zH (cs':=[.int .u8 x2.dot.actor.rep,.int .u32 x2.dot.actor.inc,.int .u64 x2.dot.seq]) ty38.choose_spec.2 rfl rfl) (zb rfl)) (sk (sk (sk (sk xU)))) ?_
     refine yP hF (fun v48 hv48 hF=>?_)
     refine vc rfl rfl (fun hb=>zC rfl rfl rfl (zo (zn (gk (gk (gk vB))) hb) (zo (zn (gk (gk (gk (gk yx)))) hb) (zo (zn (gk (gk (gk (gk yV)))) hb) (zo (zn (gk (gk (gk (gk xp)))) hb) zw)))) (.cons (zb rfl) (.cons (zb rfl) (.cons (zb rfl) (.cons (zb rfl) .nil))))) (fun hb=>ok73 (hv48 hb)) (sk (sk (sk (sk wy)))) ?_
     refine zB rfl rfl (fun hb=>xT rfl (zn (gk (gk (gk (gk xQ)))) hb) rfl) (sk (sk (sk (sk yJ)))) ?_
     refine zq rfl rfl (zM rfl (gk (gk (gk vE))) (gk (gk (gk (gk yD)))) rfl (zU (fun ht=>gT ht))) (sk (sk (sk (sk yN)))) ?_
     refine yo ?_
     refine zj ?_
     refine zN (gk (gk (gk (gk yy)))) hF (fun hc49 hF=>?_) (fun hc49 hF=>?_)
     ·refine zk (zd ?_)
      refine zc rfl (zi rfl rfl (zb rfl)) xg ?_
      refine ze (zj (zI ?_))
      refine zG ?_
      refine zx ?_
      refine yd ?_
      obtain rfl:=Option.some.inj hF
      replace hF:=hK2
      refine zG ?_
      refine zx ?_
      obtain rfl:=Option.some.inj hF
      refine zz rfl (zD yW zF) (zA (leV.refl _) rfl ?_)
      exact ⟨rfl,rfl⟩
     ·refine zK (yg (zj (zd ?_)))
      refine zc rfl (zf rfl yx (zb rfl)) (sk (sk yJ)) ?_
      refine zc rfl (zy rfl (gk (gk yD)) rfl rfl) (sk (sk yN)) ?_
      refine zc rfl (zi rfl (gk (gk yy)) (zb rfl)) yC ?_
      refine ze (yH ?_)
      obtain rfl:=Option.some.inj hF
      exact ⟨(),hl2,hK2,wk.trans (wk.le (by exact (.drop (.eq (.drop (.drop (.cons (leV.of_eq (ve (by omega) (by omega))) (.d16 (.d16 (.d16 (.d16 (.d16 (.d16 (.d16 (.d16 (.d16 (.d16 (.d16 (.d16 (.d4 (.d4 leL.nil))))))))))))))))))))) (xJ (by simp [yi,AV.low]) rfl rfl (by simp [Blk.low,yi,AV.low]))⟩
   ·refine yU ?_
    refine zZ ?_
    refine zW ?_
    refine zX ?_
    refine zj (zk (zk (zd ?_)))
    refine zc rfl (zi rfl rfl (zb rfl)) xD ?_
    refine ze (zj (zR ?_))
    refine yu (fun (n3:Nat) (s3:Unit)=>yQ [0,2,3,4,5,7,8,9,10,11,12,13,14,15,16,17,18,19,20,21,22,23,24,25,26,27,28,29,30,31,32,33,34,35,36,37,38,39,40,41,42,43,44,45,46,47,48,49,50,51,52,53,54,55,56,57,58,59,60,61,62,63,64,65,66,67,68,69,70,71,72,73,74,75,76,77,78,79,80,81,82,83,84,85,86,87,88,89,90,91,92,93,94,95,96,97,98,99,100,101,102,103,104,105,106,107,108,109,110,111,112,113,114,115,116,117,118,119,120,121,122,123,124,125,126,127,128,129,130,131,132,133,134,135,136,137,138,139,140,141,142,143,144,145,146,147,148,149,150,151,152,153,154,155,156,157,158,159,160,161,162,163,164,165,166,167,168,169,170,171,172,173,174,175,176,177,178,179,180,181,182,183,184,185,186,187,188,189,190,191,192,193,194,195,196,197,198,199,200,201,202,203,204] [(6,.int .i64 (n3:Int))]) (fun s3=>h.ext [.cells [.int .u8 l0.typ,.int .i64 l0.n,.int .u64 l0.time,.int .u8 l0.dot.actor.rep,.int .u32 l0.dot.actor.inc,.int .u64 l0.dot.seq,.str l0.text,.sl 5 (l0.items.map GItem.row),.sl 3 (l0.tombs.map GDot.row)],.cells [.int .u8 (0:Int),.int .u32 (0:Int),.int .u64 (0:Int)]] []) hF (fun _ _=>by simp only [yQ,upd,List.set_cons_succ,List.set_cons_zero];try rfl) (wk.le (by exact (.drop (.eq (.d4 (.cons (leV.of_eq rfl) (.d16 (.d16 (.d16 (.d16 (.d16 (.d16 (.d16 (.d16 (.d16 (.d16 (.d16 (.d16 (.d4 (.drop (.drop leL.nil))))))))))))))))))))) ?_
    intro n3 s3 hi3 hF
    refine zk (zk (zd ?_))
    refine zc rfl (zf rfl yV (zb rfl)) (sk (sk (sk (sk yX)))) ?_
    refine zc rfl (zg rfl wm yF rfl) (sk (sk (sk (sk y4)))) ?_
    refine zc rfl (zu rfl ty40 (gk (gk (gk (gk yE)))) rfl (zr rfl) (zb rfl)) (sk (sk (sk (sk yZ)))) ?_
    refine ya rfl (zS rfl rfl rfl rfl el40 (gk (gk (gk (gk yS)))) yb) (sk (sk (sk (sk y6)))) fun hn72=>?_
    replace hn72:=xB hn72
    refine zc rfl (zy rfl (gk (gk (gk (gk yM)))) (gk (gk (gk (gk yY)))) rfl) (sk (sk (sk (sk xj)))) ?_
    refine ze (zj ?_)
    refine yL (gk (gk (gk (gk xh)))) hF (fun x3 o3 hl3 hx3 hF hK3=>?_) (fun hF=>?_)
    ·refine zK (zj (zk (zR (zk ?_))))
     refine yK [5] [] trivial mixed (by kernel_rfl) ?_
     refine zq rfl rfl (zg rfl wm yF rfl) (sk (sk (sk (sk xN)))) ?_
     refine zq rfl rfl (zu rfl ty40 (gk (gk (gk (gk xL)))) rfl (zr rfl) (zb rfl)) (sk (sk (sk (sk x8)))) ?_
     refine zq rfl rfl (zf rfl yV (zb rfl)) (sk (sk (sk (sk wg)))) ?_
     refine zq rfl rfl (yk rfl el40 (gk (gk (gk (gk x9)))) (gk (gk (gk (gk wb)))) va (yO hx3)) (sk (sk (sk (sk wo)))) ?_
     refine zq rfl rfl (ye rfl ty38.choose_spec.1 (gk (gk (gk (gk wl)))) (zH (cs':=[.int .u8 x3.actor.rep,.int .u32 x3.actor.inc,.int .u64 x3.seq]) ty38.choose_spec.2 rfl rfl) (zb rfl)) (sk (sk (sk (sk we)))) ?_
     refine zQ hF (fun v73 hv73 hF=>?_)
     refine yv rfl rfl (fun _=>zC rfl rfl rfl (zo (gk (gk (gk (gk x4)))) zw) (.cons (zb rfl) .nil)) (by rintro _ ⟨B2,T2,rfl,hk2⟩;exact ok70 hv73) (sk (sk (sk (sk wi)))) ?_
     refine zq rfl rfl (xT rfl (gk (gk (gk (gk wh)))) rfl) (sk (sk (sk (sk wt)))) ?_
     refine zq rfl rfl (zf rfl (gk (gk (gk (gk wp)))) (zb rfl)) (sk (sk (sk (sk wQ)))) ?_
     refine zB rfl rfl (fun hb=>zf rfl yV (zb rfl)) (sk (sk (sk (sk wY)))) ?_
     refine zB rfl rfl (fun hb=>zy rfl (zn (gk (gk (gk (gk wU)))) hb) rfl rfl) (sk (sk (sk (sk wX)))) ?_
     refine zB rfl rfl (fun hb=>zf rfl (zn (gk (gk (gk (gk wT)))) hb) (zb rfl)) (sk (sk (sk (sk vi)))) ?_
     refine zB rfl (z7 rfl rfl rfl) (fun hb=>zg rfl wm yF rfl) (sk (sk (sk (sk vh)))) ?_
     refine zB rfl (z7 rfl rfl rfl) (fun hb=>zu rfl ty40 (zn (gk (gk (gk (gk vE)))) hb) rfl (zr rfl) (zb rfl)) (sk (sk (sk (sk vg)))) ?_
     refine zB rfl (z7 rfl rfl rfl) (fun hb=>zf rfl yV (zb rfl)) (sk (sk (sk (sk vz)))) ?_
     refine zB rfl (z7 rfl rfl rfl) (fun hb=>zy rfl (zn (gk (gk (gk (gk vk)))) hb) rfl rfl) (sk (sk (sk (sk vw)))) ?_
     refine wJ hF (fun hg74 hF=>?_)
     refine zB rfl (z7 rfl rfl rfl) (fun hb=>xP default rfl el40 (zn (gk (gk (gk (gk vl)))) hb) (zn (gk (gk (gk (gk vD)))) hb) va (hg74 hb)) (sk (sk (sk (sk vu)))) ?_
     refine zB rfl (z7 rfl rfl rfl) (fun hb=>ye rfl ty38.choose_spec.1 (zn (gk (gk (gk (gk vj)))) hb) (zH (cs':=[.int .u8 (((l0.tombs).getD (IntKind.wrap .i64 ((n3:Int) - (1:Int))).toNat default).actor.rep),.int .u32 (((l0.tombs).getD (IntKind.wrap .i64 ((n3:Int) - (1:Int))).toNat default).actor.inc),.int .u64 (((l0.tombs).getD (IntKind.wrap .i64 ((n3:Int) - (1:Int))).toNat default).seq)]) ty38.choose_spec.2 rfl rfl) (zb rfl)) (sk (sk (sk (sk vt)))) ?_
     refine zB rfl (z7 rfl rfl rfl) (fun hb=>zg rfl wm yF rfl) (sk (sk (sk (sk vf)))) ?_
     refine zB rfl (z7 rfl rfl rfl) (fun hb=>zu rfl ty40 (zn (gk (gk (gk (gk vb)))) hb) rfl (zr rfl) (zb rfl)) (sk (sk (sk (sk vr)))) ?_
     refine zB rfl (z7 rfl rfl rfl) (fun hb=>zf rfl yV (zb rfl)) (sk (sk (sk (sk vN)))) ?_
     refine wJ hF (fun hg75 hF=>?_)
     refine zB rfl (z7 rfl rfl rfl) (fun hb=>xP default rfl el40 (zn (gk (gk (gk (gk vB)))) hb) (zn (gk (gk (gk (gk vQ)))) hb) va (hg75 hb)) (sk (sk (sk (sk vM)))) ?_
     refine zB rfl (z7 rfl rfl rfl) (fun hb=>ye rfl ty38.choose_spec.1 (zn (gk (gk (gk (gk vJ)))) hb) (zH (cs':=[.int .u8 (((l0.tombs).getD (n3:Int).toNat default).actor.rep),.int .u32 (((l0.tombs).getD (n3:Int).toNat default).actor.inc),.int .u64 (((l0.tombs).getD (n3:Int).toNat default).seq)]) ty38.choose_spec.2 rfl rfl) (zb rfl)) (sk (sk (sk (sk (sk st0))))) ?_
     refine yP hF (fun v76 hv76 hF=>?_)
     refine vc rfl (z7 rfl rfl rfl) (fun hb=>zC rfl rfl rfl (zo (zn (gk (gk (gk (gk vC)))) hb) (zo (zn (gk (gk (gk (gk (gk yq))))) hb) zw)) (.cons (zb rfl) (.cons (zb rfl) .nil))) (fun hb=>ok74 (hv76 hb)) (sk (sk (sk (sk (sk st1))))) ?_
     refine zB rfl (z7 rfl rfl rfl) (fun hb=>xT rfl (zn (gk (gk (gk (gk (gk yF))))) hb) rfl) (sk (sk (sk (sk (sk xg))))) ?_
     refine zB rfl rfl (fun hb=>zM rfl (zn (gk (gk (gk (gk vm)))) hb) (gk (gk (gk (gk (gk yW))))) rfl (zU (fun ht=>gT2 hb ht))) (sk (sk (sk (sk (sk wa))))) ?_
     refine zq rfl rfl (zM rfl (gk (gk (gk (gk wO)))) rfl (gk (gk (gk (gk (gk xu))))) (z8 (fun ht=>gF ht))) (sk (sk (sk (sk (sk yC))))) ?_
     refine yo ?_
     refine zj ?_
     refine zN (gk (gk (gk (gk (gk yx))))) hF (fun hc77 hF=>?_) (fun hc77 hF=>?_)
     ·refine zk (zd ?_)
      refine zc rfl (zi rfl rfl (zb rfl)) xg ?_
      refine ze (zj (zI ?_))
      refine zG ?_
      refine zx ?_
      refine yd ?_
      obtain rfl:=Option.some.inj hF
      replace hF:=hK3
      refine zG ?_
      refine zx ?_
      obtain rfl:=Option.some.inj hF
      refine zz rfl (zD yW zF) (zA (leV.refl _) rfl ?_)
      exact ⟨rfl,rfl⟩
     ·refine zK (yg (zj (zd ?_)))
      refine zc rfl (zf rfl yV (zb rfl)) (sk (sk (sk (sk xy)))) ?_
      refine zc rfl (zy rfl (gk (gk (gk (gk xq)))) rfl rfl) (sk (sk (sk (sk xF)))) ?_
      refine zc rfl (zi rfl (gk (gk (gk (gk xC)))) (zb rfl)) xD ?_
      refine ze (yH ?_)
      obtain rfl:=Option.some.inj hF
      exact ⟨(),hl3,hK3,wk.le (by exact (.drop (.eq (.d4 (.cons (leV.of_eq (ve (by omega) (by omega))) (.d16 (.d16 (.d16 (.d16 (.d16 (.d16 (.d16 (.d16 (.d16 (.d16 (.d16 (.d16 (.d4 (.drop (.drop leL.nil))))))))))))))))))))⟩
    ·refine yU ?_
     refine zZ ?_
     refine zW ?_
     refine zX ?_
     refine zj (zk (zd ?_))
     refine zc rfl (zi rfl rfl (zb rfl)) xg ?_
     refine ze (zj (zI ?_))
     obtain rfl:=Option.some.inj hF
     refine zz rfl (zD yW zF) (zA (leV.refl _) rfl ?_)
     exact ⟨rfl,rfl⟩
/-! varve/varveref07.may -/
theorem ok16N (n:Nat):∀ {t0:(List GNode)} {deep1:Int} {res:Bool} {h:AH} , qg n t0 deep1=some res→Spec Tryz.prog 16 [.sl 3 (t0.map GNode.row),.int .i64 deep1] h (fun rr hh=>rr=.bool res∧hh=h):=by
 induction n with
 | zero=>intro t0 deep1 res h  hF;simp [qg] at hF
 | succ n ih =>
  intro t0 deep1 res h  hF
  unfold qg at hF
  refine zt Tryz.func16 rfl (by kernel_rfl) (env:=[.sl 3 (t0.map GNode.row),.int .i64 deep1,za,za,za,za,za,za,za,za,za,za,za,za,za,za,za,za,za,za,za,za,za,za,za,za,za,za,za,za,za,za,za,za,za,za,za,za,za,za,za,za,za,za,za,za,za,za,za,za,za,za,za,za,za,za,za,za,za,za,za,za,za,za,za,za,za,za,za,za,za,za,za,za,za,za,za,za,za,za,za,za,za,za,za,za,za,za,za,za,za,za,za,za,za]) (by rfl) ?_
  refine zk (zd ?_)
  refine zc rfl (zi rfl rfl (zb rfl)) yC ?_
  refine ze (zj (zk (zk (zd ?_))))
  refine zc rfl (zi rfl rfl (zb rfl)) xw ?_
  refine ze (zj (zR ?_))
  refine yu (fun (n1:Nat) (s1:Unit)=>yQ [2,3,4,6,7,8,9,10,11,12,13,14,15,16,17,18,19,20,21,22,23,24,25,26,27,28,29,30,31,32,33,34,35,36,37,38,39,40,41,42,43,44,45,46,47,48,49,50,51,52,53,54,55,56,57,58,59,60,61,62,63,64,65,66,67,68,69,70,71,72,73,74,75,76,77,78,79,80,81,82,83,84,85,86,87,88,89,90,91,92,93,94] [(5,.int .i64 (n1:Int))]) (fun s1=>h.ext [] []) hF (fun _ _=>by simp only [yQ,upd,List.set_cons_succ,List.set_cons_zero];try rfl) (wk.le (by exact (.eq (.eq (.drop (.drop (.drop (.cons (leV.of_eq rfl) (.d16 (.d16 (.d16 (.d16 (.d16 (.d4 (.d4 (.drop leL.nil)))))))))))))))) ?_
  intro n1 s1 hi1 hF
  refine zk (zk (zd ?_))
  refine zc rfl (zf rfl yR (zb rfl)) xU ?_
  refine zc rfl (zf rfl yq (zb rfl)) wy ?_
  refine ya rfl (zS rfl rfl rfl rfl xl xQ yb) yJ fun hn30=>?_
  replace hn30:=xB hn30
  refine zc rfl (zy rfl xp yD rfl) yN ?_
  refine ze (zj ?_)
  refine yL yy hF (fun x1 o1 hl1 hx1 hF hK1=>?_) (fun hF=>?_)
  ·refine zK (zj (zk (zR (zk (zd ?_)))))
   refine zc rfl (zf rfl yq (zb rfl)) yZ ?_
   refine zc rfl (zf rfl yR (zb rfl)) y6 ?_
   refine zc rfl (xO rfl xl yS yY va (yO hx1) (GNode.row_eq _)) xj ?_
   refine zc rfl (ye rfl ty59.choose_spec.1 xh (zH (cs':=[.str x1.name,.sl 9 (x1.leaves.map GLeaf.row),.sl 3 (x1.subs.map GNode.row)]) ty59.choose_spec.2 rfl rfl) (zb rfl)) xy ?_
   refine zc rfl (xe (n:=0) rfl ze59 rfl) xD ?_
   refine zc rfl (yf (cs':=[.str x1.name,.sl 9 (x1.leaves.map GLeaf.row),.sl 3 (x1.subs.map GNode.row)]) rfl ty59.choose_spec.1 yV xq (zb rfl) rfl rfl rfl rfl rfl) rfl ?_
   refine ze (zj (zk (zk ?_)))
   refine yK [] [] trivial mixed (by kernel_rfl) ?_
   refine zq rfl rfl (zf rfl yF (zb rfl)) xF ?_
   refine zq rfl rfl (zy rfl xC rfl rfl) xN ?_
   refine zq rfl rfl (zf rfl xL (zb rfl)) x8 ?_
   refine zB rfl rfl (fun hb=>zg rfl fo59x0 yV rfl) wg ?_
   refine zB rfl rfl (fun hb=>zu rfl ty9 (zn wb hb) rfl (zr rfl) (zb rfl)) wo ?_
   refine yP hF (fun v31 hv31 hF=>?_)
   refine vc rfl rfl (fun hb=>zC rfl rfl rfl (zo (zn wl hb) zw) (.cons (zb rfl) .nil)) (fun hb=>ok35 (hv31 hb)) we ?_
   refine zB rfl rfl (fun hb=>xT rfl (zn x4 hb) rfl) wi ?_
   refine zq rfl rfl (zM rfl x9 rfl wh (z8 (fun ht=>gF ht))) wt ?_
   refine zq rfl rfl (zf rfl wp (zb rfl)) wQ ?_
   refine zB rfl rfl (fun hb=>zf rfl yR (zb rfl)) wY ?_
   refine zB rfl rfl (fun hb=>zy rfl (zn wU hb) rfl rfl) wX ?_
   refine zB rfl rfl (fun hb=>zf rfl (zn wT hb) (zb rfl)) vi ?_
   refine zB rfl (z7 rfl rfl rfl) (fun hb=>zf rfl yq (zb rfl)) vh ?_
   refine zB rfl (z7 rfl rfl rfl) (fun hb=>zf rfl yR (zb rfl)) vg ?_
   refine zB rfl (z7 rfl rfl rfl) (fun hb=>zy rfl (zn vl hb) rfl rfl) vz ?_
   refine wJ hF (fun hg32 hF=>?_)
   refine zB rfl (z7 rfl rfl rfl) (fun hb=>qK default rfl xl (zn vE hb) (zn vk hb) va (hg32 hb) (GNode.row_eq _)) vw ?_
   refine zB rfl (z7 rfl rfl rfl) (fun hb=>zg rfl fo59x0 (zn vD hb) rfl) vu ?_
   refine zB rfl (z7 rfl rfl rfl) (fun hb=>ye rfl ty9 (zn vj hb) (zr rfl) (zb rfl)) vt ?_
   refine zB rfl (z7 rfl rfl rfl) (fun hb=>zg rfl fo59x0 yV rfl) vf ?_
   refine zB rfl (z7 rfl rfl rfl) (fun hb=>zu rfl ty9 (zn vb hb) rfl (zr rfl) (zb rfl)) vr ?_
   refine zB rfl (z7 rfl rfl rfl) (fun hb=>zy rfl (zn vC hb) (zn vB hb) rfl) vN ?_
   refine zB rfl rfl (fun hb=>zM rfl (zn vm hb) vQ rfl (zU (fun ht=>gT2 hb ht))) vM ?_
   refine zq rfl rfl (zM rfl wO rfl vJ (z8 (fun ht=>gF ht))) (sk st0) ?_
   refine zq rfl rfl (zf rfl (gk yq) (zb rfl)) (sk st1) ?_
   refine zB rfl rfl (fun hb=>zg rfl x6 yV rfl) (sk xg) ?_
   refine zB rfl rfl (fun hb=>zu rfl ty57 (zn (gk yW) hb) rfl (zr rfl) (zb rfl)) (sk wa) ?_
   refine draw_glen rfl rfl (fun hb=>zS rfl rfl rfl rfl wn (zn (gk xu) hb) yb) (sk yC) ?_
   refine zB rfl rfl (fun hb=>zy rfl (zn (gk yx) hb) rfl rfl) (sk xw) ?_
   refine zB rfl rfl (fun hb=>zf rfl (zn (gk yR) hb) (zb rfl)) (sk xD) ?_
   refine zB rfl (z7 rfl rfl rfl) (fun hb=>zg rfl fo59x2 yV rfl) (sk xM) ?_
   refine zB rfl (z7 rfl rfl rfl) (fun hb=>zu rfl ty23 (zn (gk xE) hb) rfl (zr rfl) (zb rfl)) (sk xU) ?_
   refine draw_glen rfl (z7 rfl rfl rfl) (fun hb=>zS rfl rfl rfl rfl xl (zn (gk xp) hb) yb) (sk wy) ?_
   refine zB rfl (z7 rfl rfl rfl) (fun hb=>zy rfl (zn (gk xQ) hb) rfl rfl) (sk yJ) ?_
   refine zB rfl rfl (fun hb=>zM rfl (zn (gk yV) hb) (gk yD) rfl (zU (fun ht=>gT2 hb ht))) (sk yN) ?_
   refine zq rfl rfl (zM rfl (gk yF) rfl (gk yy) (z8 (fun ht=>gF ht))) (sk yX) ?_
   refine zq rfl rfl (zf rfl (gk yM) (zb rfl)) (sk y4) ?_
   refine zB rfl rfl (fun hb=>zg rfl fo59x2 yV rfl) (sk yZ) ?_
   refine zB rfl rfl (fun hb=>zu rfl ty23 (zn (gk yS) hb) rfl (zr rfl) (zb rfl)) (sk y6) ?_
   refine zB rfl rfl (fun hb=>zf rfl yF (zb rfl)) (sk xj) ?_
   refine zB rfl rfl (fun hb=>zy rfl (zn (gk xh) hb) rfl rfl) (sk xy) ?_
   refine yP hF (fun v35 hv35 hF=>?_)
   refine vc rfl rfl (fun hb=>zC rfl rfl rfl (zo (zn (gk yY) hb) (zo (zn (gk xq) hb) zw)) (.cons (zb rfl) (.cons (zb rfl) .nil))) (fun hb=>ih (hv35 hb)) (sk xF) ?_
   refine zB rfl rfl (fun hb=>xT rfl (zn (gk xC) hb) rfl) (sk xN) ?_
   refine zq rfl rfl (zM rfl (gk yE) rfl (gk xL) (z8 (fun ht=>gF ht))) (sk x8) ?_
   refine yo ?_
   refine zj ?_
   refine zN (gk x9) hF (fun hc36 hF=>?_) (fun hc36 hF=>?_)
   ·refine zk (zd ?_)
    refine zc rfl (zi rfl rfl (zb rfl)) yC ?_
    refine ze (zj (zI (zx ?_)))
    refine zG ?_
    refine zx ?_
    refine yd ?_
    obtain rfl:=Option.some.inj hF
    replace hF:=hK1
    refine zG ?_
    refine zx ?_
    obtain rfl:=Option.some.inj hF
    refine zz rfl (zD yx zF) (zA (leV.refl _) rfl ?_)
    exact ⟨rfl,rfl⟩
   ·refine zK (zj (zk (zd ?_)))
    refine zc rfl (zi rfl rfl (zb rfl)) xM ?_
    refine ze (zj (zR ?_))
    refine yu (fun (n2:Nat) (s2:Unit)=>yQ [2,3,4,8,9,10,11,12,13,14,15,16,17,18,19,20,21,22,23,24,25,26,27,28,29,30,31,32,33,34,35,36,37,38,39,40,41,42,43,44,45,46,47,48,49,50,51,52,53,54,55,56,57,58,59,60,61,62,63,64,65,66,67,68,69,70,71,72,73,74,75,76,77,78,79,80,81,82,83,84,85,86,87,88,89,90,91,92,93,94] [(7,.int .i64 (n2:Int))]) (fun s2=>h.ext [.cells [.str x1.name,.sl 9 (x1.leaves.map GLeaf.row),.sl 3 (x1.subs.map GNode.row)]] []) hF (fun _ _=>by simp only [yQ,upd,List.set_cons_succ,List.set_cons_zero];try rfl) (wk.le (by exact (.eq (.eq (.drop (.drop (.drop (.eq (.eq (.cons (leV.of_eq rfl) (.d16 (.d16 (.d16 (.d16 (.d16 (.d4 (.drop (.drop (.drop leL.nil))))))))))))))))))) ?_
    intro n2 s2 hi2 hF
    refine zk (zk (zd ?_))
    refine zc rfl (zf rfl xE (zb rfl)) (sk wg) ?_
    refine zc rfl (zg rfl x6 yV rfl) (sk wo) ?_
    refine zc rfl (zu rfl ty57 (gk wl) rfl (zr rfl) (zb rfl)) (sk we) ?_
    refine ya rfl (zS rfl rfl rfl rfl wn (gk x4) yb) (sk wi) fun hn49=>?_
    replace hn49:=xB hn49
    refine zc rfl (zy rfl (gk wb) (gk wh) rfl) (sk wt) ?_
    refine ze (zj ?_)
    refine yL (gk wp) hF (fun x2 o2 hl2 hx2 hF hK2=>?_) (fun hF=>?_)
    ·refine zK (zj (zk (zR (zk ?_))))
     refine yK [5] [] trivial mixed (by kernel_rfl) ?_
     refine zq rfl rfl (zg rfl x6 yV rfl) (sk wX) ?_
     refine zq rfl rfl (zu rfl ty57 (gk wT) rfl (zr rfl) (zb rfl)) (sk vi) ?_
     refine zq rfl rfl (zf rfl xE (zb rfl)) (sk vh) ?_
     refine zq rfl rfl (yk rfl wn (gk vm) (gk vE) va (yO hx2)) (sk vg) ?_
     refine zq rfl rfl (ye rfl ty42.choose_spec.1 (gk vl) (zH (cs':=[.int .u8 x2.typ,.int .i64 x2.n,.int .u64 x2.time,.int .u8 x2.dot.actor.rep,.int .u32 x2.dot.actor.inc,.int .u64 x2.dot.seq,.str x2.text,.sl 5 (x2.items.map GItem.row),.sl 3 (x2.tombs.map GDot.row)]) ty42.choose_spec.2 rfl rfl) (zb rfl)) (sk vz) ?_
     refine zQ hF (fun v50 hv50 hF=>?_)
     refine yv rfl rfl (fun _=>zC rfl rfl rfl (zo (gk vk) zw) (.cons (zb rfl) .nil)) (by rintro _ ⟨B2,T2,rfl,hk2⟩;exact ok36 hv50) (sk vw) ?_
     refine zq rfl rfl (xT rfl (gk vD) rfl) (sk vu) ?_
     refine zq rfl rfl (zf rfl (gk vj) (zb rfl)) (sk vt) ?_
     refine zB rfl rfl (fun hb=>zf rfl xE (zb rfl)) (sk vf) ?_
     refine zB rfl rfl (fun hb=>zy rfl (zn (gk vb) hb) rfl rfl) (sk vr) ?_
     refine zB rfl rfl (fun hb=>zf rfl (zn (gk vB) hb) (zb rfl)) (sk vN) ?_
     refine zB rfl (z7 rfl rfl rfl) (fun hb=>zg rfl x6 yV rfl) (sk vM) ?_
     refine zB rfl (z7 rfl rfl rfl) (fun hb=>zu rfl ty57 (zn (gk vJ) hb) rfl (zr rfl) (zb rfl)) (sk (sk st0)) ?_
     refine zB rfl (z7 rfl rfl rfl) (fun hb=>zf rfl xE (zb rfl)) (sk (sk st1)) ?_
     refine zB rfl (z7 rfl rfl rfl) (fun hb=>zy rfl (zn (gk (gk yF)) hb) rfl rfl) (sk (sk xg)) ?_
     refine wJ hF (fun hg51 hF=>?_)
     refine zB rfl (z7 rfl rfl rfl) (fun hb=>xP default rfl wn (zn (gk (gk yq)) hb) (zn (gk (gk yW)) hb) va (hg51 hb)) (sk (sk wa)) ?_
     refine zB rfl (z7 rfl rfl rfl) (fun hb=>zg rfl xY (zn (gk (gk xu)) hb) rfl) (sk (sk yC)) ?_
     refine zB rfl (z7 rfl rfl rfl) (fun hb=>ye rfl ty5 (zn (gk (gk yx)) hb) (zr rfl) (zb rfl)) (sk (sk xw)) ?_
     refine zB rfl (z7 rfl rfl rfl) (fun hb=>zg rfl x6 yV rfl) (sk (sk xD)) ?_
     refine zB rfl (z7 rfl rfl rfl) (fun hb=>zu rfl ty57 (zn (gk (gk yV)) hb) rfl (zr rfl) (zb rfl)) (sk (sk xM)) ?_
     refine zB rfl (z7 rfl rfl rfl) (fun hb=>zf rfl xE (zb rfl)) (sk (sk xU)) ?_
     refine wJ hF (fun hg52 hF=>?_)
     refine zB rfl (z7 rfl rfl rfl) (fun hb=>xP default rfl wn (zn (gk (gk xE)) hb) (zn (gk (gk xp)) hb) va (hg52 hb)) (sk (sk wy)) ?_
     refine zB rfl (z7 rfl rfl rfl) (fun hb=>zg rfl xY (zn (gk (gk xQ)) hb) rfl) (sk (sk yJ)) ?_
     refine zB rfl (z7 rfl rfl rfl) (fun hb=>ye rfl ty5 (zn (gk (gk yD)) hb) (zr rfl) (zb rfl)) (sk (sk yN)) ?_
     refine zB rfl (z7 rfl rfl rfl) (fun hb=>zy rfl (zn (gk (gk yR)) hb) (zn (gk (gk yy)) hb) rfl) (sk (sk yX)) ?_
     refine zB rfl rfl (fun hb=>zM rfl (zn (gk vQ) hb) (gk (gk yM)) rfl (zU (fun ht=>gT2 hb ht))) (sk (sk y4)) ?_
     refine zq rfl rfl (zM rfl (gk vC) rfl (gk (gk yE)) (z8 (fun ht=>gF ht))) (sk (sk yZ)) ?_
     refine yo ?_
     refine zj ?_
     refine zN (gk (gk yS)) hF (fun hc53 hF=>?_) (fun hc53 hF=>?_)
     ·refine zk (zd ?_)
      refine zc rfl (zi rfl rfl (zb rfl)) yC ?_
      refine ze (zj (zI ?_))
      refine zG ?_
      refine zx ?_
      refine yd ?_
      obtain rfl:=Option.some.inj hF
      replace hF:=hK2
      refine zG ?_
      refine zG ?_
      refine zx ?_
      refine yd ?_
      obtain rfl:=Option.some.inj hF
      replace hF:=hK1
      refine zG ?_
      refine zx ?_
      obtain rfl:=Option.some.inj hF
      refine zz rfl (zD yx zF) (zA (leV.refl _) rfl ?_)
      exact ⟨rfl,rfl⟩
     ·refine zK (yg (zj (zd ?_)))
      refine zc rfl (zf rfl xE (zb rfl)) (sk wQ) ?_
      refine zc rfl (zy rfl (gk wO) rfl rfl) (sk wY) ?_
      refine zc rfl (zi rfl (gk wU) (zb rfl)) xM ?_
      refine ze (yH ?_)
      obtain rfl:=Option.some.inj hF
      exact ⟨(),hl2,hK2,wk.le (by exact (.eq (.eq (.drop (.drop (.drop (.eq (.eq (.cons (leV.of_eq (ve (by omega) (by omega))) (.d16 (.d16 (.d16 (.d16 (.d16 (.d4 (.drop (.drop (.drop leL.nil))))))))))))))))))⟩
    ·refine yU ?_
     refine zZ ?_
     refine zW ?_
     refine zX ?_
     refine yg (zj (zd ?_))
     refine zc rfl (zf rfl yR (zb rfl)) yX ?_
     refine zc rfl (zy rfl yM rfl rfl) y4 ?_
     refine zc rfl (zi rfl yE (zb rfl)) xw ?_
     refine ze (yH ?_)
     obtain rfl:=Option.some.inj hF
     exact ⟨(),hl1,hK1,wk.trans (wk.le (by exact (.eq (.eq (.drop (.drop (.drop (.cons (leV.of_eq (ve (by omega) (by omega))) (.d16 (.d16 (.d16 (.d16 (.d16 (.d4 (.d4 (.drop leL.nil)))))))))))))))) (xJ (by simp [yi,AV.low]) rfl rfl (by simp [Blk.low,yi,AV.low]))⟩
  ·refine yU ?_
   refine zZ ?_
   refine zW ?_
   refine zX ?_
   refine zj (zk (zd ?_))
   refine zc rfl (zi rfl rfl (zb rfl)) yC ?_
   refine ze (zj (zI ?_))
   obtain rfl:=Option.some.inj hF
   refine zz rfl (zD yx zF) (zA (leV.refl _) rfl ?_)
   exact ⟨rfl,rfl⟩
theorem ok16 {t0:(List GNode)} {deep1:Int} {res:Bool} {h:AH}  (hF:ref07Xmay t0 deep1=some res):Spec Tryz.prog 16 [.sl 3 (t0.map GNode.row),.int .i64 deep1] h (fun rr hh=>rr=.bool res∧hh=h):=by
 obtain ⟨n,hn⟩:=anyN_is hF
 exact ok16N n  hn
/-! varve/varveref07.May -/
theorem ok5 {t0:(List GNode)} {res:Bool} {h:AH}  (hF:ref07May t0=some res):Spec Tryz.prog 5 [.sl 3 (t0.map GNode.row)] h (fun rr hh=>rr=.bool res∧hh=h):=by
 unfold ref07May at hF
 refine zt Tryz.func5 rfl (by kernel_rfl) (env:=[.sl 3 (t0.map GNode.row),za,za,za,za]) (by rfl) ?_
 refine zk (zd ?_)
 refine zc rfl (zi rfl rfl (zb rfl)) xg ?_
 refine ze (zj (zk (zd ?_)))
 refine zc rfl (zf rfl yq (zb rfl)) wa ?_
 refine zQ hF (fun v1 hv1 hF=>?_)
 refine zL rfl (zC rfl rfl rfl (zo xu (zo rfl zw)) (.cons (zb rfl) (.cons (zb rfl) .nil))) (ok16 hv1) yC ?_
 refine zc rfl (zi rfl yx (zb rfl)) xg ?_
 refine ze (zj (zI ?_))
 obtain rfl:=Option.some.inj hF
 refine zz rfl (zD yW zF) (zA (leV.refl _) rfl ?_)
 exact ⟨rfl,rfl⟩
/-! varve/paths.parts -/
theorem ok17 {p0:(List zJ)} {res:((List zJ)×Bool)} {h:AH}  (hF:qU p0=some res):Spec Tryz.prog 17 [.sl 1 (p0.map zP)] h (fun rr hh=>rr=.tup [.sl 1 (res.1.map zP),.bool res.2]∧hh=h):=by
 unfold qU at hF
 refine zt Tryz.func17 rfl (by kernel_rfl) (env:=[.sl 1 (p0.map zP),za,za,za,za,za,za,za,za,za,za,za,za,za,za,za,za,za,za,za,za,za]) (by rfl) ?_
 refine zk (zd ?_)
 refine zc rfl (zi rfl rfl (xi wD)) xg ?_
 refine zc rfl (zi rfl rfl (zb rfl)) wa ?_
 refine ze (zj (zk (zk (zd ?_))))
 refine zc rfl (zf rfl yq (zb rfl)) xw ?_
 refine ya rfl (zS rfl rfl rfl rfl wD yR yb) xD fun hn1=>?_
 replace hn1:=xB hn1
 refine zc rfl (zi rfl yV (zb rfl)) yC ?_
 refine ze (zj (zk (zd ?_)))
 refine zc rfl (zf rfl yx (zb rfl)) xM ?_
 refine zc rfl (zy rfl xE rfl rfl) xU ?_
 refine zc rfl (zf rfl xp (zb rfl)) wy ?_
 refine zp rfl (fun hb=>zf rfl yq (zb rfl)) yJ ?_
 refine zp rfl (fun hb=>zf rfl yx (zb rfl)) yN ?_
 refine zp rfl (fun hb=>zy rfl (zn yy hb) rfl rfl) yX ?_
 refine wJ hF (fun hg2 hF=>?_)
 refine zp rfl (fun hb=>xP default rfl wD (zn yD hb) (zn yM hb) va (hg2 hb)) y4 ?_
 refine zp rfl (fun hb=>ye rfl ty9 (zn yE hb) (zr rfl) (zb rfl)) yZ ?_
 refine zp rfl (fun hb=>zy rfl (zn yS hb) rfl rfl) y6 ?_
 refine zc rfl (zM rfl xQ yY rfl (zU (fun ht=>gT ht))) xj ?_
 refine ze (zj ?_)
 refine zN xh hF (fun hc3 hF=>?_) (fun hc3 hF=>?_)
 ·refine zk (zd ?_)
  refine zc rfl (zf rfl yq (zb rfl)) xy ?_
  refine zc rfl (zf rfl yx (zb rfl)) xF ?_
  refine zc rfl (zy rfl xC rfl rfl) xN ?_
  refine zQ hF (fun m4 hm4 hF=>?_)
  refine zc rfl (s_slcSl rfl wD xq (.inl rfl) .none (.some xL) hm4) x8 ?_
  refine zc rfl (zi rfl x9 (zb rfl)) xg ?_
  refine zc rfl (zi rfl rfl (zb rfl)) wa ?_
  refine ze (zj (zI (zx ?_)))
  obtain rfl:=Option.some.inj hF
  refine qC rfl (zD yW (zD xu zF)) (zA (leV.refl _) rfl ?_)
  exact ⟨rfl,rfl⟩
 ·refine zK (zj (zk (zd ?_)))
  refine zc rfl (zf rfl yq (zb rfl)) wg ?_
  refine zc rfl (zi rfl wb (zb rfl)) xg ?_
  refine zc rfl (zi rfl rfl (zb rfl)) wa ?_
  refine ze (zj (zI ?_))
  obtain rfl:=Option.some.inj hF
  refine qC rfl (zD yW (zD xu zF)) (zA (leV.refl _) rfl ?_)
  exact ⟨rfl,rfl⟩
/-! varve/op.IsName 1 -/
theorem ok37 {r0:Int} {res:Bool} {h:AH}  (hF:opIsNameC1 r0=some res):Spec Tryz.prog 37 [.int .i32 r0] h (fun rr hh=>rr=.bool res∧hh=h):=by
 unfold opIsNameC1 at hF
 refine zt Tryz.func37 rfl (by kernel_rfl) (env:=[.int .i32 r0,za,za,za,za,za,za,za,za,za,za,za,za,za,za,za,za,za,za,za,za,za,za,za,za]) (by rfl) ?_
 refine zk (zd ?_)
 refine zc rfl (zi rfl rfl (zb rfl)) xg ?_
 refine ze (zj (zk (zd ?_)))
 refine zc rfl (zf rfl yq (zb rfl)) wa ?_
 refine zc rfl (zy rfl xu rfl rfl) yC ?_
 refine zc rfl (zf rfl yx (zb rfl)) xw ?_
 refine zp rfl (fun hb=>zf rfl yq (zb rfl)) xD ?_
 refine zp rfl (fun hb=>zy rfl (zn yV hb) rfl rfl) xM ?_
 refine zc rfl (zM rfl yR rfl xE (z8 (fun ht=>gF ht))) xU ?_
 refine zc rfl (zf rfl xp (zb rfl)) wy ?_
 refine zp rfl (fun hb=>zf rfl yq (zb rfl)) yJ ?_
 refine zp rfl (fun hb=>zy rfl (zn yD hb) rfl rfl) yN ?_
 refine zp rfl (fun hb=>zf rfl (zn yy hb) (zb rfl)) yX ?_
 refine zp (z7 rfl rfl rfl) (fun hb=>zf rfl yq (zb rfl)) y4 ?_
 refine zp (z7 rfl rfl rfl) (fun hb=>zy rfl (zn yE hb) rfl rfl) yZ ?_
 refine zp rfl (fun hb=>zM rfl (zn yM hb) rfl yS (z8 (fun ht=>gF2 hb ht))) y6 ?_
 refine zc rfl (zM rfl xQ yY rfl (zU (fun ht=>gT ht))) xj ?_
 refine zc rfl (zf rfl xh (zb rfl)) xy ?_
 refine zp rfl (fun hb=>zf rfl yq (zb rfl)) xF ?_
 refine zp rfl (fun hb=>zy rfl (zn xC hb) rfl rfl) xN ?_
 refine zp rfl (fun hb=>zf rfl (zn xL hb) (zb rfl)) x8 ?_
 refine zp (z7 rfl rfl rfl) (fun hb=>zf rfl yq (zb rfl)) wg ?_
 refine zp (z7 rfl rfl rfl) (fun hb=>zy rfl (zn wb hb) rfl rfl) wo ?_
 refine zp rfl (fun hb=>zM rfl (zn x9 hb) rfl wl (z8 (fun ht=>gF2 hb ht))) we ?_
 refine zc rfl (zM rfl xq x4 rfl (zU (fun ht=>gT ht))) wi ?_
 refine zc rfl (zi rfl wh (zb rfl)) xg ?_
 refine ze (zj (zI ?_))
 obtain rfl:=Option.some.inj hF
 refine zz rfl (zD yW zF) (zA (leV.refl _) rfl ?_)
 exact ⟨rfl,rfl⟩
/-! strings.indexFunc -/
theorem ok92 {s0:zJ} {f1:(Int→Option Bool)} {ff1:FuncId} {af1 kf1:List AV} {truth2:Bool} {res:Int} {h:AH} (hf1:∀ x0 v (L:List Blk) (M:List Nat),f1 x0=some v→Spec Tryz.prog ff1 (af1++[.int .i32 x0]++kf1) (h.ext L M) (fun rr hh=>rr=.bool v∧hh=h.ext L M)) (hF:qb s0 f1 truth2=some res):Spec Tryz.prog 92 [.str s0,.fn (.func ff1) af1 kf1,.bool truth2] h (fun rr hh=>rr=.int .i64 res∧hh=h):=by
 unfold qb at hF
 refine yG Tryz.func92 rfl (by kernel_rfl) (env:=[.str s0,.fn (.func ff1) af1 kf1,.bool truth2,za,za,za,za,za,za,za,za,za,za,za,za,za,za,za,za,za,za]) (by rfl) (fun hlow hC=>?_)
 simp only [yi,AV.low,Bool.and_eq_true,Bool.true_and,and_true] at hlow
 have hlaf1:∀ n m,h.blks.length≤n→h.toks.length≤m→yi n m af1=true:=fun n m h1 h2=>xd h1 h2 _ (by simp [hlow])
 have hlkf1:∀ n m,h.blks.length≤n→h.toks.length≤m→yi n m kf1=true:=fun n m h1 h2=>xd h1 h2 _ (by simp [hlow])
 refine zk (zd ?_)
 refine zc rfl (zi rfl rfl (zb rfl)) xD ?_
 refine ze (zj (zk (zk (zd ?_))))
 refine zc rfl (zf rfl yq (zb rfl)) wy ?_
 refine zc rfl (e_range (n:=0) rfl ty9 xQ rfl) yJ ?_
 refine ze (zj (zR ?_))
 refine r_loopWF (fun (s1:Nat)=>yQ [0,3,4,5,6,7,8,9,11,12,13,14,15,16,17,18,19,20] []) (fun s1=>h.ext [.siter s0 s1] []) hF (fun _=>by simp only [yQ,upd,List.set_cons_succ,List.set_cons_zero];try rfl) (wk.le (by exact (.drop (.eq (.eq (.d4 (.drop (.drop (.drop (.eq (.d4 (.d4 (.drop (.drop leL.nil)))))))))))))) ?_
 intro n1 s1 o1 hF hK1
 refine zk (zd ?_)
 refine ops_nextF rfl rfl yD rfl yN yN hF (fun hp5 hF=>?_) (fun hF=>?_)
 ·refine zc rfl (yl rfl yy rfl (zb rfl)) yX ?_
  refine ze (zj (zk ?_))
  refine r_cond yM (fun _=>?_) (fun hh=>by cases hh)
  refine zK (zj (zR (zk (zd ?_))))
  refine zc rfl (yl rfl yy rfl (zb rfl)) y4 ?_
  refine zc rfl (yl rfl yy rfl (zb rfl)) yZ ?_
  refine zc rfl (zi rfl yE (zb rfl)) xM ?_
  refine zc rfl (zi rfl yS (zb rfl)) xU ?_
  refine ze (zj (zk (zd ?_)))
  refine zc rfl (zf rfl yF (zb rfl)) y6 ?_
  refine zc rfl (zf rfl xp (zb rfl)) xj ?_
  refine zQ hF (fun v6 hv6 hF=>?_)
  refine zL rfl (s_callC rfl rfl yY (zo xh zw) (.cons (zb rfl) .nil) rfl) (hf1 _ _ _ _ hv6) xy ?_
  refine zc rfl (zf rfl yW (zb rfl)) xF ?_
  refine zc rfl (zy rfl xq xC (bin_boolE ty4)) xN ?_
  refine ze (zj ?_)
  refine zN xL hF (fun hc7 hF=>?_) (fun hc7 hF=>?_)
  ·refine zk (zd ?_)
   refine zc rfl (zf rfl xE (zb rfl)) x8 ?_
   refine zc rfl (zi rfl x9 (zb rfl)) xD ?_
   refine ze (zj (zI ?_))
   refine zG ?_
   refine yd ?_
   obtain rfl:=Option.some.inj hF
   replace hF:=hK1
   refine zG ?_
   refine zx ?_
   obtain rfl:=Option.some.inj hF
   refine zz rfl (zD yV zF) (zA (leV.refl _) rfl ?_)
   exact ⟨rfl,rfl⟩
  ·refine zK (yg (yH ?_))
   obtain rfl:=Option.some.inj hF
   exact ⟨(s1+(dec s0 s1).2),hK1,wk.le (by exact (.drop (.eq (.eq (.d4 (.drop (.drop (.drop (.eq (.d4 (.d4 (.drop (.drop leL.nil)))))))))))))⟩
 ·refine zc rfl (yl rfl yy rfl (zb rfl)) yX ?_
  refine ze (zj (zk ?_))
  refine r_cond yM (fun hh=>by cases hh) (fun _=>?_)
  refine yU ?_
  refine zZ ?_
  refine zW ?_
  obtain rfl:=Option.some.inj hF
  replace hF:=hK1
  refine zX ?_
  refine zj (zk (zd ?_))
  refine zc rfl (zi rfl rfl (zb rfl)) xD ?_
  refine ze (zj (zI ?_))
  obtain rfl:=Option.some.inj hF
  refine zz rfl (zD yV zF) (zA (leV.refl _) rfl ?_)
  exact ⟨rfl,rfl⟩
/-! strings.IndexFunc -/
theorem ok75 {s0:zJ} {f1:(Int→Option Bool)} {ff1:FuncId} {af1 kf1:List AV} {res:Int} {h:AH} (hf1:∀ x0 v (L:List Blk) (M:List Nat),f1 x0=some v→Spec Tryz.prog ff1 (af1++[.int .i32 x0]++kf1) (h.ext L M) (fun rr hh=>rr=.bool v∧hh=h.ext L M)) (hF:qs s0 f1=some res):Spec Tryz.prog 75 [.str s0,.fn (.func ff1) af1 kf1] h (fun rr hh=>rr=.int .i64 res∧hh=h):=by
 unfold qs at hF
 refine yG Tryz.func75 rfl (by kernel_rfl) (env:=[.str s0,.fn (.func ff1) af1 kf1,za,za,za,za,za,za]) (by rfl) (fun hlow hC=>?_)
 simp only [yi,AV.low,Bool.and_eq_true,Bool.true_and,and_true] at hlow
 have hlaf1:∀ n m,h.blks.length≤n→h.toks.length≤m→yi n m af1=true:=fun n m h1 h2=>xd h1 h2 _ (by simp [hlow])
 have hlkf1:∀ n m,h.blks.length≤n→h.toks.length≤m→yi n m kf1=true:=fun n m h1 h2=>xd h1 h2 _ (by simp [hlow])
 refine zk (zd ?_)
 refine zc rfl (zi rfl rfl (zb rfl)) yC ?_
 refine ze (zj (zk (zd ?_)))
 refine zc rfl (zf rfl yq (zb rfl)) xw ?_
 refine zc rfl (zf rfl yF (zb rfl)) xD ?_
 refine zQ hF (fun v1 hv1 hF=>?_)
 refine zL rfl (zC rfl rfl rfl (zo yR (zo yV (zo rfl zw))) (.cons (zb rfl) (.cons (zb rfl) (.cons (zb rfl) .nil)))) (ok92 (fun x0 v L M hv=>by rw [wr];exact hf1 x0 v _ _ hv) hv1) xM ?_
 refine zc rfl (zi rfl xE (zb rfl)) yC ?_
 refine ze (zj (zI ?_))
 obtain rfl:=Option.some.inj hF
 refine zz rfl (zD yx zF) (zA (leV.refl _) rfl ?_)
 exact ⟨rfl,rfl⟩
/-! strings.ContainsFunc -/
theorem ok38 {s0:zJ} {f1:(Int→Option Bool)} {ff1:FuncId} {af1 kf1:List AV} {res:Bool} {h:AH} (hf1:∀ x0 v (L:List Blk) (M:List Nat),f1 x0=some v→Spec Tryz.prog ff1 (af1++[.int .i32 x0]++kf1) (h.ext L M) (fun rr hh=>rr=.bool v∧hh=h.ext L M)) (hF:wz s0 f1=some res):Spec Tryz.prog 38 [.str s0,.fn (.func ff1) af1 kf1] h (fun rr hh=>rr=.bool res∧hh=h):=by
 unfold wz at hF
 refine yG Tryz.func38 rfl (by kernel_rfl) (env:=[.str s0,.fn (.func ff1) af1 kf1,za,za,za,za,za,za,za]) (by rfl) (fun hlow hC=>?_)
 simp only [yi,AV.low,Bool.and_eq_true,Bool.true_and,and_true] at hlow
 have hlaf1:∀ n m,h.blks.length≤n→h.toks.length≤m→yi n m af1=true:=fun n m h1 h2=>xd h1 h2 _ (by simp [hlow])
 have hlkf1:∀ n m,h.blks.length≤n→h.toks.length≤m→yi n m kf1=true:=fun n m h1 h2=>xd h1 h2 _ (by simp [hlow])
 refine zk (zd ?_)
 refine zc rfl (zi rfl rfl (zb rfl)) yC ?_
 refine ze (zj (zk (zd ?_)))
 refine zc rfl (zf rfl yq (zb rfl)) xw ?_
 refine zc rfl (zf rfl yF (zb rfl)) xD ?_
 refine zQ hF (fun v1 hv1 hF=>?_)
 refine zL rfl (zC rfl rfl rfl (zo yR (zo yV zw)) (.cons (zb rfl) (.cons (zb rfl) .nil))) (ok75 (fun x0 v L M hv=>by rw [wr];exact hf1 x0 v _ _ hv) hv1) xM ?_
 refine zc rfl (zy rfl xE rfl rfl) xU ?_
 refine zc rfl (zi rfl xp (zb rfl)) yC ?_
 refine ze (zj (zI ?_))
 obtain rfl:=Option.some.inj hF
 refine zz rfl (zD yx zF) (zA (leV.refl _) rfl ?_)
 exact ⟨rfl,rfl⟩
/-! varve/op.IsName -/
theorem ok19 {s0:zJ} {res:Bool} {h:AH}  (hF:opIsName s0=some res):Spec Tryz.prog 19 [.str s0] h (fun rr hh=>rr=.bool res∧hh=h):=by
 unfold opIsName at hF
 refine zt Tryz.func19 rfl (by kernel_rfl) (env:=[.str s0,za,za,za,za,za,za,za,za,za,za,za,za,za,za,za,za,za]) (by rfl) ?_
 refine zk (zd ?_)
 refine zc rfl (zi rfl rfl (zb rfl)) xg ?_
 refine ze (zj (zk (zd ?_)))
 refine zc rfl (zi rfl rfl (zb rfl)) wa ?_
 refine ze (zj (zk (zd ?_)))
 refine zc rfl (zf rfl yq (zb rfl)) yC ?_
 refine ya rfl (vU rfl rfl rfl rfl ty9 yx) xw fun hn1=>?_
 replace hn1:=xB hn1
 refine zc rfl (zy rfl yR rfl rfl) xD ?_
 refine zc rfl (zf rfl yV (zb rfl)) xM ?_
 refine zp rfl (fun hb=>zf rfl yq (zb rfl)) xU ?_
 refine xA rfl (fun hb=>vU rfl rfl rfl rfl ty9 (zn xp hb)) wy fun hn2=>?_
 refine zp rfl (fun hb=>zy rfl (zn xQ hb) rfl rfl) yJ ?_
 refine zc rfl (zM rfl xE yD rfl (zU (fun ht=>gT ht))) yN ?_
 refine zc rfl (zf rfl yy (zb rfl)) yX ?_
 refine zp rfl (fun hb=>zf rfl yq (zb rfl)) y4 ?_
 refine zp rfl (fun hb=>zf rfl xu (zb rfl)) yZ ?_
 refine yP hF (fun v3 hv3 hF=>?_)
 refine yj rfl (fun hb=>zC rfl rfl rfl (zo (zn yE hb) (zo (zn yS hb) zw)) (.cons (zb rfl) (.cons (zb rfl) .nil))) (fun hb=>ok38 (fun _ v L M hv=>ok37  hv) (hv3 hb)) y6 ?_
 refine zp rfl (fun hb=>xT rfl (zn yY hb) rfl) xj ?_
 refine zc rfl (zM rfl yM xh rfl (zU (fun ht=>gT ht))) xy ?_
 refine zc rfl (zi rfl xq (zb rfl)) xg ?_
 refine ze (zj (zI ?_))
 obtain rfl:=Option.some.inj hF
 refine zz rfl (zD yW zF) (zA (leV.refl _) rfl ?_)
 exact ⟨rfl,rfl⟩
/-! varve/paths.MayPattern 1 -/
theorem ok18 {s0:zJ} {res:Bool} {h:AH}  (hF:qc s0=some res):Spec Tryz.prog 18 [.str s0] h (fun rr hh=>rr=.bool res∧hh=h):=by
 unfold qc at hF
 refine zt Tryz.func18 rfl (by kernel_rfl) (env:=[.str s0,za,za,za,za,za,za,za,za,za]) (by rfl) ?_
 refine zk (zd ?_)
 refine zc rfl (zi rfl rfl (zb rfl)) xg ?_
 refine ze (zj (zk (zd ?_)))
 refine zc rfl (zf rfl yq (zb rfl)) wa ?_
 refine zc rfl (zy rfl xu rfl rfl) yC ?_
 refine zc rfl (zf rfl yx (zb rfl)) xw ?_
 refine zp rfl (fun hb=>zf rfl yq (zb rfl)) xD ?_
 refine yP hF (fun v1 hv1 hF=>?_)
 refine yj rfl (fun hb=>zC rfl rfl rfl (zo (zn yV hb) zw) (.cons (zb rfl) .nil)) (fun hb=>ok19 (hv1 hb)) xM ?_
 refine zp rfl (fun hb=>xT rfl (zn xE hb) rfl) xU ?_
 refine zc rfl (zM rfl yR xp rfl (zU (fun ht=>gT ht))) wy ?_
 refine zc rfl (zi rfl xQ (zb rfl)) xg ?_
 refine ze (zj (zI ?_))
 obtain rfl:=Option.some.inj hF
 refine zz rfl (zD yW zF) (zA (leV.refl _) rfl ?_)
 exact ⟨rfl,rfl⟩
/-! slices.IndexFunc[[]string,string] -/
theorem ok39 {s0:(List zJ)} {f1:(zJ→Option Bool)} {ff1:FuncId} {af1 kf1:List AV} {res:Int} {h:AH} (hf1:∀ x0 v (L:List Blk) (M:List Nat),f1 x0=some v→Spec Tryz.prog ff1 (af1++[.str x0]++kf1) (h.ext L M) (fun rr hh=>rr=.bool v∧hh=h.ext L M)) (hF:wP s0 f1=some res):Spec Tryz.prog 39 [.sl 1 (s0.map zP),.fn (.func ff1) af1 kf1] h (fun rr hh=>rr=.int .i64 res∧hh=h):=by
 unfold wP at hF
 refine yG Tryz.func39 rfl (by kernel_rfl) (env:=[.sl 1 (s0.map zP),.fn (.func ff1) af1 kf1,za,za,za,za,za,za,za,za,za,za,za,za,za,za,za,za,za]) (by rfl) (fun hlow hC=>?_)
 simp only [yi,AV.low,Bool.and_eq_true,Bool.true_and,and_true] at hlow
 have hlaf1:∀ n m,h.blks.length≤n→h.toks.length≤m→yi n m af1=true:=fun n m h1 h2=>xd h1 h2 _ (by simp [hlow])
 have hlkf1:∀ n m,h.blks.length≤n→h.toks.length≤m→yi n m kf1=true:=fun n m h1 h2=>xd h1 h2 _ (by simp [hlow])
 refine zk (zd ?_)
 refine zc rfl (zi rfl rfl (zb rfl)) yC ?_
 refine ze (zj (zk (zk (zd ?_))))
 refine zc rfl (zf rfl yq (zb rfl)) xD ?_
 refine ya rfl (zS rfl rfl rfl rfl wD yV yb) xM fun hn1=>?_
 replace hn1:=xB hn1
 refine zc rfl (zf rfl rfl (zb rfl)) xU ?_
 refine ze (zj (zR ?_))
 refine yu (fun (n1:Nat) (s1:Unit)=>yQ [2,3,4,5,6,9,10,11,12,13,14,15,16,17,18] [(8,.int .i64 (n1:Int))]) (fun s1=>h.ext [] []) hF (fun _ _=>by simp only [yQ,upd,List.set_cons_succ,List.set_cons_zero];try rfl) (wk.le (by exact (.eq (.eq (.d4 (.drop (.eq (.cons (leV.of_eq rfl) (.d4 (.d4 (.drop (.drop leL.nil)))))))))))) ?_
 intro n1 s1 hi1 hF
 refine zk (zd ?_)
 refine zc rfl (zy rfl xp xE rfl) wy ?_
 refine ze (zj (zk ?_))
 refine yL xQ hF (fun x1 o1 hl1 hx1 hF hK1=>?_) (fun hF=>?_)
 ·refine zK (zj (zk (zR (zk (zd ?_)))))
  refine zc rfl (zf rfl xp (zb rfl)) yJ ?_
  refine zc rfl (zi rfl yD (zb rfl)) xw ?_
  refine ze (zj (zk (zd ?_)))
  refine zc rfl (zf rfl yF (zb rfl)) yN ?_
  refine zc rfl (zf rfl yq (zb rfl)) yX ?_
  refine zc rfl (zf rfl yR (zb rfl)) y4 ?_
  refine zc rfl (yk rfl wD yM yE va (yO hx1)) yZ ?_
  refine zc rfl (ye rfl ty9 yS (zr rfl) (zb rfl)) y6 ?_
  refine zQ hF (fun v7 hv7 hF=>?_)
  refine zL rfl (s_callC rfl rfl yy (zo yY zw) (.cons (zb rfl) .nil) rfl) (hf1 _ _ _ _ hv7) xj ?_
  refine ze (zj ?_)
  refine zN xh hF (fun hc8 hF=>?_) (fun hc8 hF=>?_)
  ·refine zk (zd ?_)
   refine zc rfl (zf rfl yR (zb rfl)) xy ?_
   refine zc rfl (zi rfl xq (zb rfl)) yC ?_
   refine ze (zj (zI ?_))
   refine zG ?_
   refine zx ?_
   refine yd ?_
   obtain rfl:=Option.some.inj hF
   replace hF:=hK1
   refine zG ?_
   refine zx ?_
   obtain rfl:=Option.some.inj hF
   refine zz rfl (zD yx zF) (zA (leV.refl _) rfl ?_)
   exact ⟨rfl,rfl⟩
  ·refine zK (yg (zj (zd ?_)))
   refine zc rfl (zy rfl xp rfl rfl) xF ?_
   refine zc rfl (zf rfl xC (zb rfl)) xU ?_
   refine ze (yH ?_)
   obtain rfl:=Option.some.inj hF
   exact ⟨(),hl1,hK1,wk.le (by exact (.eq (.eq (.d4 (.drop (.eq (.cons (leV.of_eq (ve (by omega) (by omega))) (.d4 (.d4 (.drop (.drop leL.nil)))))))))))⟩
 ·refine yU ?_
  refine zZ ?_
  refine zW ?_
  refine zX ?_
  refine zj (zk (zd ?_))
  refine zc rfl (zi rfl rfl (zb rfl)) yC ?_
  refine ze (zj (zI ?_))
  obtain rfl:=Option.some.inj hF
  refine zz rfl (zD yx zF) (zA (leV.refl _) rfl ?_)
  exact ⟨rfl,rfl⟩
/-! slices.ContainsFunc[[]string,string] -/
theorem ok20 {s0:(List zJ)} {f1:(zJ→Option Bool)} {ff1:FuncId} {af1 kf1:List AV} {res:Bool} {h:AH} (hf1:∀ x0 v (L:List Blk) (M:List Nat),f1 x0=some v→Spec Tryz.prog ff1 (af1++[.str x0]++kf1) (h.ext L M) (fun rr hh=>rr=.bool v∧hh=h.ext L M)) (hF:xk s0 f1=some res):Spec Tryz.prog 20 [.sl 1 (s0.map zP),.fn (.func ff1) af1 kf1] h (fun rr hh=>rr=.bool res∧hh=h):=by
 unfold xk at hF
 refine yG Tryz.func20 rfl (by kernel_rfl) (env:=[.sl 1 (s0.map zP),.fn (.func ff1) af1 kf1,za,za,za,za,za,za,za]) (by rfl) (fun hlow hC=>?_)
 simp only [yi,AV.low,Bool.and_eq_true,Bool.true_and,and_true] at hlow
 have hlaf1:∀ n m,h.blks.length≤n→h.toks.length≤m→yi n m af1=true:=fun n m h1 h2=>xd h1 h2 _ (by simp [hlow])
 have hlkf1:∀ n m,h.blks.length≤n→h.toks.length≤m→yi n m kf1=true:=fun n m h1 h2=>xd h1 h2 _ (by simp [hlow])
 refine zk (zd ?_)
 refine zc rfl (zi rfl rfl (zb rfl)) yC ?_
 refine ze (zj (zk (zd ?_)))
 refine zc rfl (zf rfl yq (zb rfl)) xw ?_
 refine zc rfl (zf rfl yF (zb rfl)) xD ?_
 refine zQ hF (fun v1 hv1 hF=>?_)
 refine zL rfl (zC rfl rfl rfl (zo yR (zo yV zw)) (.cons (zb rfl) (.cons (zb rfl) .nil))) (ok39 (fun x0 v L M hv=>by rw [wr];exact hf1 x0 v _ _ hv) hv1) xM ?_
 refine zc rfl (zy rfl xE rfl rfl) xU ?_
 refine zc rfl (zi rfl xp (zb rfl)) yC ?_
 refine ze (zj (zI ?_))
 obtain rfl:=Option.some.inj hF
 refine zz rfl (zD yx zF) (zA (leV.refl _) rfl ?_)
 exact ⟨rfl,rfl⟩
/-! varve/paths.MayPattern -/
theorem ok6 {p0:(List zJ)} {res:Bool} {h:AH}  (hF:x5 p0=some res):Spec Tryz.prog 6 [.sl 1 (p0.map zP)] h (fun rr hh=>rr=.bool res∧hh=h):=by
 unfold x5 at hF
 refine zt Tryz.func6 rfl (by kernel_rfl) (env:=[.sl 1 (p0.map zP),za,za,za,za,za,za,za,za,za,za,za,za,za,za,za,za,za,za,za,za,za,za,za,za,za,za,za]) (by rfl) ?_
 refine zk (zd ?_)
 refine zc rfl (zi rfl rfl (zb rfl)) xg ?_
 refine ze (zj (zk (zd ?_)))
 refine zc rfl (zf rfl yq (zb rfl)) xM ?_
 refine zQ hF (fun v1 hv1 hF=>?_)
 refine zL rfl (zC rfl rfl rfl (zo xE zw) (.cons (zb rfl) .nil)) (ok17 hv1) xU ?_
 refine zc rfl (zf rfl xp (zb rfl)) xD ?_
 refine zc rfl (yl rfl yV rfl (zb rfl)) wy ?_
 refine zc rfl (yl rfl yV rfl (zb rfl)) yJ ?_
 refine zc rfl (zi rfl xQ (zb rfl)) wa ?_
 refine zc rfl (zi rfl yD (zb rfl)) yC ?_
 refine ze (zj (zk (zd ?_)))
 refine zc rfl (zi rfl rfl (zb rfl)) xw ?_
 refine ze (zj (zk (zd ?_)))
 refine zc rfl (zf rfl xu (zb rfl)) yN ?_
 refine ya rfl (zS rfl rfl rfl rfl wD yy yb) yX fun hn2=>?_
 replace hn2:=xB hn2
 refine zc rfl (zy rfl yM rfl rfl) y4 ?_
 refine zc rfl (zf rfl yE (zb rfl)) yZ ?_
 refine zp rfl (fun hb=>zf rfl yx (zb rfl)) y6 ?_
 refine zc rfl (zM rfl yS rfl yY (z8 (fun ht=>gF ht))) xj ?_
 refine zc rfl (zf rfl xh (zb rfl)) xy ?_
 refine zp rfl (fun hb=>zf rfl xu (zb rfl)) xF ?_
 refine xA rfl (fun hb=>zS rfl rfl rfl rfl wD (zn xC hb) yb) xN fun hn3=>?_
 refine zp rfl (fun hb=>zy rfl (zn xL hb) rfl rfl) x8 ?_
 refine zc rfl (zM rfl xq x9 rfl (zU (fun ht=>gT ht))) wg ?_
 refine zc rfl (zf rfl wb (zb rfl)) wo ?_
 refine zp rfl (fun hb=>zf rfl xu (zb rfl)) we ?_
 refine zp rfl (fun hb=>zf rfl yR (zb rfl)) wi ?_
 refine yP hF (fun v4 hv4 hF=>?_)
 refine yj rfl (fun hb=>zC rfl rfl rfl (zo (zn x4 hb) (zo (zn wh hb) zw)) (.cons (zb rfl) (.cons (zb rfl) .nil))) (fun hb=>ok20 (fun _ v L M hv=>ok18  hv) (hv4 hb)) wt ?_
 refine zp rfl (fun hb=>xT rfl (zn wp hb) rfl) wQ ?_
 refine zc rfl (zM rfl wl wO rfl (zU (fun ht=>gT ht))) wY ?_
 refine zc rfl (zi rfl wU (zb rfl)) xg ?_
 refine ze (zj (zI ?_))
 obtain rfl:=Option.some.inj hF
 refine zz rfl (zD yW zF) (zA (leV.refl _) rfl ?_)
 exact ⟨rfl,rfl⟩
/-! cmp.isNaN[uint8] -/
theorem ok90 {x0:Int} {res:Bool} {h:AH}  (hF:qp x0=some res):Spec Tryz.prog 90 [.int .u8 x0] h (fun rr hh=>rr=.bool res∧hh=h):=by
 unfold qp at hF
 refine zt Tryz.func90 rfl (by kernel_rfl) (env:=[.int .u8 x0,za,za,za,za,za]) (by rfl) ?_
 refine zk (zd ?_)
 refine zc rfl (zi rfl rfl (zb rfl)) xg ?_
 refine ze (zj (zk (zd ?_)))
 refine zc rfl (zf rfl yq (zb rfl)) wa ?_
 refine zc rfl (zf rfl yq (zb rfl)) yC ?_
 refine zc rfl (zy rfl xu yx rfl) xw ?_
 refine zc rfl (zi rfl yR (zb rfl)) xg ?_
 refine ze (zj (zI ?_))
 obtain rfl:=Option.some.inj hF
 refine zz rfl (zD yW zF) (zA (leV.refl _) rfl ?_)
 exact ⟨rfl,rfl⟩
/-! cmp.Compare[uint8] -/
theorem ok66 {x0:Int} {y1:Int} {res:Int} {h:AH}  (hF:wx x0 y1=some res):Spec Tryz.prog 66 [.int .u8 x0,.int .u8 y1] h (fun rr hh=>rr=.int .i64 res∧hh=h):=by
 unfold wx at hF
 refine zt Tryz.func66 rfl (by kernel_rfl) (env:=[.int .u8 x0,.int .u8 y1,za,za,za,za,za,za,za,za,za,za,za,za,za,za,za,za,za,za]) (by rfl) ?_
 refine zk (zd ?_)
 refine zc rfl (zi rfl rfl (zb rfl)) yC ?_
 refine ze (zj (zk (zd ?_)))
 refine zc rfl (zf rfl yq (zb rfl)) xM ?_
 refine zQ hF (fun v1 hv1 hF=>?_)
 refine zL rfl (zC rfl rfl rfl (zo xE zw) (.cons (zb rfl) .nil)) (ok90 hv1) xU ?_
 refine zc rfl (zi rfl xp (zb rfl)) xw ?_
 refine ze (zj (zk (zd ?_)))
 refine zc rfl (zf rfl yF (zb rfl)) wy ?_
 refine zQ hF (fun v2 hv2 hF=>?_)
 refine zL rfl (zC rfl rfl rfl (zo xQ zw) (.cons (zb rfl) .nil)) (ok90 hv2) yJ ?_
 refine zc rfl (zi rfl yD (zb rfl)) xD ?_
 refine ze (zj (zk (zk (zd ?_))))
 refine zc rfl (zf rfl yR (zb rfl)) yN ?_
 refine ze (zj ?_)
 refine zN yy hF (fun hc3 hF=>?_) (fun hc3 hF=>?_)
 ·refine zk (zk (zd ?_))
  refine zc rfl (zf rfl yV (zb rfl)) yX ?_
  refine ze (zj ?_)
  refine zN yM hF (fun hc4 hF=>?_) (fun hc4 hF=>?_)
  ·refine zk (zd ?_)
   refine zc rfl (zi rfl rfl (zb rfl)) yC ?_
   refine ze (zj (zI (zx (zx ?_))))
   obtain rfl:=Option.some.inj hF
   refine zz rfl (zD yx zF) (zA (leV.refl _) rfl ?_)
   exact ⟨rfl,rfl⟩
  ·refine zK (zj (zk (zd ?_)))
   refine zc rfl (zi rfl rfl (zb rfl)) yC ?_
   refine ze (zj (zI (zx ?_)))
   obtain rfl:=Option.some.inj hF
   refine zz rfl (zD yx zF) (zA (leV.refl _) rfl ?_)
   exact ⟨rfl,rfl⟩
 ·refine zK (zj (zk (zk (zd ?_))))
  refine zc rfl (zf rfl yV (zb rfl)) y4 ?_
  refine ze (zj ?_)
  refine zN yE hF (fun hc5 hF=>?_) (fun hc5 hF=>?_)
  ·refine zk (zd ?_)
   refine zc rfl (zi rfl rfl (zb rfl)) yC ?_
   refine ze (zj (zI (zx ?_)))
   obtain rfl:=Option.some.inj hF
   refine zz rfl (zD yx zF) (zA (leV.refl _) rfl ?_)
   exact ⟨rfl,rfl⟩
  ·refine zK (zj (zk (zk (zd ?_))))
   refine zc rfl (zf rfl yq (zb rfl)) yZ ?_
   refine zc rfl (zf rfl yF (zb rfl)) y6 ?_
   refine zc rfl (zy rfl yS yY rfl) xj ?_
   refine ze (zj ?_)
   refine zN xh hF (fun hc6 hF=>?_) (fun hc6 hF=>?_)
   ·refine zk (zd ?_)
    refine zc rfl (zi rfl rfl (zb rfl)) yC ?_
    refine ze (zj (zI (zx ?_)))
    obtain rfl:=Option.some.inj hF
    refine zz rfl (zD yx zF) (zA (leV.refl _) rfl ?_)
    exact ⟨rfl,rfl⟩
   ·refine zK (zj (zk (zk (zd ?_))))
    refine zc rfl (zf rfl yq (zb rfl)) xy ?_
    refine zc rfl (zf rfl yF (zb rfl)) xF ?_
    refine zc rfl (zy rfl xq xC rfl) xN ?_
    refine ze (zj ?_)
    refine zN xL hF (fun hc7 hF=>?_) (fun hc7 hF=>?_)
    ·refine zk (zd ?_)
     refine zc rfl (zi rfl rfl (zb rfl)) yC ?_
     refine ze (zj (zI (zx ?_)))
     obtain rfl:=Option.some.inj hF
     refine zz rfl (zD yx zF) (zA (leV.refl _) rfl ?_)
     exact ⟨rfl,rfl⟩
    ·refine zK (zj (zk (zd ?_)))
     refine zc rfl (zi rfl rfl (zb rfl)) yC ?_
     refine ze (zj (zI ?_))
     obtain rfl:=Option.some.inj hF
     refine zz rfl (zD yx zF) (zA (leV.refl _) rfl ?_)
     exact ⟨rfl,rfl⟩
/-! cmp.Or[int] -/
theorem ok84 {vals0:(List Int)} {res:Int} {h:AH}  (hF:cmpOrInt vals0=some res):Spec Tryz.prog 84 [.sl 1 (vals0.map (intRow .i64))] h (fun rr hh=>rr=.int .i64 res∧hh=h):=by
 unfold cmpOrInt at hF
 refine zt Tryz.func84 rfl (by kernel_rfl) (env:=[.sl 1 (vals0.map (intRow .i64)),za,za,za,za,za,za,za,za,za,za,za,za,za,za,za,za,za]) (by rfl) ?_
 refine zk (zd ?_)
 refine zc rfl (zi rfl rfl (zb rfl)) xg ?_
 refine ze (zj (zk (zd ?_)))
 refine zc rfl (zi rfl rfl (zb rfl)) wa ?_
 refine ze (zj (zk (zk (zd ?_))))
 refine zc rfl (zf rfl yq (zb rfl)) xD ?_
 refine ya rfl (zS rfl rfl rfl rfl el149 yV yb) xM fun hn1=>?_
 replace hn1:=xB hn1
 refine zc rfl (zf rfl rfl (zb rfl)) xU ?_
 refine ze (zj (zR ?_))
 refine yu (fun (n1:Nat) (s1:Unit)=>yQ [0,1,2,4,5,9,10,11,12,13,14,15,16,17] [(8,.int .i64 (n1:Int))]) (fun s1=>h.ext [] []) hF (fun _ _=>by simp only [yQ,upd,List.set_cons_succ,List.set_cons_zero];try rfl) (wk.le (by exact (.drop (.drop (.drop (.eq (.drop (.drop (.eq (.eq (.cons (leV.of_eq rfl) (.d4 (.d4 (.drop leL.nil)))))))))))))) ?_
 intro n1 s1 hi1 hF
 refine zk (zd ?_)
 refine zc rfl (zy rfl xp xE rfl) wy ?_
 refine ze (zj (zk ?_))
 refine yL xQ hF (fun x1 o1 hl1 hx1 hF hK1=>?_) (fun hF=>?_)
 ·refine zK (zj (zk (zR (zk (zd ?_)))))
  refine zc rfl (yk rfl el149 yV xp va (yO hx1)) yJ ?_
  refine zc rfl (ye rfl ty3 yD (zr rfl) (zb rfl)) yN ?_
  refine zc rfl (zi rfl yy (zb rfl)) xw ?_
  refine ze (zj (zk (zd ?_)))
  refine zc rfl (zf rfl yR (zb rfl)) yX ?_
  refine zc rfl (zf rfl xu (zb rfl)) y4 ?_
  refine zc rfl (zy rfl yM yE rfl) yZ ?_
  refine ze (zj ?_)
  refine zN yS hF (fun hc6 hF=>?_) (fun hc6 hF=>?_)
  ·refine zk (zd ?_)
   refine zc rfl (zf rfl yR (zb rfl)) y6 ?_
   refine zc rfl (zi rfl yY (zb rfl)) xg ?_
   refine ze (zj (zI ?_))
   refine zG ?_
   refine zx ?_
   refine yd ?_
   obtain rfl:=Option.some.inj hF
   replace hF:=hK1
   refine zG ?_
   refine zx ?_
   obtain rfl:=Option.some.inj hF
   refine zz rfl (zD yW zF) (zA (leV.refl _) rfl ?_)
   exact ⟨rfl,rfl⟩
  ·refine zK (yg (zj (zd ?_)))
   refine zc rfl (zy rfl xp rfl rfl) xj ?_
   refine zc rfl (zf rfl xh (zb rfl)) xU ?_
   refine ze (yH ?_)
   obtain rfl:=Option.some.inj hF
   exact ⟨(),hl1,hK1,wk.le (by exact (.drop (.drop (.drop (.eq (.drop (.drop (.eq (.eq (.cons (leV.of_eq (ve (by omega) (by omega))) (.d4 (.d4 (.drop leL.nil)))))))))))))⟩
 ·refine yU ?_
  refine zZ ?_
  refine zW ?_
  refine zX ?_
  refine zj (zk (zd ?_))
  refine zc rfl (zf rfl xu (zb rfl)) xy ?_
  refine zc rfl (zi rfl xq (zb rfl)) xg ?_
  refine ze (zj (zI ?_))
  obtain rfl:=Option.some.inj hF
  refine zz rfl (zD yW zF) (zA (leV.refl _) rfl ?_)
  exact ⟨rfl,rfl⟩
/-! cmp.isNaN[string] -/
theorem ok132 {x0:zJ} {res:Bool} {h:AH}  (hF:ww x0=some res):Spec Tryz.prog 132 [.str x0] h (fun rr hh=>rr=.bool res∧hh=h):=by
 unfold ww at hF
 refine zt Tryz.func132 rfl (by kernel_rfl) (env:=[.str x0,za,za,za,za,za]) (by rfl) ?_
 refine zk (zd ?_)
 refine zc rfl (zi rfl rfl (zb rfl)) xg ?_
 refine ze (zj (zk (zd ?_)))
 refine zc rfl (zf rfl yq (zb rfl)) wa ?_
 refine zc rfl (zf rfl yq (zb rfl)) yC ?_
 refine zc rfl (zy rfl xu yx rfl) xw ?_
 refine zc rfl (zi rfl yR (zb rfl)) xg ?_
 refine ze (zj (zI ?_))
 obtain rfl:=Option.some.inj hF
 refine zz rfl (zD yW zF) (zA (leV.refl _) rfl ?_)
 exact ⟨rfl,rfl⟩
/-! cmp.Compare[string] -/
theorem ok110 {x0:zJ} {y1:zJ} {res:Int} {h:AH}  (hF:xn x0 y1=some res):Spec Tryz.prog 110 [.str x0,.str y1] h (fun rr hh=>rr=.int .i64 res∧hh=h):=by
 unfold xn at hF
 refine zt Tryz.func110 rfl (by kernel_rfl) (env:=[.str x0,.str y1,za,za,za,za,za,za,za,za,za,za,za,za,za,za,za,za,za,za]) (by rfl) ?_
 refine zk (zd ?_)
 refine zc rfl (zi rfl rfl (zb rfl)) yC ?_
 refine ze (zj (zk (zd ?_)))
 refine zc rfl (zf rfl yq (zb rfl)) xM ?_
 refine zQ hF (fun v1 hv1 hF=>?_)
 refine zL rfl (zC rfl rfl rfl (zo xE zw) (.cons (zb rfl) .nil)) (ok132 hv1) xU ?_
 refine zc rfl (zi rfl xp (zb rfl)) xw ?_
 refine ze (zj (zk (zd ?_)))
 refine zc rfl (zf rfl yF (zb rfl)) wy ?_
 refine zQ hF (fun v2 hv2 hF=>?_)
 refine zL rfl (zC rfl rfl rfl (zo xQ zw) (.cons (zb rfl) .nil)) (ok132 hv2) yJ ?_
 refine zc rfl (zi rfl yD (zb rfl)) xD ?_
 refine ze (zj (zk (zk (zd ?_))))
 refine zc rfl (zf rfl yR (zb rfl)) yN ?_
 refine ze (zj ?_)
 refine zN yy hF (fun hc3 hF=>?_) (fun hc3 hF=>?_)
 ·refine zk (zk (zd ?_))
  refine zc rfl (zf rfl yV (zb rfl)) yX ?_
  refine ze (zj ?_)
  refine zN yM hF (fun hc4 hF=>?_) (fun hc4 hF=>?_)
  ·refine zk (zd ?_)
   refine zc rfl (zi rfl rfl (zb rfl)) yC ?_
   refine ze (zj (zI (zx (zx ?_))))
   obtain rfl:=Option.some.inj hF
   refine zz rfl (zD yx zF) (zA (leV.refl _) rfl ?_)
   exact ⟨rfl,rfl⟩
  ·refine zK (zj (zk (zd ?_)))
   refine zc rfl (zi rfl rfl (zb rfl)) yC ?_
   refine ze (zj (zI (zx ?_)))
   obtain rfl:=Option.some.inj hF
   refine zz rfl (zD yx zF) (zA (leV.refl _) rfl ?_)
   exact ⟨rfl,rfl⟩
 ·refine zK (zj (zk (zk (zd ?_))))
  refine zc rfl (zf rfl yV (zb rfl)) y4 ?_
  refine ze (zj ?_)
  refine zN yE hF (fun hc5 hF=>?_) (fun hc5 hF=>?_)
  ·refine zk (zd ?_)
   refine zc rfl (zi rfl rfl (zb rfl)) yC ?_
   refine ze (zj (zI (zx ?_)))
   obtain rfl:=Option.some.inj hF
   refine zz rfl (zD yx zF) (zA (leV.refl _) rfl ?_)
   exact ⟨rfl,rfl⟩
  ·refine zK (zj (zk (zk (zd ?_))))
   refine zc rfl (zf rfl yq (zb rfl)) yZ ?_
   refine zc rfl (zf rfl yF (zb rfl)) y6 ?_
   refine zc rfl (zy rfl yS yY rfl) xj ?_
   refine ze (zj ?_)
   refine zN xh hF (fun hc6 hF=>?_) (fun hc6 hF=>?_)
   ·refine zk (zd ?_)
    refine zc rfl (zi rfl rfl (zb rfl)) yC ?_
    refine ze (zj (zI (zx ?_)))
    obtain rfl:=Option.some.inj hF
    refine zz rfl (zD yx zF) (zA (leV.refl _) rfl ?_)
    exact ⟨rfl,rfl⟩
   ·refine zK (zj (zk (zk (zd ?_))))
    refine zc rfl (zf rfl yq (zb rfl)) xy ?_
    refine zc rfl (zf rfl yF (zb rfl)) xF ?_
    refine zc rfl (zy rfl xq xC rfl) xN ?_
    refine ze (zj ?_)
    refine zN xL hF (fun hc7 hF=>?_) (fun hc7 hF=>?_)
    ·refine zk (zd ?_)
     refine zc rfl (zi rfl rfl (zb rfl)) yC ?_
     refine ze (zj (zI (zx ?_)))
     obtain rfl:=Option.some.inj hF
     refine zz rfl (zD yx zF) (zA (leV.refl _) rfl ?_)
     exact ⟨rfl,rfl⟩
    ·refine zK (zj (zk (zd ?_)))
     refine zc rfl (zi rfl rfl (zb rfl)) yC ?_
     refine ze (zj (zI ?_))
     obtain rfl:=Option.some.inj hF
     refine zz rfl (zD yx zF) (zA (leV.refl _) rfl ?_)
     exact ⟨rfl,rfl⟩
/-! slices.Compare[[]string,string] -/
theorem ok85 {s10:(List zJ)} {s21:(List zJ)} {res:Int} {h:AH}  (hF:xG s10 s21=some res):Spec Tryz.prog 85 [.sl 1 (s10.map zP),.sl 1 (s21.map zP)] h (fun rr hh=>rr=.int .i64 res∧hh=h):=by
 unfold xG at hF
 refine zt Tryz.func85 rfl (by kernel_rfl) (env:=[.sl 1 (s10.map zP),.sl 1 (s21.map zP),za,za,za,za,za,za,za,za,za,za,za,za,za,za,za,za,za,za,za,za,za,za,za,za,za,za,za,za,za,za,za,za,za,za]) (by rfl) ?_
 refine zk (zd ?_)
 refine zc rfl (zi rfl rfl (zb rfl)) yC ?_
 refine ze (zj (zk (zk (zd ?_))))
 refine zc rfl (zf rfl yq (zb rfl)) wy ?_
 refine ya rfl (zS rfl rfl rfl rfl wD xQ yb) yJ fun hn1=>?_
 replace hn1:=xB hn1
 refine zc rfl (zf rfl rfl (zb rfl)) yN ?_
 refine ze (zj (zR ?_))
 refine yu (fun (n1:Nat) (s1:Unit)=>yQ [2,3,4,5,6,7,8,12,13,14,15,16,17,18,19,20,21,22,23,24,25,26,27,28,29,30,31,32,33,34,35] [(11,.int .i64 (n1:Int))]) (fun s1=>h.ext [] []) hF (fun _ _=>by simp only [yQ,upd,List.set_cons_succ,List.set_cons_zero];try rfl) (wk.le (by exact (.eq (.eq (.d4 (.drop (.drop (.drop (.eq (.eq (.cons (leV.of_eq rfl) (.d16 (.d4 (.d4 leL.nil)))))))))))))) ?_
 intro n1 s1 hi1 hF
 refine zk (zd ?_)
 refine zc rfl (zy rfl yy yD rfl) yX ?_
 refine ze (zj (zk ?_))
 refine yL yM hF (fun x1 o1 hl1 hx1 hF hK1=>?_) (fun hF=>?_)
 ·refine zK (zj (zk (zR (zk (zd ?_)))))
  refine zc rfl (zf rfl yy (zb rfl)) y4 ?_
  refine zc rfl (yk rfl wD xQ yy va (yO hx1)) yZ ?_
  refine zc rfl (ye rfl ty9 yS (zr rfl) (zb rfl)) y6 ?_
  refine zc rfl (zi rfl yE (zb rfl)) xw ?_
  refine zc rfl (zi rfl yY (zb rfl)) xD ?_
  refine ze (zj (zk (zk (zd ?_))))
  refine zc rfl (zf rfl yR (zb rfl)) xj ?_
  refine zc rfl (zf rfl yF (zb rfl)) xy ?_
  refine ya rfl (zS rfl rfl rfl rfl wD xq yb) xF fun hn10=>?_
  replace hn10:=xB hn10
  refine zc rfl (zy rfl xh xC rfl) xN ?_
  refine ze (zj ?_)
  refine zN xL hF (fun hc11 hF=>?_) (fun hc11 hF=>?_)
  ·refine zk (zd ?_)
   refine zc rfl (zi rfl rfl (zb rfl)) yC ?_
   refine ze (zj (zI (zx ?_)))
   refine zG ?_
   refine zx ?_
   refine yd ?_
   obtain rfl:=Option.some.inj hF
   replace hF:=hK1
   refine zG ?_
   refine zx ?_
   obtain rfl:=Option.some.inj hF
   refine zz rfl (zD yx zF) (zA (leV.refl _) rfl ?_)
   exact ⟨rfl,rfl⟩
  ·refine zK (zj (zk (zd ?_)))
   refine zc rfl (zf rfl yF (zb rfl)) x8 ?_
   refine zc rfl (zf rfl yR (zb rfl)) wg ?_
   refine zQ hF (fun y12 hy12 hF=>?_)
   refine zc rfl (yk rfl wD x9 wb va hy12) wo ?_
   refine zc rfl (ye rfl ty9 wl (zr rfl) (zb rfl)) we ?_
   refine zc rfl (zi rfl x4 (zb rfl)) xM ?_
   refine ze (zj (zk (zd ?_)))
   refine zc rfl (zf rfl yV (zb rfl)) wi ?_
   refine zc rfl (zf rfl xE (zb rfl)) wt ?_
   refine zQ hF (fun v13 hv13 hF=>?_)
   refine zL rfl (zC rfl rfl rfl (zo wh (zo wp zw)) (.cons (zb rfl) (.cons (zb rfl) .nil))) (ok110 hv13) wQ ?_
   refine zc rfl (zi rfl wO (zb rfl)) xU ?_
   refine ze (zj (zk (zd ?_)))
   refine zc rfl (zf rfl xp (zb rfl)) wY ?_
   refine zc rfl (zy rfl wU rfl rfl) wX ?_
   refine ze (zj ?_)
   refine zN wT hF (fun hc14 hF=>?_) (fun hc14 hF=>?_)
   ·refine zk (zd ?_)
    refine zc rfl (zf rfl xp (zb rfl)) vi ?_
    refine zc rfl (zi rfl vm (zb rfl)) yC ?_
    refine ze (zj (zI ?_))
    refine zG ?_
    refine zx ?_
    refine yd ?_
    obtain rfl:=Option.some.inj hF
    replace hF:=hK1
    refine zG ?_
    refine zx ?_
    obtain rfl:=Option.some.inj hF
    refine zz rfl (zD yx zF) (zA (leV.refl _) rfl ?_)
    exact ⟨rfl,rfl⟩
   ·refine zK (yg (zj (zd ?_)))
    refine zc rfl (zy rfl yy rfl rfl) vh ?_
    refine zc rfl (zf rfl vE (zb rfl)) yN ?_
    refine ze (yH ?_)
    obtain rfl:=Option.some.inj hF
    exact ⟨(),hl1,hK1,wk.le (by exact (.eq (.eq (.d4 (.drop (.drop (.drop (.eq (.eq (.cons (leV.of_eq (ve (by omega) (by omega))) (.d16 (.d4 (.d4 leL.nil)))))))))))))⟩
 ·refine yU ?_
  refine zZ ?_
  refine zW ?_
  refine zX ?_
  refine zj (zk (zk (zd ?_)))
  refine zc rfl (zf rfl yq (zb rfl)) vg ?_
  refine ya rfl (zS rfl rfl rfl rfl wD vl yb) vz fun hn15=>?_
  replace hn15:=xB hn15
  refine zc rfl (zf rfl yF (zb rfl)) vw ?_
  refine ya rfl (zS rfl rfl rfl rfl wD vD yb) vu fun hn16=>?_
  replace hn16:=xB hn16
  refine zc rfl (zy rfl vk vj rfl) vt ?_
  refine ze (zj ?_)
  refine zN vC hF (fun hc17 hF=>?_) (fun hc17 hF=>?_)
  ·refine zk (zd ?_)
   refine zc rfl (zi rfl rfl (zb rfl)) yC ?_
   refine ze (zj (zI (zx ?_)))
   obtain rfl:=Option.some.inj hF
   refine zz rfl (zD yx zF) (zA (leV.refl _) rfl ?_)
   exact ⟨rfl,rfl⟩
  ·refine zK (zj (zk (zd ?_)))
   refine zc rfl (zi rfl rfl (zb rfl)) yC ?_
   refine ze (zj (zI ?_))
   obtain rfl:=Option.some.inj hF
   refine zz rfl (zD yx zF) (zA (leV.refl _) rfl ?_)
   exact ⟨rfl,rfl⟩
/-! varve/diff.order -/
theorem ok46 {a0:GEdit} {b1:GEdit} {res:Int} {h:AH}  (hF:ql a0 b1=some res):Spec Tryz.prog 46 [.agg [.sl 1 (a0.path.map zP),.int .u8 a0.typ,.bool a0.had,.bool a0.has,.int .u8 a0.was.typ,.int .i64 a0.was.n,.int .u64 a0.was.time,.int .u8 a0.was.dot.actor.rep,.int .u32 a0.was.dot.actor.inc,.int .u64 a0.was.dot.seq,.str a0.was.text,.sl 5 (a0.was.items.map GItem.row),.sl 3 (a0.was.tombs.map GDot.row),.int .u8 a0.is.typ,.int .i64 a0.is.n,.int .u64 a0.is.time,.int .u8 a0.is.dot.actor.rep,.int .u32 a0.is.dot.actor.inc,.int .u64 a0.is.dot.seq,.str a0.is.text,.sl 5 (a0.is.items.map GItem.row),.sl 3 (a0.is.tombs.map GDot.row)],.agg [.sl 1 (b1.path.map zP),.int .u8 b1.typ,.bool b1.had,.bool b1.has,.int .u8 b1.was.typ,.int .i64 b1.was.n,.int .u64 b1.was.time,.int .u8 b1.was.dot.actor.rep,.int .u32 b1.was.dot.actor.inc,.int .u64 b1.was.dot.seq,.str b1.was.text,.sl 5 (b1.was.items.map GItem.row),.sl 3 (b1.was.tombs.map GDot.row),.int .u8 b1.is.typ,.int .i64 b1.is.n,.int .u64 b1.is.time,.int .u8 b1.is.dot.actor.rep,.int .u32 b1.is.dot.actor.inc,.int .u64 b1.is.dot.seq,.str b1.is.text,.sl 5 (b1.is.items.map GItem.row),.sl 3 (b1.is.tombs.map GDot.row)]] h (fun rr hh=>rr=.int .i64 res∧hh=h):=by
 unfold ql at hF
 refine zt Tryz.func46 rfl (by kernel_rfl) (env:=[.agg [.sl 1 (a0.path.map zP),.int .u8 a0.typ,.bool a0.had,.bool a0.has,.int .u8 a0.was.typ,.int .i64 a0.was.n,.int .u64 a0.was.time,.int .u8 a0.was.dot.actor.rep,.int .u32 a0.was.dot.actor.inc,.int .u64 a0.was.dot.seq,.str a0.was.text,.sl 5 (a0.was.items.map GItem.row),.sl 3 (a0.was.tombs.map GDot.row),.int .u8 a0.is.typ,.int .i64 a0.is.n,.int .u64 a0.is.time,.int .u8 a0.is.dot.actor.rep,.int .u32 a0.is.dot.actor.inc,.int .u64 a0.is.dot.seq,.str a0.is.text,.sl 5 (a0.is.items.map GItem.row),.sl 3 (a0.is.tombs.map GDot.row)],.agg [.sl 1 (b1.path.map zP),.int .u8 b1.typ,.bool b1.had,.bool b1.has,.int .u8 b1.was.typ,.int .i64 b1.was.n,.int .u64 b1.was.time,.int .u8 b1.was.dot.actor.rep,.int .u32 b1.was.dot.actor.inc,.int .u64 b1.was.dot.seq,.str b1.was.text,.sl 5 (b1.was.items.map GItem.row),.sl 3 (b1.was.tombs.map GDot.row),.int .u8 b1.is.typ,.int .i64 b1.is.n,.int .u64 b1.is.time,.int .u8 b1.is.dot.actor.rep,.int .u32 b1.is.dot.actor.inc,.int .u64 b1.is.dot.seq,.str b1.is.text,.sl 5 (b1.is.items.map GItem.row),.sl 3 (b1.is.tombs.map GDot.row)],za,za,za,za,za,za,za,za,za,za,za,za,za,za,za]) (by rfl) ?_
 refine zk (zd ?_)
 refine zc rfl (xr (n:=0) rfl yq (zb rfl) rfl rfl) xg ?_
 refine zc rfl (xr (n:=1) rfl yF (zb rfl) rfl rfl) wa ?_
 refine zc rfl (zi rfl rfl (zb rfl)) yC ?_
 refine ze (zj (zk ?_))
 refine yK [4,9,11] [] trivial mixed (by kernel_rfl) ?_
 refine zq rfl rfl (zg rfl fo44x0 yW rfl) xw ?_
 refine zq rfl rfl (zu rfl ty24 yR rfl (zr rfl) (zb rfl)) xD ?_
 refine zq rfl rfl (zg rfl fo44x0 xu rfl) xM ?_
 refine zq rfl rfl (zu rfl ty24 xE rfl (zr rfl) (zb rfl)) xU ?_
 refine zQ hF (fun v1 hv1 hF=>?_)
 refine yv rfl rfl (fun _=>zC rfl rfl rfl (zo yV (zo xp zw)) (.cons (zb rfl) (.cons (zb rfl) .nil))) (by rintro _ ⟨B2,T2,rfl,hk2⟩;exact ok85 hv1) wy ?_
 refine zq rfl rfl (zg rfl fo44x1 yW rfl) yJ ?_
 refine zq rfl rfl (zu rfl ty5 yD rfl (zr rfl) (zb rfl)) yN ?_
 refine zq rfl rfl (zg rfl fo44x1 xu rfl) yX ?_
 refine zq rfl rfl (zu rfl ty5 yM rfl (zr rfl) (zb rfl)) y4 ?_
 refine zQ hF (fun v2 hv2 hF=>?_)
 refine yv rfl rfl (fun _=>zC rfl rfl rfl (zo yy (zo yE zw)) (.cons (zb rfl) (.cons (zb rfl) .nil))) (by rintro _ ⟨B2,T2,rfl,hk2⟩;exact ok66 hv2) yZ ?_
 refine zq rfl rfl (yr (es:=([v1,v2]:List Int).map (intRow .i64)) rfl el149 ze3 rfl rfl (yh xQ (yh yS ym)) (.cons (zb rfl) (.cons (zb rfl) .nil)) rfl rfl rfl) y6 ?_
 refine zQ hF (fun v3 hv3 hF=>?_)
 refine yv rfl rfl (fun _=>zC rfl rfl rfl (zo yY zw) (.cons (zb rfl) .nil)) (by rintro _ ⟨B2,T2,rfl,hk2⟩;exact (ok84 hv3).le (.cons (leV.osl _ _ _) leL.nil)) xj ?_
 refine zq rfl rfl (zi rfl xh (zb rfl)) yC ?_
 refine yo ?_
 refine zj (zI ?_)
 obtain rfl:=Option.some.inj hF
 refine zz rfl (zD yx zF) (zA (leV.refl _) rfl ?_)
 exact ⟨rfl,rfl⟩
/-! slices.Equal[[]varve/api.Dot,varve/api.Dot] -/
theorem ok56 {s10:(List GDot)} {s21:(List GDot)} {res:Bool} {h:AH}  (hF:qf s10 s21=some res):Spec Tryz.prog 56 [.sl 3 (s10.map GDot.row),.sl 3 (s21.map GDot.row)] h (fun rr hh=>rr=.bool res∧hh=h):=by
 unfold qf at hF
 refine zt Tryz.func56 rfl (by kernel_rfl) (env:=[.sl 3 (s10.map GDot.row),.sl 3 (s21.map GDot.row),za,za,za,za,za,za,za,za,za,za,za,za,za,za,za,za,za,za,za,za,za,za,za,za]) (by rfl) ?_
 refine zk (zd ?_)
 refine zc rfl (zi rfl rfl (zb rfl)) yC ?_
 refine ze (zj (zk (zk (zd ?_))))
 refine zc rfl (zf rfl yq (zb rfl)) xD ?_
 refine ya rfl (zS rfl rfl rfl rfl el40 yV yb) xM fun hn1=>?_
 replace hn1:=xB hn1
 refine zc rfl (zf rfl yF (zb rfl)) xU ?_
 refine ya rfl (zS rfl rfl rfl rfl el40 xp yb) wy fun hn2=>?_
 replace hn2:=xB hn2
 refine zc rfl (zy rfl xE xQ rfl) yJ ?_
 refine ze (zj ?_)
 refine zN yD hF (fun hc3 hF=>?_) (fun hc3 hF=>?_)
 ·refine zk (zd ?_)
  refine zc rfl (zi rfl rfl (zb rfl)) yC ?_
  refine ze (zj (zI (zx ?_)))
  obtain rfl:=Option.some.inj hF
  refine zz rfl (zD yx zF) (zA (leV.refl _) rfl ?_)
  exact ⟨rfl,rfl⟩
 ·refine zK (zj (zk (zk (zd ?_))))
  refine zc rfl (zf rfl yq (zb rfl)) yN ?_
  refine ya rfl (zS rfl rfl rfl rfl el40 yy yb) yX fun hn4=>?_
  replace hn4:=xB hn4
  refine zc rfl (zf rfl rfl (zb rfl)) y4 ?_
  refine ze (zj (zR ?_))
  refine yu (fun (n1:Nat) (s1:Unit)=>yQ [2,3,4,5,6,7,8,9,10,11,14,15,16,17,18,19,20,21,22,23,24,25] [(13,.int .i64 (n1:Int))]) (fun s1=>h.ext [] []) hF (fun _ _=>by simp only [yQ,upd,List.set_cons_succ,List.set_cons_zero];try rfl) (wk.le (by exact (.eq (.eq (.d4 (.d4 (.drop (.drop (.eq (.cons (leV.of_eq rfl) (.d4 (.d4 (.d4 leL.nil))))))))))))) ?_
  intro n1 s1 hi1 hF
  refine zk (zd ?_)
  refine zc rfl (zy rfl yE yM rfl) yZ ?_
  refine ze (zj (zk ?_))
  refine yL yS hF (fun x1 o1 hl1 hx1 hF hK1=>?_) (fun hF=>?_)
  ·refine zK (zj (zk (zR (zk (zd ?_)))))
   refine zc rfl (zf rfl yE (zb rfl)) y6 ?_
   refine zc rfl (zi rfl yY (zb rfl)) xw ?_
   refine ze (zj (zk ?_))
   refine yK [] [] trivial mixed (by kernel_rfl) ?_
   refine zq rfl rfl (zf rfl yq (zb rfl)) xj ?_
   refine zq rfl rfl (zf rfl yR (zb rfl)) xy ?_
   refine zq rfl rfl (yk rfl el40 xh xq va (yO hx1)) xF ?_
   refine zq rfl rfl (ye rfl ty38.choose_spec.1 xC (zH (cs':=[.int .u8 x1.actor.rep,.int .u32 x1.actor.inc,.int .u64 x1.seq]) ty38.choose_spec.2 rfl rfl) (zb rfl)) xN ?_
   refine zq rfl rfl (zf rfl yF (zb rfl)) x8 ?_
   refine zq rfl rfl (zf rfl yR (zb rfl)) wg ?_
   refine zQ hF (fun y10 hy10 hF=>?_)
   refine zq rfl rfl (yk rfl el40 x9 wb va hy10) wo ?_
   refine zq rfl rfl (ye rfl ty38.choose_spec.1 wl (zH (cs':=[.int .u8 y10.actor.rep,.int .u32 y10.actor.inc,.int .u64 y10.seq]) ty38.choose_spec.2 rfl rfl) (zb rfl)) we ?_
   refine zq rfl rfl (zy rfl xL x4 (bin_ne pk38 rfl)) wi ?_
   refine yo ?_
   refine zj ?_
   refine zN wh hF (fun hc11 hF=>?_) (fun hc11 hF=>?_)
   ·refine zk (zd ?_)
    refine zc rfl (zi rfl rfl (zb rfl)) yC ?_
    refine ze (zj (zI ?_))
    refine zG ?_
    refine zx ?_
    refine yd ?_
    obtain rfl:=Option.some.inj hF
    replace hF:=hK1
    refine zG ?_
    refine zx ?_
    obtain rfl:=Option.some.inj hF
    refine zz rfl (zD yx zF) (zA (leV.refl _) rfl ?_)
    exact ⟨rfl,rfl⟩
   ·refine zK (yg (zj (zd ?_)))
    refine zc rfl (zy rfl yE rfl rfl) wt ?_
    refine zc rfl (zf rfl wp (zb rfl)) y4 ?_
    refine ze (yH ?_)
    obtain rfl:=Option.some.inj hF
    exact ⟨(),hl1,hK1,wk.le (by exact (.eq (.eq (.d4 (.d4 (.drop (.drop (.eq (.cons (leV.of_eq (ve (by omega) (by omega))) (.d4 (.d4 (.d4 leL.nil))))))))))))⟩
  ·refine yU ?_
   refine zZ ?_
   refine zW ?_
   refine zX ?_
   refine zj (zk (zd ?_))
   refine zc rfl (zi rfl rfl (zb rfl)) yC ?_
   refine ze (zj (zI ?_))
   obtain rfl:=Option.some.inj hF
   refine zz rfl (zD yx zF) (zA (leV.refl _) rfl ?_)
   exact ⟨rfl,rfl⟩
end Go.Vv
