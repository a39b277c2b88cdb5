/- Each function that the law reaches computes what its reading says; printed by a program. -/
import Derived.Test.YtpdpghedkdpiiaaGreatVvMl
import Derived.Test.YtpdpghedkdpiiaaGreatVvRb
import Derived.Test.YtpdpghedkdpiiaaGreatVvSo
import Derived.Test.YtpdpghedkdpiiaaGreatVvPt
import Derived.Test.YtpdpghedkdpiiaaGreatVvIn
import Derived.Test.YtpdpghedkdpiiaaGreatVvZ
import Derived.Test.YtpdpghedkdpiiaaGreatVvAn
import Derived.Test.YtpdpghedkdpiiaaGreatVvLb
import Derived.Test.YtpdpghedkdpiiaaGreatVvLc
import Derived.Test.YtpdpghedkdpiiaaGreatVvMr
import Derived.Test.YtpdpghedkdpiiaaGreatVvIt
import Derived.Test.YtpdpghedkdpiiaaGreatVvRd
import Derived.Test.YtpdpghedkdpiiaaGreatD
import Derived.Test.YtpdpghedkdpiiaaGreatProg
namespace Go.Vv
open Go Go.Proofs
set_option maxRecDepth 100000
set_option maxHeartbeats 1000000
set_option linter.unusedSimpArgs false
set_option linter.unusedVariables false
section
variable {v a0 a1 a2 a3 a4 a5 a6 a7 a8 a9 a10 a11 a12 a13 a14 a15 a16 a17 a18 a19 a20 a21 a22 a23 a24 a25 a26 a27 a28 a29 a30 a31 a32 a33 a34 a35 a36 a37 a38 a39:AV} {r q:List AV} {t:Nat}
theorem yh:xj (a0::r) (.tmp 0)=some a0:=rfl
theorem st0:vr (some 0) (a0::r) v=some (v::r):=rfl
theorem yB:xj (a0::a1::r) (.tmp 1)=some a1:=rfl
theorem st1:vr (some 1) (a0::a1::r) v=some (a0::v::r):=rfl
theorem yv:xj (a0::a1::a2::r) (.tmp 2)=some a2:=rfl
theorem xf:vr (some 2) (a0::a1::a2::r) v=some (a0::a1::v::r):=rfl
theorem yf:xj (a0::a1::a2::a3::r) (.tmp 3)=some a3:=rfl
theorem x5:vr (some 3) (a0::a1::a2::a3::r) v=some (a0::a1::a2::v::r):=rfl
theorem yp:xj (a0::a1::a2::a3::a4::r) (.tmp 4)=some a4:=rfl
theorem yV:vr (some 4) (a0::a1::a2::a3::a4::r) v=some (a0::a1::a2::a3::v::r):=rfl
theorem yR:xj (a0::a1::a2::a3::a4::a5::r) (.tmp 5)=some a5:=rfl
theorem xp:vr (some 5) (a0::a1::a2::a3::a4::a5::r) v=some (a0::a1::a2::a3::a4::v::r):=rfl
theorem xh:xj (a0::a1::a2::a3::a4::a5::a6::r) (.tmp 6)=some a6:=rfl
theorem xI:vr (some 6) (a0::a1::a2::a3::a4::a5::a6::r) v=some (a0::a1::a2::a3::a4::a5::v::r):=rfl
theorem xu:xj (a0::a1::a2::a3::a4::a5::a6::a7::r) (.tmp 7)=some a7:=rfl
theorem xN:vr (some 7) (a0::a1::a2::a3::a4::a5::a6::a7::r) v=some (a0::a1::a2::a3::a4::a5::a6::v::r):=rfl
theorem xr:xj (a0::a1::a2::a3::a4::a5::a6::a7::a8::r) (.tmp 8)=some a8:=rfl
theorem xC:vr (some 8) (a0::a1::a2::a3::a4::a5::a6::a7::a8::r) v=some (a0::a1::a2::a3::a4::a5::a6::a7::v::r):=rfl
theorem xK:xj (a0::a1::a2::a3::a4::a5::a6::a7::a8::a9::r) (.tmp 9)=some a9:=rfl
theorem xR:vr (some 9) (a0::a1::a2::a3::a4::a5::a6::a7::a8::a9::r) v=some (a0::a1::a2::a3::a4::a5::a6::a7::a8::v::r):=rfl
theorem yw:xj (a0::a1::a2::a3::a4::a5::a6::a7::a8::a9::a10::r) (.tmp 10)=some a10:=rfl
theorem yy:vr (some 10) (a0::a1::a2::a3::a4::a5::a6::a7::a8::a9::a10::r) v=some (a0::a1::a2::a3::a4::a5::a6::a7::a8::a9::v::r):=rfl
theorem yr:xj (a0::a1::a2::a3::a4::a5::a6::a7::a8::a9::a10::a11::r) (.tmp 11)=some a11:=rfl
theorem yx:vr (some 11) (a0::a1::a2::a3::a4::a5::a6::a7::a8::a9::a10::a11::r) v=some (a0::a1::a2::a3::a4::a5::a6::a7::a8::a9::a10::v::r):=rfl
theorem yD:xj (a0::a1::a2::a3::a4::a5::a6::a7::a8::a9::a10::a11::a12::r) (.tmp 12)=some a12:=rfl
theorem yE:vr (some 12) (a0::a1::a2::a3::a4::a5::a6::a7::a8::a9::a10::a11::a12::r) v=some (a0::a1::a2::a3::a4::a5::a6::a7::a8::a9::a10::a11::v::r):=rfl
theorem yI:xj (a0::a1::a2::a3::a4::a5::a6::a7::a8::a9::a10::a11::a12::a13::r) (.tmp 13)=some a13:=rfl
theorem yK:vr (some 13) (a0::a1::a2::a3::a4::a5::a6::a7::a8::a9::a10::a11::a12::a13::r) v=some (a0::a1::a2::a3::a4::a5::a6::a7::a8::a9::a10::a11::a12::v::r):=rfl
theorem yY:xj (a0::a1::a2::a3::a4::a5::a6::a7::a8::a9::a10::a11::a12::a13::a14::r) (.tmp 14)=some a14:=rfl
theorem yT:vr (some 14) (a0::a1::a2::a3::a4::a5::a6::a7::a8::a9::a10::a11::a12::a13::a14::r) v=some (a0::a1::a2::a3::a4::a5::a6::a7::a8::a9::a10::a11::a12::a13::v::r):=rfl
theorem yO:xj (a0::a1::a2::a3::a4::a5::a6::a7::a8::a9::a10::a11::a12::a13::a14::a15::r) (.tmp 15)=some a15:=rfl
theorem yS:vr (some 15) (a0::a1::a2::a3::a4::a5::a6::a7::a8::a9::a10::a11::a12::a13::a14::a15::r) v=some (a0::a1::a2::a3::a4::a5::a6::a7::a8::a9::a10::a11::a12::a13::a14::v::r):=rfl
theorem y4:xj (a0::a1::a2::a3::a4::a5::a6::a7::a8::a9::a10::a11::a12::a13::a14::a15::a16::r) (.tmp 16)=some a16:=rfl
theorem yZ:vr (some 16) (a0::a1::a2::a3::a4::a5::a6::a7::a8::a9::a10::a11::a12::a13::a14::a15::a16::r) v=some (a0::a1::a2::a3::a4::a5::a6::a7::a8::a9::a10::a11::a12::a13::a14::a15::v::r):=rfl
theorem xd:xj (a0::a1::a2::a3::a4::a5::a6::a7::a8::a9::a10::a11::a12::a13::a14::a15::a16::a17::r) (.tmp 17)=some a17:=rfl
theorem y8:vr (some 17) (a0::a1::a2::a3::a4::a5::a6::a7::a8::a9::a10::a11::a12::a13::a14::a15::a16::a17::r) v=some (a0::a1::a2::a3::a4::a5::a6::a7::a8::a9::a10::a11::a12::a13::a14::a15::a16::v::r):=rfl
theorem xl:xj (a0::a1::a2::a3::a4::a5::a6::a7::a8::a9::a10::a11::a12::a13::a14::a15::a16::a17::a18::r) (.tmp 18)=some a18:=rfl
theorem xk:vr (some 18) (a0::a1::a2::a3::a4::a5::a6::a7::a8::a9::a10::a11::a12::a13::a14::a15::a16::a17::a18::r) v=some (a0::a1::a2::a3::a4::a5::a6::a7::a8::a9::a10::a11::a12::a13::a14::a15::a16::a17::v::r):=rfl
theorem xL:xj (a0::a1::a2::a3::a4::a5::a6::a7::a8::a9::a10::a11::a12::a13::a14::a15::a16::a17::a18::a19::r) (.tmp 19)=some a19:=rfl
theorem xJ:vr (some 19) (a0::a1::a2::a3::a4::a5::a6::a7::a8::a9::a10::a11::a12::a13::a14::a15::a16::a17::a18::a19::r) v=some (a0::a1::a2::a3::a4::a5::a6::a7::a8::a9::a10::a11::a12::a13::a14::a15::a16::a17::a18::v::r):=rfl
theorem xX:xj (a0::a1::a2::a3::a4::a5::a6::a7::a8::a9::a10::a11::a12::a13::a14::a15::a16::a17::a18::a19::a20::r) (.tmp 20)=some a20:=rfl
theorem xQ:vr (some 20) (a0::a1::a2::a3::a4::a5::a6::a7::a8::a9::a10::a11::a12::a13::a14::a15::a16::a17::a18::a19::a20::r) v=some (a0::a1::a2::a3::a4::a5::a6::a7::a8::a9::a10::a11::a12::a13::a14::a15::a16::a17::a18::a19::v::r):=rfl
theorem wa:xj (a0::a1::a2::a3::a4::a5::a6::a7::a8::a9::a10::a11::a12::a13::a14::a15::a16::a17::a18::a19::a20::a21::r) (.tmp 21)=some a21:=rfl
theorem wb:vr (some 21) (a0::a1::a2::a3::a4::a5::a6::a7::a8::a9::a10::a11::a12::a13::a14::a15::a16::a17::a18::a19::a20::a21::r) v=some (a0::a1::a2::a3::a4::a5::a6::a7::a8::a9::a10::a11::a12::a13::a14::a15::a16::a17::a18::a19::a20::v::r):=rfl
theorem wq:xj (a0::a1::a2::a3::a4::a5::a6::a7::a8::a9::a10::a11::a12::a13::a14::a15::a16::a17::a18::a19::a20::a21::a22::r) (.tmp 22)=some a22:=rfl
theorem wl:vr (some 22) (a0::a1::a2::a3::a4::a5::a6::a7::a8::a9::a10::a11::a12::a13::a14::a15::a16::a17::a18::a19::a20::a21::a22::r) v=some (a0::a1::a2::a3::a4::a5::a6::a7::a8::a9::a10::a11::a12::a13::a14::a15::a16::a17::a18::a19::a20::a21::v::r):=rfl
theorem wg:xj (a0::a1::a2::a3::a4::a5::a6::a7::a8::a9::a10::a11::a12::a13::a14::a15::a16::a17::a18::a19::a20::a21::a22::a23::r) (.tmp 23)=some a23:=rfl
theorem wp:vr (some 23) (a0::a1::a2::a3::a4::a5::a6::a7::a8::a9::a10::a11::a12::a13::a14::a15::a16::a17::a18::a19::a20::a21::a22::a23::r) v=some (a0::a1::a2::a3::a4::a5::a6::a7::a8::a9::a10::a11::a12::a13::a14::a15::a16::a17::a18::a19::a20::a21::a22::v::r):=rfl
theorem ww:xj (a0::a1::a2::a3::a4::a5::a6::a7::a8::a9::a10::a11::a12::a13::a14::a15::a16::a17::a18::a19::a20::a21::a22::a23::a24::r) (.tmp 24)=some a24:=rfl
theorem wu:vr (some 24) (a0::a1::a2::a3::a4::a5::a6::a7::a8::a9::a10::a11::a12::a13::a14::a15::a16::a17::a18::a19::a20::a21::a22::a23::a24::r) v=some (a0::a1::a2::a3::a4::a5::a6::a7::a8::a9::a10::a11::a12::a13::a14::a15::a16::a17::a18::a19::a20::a21::a22::a23::v::r):=rfl
theorem wv:xj (a0::a1::a2::a3::a4::a5::a6::a7::a8::a9::a10::a11::a12::a13::a14::a15::a16::a17::a18::a19::a20::a21::a22::a23::a24::a25::r) (.tmp 25)=some a25:=rfl
theorem wz:vr (some 25) (a0::a1::a2::a3::a4::a5::a6::a7::a8::a9::a10::a11::a12::a13::a14::a15::a16::a17::a18::a19::a20::a21::a22::a23::a24::a25::r) v=some (a0::a1::a2::a3::a4::a5::a6::a7::a8::a9::a10::a11::a12::a13::a14::a15::a16::a17::a18::a19::a20::a21::a22::a23::a24::v::r):=rfl
theorem wD:xj (a0::a1::a2::a3::a4::a5::a6::a7::a8::a9::a10::a11::a12::a13::a14::a15::a16::a17::a18::a19::a20::a21::a22::a23::a24::a25::a26::r) (.tmp 26)=some a26:=rfl
theorem wV:vr (some 26) (a0::a1::a2::a3::a4::a5::a6::a7::a8::a9::a10::a11::a12::a13::a14::a15::a16::a17::a18::a19::a20::a21::a22::a23::a24::a25::a26::r) v=some (a0::a1::a2::a3::a4::a5::a6::a7::a8::a9::a10::a11::a12::a13::a14::a15::a16::a17::a18::a19::a20::a21::a22::a23::a24::a25::v::r):=rfl
theorem w4:xj (a0::a1::a2::a3::a4::a5::a6::a7::a8::a9::a10::a11::a12::a13::a14::a15::a16::a17::a18::a19::a20::a21::a22::a23::a24::a25::a26::a27::r) (.tmp 27)=some a27:=rfl
theorem wU:vr (some 27) (a0::a1::a2::a3::a4::a5::a6::a7::a8::a9::a10::a11::a12::a13::a14::a15::a16::a17::a18::a19::a20::a21::a22::a23::a24::a25::a26::a27::r) v=some (a0::a1::a2::a3::a4::a5::a6::a7::a8::a9::a10::a11::a12::a13::a14::a15::a16::a17::a18::a19::a20::a21::a22::a23::a24::a25::a26::v::r):=rfl
theorem wH:xj (a0::a1::a2::a3::a4::a5::a6::a7::a8::a9::a10::a11::a12::a13::a14::a15::a16::a17::a18::a19::a20::a21::a22::a23::a24::a25::a26::a27::a28::r) (.tmp 28)=some a28:=rfl
theorem wG:vr (some 28) (a0::a1::a2::a3::a4::a5::a6::a7::a8::a9::a10::a11::a12::a13::a14::a15::a16::a17::a18::a19::a20::a21::a22::a23::a24::a25::a26::a27::a28::r) v=some (a0::a1::a2::a3::a4::a5::a6::a7::a8::a9::a10::a11::a12::a13::a14::a15::a16::a17::a18::a19::a20::a21::a22::a23::a24::a25::a26::a27::v::r):=rfl
theorem we:xj (a0::a1::a2::a3::a4::a5::a6::a7::a8::a9::a10::a11::a12::a13::a14::a15::a16::a17::a18::a19::a20::a21::a22::a23::a24::a25::a26::a27::a28::a29::r) (.tmp 29)=some a29:=rfl
theorem w9:vr (some 29) (a0::a1::a2::a3::a4::a5::a6::a7::a8::a9::a10::a11::a12::a13::a14::a15::a16::a17::a18::a19::a20::a21::a22::a23::a24::a25::a26::a27::a28::a29::r) v=some (a0::a1::a2::a3::a4::a5::a6::a7::a8::a9::a10::a11::a12::a13::a14::a15::a16::a17::a18::a19::a20::a21::a22::a23::a24::a25::a26::a27::a28::v::r):=rfl
theorem va:xj (a0::a1::a2::a3::a4::a5::a6::a7::a8::a9::a10::a11::a12::a13::a14::a15::a16::a17::a18::a19::a20::a21::a22::a23::a24::a25::a26::a27::a28::a29::a30::r) (.tmp 30)=some a30:=rfl
theorem w8:vr (some 30) (a0::a1::a2::a3::a4::a5::a6::a7::a8::a9::a10::a11::a12::a13::a14::a15::a16::a17::a18::a19::a20::a21::a22::a23::a24::a25::a26::a27::a28::a29::a30::r) v=some (a0::a1::a2::a3::a4::a5::a6::a7::a8::a9::a10::a11::a12::a13::a14::a15::a16::a17::a18::a19::a20::a21::a22::a23::a24::a25::a26::a27::a28::a29::v::r):=rfl
theorem wZ:xj (a0::a1::a2::a3::a4::a5::a6::a7::a8::a9::a10::a11::a12::a13::a14::a15::a16::a17::a18::a19::a20::a21::a22::a23::a24::a25::a26::a27::a28::a29::a30::a31::r) (.tmp 31)=some a31:=rfl
theorem w7:vr (some 31) (a0::a1::a2::a3::a4::a5::a6::a7::a8::a9::a10::a11::a12::a13::a14::a15::a16::a17::a18::a19::a20::a21::a22::a23::a24::a25::a26::a27::a28::a29::a30::a31::r) v=some (a0::a1::a2::a3::a4::a5::a6::a7::a8::a9::a10::a11::a12::a13::a14::a15::a16::a17::a18::a19::a20::a21::a22::a23::a24::a25::a26::a27::a28::a29::a30::v::r):=rfl
theorem wQ:xj (a0::a1::a2::a3::a4::a5::a6::a7::a8::a9::a10::a11::a12::a13::a14::a15::a16::a17::a18::a19::a20::a21::a22::a23::a24::a25::a26::a27::a28::a29::a30::a31::a32::r) (.tmp 32)=some a32:=rfl
theorem wT:vr (some 32) (a0::a1::a2::a3::a4::a5::a6::a7::a8::a9::a10::a11::a12::a13::a14::a15::a16::a17::a18::a19::a20::a21::a22::a23::a24::a25::a26::a27::a28::a29::a30::a31::a32::r) v=some (a0::a1::a2::a3::a4::a5::a6::a7::a8::a9::a10::a11::a12::a13::a14::a15::a16::a17::a18::a19::a20::a21::a22::a23::a24::a25::a26::a27::a28::a29::a30::a31::v::r):=rfl
theorem wY:xj (a0::a1::a2::a3::a4::a5::a6::a7::a8::a9::a10::a11::a12::a13::a14::a15::a16::a17::a18::a19::a20::a21::a22::a23::a24::a25::a26::a27::a28::a29::a30::a31::a32::a33::r) (.tmp 33)=some a33:=rfl
theorem wS:vr (some 33) (a0::a1::a2::a3::a4::a5::a6::a7::a8::a9::a10::a11::a12::a13::a14::a15::a16::a17::a18::a19::a20::a21::a22::a23::a24::a25::a26::a27::a28::a29::a30::a31::a32::a33::r) v=some (a0::a1::a2::a3::a4::a5::a6::a7::a8::a9::a10::a11::a12::a13::a14::a15::a16::a17::a18::a19::a20::a21::a22::a23::a24::a25::a26::a27::a28::a29::a30::a31::a32::v::r):=rfl
theorem wX:xj (a0::a1::a2::a3::a4::a5::a6::a7::a8::a9::a10::a11::a12::a13::a14::a15::a16::a17::a18::a19::a20::a21::a22::a23::a24::a25::a26::a27::a28::a29::a30::a31::a32::a33::a34::r) (.tmp 34)=some a34:=rfl
theorem wR:vr (some 34) (a0::a1::a2::a3::a4::a5::a6::a7::a8::a9::a10::a11::a12::a13::a14::a15::a16::a17::a18::a19::a20::a21::a22::a23::a24::a25::a26::a27::a28::a29::a30::a31::a32::a33::a34::r) v=some (a0::a1::a2::a3::a4::a5::a6::a7::a8::a9::a10::a11::a12::a13::a14::a15::a16::a17::a18::a19::a20::a21::a22::a23::a24::a25::a26::a27::a28::a29::a30::a31::a32::a33::v::r):=rfl
theorem vn:xj (a0::a1::a2::a3::a4::a5::a6::a7::a8::a9::a10::a11::a12::a13::a14::a15::a16::a17::a18::a19::a20::a21::a22::a23::a24::a25::a26::a27::a28::a29::a30::a31::a32::a33::a34::a35::r) (.tmp 35)=some a35:=rfl
theorem vg:vr (some 35) (a0::a1::a2::a3::a4::a5::a6::a7::a8::a9::a10::a11::a12::a13::a14::a15::a16::a17::a18::a19::a20::a21::a22::a23::a24::a25::a26::a27::a28::a29::a30::a31::a32::a33::a34::a35::r) v=some (a0::a1::a2::a3::a4::a5::a6::a7::a8::a9::a10::a11::a12::a13::a14::a15::a16::a17::a18::a19::a20::a21::a22::a23::a24::a25::a26::a27::a28::a29::a30::a31::a32::a33::a34::v::r):=rfl
theorem vm:xj (a0::a1::a2::a3::a4::a5::a6::a7::a8::a9::a10::a11::a12::a13::a14::a15::a16::a17::a18::a19::a20::a21::a22::a23::a24::a25::a26::a27::a28::a29::a30::a31::a32::a33::a34::a35::a36::r) (.tmp 36)=some a36:=rfl
theorem vf:vr (some 36) (a0::a1::a2::a3::a4::a5::a6::a7::a8::a9::a10::a11::a12::a13::a14::a15::a16::a17::a18::a19::a20::a21::a22::a23::a24::a25::a26::a27::a28::a29::a30::a31::a32::a33::a34::a35::a36::r) v=some (a0::a1::a2::a3::a4::a5::a6::a7::a8::a9::a10::a11::a12::a13::a14::a15::a16::a17::a18::a19::a20::a21::a22::a23::a24::a25::a26::a27::a28::a29::a30::a31::a32::a33::a34::a35::v::r):=rfl
theorem vC:xj (a0::a1::a2::a3::a4::a5::a6::a7::a8::a9::a10::a11::a12::a13::a14::a15::a16::a17::a18::a19::a20::a21::a22::a23::a24::a25::a26::a27::a28::a29::a30::a31::a32::a33::a34::a35::a36::a37::r) (.tmp 37)=some a37:=rfl
theorem vI:vr (some 37) (a0::a1::a2::a3::a4::a5::a6::a7::a8::a9::a10::a11::a12::a13::a14::a15::a16::a17::a18::a19::a20::a21::a22::a23::a24::a25::a26::a27::a28::a29::a30::a31::a32::a33::a34::a35::a36::a37::r) v=some (a0::a1::a2::a3::a4::a5::a6::a7::a8::a9::a10::a11::a12::a13::a14::a15::a16::a17::a18::a19::a20::a21::a22::a23::a24::a25::a26::a27::a28::a29::a30::a31::a32::a33::a34::a35::a36::v::r):=rfl
theorem vO:xj (a0::a1::a2::a3::a4::a5::a6::a7::a8::a9::a10::a11::a12::a13::a14::a15::a16::a17::a18::a19::a20::a21::a22::a23::a24::a25::a26::a27::a28::a29::a30::a31::a32::a33::a34::a35::a36::a37::a38::r) (.tmp 38)=some a38:=rfl
theorem vN:vr (some 38) (a0::a1::a2::a3::a4::a5::a6::a7::a8::a9::a10::a11::a12::a13::a14::a15::a16::a17::a18::a19::a20::a21::a22::a23::a24::a25::a26::a27::a28::a29::a30::a31::a32::a33::a34::a35::a36::a37::a38::r) v=some (a0::a1::a2::a3::a4::a5::a6::a7::a8::a9::a10::a11::a12::a13::a14::a15::a16::a17::a18::a19::a20::a21::a22::a23::a24::a25::a26::a27::a28::a29::a30::a31::a32::a33::a34::a35::a36::a37::v::r):=rfl
theorem qe:xj (a0::a1::a2::a3::a4::a5::a6::a7::a8::a9::a10::a11::a12::a13::a14::a15::a16::a17::a18::a19::a20::a21::a22::a23::a24::a25::a26::a27::a28::a29::a30::a31::a32::a33::a34::a35::a36::a37::a38::a39::r) (.tmp 39)=some a39:=rfl
theorem vZ:vr (some 39) (a0::a1::a2::a3::a4::a5::a6::a7::a8::a9::a10::a11::a12::a13::a14::a15::a16::a17::a18::a19::a20::a21::a22::a23::a24::a25::a26::a27::a28::a29::a30::a31::a32::a33::a34::a35::a36::a37::a38::a39::r) v=some (a0::a1::a2::a3::a4::a5::a6::a7::a8::a9::a10::a11::a12::a13::a14::a15::a16::a17::a18::a19::a20::a21::a22::a23::a24::a25::a26::a27::a28::a29::a30::a31::a32::a33::a34::a35::a36::a37::a38::v::r):=rfl
theorem gk (h:xj r (.tmp t)=some v):xj (a0::a1::a2::a3::a4::a5::a6::a7::a8::a9::a10::a11::a12::a13::a14::a15::a16::a17::a18::a19::a20::a21::a22::a23::a24::a25::a26::a27::a28::a29::a30::a31::a32::a33::a34::a35::a36::a37::a38::a39::r) (.tmp (t+40))=some v:=h
theorem sk (h:vr (some t) r v=some q):vr (some (t+40)) (a0::a1::a2::a3::a4::a5::a6::a7::a8::a9::a10::a11::a12::a13::a14::a15::a16::a17::a18::a19::a20::a21::a22::a23::a24::a25::a26::a27::a28::a29::a30::a31::a32::a33::a34::a35::a36::a37::a38::a39::r) v=some (a0::a1::a2::a3::a4::a5::a6::a7::a8::a9::a10::a11::a12::a13::a14::a15::a16::a17::a18::a19::a20::a21::a22::a23::a24::a25::a26::a27::a28::a29::a30::a31::a32::a33::a34::a35::a36::a37::a38::a39::q):=congrArg (fun x=>some (a0::a1::a2::a3::a4::a5::a6::a7::a8::a9::a10::a11::a12::a13::a14::a15::a16::a17::a18::a19::a20::a21::a22::a23::a24::a25::a26::a27::a28::a29::a30::a31::a32::a33::a34::a35::a36::a37::a38::a39::x)) (Option.some.inj h)
end
def fvOp:Nat→AV
  | 1=>.fn (.func 64) [] []
  | 2=>.fn (.func 65) [] []
  | 3=>.fn (.func 66) [] []
  | _=>.nilf
def fnOp:Nat→FuncId
  | 1=>64
  | 2=>65
  | 3=>66
  | _=>0
theorem fvlOp (c n m:Nat):(fvOp c).low n m=true:=by unfold fvOp;split <;> rfl
theorem fvtOp (P:Program) (t:TypeId) (c:Nat):tyfix P t (fvOp c)=fvOp c:=by unfold fvOp;split <;> rfl
def GActor.row (x:GActor):List AV:=[.int .u8 x.rep,.int .u32 x.inc]
def GDot.row (x:GDot):List AV:=[.int .u8 x.actor.rep,.int .u32 x.actor.inc,.int .u64 x.seq]
def GItem.row (x:GItem):List AV:=[.int .u64 x.time,.int .u8 x.dot.actor.rep,.int .u32 x.dot.actor.inc,.int .u64 x.dot.seq,.str x.text]
def GLeaf.row (x:GLeaf):List AV:=[.int .u8 x.typ,.int .i64 x.n,.int .u64 x.time,.int .u8 x.dot.actor.rep,.int .u32 x.dot.actor.inc,.int .u64 x.dot.seq,.str x.text,.sl 5 (x.items.map GItem.row),.sl 3 (x.tombs.map GDot.row)]
def GOp.row (x:GOp):List AV:=[.int .u8 x.kind,.sl 1 (x.path.map zG),.int .i64 x.n,.str x.text,.sl 3 (x.dots.map GDot.row)]
def GEvent.row (x:GEvent):List AV:=[.int .u8 x.dot.actor.rep,.int .u32 x.dot.actor.inc,.int .u64 x.dot.seq,.int .u64 x.time,.int .u8 x.op.kind,.sl 1 (x.op.path.map zG),.int .i64 x.op.n,.str x.op.text,.sl 3 (x.op.dots.map GDot.row)]
def GOpKind.row (x:GOpKind):List AV:=[.int .u8 x.leaf,fvOp x.may]
theorem qN:Fo Tryz.prog 31 4 6 9 1:=mkFo (by kernel_rfl) (by kernel_rfl)
theorem ty9:Ty Tryz.prog 9 .string 1:=mkTy Tryz.underlying9 (by kernel_rfl)
theorem ym:Fo Tryz.prog 31 5 7 28 1:=mkFo (by kernel_rfl) (by kernel_rfl)
theorem xW:Ty Tryz.prog 28 (.slice 47) 1:=mkTy Tryz.underlying28 (by kernel_rfl)
theorem yX:El Tryz.prog 28 47 5:=mkEl Tryz.underlying28 (by kernel_rfl)
theorem fo47x2:Fo Tryz.prog 47 2 4 9 1:=mkFo (by kernel_rfl) (by kernel_rfl)
theorem y5:Fo Tryz.prog 31 6 8 29 1:=mkFo (by kernel_rfl) (by kernel_rfl)
theorem xP:Ty Tryz.prog 29 (.slice 27) 1:=mkTy Tryz.underlying29 (by kernel_rfl)
theorem yU:El Tryz.prog 29 27 3:=mkEl Tryz.underlying29 (by kernel_rfl)
theorem qt:Fo Tryz.prog 34 3 3 9 1:=mkFo (by kernel_rfl) (by kernel_rfl)
theorem fo34x1:Fo Tryz.prog 34 1 1 32 1:=mkFo (by kernel_rfl) (by kernel_rfl)
theorem ty32:Ty Tryz.prog 32 (.slice 9) 1:=mkTy Tryz.underlying32 (by kernel_rfl)
theorem el32:El Tryz.prog 32 9 1:=mkEl Tryz.underlying32 (by kernel_rfl)
theorem vJ:Fo Tryz.prog 34 4 4 29 1:=mkFo (by kernel_rfl) (by kernel_rfl)
theorem vu:Fo Tryz.prog 31 0 0 5 1:=mkFo (by kernel_rfl) (by kernel_rfl)
theorem ty5:Ty Tryz.prog 5 (.int .u8) 1:=mkTy Tryz.underlying5 (by kernel_rfl)
theorem qZ:Fo Tryz.prog 31 1 1 2 1:=mkFo (by kernel_rfl) (by kernel_rfl)
theorem ty2:Ty Tryz.prog 2 (.int .i64) 1:=mkTy Tryz.underlying2 (by kernel_rfl)
theorem wm:Fo Tryz.prog 31 2 2 22 1:=mkFo (by kernel_rfl) (by kernel_rfl)
theorem xM:Ty Tryz.prog 22 (.int .u64) 1:=mkTy Tryz.underlying22 (by kernel_rfl)
theorem vp:Fo Tryz.prog 31 3 3 27 3:=mkFo (by kernel_rfl) (by kernel_rfl)
theorem ty27:∃ d,Ty Tryz.prog 27 d 3∧xe d=true:=⟨_,mkTy Tryz.underlying27 (by kernel_rfl),by kernel_rfl⟩
theorem pk27:PK Tryz.prog 27 [.i,.i,.i]:=mkPK (by kernel_rfl) (by kernel_rfl) (by kernel_rfl)
theorem mixed:Tryz.prog.follows .mixedOrders=true:=by kernel_rfl
theorem ty47:∃ d,Ty Tryz.prog 47 d 5∧xe d=true:=⟨_,mkTy Tryz.underlying47 (by kernel_rfl),by kernel_rfl⟩
theorem pk47:PK Tryz.prog 47 [.i,.i,.i,.i,.s]:=mkPK (by kernel_rfl) (by kernel_rfl) (by kernel_rfl)
theorem ze31:w5 Tryz.prog 31=some [.int .u8 0,.int .i64 0,.int .u64 0,.int .u8 0,.int .u32 0,.int .u64 0,.str [],.osl none 5 [],.osl none 3 []]:=by kernel_rfl
noncomputable def sf31:Array Field:=match Tryz.prog.underlying 31 with | some (.struct fs)=>fs | _=>#[]
theorem su31:Tryz.prog.underlying 31=some (.struct sf31):=by kernel_rfl
theorem pl31:qp Tryz.prog sf31=some [(0,1),(1,1),(2,1),(3,3),(6,1),(7,1),(8,1)]:=by kernel_rfl
theorem ty31:∃ d,Ty Tryz.prog 31 d 9∧xe d=true:=⟨_,mkTy Tryz.underlying31 (by kernel_rfl),by kernel_rfl⟩
theorem el90:El Tryz.prog 90 3 1:=mkEl Tryz.underlying90 (by kernel_rfl)
theorem ty3:Ty Tryz.prog 3 (.int .i64) 1:=mkTy Tryz.underlying3 (by kernel_rfl)
theorem fo25x0:Fo Tryz.prog 25 0 0 5 1:=mkFo (by kernel_rfl) (by kernel_rfl)
theorem fo25x1:Fo Tryz.prog 25 1 1 23 1:=mkFo (by kernel_rfl) (by kernel_rfl)
theorem ty23:Ty Tryz.prog 23 (.int .u32) 1:=mkTy Tryz.underlying23 (by kernel_rfl)
theorem ze3:w5 Tryz.prog 3=some [.int .i64 0]:=by kernel_rfl
theorem fo27x0:Fo Tryz.prog 27 0 0 25 2:=mkFo (by kernel_rfl) (by kernel_rfl)
theorem ty25:∃ d,Ty Tryz.prog 25 d 2∧xe d=true:=⟨_,mkTy Tryz.underlying25 (by kernel_rfl),by kernel_rfl⟩
theorem fo27x1:Fo Tryz.prog 27 1 2 22 1:=mkFo (by kernel_rfl) (by kernel_rfl)
theorem ty100:Ty Tryz.prog 100 (.int .u64) 1:=mkTy Tryz.underlying100 (by kernel_rfl)
theorem qX:Fo Tryz.prog 47 0 0 22 1:=mkFo (by kernel_rfl) (by kernel_rfl)
theorem wI:Fo Tryz.prog 47 1 1 27 3:=mkFo (by kernel_rfl) (by kernel_rfl)
theorem ze27:w5 Tryz.prog 27=some [.int .u8 0,.int .u32 0,.int .u64 0]:=by kernel_rfl
theorem ze47:w5 Tryz.prog 47=some [.int .u64 0,.int .u8 0,.int .u32 0,.int .u64 0,.str []]:=by kernel_rfl
theorem wd:Fo Tryz.prog 36 2 4 34 5:=mkFo (by kernel_rfl) (by kernel_rfl)
noncomputable def sf27:Array Field:=match Tryz.prog.underlying 27 with | some (.struct fs)=>fs | _=>#[]
theorem su27:Tryz.prog.underlying 27=some (.struct sf27):=by kernel_rfl
theorem kq27:KQ Tryz.prog 27 (fun x=>AV.agg (GDot.row x)) GDot.eqb:=.struct su27 pk27 (fun _ _=>rfl) (fun a=>by simp [GDot.eqb])
theorem az3:aZeroM Tryz.prog 3=some ((AV.int .i64) (0:Int)):=by kernel_rfl
theorem ty4:Ty Tryz.prog 4 .bool 1:=mkTy Tryz.underlying4 (by kernel_rfl)
theorem pl27:qp Tryz.prog sf27=some [(0,2),(2,1)]:=by kernel_rfl
theorem fo34x2:Fo Tryz.prog 34 2 2 2 1:=mkFo (by kernel_rfl) (by kernel_rfl)
theorem ze80:w5 Tryz.prog 80=some [.int .u8 0,.nilf]:=by kernel_rfl
noncomputable def sf80:Array Field:=match Tryz.prog.underlying 80 with | some (.struct fs)=>fs | _=>#[]
theorem su80:Tryz.prog.underlying 80=some (.struct sf80):=by kernel_rfl
theorem pl80:qp Tryz.prog sf80=some [(0,1),(1,1)]:=by kernel_rfl
theorem ty92:Ty Tryz.prog 92 (.array 6 80) 12:=mkTy Tryz.underlying92 (by kernel_rfl)
theorem ze92:w5 Tryz.prog 92=some [.int .u8 0,.nilf,.int .u8 0,.nilf,.int .u8 0,.nilf,.int .u8 0,.nilf,.int .u8 0,.nilf,.int .u8 0,.nilf]:=by kernel_rfl
theorem ty80:∃ d,Ty Tryz.prog 80 d 2∧xe d=true:=⟨_,mkTy Tryz.underlying80 (by kernel_rfl),by kernel_rfl⟩
theorem fo34x0:Fo Tryz.prog 34 0 0 5 1:=mkFo (by kernel_rfl) (by kernel_rfl)
theorem fo80x1:Fo Tryz.prog 80 1 1 38 1:=mkFo (by kernel_rfl) (by kernel_rfl)
theorem ty38:Ty Tryz.prog 38 (.func #[34] #[4] false) 1:=mkTy Tryz.underlying38 (by kernel_rfl)
theorem ty34:∃ d,Ty Tryz.prog 34 d 5∧xe d=true:=⟨_,mkTy Tryz.underlying34 (by kernel_rfl),by kernel_rfl⟩
theorem vU:Fo Tryz.prog 36 0 0 27 3:=mkFo (by kernel_rfl) (by kernel_rfl)
theorem qY:Fo Tryz.prog 36 1 3 22 1:=mkFo (by kernel_rfl) (by kernel_rfl)
theorem fo80x0:Fo Tryz.prog 80 0 0 5 1:=mkFo (by kernel_rfl) (by kernel_rfl)
theorem ty36:∃ d,Ty Tryz.prog 36 d 9∧xe d=true:=⟨_,mkTy Tryz.underlying36 (by kernel_rfl),by kernel_rfl⟩
noncomputable def sf68:Array Field:=match Tryz.prog.underlying 68 with | some (.struct fs)=>fs | _=>#[]
theorem su68:Tryz.prog.underlying 68=some (.struct sf68):=by kernel_rfl
theorem ze68:w5 Tryz.prog 68=some [.int .u8 0,.int .i64 0,.int .u64 0,.int .u8 0,.int .u32 0,.int .u64 0,.str [],.osl none 5 [],.osl none 3 []]:=by kernel_rfl
theorem pl68:qp Tryz.prog sf68=some [(0,9)]:=by kernel_rfl
theorem yk:Fo Tryz.prog 68 0 0 31 9:=mkFo (by kernel_rfl) (by kernel_rfl)
noncomputable def sf47:Array Field:=match Tryz.prog.underlying 47 with | some (.struct fs)=>fs | _=>#[]
theorem su47:Tryz.prog.underlying 47=some (.struct sf47):=by kernel_rfl
theorem pl47:qp Tryz.prog sf47=some [(0,1),(1,3),(4,1)]:=by kernel_rfl
theorem azf61:aZeroM Tryz.prog 61=some .nilf:=by kernel_rfl
noncomputable def sf25:Array Field:=match Tryz.prog.underlying 25 with | some (.struct fs)=>fs | _=>#[]
theorem su25:Tryz.prog.underlying 25=some (.struct sf25):=by kernel_rfl
theorem ze25:w5 Tryz.prog 25=some [.int .u8 0,.int .u32 0]:=by kernel_rfl
theorem pl25:qp Tryz.prog sf25=some [(0,1),(1,1)]:=by kernel_rfl
theorem ze9:w5 Tryz.prog 9=some [.str []]:=by kernel_rfl
noncomputable def sf34:Array Field:=match Tryz.prog.underlying 34 with | some (.struct fs)=>fs | _=>#[]
theorem su34:Tryz.prog.underlying 34=some (.struct sf34):=by kernel_rfl
theorem ze34:w5 Tryz.prog 34=some [.int .u8 0,.osl none 1 [],.int .i64 0,.str [],.osl none 3 []]:=by kernel_rfl
theorem pl34:qp Tryz.prog sf34=some [(0,1),(1,1),(2,1),(3,1),(4,1)]:=by kernel_rfl
noncomputable def sf36:Array Field:=match Tryz.prog.underlying 36 with | some (.struct fs)=>fs | _=>#[]
theorem su36:Tryz.prog.underlying 36=some (.struct sf36):=by kernel_rfl
theorem ze36:w5 Tryz.prog 36=some [.int .u8 0,.int .u32 0,.int .u64 0,.int .u64 0,.int .u8 0,.osl none 1 [],.int .i64 0,.str [],.osl none 3 []]:=by kernel_rfl
theorem pl36:qp Tryz.prog sf36=some [(0,3),(3,1),(4,5)]:=by kernel_rfl
/-! varve/varvelaw05.great -/
theorem ok4 {l0:GLeaf} {res:Bool} {h:AH}  (hF:vS l0=some res):Spec Tryz.prog 4 [.agg [.int .u8 l0.typ,.int .i64 l0.n,.int .u64 l0.time,.int .u8 l0.dot.actor.rep,.int .u32 l0.dot.actor.inc,.int .u64 l0.dot.seq,.str l0.text,.sl 5 (l0.items.map GItem.row),.sl 3 (l0.tombs.map GDot.row)]] h (fun rr hh=>rr=.bool res∧hh=h):=by
 unfold vS at hF
 refine zx Tryz.func4 rfl (by kernel_rfl) (env:=[.agg [.int .u8 l0.typ,.int .i64 l0.n,.int .u64 l0.time,.int .u8 l0.dot.actor.rep,.int .u32 l0.dot.actor.inc,.int .u64 l0.dot.seq,.str l0.text,.sl 5 (l0.items.map GItem.row),.sl 3 (l0.tombs.map GDot.row)],za,za,za,za,za,za,za,za,za,za,za,za,za,za,za,za,za,za,za,za,za,za,za,za,za,za,za,za,za,za,za,za,za,za,za,za,za]) (by rfl) ?_
 refine zn (ze ?_)
 refine zc rfl (yF (n:=0) rfl yh (zb rfl) rfl rfl) st1 ?_
 refine zc rfl (zj rfl rfl (zb rfl)) xf ?_
 refine zf (zk (zn (ze ?_)))
 refine zc rfl (zd rfl qN yB rfl) xp ?_
 refine zc rfl (zq rfl ty9 yR rfl (zt rfl) (zb rfl)) xI ?_
 refine yj rfl (wA rfl rfl rfl rfl ty9 xh) xN fun hn1=>?_
 replace hn1:=wW hn1
 refine zc rfl (zj rfl xu (zb rfl)) x5 ?_
 refine zf (zk (zn (zn (ze ?_))))
 refine zc rfl (zd rfl ym yB rfl) xC ?_
 refine zc rfl (zq rfl xW xr rfl (zt rfl) (zb rfl)) xR ?_
 refine yj rfl (ya rfl rfl rfl rfl yX xK yC) yy fun hn2=>?_
 replace hn2:=wW hn2
 refine zc rfl (zg rfl rfl (zb rfl)) yx ?_
 refine zf (zk (zW ?_))
 refine xi (fun (n1:Nat) (s1:Int)=>xB [0,2,4,5,6,7,8,9,12,13,14,15,16,17,18,19,20,21,22,23,24,25,26,27,28,29,30,31,32,33,34,35,36,37] [(3,.int .i64 s1),(11,.int .i64 (n1:Int))]) (fun s1=>h.ext [.cells [.int .u8 l0.typ,.int .i64 l0.n,.int .u64 l0.time,.int .u8 l0.dot.actor.rep,.int .u32 l0.dot.actor.inc,.int .u64 l0.dot.seq,.str l0.text,.sl 5 (l0.items.map GItem.row),.sl 3 (l0.tombs.map GDot.row)]] []) hF (fun _ _=>by simp only [xB,upd,List.set_cons_succ,List.set_cons_zero];try rfl) (wk.le (by exact (.drop (.eq (.drop (.cons (leV.of_eq rfl) (.d4 (.drop (.drop (.eq (.cons (leV.of_eq rfl) (.d16 (.d4 (.d4 (.drop (.drop leL.nil)))))))))))))))) ?_
 intro n1 s1 hi1 hF
 refine zn (ze ?_)
 refine zc rfl (zz rfl yr yw rfl) yE ?_
 refine zf (zk (zn ?_))
 refine xO yD hF (fun x1 o1 hl1 hx1 hF hK1=>?_) (fun hF=>?_)
 ·refine zN (zk (zn (zW (zn (ze ?_)))))
  refine zc rfl (zg rfl yr (zb rfl)) yK ?_
  refine zc rfl (zj rfl yI (zb rfl)) yV ?_
  refine zf (zk (ze ?_))
  refine zc rfl (zg rfl yf (zb rfl)) yT ?_
  refine zc rfl (zd rfl ym yB rfl) yS ?_
  refine zc rfl (zq rfl xW yO rfl (zt rfl) (zb rfl)) yZ ?_
  refine zc rfl (zg rfl yp (zb rfl)) y8 ?_
  refine zc rfl (yM rfl yX y4 xd isl (wc hx1)) xk ?_
  refine zc rfl (zd rfl fo47x2 xl rfl) xJ ?_
  refine zc rfl (yW rfl ty9 xL (zt rfl) (zb rfl)) xQ ?_
  refine yj rfl (wA rfl rfl rfl rfl ty9 xX) wb fun hn17=>?_
  replace hn17:=wW hn17
  refine zc rfl (zz rfl yY wa rfl) wl ?_
  refine zc rfl (zj rfl wq (zb rfl)) x5 ?_
  refine zf (ye (zk (ze ?_)))
  refine zc rfl (zz rfl yr rfl rfl) wp ?_
  refine zc rfl (zg rfl wg (zb rfl)) yx ?_
  refine zf (xw ?_)
  obtain rfl:=Option.some.inj hF
  exact ⟨(IntKind.wrap .i64 (s1+((x1.text).length:Int))),hl1,hK1,wk.le (by exact (.drop (.eq (.drop (.cons (leV.of_eq rfl) (.d4 (.drop (.drop (.eq (.cons (leV.of_eq (qT (by omega) (by omega))) (.d16 (.d4 (.d4 (.drop (.drop leL.nil)))))))))))))))⟩
 ·refine xD ?_
  refine yd ?_
  refine z7 ?_
  refine z8 ?_
  refine zk (zn (ze ?_))
  refine zc rfl (zd rfl ym yB rfl) wu ?_
  refine zc rfl (zq rfl xW ww rfl (zt rfl) (zb rfl)) wz ?_
  refine yj rfl (ya rfl rfl rfl rfl yX wv yC) wV fun hn18=>?_
  replace hn18:=wW hn18
  refine zc rfl (zz rfl wD rfl rfl) wU ?_
  refine zc rfl (zg rfl w4 (zb rfl)) wG ?_
  refine zr rfl (fun hb=>zd rfl y5 yB rfl) w9 ?_
  refine zr rfl (fun hb=>zq rfl xP (zp we hb) rfl (zt rfl) (zb rfl)) w8 ?_
  refine xq rfl (fun hb=>ya rfl rfl rfl rfl yU (zp va hb) yC) w7 fun hn19=>?_
  refine zr rfl (fun hb=>zz rfl (zp wZ hb) rfl rfl) wT ?_
  refine zc rfl (zM rfl wH rfl wQ (zZ (fun ht=>gF ht))) wS ?_
  refine zc rfl (zg rfl wY (zb rfl)) wR ?_
  refine zr rfl (fun hb=>zg rfl yf (zb rfl)) vg ?_
  refine zr rfl (fun hb=>zz rfl (zp vn hb) rfl rfl) vf ?_
  refine zc rfl (zM rfl wX rfl vm (zZ (fun ht=>gF ht))) vI ?_
  refine zc rfl (zj rfl vC (zb rfl)) xf ?_
  refine zf (zk (zJ ?_))
  obtain rfl:=Option.some.inj hF
  refine zF rfl (zH yv zA) (zB (leV.refl _) rfl ?_)
  exact ⟨rfl,rfl⟩
/-! varve/varvelaw05.fat -/
theorem ok5 {o0:GOp} {res:Bool} {h:AH}  (hF:law05Xfat o0=some res):Spec Tryz.prog 5 [.agg [.int .u8 o0.kind,.sl 1 (o0.path.map zG),.int .i64 o0.n,.str o0.text,.sl 3 (o0.dots.map GDot.row)]] h (fun rr hh=>rr=.bool res∧hh=h):=by
 unfold law05Xfat at hF
 refine zx Tryz.func5 rfl (by kernel_rfl) (env:=[.agg [.int .u8 o0.kind,.sl 1 (o0.path.map zG),.int .i64 o0.n,.str o0.text,.sl 3 (o0.dots.map GDot.row)],za,za,za,za,za,za,za,za,za,za,za,za,za,za,za,za,za,za,za,za,za,za,za,za,za,za,za,za,za,za,za,za,za,za]) (by rfl) ?_
 refine zn (ze ?_)
 refine zc rfl (yF (n:=0) rfl yh (zb rfl) rfl rfl) st1 ?_
 refine zc rfl (zj rfl rfl (zb rfl)) xf ?_
 refine zf (zk (zn (ze ?_)))
 refine zc rfl (zd rfl qt yB rfl) xI ?_
 refine zc rfl (zq rfl ty9 xh rfl (zt rfl) (zb rfl)) xN ?_
 refine yj rfl (wA rfl rfl rfl rfl ty9 xu) xC fun hn1=>?_
 replace hn1:=wW hn1
 refine zc rfl (zj rfl xr (zb rfl)) x5 ?_
 refine zf (zk (zn (zn (ze ?_))))
 refine zc rfl (zd rfl fo34x1 yB rfl) xR ?_
 refine zc rfl (zq rfl ty32 xK rfl (zt rfl) (zb rfl)) yy ?_
 refine yj rfl (ya rfl rfl rfl rfl el32 yw yC) yx fun hn2=>?_
 replace hn2:=wW hn2
 refine zc rfl (zg rfl rfl (zb rfl)) yE ?_
 refine zf (zk (zW ?_))
 refine xi (fun (n1:Nat) (s1:Int)=>xB [0,2,4,5,6,7,8,9,13,14,15,16,17,18,19,20,21,22,23,24,25,26,27,28,29,30,31,32,33,34] [(3,.int .i64 s1),(12,.int .i64 (n1:Int))]) (fun s1=>h.ext [.cells [.int .u8 o0.kind,.sl 1 (o0.path.map zG),.int .i64 o0.n,.str o0.text,.sl 3 (o0.dots.map GDot.row)]] []) hF (fun _ _=>by simp only [xB,upd,List.set_cons_succ,List.set_cons_zero];try rfl) (wk.le (by exact (.drop (.eq (.drop (.cons (leV.of_eq rfl) (.d4 (.drop (.drop (.eq (.eq (.cons (leV.of_eq rfl) (.d16 (.d4 (.drop (.drop leL.nil)))))))))))))))) ?_
 intro n1 s1 hi1 hF
 refine zn (ze ?_)
 refine zc rfl (zz rfl yD yr rfl) yK ?_
 refine zf (zk (zn ?_))
 refine xO yI hF (fun x1 o1 hl1 hx1 hF hK1=>?_) (fun hF=>?_)
 ·refine zN (zk (zn (zW (zn (ze ?_)))))
  refine zc rfl (yM rfl el32 yw yD isl (wc hx1)) yT ?_
  refine zc rfl (yW rfl ty9 yY (zt rfl) (zb rfl)) yS ?_
  refine zc rfl (zj rfl yO (zb rfl)) xp ?_
  refine zf (zk (ze ?_))
  refine zc rfl (zg rfl yf (zb rfl)) yZ ?_
  refine zc rfl (zg rfl yR (zb rfl)) y8 ?_
  refine yj rfl (wA rfl rfl rfl rfl ty9 xd) xk fun hn13=>?_
  replace hn13:=wW hn13
  refine zc rfl (zz rfl y4 xl rfl) xJ ?_
  refine zc rfl (zj rfl xL (zb rfl)) x5 ?_
  refine zf (ye (zk (ze ?_)))
  refine zc rfl (zz rfl yD rfl rfl) xQ ?_
  refine zc rfl (zg rfl xX (zb rfl)) yE ?_
  refine zf (xw ?_)
  obtain rfl:=Option.some.inj hF
  exact ⟨(IntKind.wrap .i64 (s1+((x1).length:Int))),hl1,hK1,wk.le (by exact (.drop (.eq (.drop (.cons (leV.of_eq rfl) (.d4 (.drop (.drop (.eq (.eq (.cons (leV.of_eq (qT (by omega) (by omega))) (.d16 (.d4 (.drop (.drop leL.nil)))))))))))))))⟩
 ·refine xD ?_
  refine yd ?_
  refine z7 ?_
  refine z8 ?_
  refine zk (zn (ze ?_))
  refine zc rfl (zd rfl fo34x1 yB rfl) wb ?_
  refine zc rfl (zq rfl ty32 wa rfl (zt rfl) (zb rfl)) wl ?_
  refine yj rfl (ya rfl rfl rfl rfl el32 wq yC) wp fun hn14=>?_
  replace hn14:=wW hn14
  refine zc rfl (zz rfl wg rfl rfl) wu ?_
  refine zc rfl (zg rfl ww (zb rfl)) wz ?_
  refine zr rfl (fun hb=>zd rfl vJ yB rfl) wV ?_
  refine zr rfl (fun hb=>zq rfl xP (zp wD hb) rfl (zt rfl) (zb rfl)) wU ?_
  refine xq rfl (fun hb=>ya rfl rfl rfl rfl yU (zp w4 hb) yC) wG fun hn15=>?_
  refine zr rfl (fun hb=>zz rfl (zp wH hb) rfl rfl) w9 ?_
  refine zc rfl (zM rfl wv rfl we (zZ (fun ht=>gF ht))) w8 ?_
  refine zc rfl (zg rfl va (zb rfl)) w7 ?_
  refine zr rfl (fun hb=>zg rfl yf (zb rfl)) wT ?_
  refine zr rfl (fun hb=>zz rfl (zp wQ hb) rfl rfl) wS ?_
  refine zc rfl (zM rfl wZ rfl wY (zZ (fun ht=>gF ht))) wR ?_
  refine zc rfl (zj rfl wX (zb rfl)) xf ?_
  refine zf (zk (zJ ?_))
  obtain rfl:=Option.some.inj hF
  refine zF rfl (zH yv zA) (zB (leV.refl _) rfl ?_)
  exact ⟨rfl,rfl⟩
/-! varve/varveref05.Same -/
theorem ok10 {a0:GLeaf} {b1:GLeaf} {res:Bool} {h:AH}  (hF:vH a0 b1=some res):Spec Tryz.prog 10 [.agg [.int .u8 a0.typ,.int .i64 a0.n,.int .u64 a0.time,.int .u8 a0.dot.actor.rep,.int .u32 a0.dot.actor.inc,.int .u64 a0.dot.seq,.str a0.text,.sl 5 (a0.items.map GItem.row),.sl 3 (a0.tombs.map GDot.row)],.agg [.int .u8 b1.typ,.int .i64 b1.n,.int .u64 b1.time,.int .u8 b1.dot.actor.rep,.int .u32 b1.dot.actor.inc,.int .u64 b1.dot.seq,.str b1.text,.sl 5 (b1.items.map GItem.row),.sl 3 (b1.tombs.map GDot.row)]] h (fun rr hh=>rr=.bool res∧hh=h):=by
 unfold vH at hF
 refine zx Tryz.func10 rfl (by kernel_rfl) (env:=[.agg [.int .u8 a0.typ,.int .i64 a0.n,.int .u64 a0.time,.int .u8 a0.dot.actor.rep,.int .u32 a0.dot.actor.inc,.int .u64 a0.dot.seq,.str a0.text,.sl 5 (a0.items.map GItem.row),.sl 3 (a0.tombs.map GDot.row)],.agg [.int .u8 b1.typ,.int .i64 b1.n,.int .u64 b1.time,.int .u8 b1.dot.actor.rep,.int .u32 b1.dot.actor.inc,.int .u64 b1.dot.seq,.str b1.text,.sl 5 (b1.items.map GItem.row),.sl 3 (b1.tombs.map GDot.row)],za,za,za,za,za,za,za,za,za,za,za,za,za,za,za,za,za,za,za,za,za,za,za,za,za,za,za,za,za,za,za,za,za,za,za,za,za,za,za,za,za,za,za,za,za,za,za,za,za,za,za,za,za,za,za,za,za,za,za,za,za,za,za,za,za,za,za,za,za,za,za,za,za,za,za,za,za,za,za,za,za,za,za,za,za,za,za,za,za,za,za,za]) (by rfl) ?_
 refine zn (ze ?_)
 refine zc rfl (yF (n:=0) rfl yh (zb rfl) rfl rfl) xf ?_
 refine zc rfl (yF (n:=1) rfl yB (zb rfl) rfl rfl) x5 ?_
 refine zc rfl (zj rfl rfl (zb rfl)) yV ?_
 refine zf (zk (zn (zn (ze ?_))))
 refine zc rfl (zd rfl vu yv rfl) xN ?_
 refine zc rfl (zq rfl ty5 xu rfl (zt rfl) (zb rfl)) xC ?_
 refine zc rfl (zd rfl vu yf rfl) xR ?_
 refine zc rfl (zq rfl ty5 xK rfl (zt rfl) (zb rfl)) yy ?_
 refine zc rfl (zz rfl xr yw rfl) yx ?_
 refine zc rfl (zg rfl yr (zb rfl)) yE ?_
 refine zr rfl (fun hb=>zd rfl qZ yv rfl) yK ?_
 refine zr rfl (fun hb=>zq rfl ty2 (zp yI hb) rfl (zt rfl) (zb rfl)) yT ?_
 refine zr rfl (fun hb=>zd rfl qZ yf rfl) yS ?_
 refine zr rfl (fun hb=>zq rfl ty2 (zp yO hb) rfl (zt rfl) (zb rfl)) yZ ?_
 refine zr rfl (fun hb=>zz rfl (zp yY hb) (zp y4 hb) rfl) y8 ?_
 refine zc rfl (zM rfl yD rfl xd (zZ (fun ht=>gF ht))) xk ?_
 refine zc rfl (zg rfl xl (zb rfl)) xJ ?_
 refine zr rfl (fun hb=>zd rfl wm yv rfl) xQ ?_
 refine zr rfl (fun hb=>zq rfl xM (zp xX hb) rfl (zt rfl) (zb rfl)) wb ?_
 refine zr rfl (fun hb=>zd rfl wm yf rfl) wl ?_
 refine zr rfl (fun hb=>zq rfl xM (zp wq hb) rfl (zt rfl) (zb rfl)) wp ?_
 refine zr rfl (fun hb=>zz rfl (zp wa hb) (zp wg hb) rfl) wu ?_
 refine zc rfl (zM rfl xL rfl ww (zZ (fun ht=>gF ht))) wz ?_
 refine zc rfl (zg rfl wv (zb rfl)) wV ?_
 refine zr rfl (fun hb=>zd rfl vp yv rfl) wU ?_
 refine zr rfl (fun hb=>zq rfl ty27.choose_spec.1 (zp w4 hb) rfl (zu (cs':=[.int .u8 a0.dot.actor.rep,.int .u32 a0.dot.actor.inc,.int .u64 a0.dot.seq]) ty27.choose_spec.2 rfl rfl) (zb rfl)) wG ?_
 refine zr rfl (fun hb=>zd rfl vp yf rfl) w9 ?_
 refine zr rfl (fun hb=>zq rfl ty27.choose_spec.1 (zp we hb) rfl (zu (cs':=[.int .u8 b1.dot.actor.rep,.int .u32 b1.dot.actor.inc,.int .u64 b1.dot.seq]) ty27.choose_spec.2 rfl rfl) (zb rfl)) w8 ?_
 refine zr rfl (fun hb=>zz rfl (zp wH hb) (zp va hb) (bin_ne pk27 rfl)) w7 ?_
 refine zc rfl (zM rfl wD rfl wZ (zZ (fun ht=>gF ht))) wT ?_
 refine zc rfl (zg rfl wQ (zb rfl)) wS ?_
 refine zr rfl (fun hb=>zd rfl qN yv rfl) wR ?_
 refine zr rfl (fun hb=>zq rfl ty9 (zp wX hb) rfl (zt rfl) (zb rfl)) vg ?_
 refine zr rfl (fun hb=>zd rfl qN yf rfl) vf ?_
 refine zr rfl (fun hb=>zq rfl ty9 (zp vm hb) rfl (zt rfl) (zb rfl)) vI ?_
 refine zr rfl (fun hb=>zz rfl (zp vn hb) (zp vC hb) rfl) vN ?_
 refine zc rfl (zM rfl wY rfl vO (zZ (fun ht=>gF ht))) vZ ?_
 refine zc rfl (zg rfl qe (zb rfl)) (sk st0) ?_
 refine zr rfl (fun hb=>zd rfl ym yv rfl) (sk st1) ?_
 refine zr rfl (fun hb=>zq rfl xW (zp (gk yB) hb) rfl (zt rfl) (zb rfl)) (sk xf) ?_
 refine xq rfl (fun hb=>ya rfl rfl rfl rfl yX (zp (gk yv) hb) yC) (sk x5) fun hn1=>?_
 refine zr rfl (fun hb=>zd rfl ym yf rfl) (sk yV) ?_
 refine zr rfl (fun hb=>zq rfl xW (zp (gk yp) hb) rfl (zt rfl) (zb rfl)) (sk xp) ?_
 refine xq rfl (fun hb=>ya rfl rfl rfl rfl yX (zp (gk yR) hb) yC) (sk xI) fun hn2=>?_
 refine zr rfl (fun hb=>zz rfl (zp (gk yf) hb) (zp (gk xh) hb) rfl) (sk xN) ?_
 refine zc rfl (zM rfl (gk yh) rfl (gk xu) (zZ (fun ht=>gF ht))) (sk xC) ?_
 refine zc rfl (zg rfl (gk xr) (zb rfl)) (sk xR) ?_
 refine zr rfl (fun hb=>zd rfl y5 yv rfl) (sk yy) ?_
 refine zr rfl (fun hb=>zq rfl xP (zp (gk yw) hb) rfl (zt rfl) (zb rfl)) (sk yx) ?_
 refine xq rfl (fun hb=>ya rfl rfl rfl rfl yU (zp (gk yr) hb) yC) (sk yE) fun hn3=>?_
 refine zr rfl (fun hb=>zd rfl y5 yf rfl) (sk yK) ?_
 refine zr rfl (fun hb=>zq rfl xP (zp (gk yI) hb) rfl (zt rfl) (zb rfl)) (sk yT) ?_
 refine xq rfl (fun hb=>ya rfl rfl rfl rfl yU (zp (gk yY) hb) yC) (sk yS) fun hn4=>?_
 refine zr rfl (fun hb=>zz rfl (zp (gk yD) hb) (zp (gk yO) hb) rfl) (sk yZ) ?_
 refine zc rfl (zM rfl (gk xK) rfl (gk y4) (zZ (fun ht=>gF ht))) (sk y8) ?_
 refine zf (zk ?_)
 refine zI (gk xd) hF (fun hc5 hF=>?_) (fun hc5 hF=>?_)
 ·refine zn (ze ?_)
  refine zc rfl (zj rfl rfl (zb rfl)) yV ?_
  refine zf (zk (zJ (zD ?_)))
  obtain rfl:=Option.some.inj hF
  refine zF rfl (zH yp zA) (zB (leV.refl _) rfl ?_)
  exact ⟨rfl,rfl⟩
 ·refine zN (zk (zn (zn (ze ?_))))
  refine zc rfl (zj rfl rfl (zb rfl)) xp ?_
  refine zf (zk (zW ?_))
  refine xi (fun (n1:Nat) (s1:Unit)=>xB [0,1,4,6,7,8,9,10,11,12,13,14,15,16,17,18,19,20,21,22,23,24,25,26,27,28,29,30,31,32,33,34,35,36,37,38,39,40,41,42,43,44,45,46,47,48,49,50,51,52,53,54,55,56,57,58,59,60,61,62,63,64,65,66,67,68,69,70,71,72,73,74,75,76,77,78,79,80,81,82,83,84,85,86,87,88,89,90,91,92,93] [(5,.int .i64 (n1:Int))]) (fun s1=>h.ext [.cells [.int .u8 a0.typ,.int .i64 a0.n,.int .u64 a0.time,.int .u8 a0.dot.actor.rep,.int .u32 a0.dot.actor.inc,.int .u64 a0.dot.seq,.str a0.text,.sl 5 (a0.items.map GItem.row),.sl 3 (a0.tombs.map GDot.row)],.cells [.int .u8 b1.typ,.int .i64 b1.n,.int .u64 b1.time,.int .u8 b1.dot.actor.rep,.int .u32 b1.dot.actor.inc,.int .u64 b1.dot.seq,.str b1.text,.sl 5 (b1.items.map GItem.row),.sl 3 (b1.tombs.map GDot.row)]] []) hF (fun _ _=>by simp only [xB,upd,List.set_cons_succ,List.set_cons_zero];try rfl) (wk.le (by exact (.drop (.drop (.eq (.eq (.drop (.cons (leV.of_eq rfl) (.d16 (.d16 (.d16 (.d16 (.d16 (.d4 (.d4 leL.nil))))))))))))))) ?_
  intro n1 s1 hi1 hF
  refine zn (zn (ze ?_))
  refine zc rfl (zg rfl yR (zb rfl)) (sk xk) ?_
  refine zc rfl (zd rfl ym yv rfl) (sk xJ) ?_
  refine zc rfl (zq rfl xW (gk xL) rfl (zt rfl) (zb rfl)) (sk xQ) ?_
  refine yj rfl (ya rfl rfl rfl rfl yX (gk xX) yC) (sk wb) fun hn31=>?_
  replace hn31:=wW hn31
  refine zc rfl (zz rfl (gk xl) (gk wa) rfl) (sk wl) ?_
  refine zf (zk ?_)
  refine xO (gk wq) hF (fun x1 o1 hl1 hx1 hF hK1=>?_) (fun hF=>?_)
  ·refine zN (zk (zn (zW (zn ?_))))
   refine yb [] [] trivial mixed (by kernel_rfl) ?_
   refine zi rfl rfl (zd rfl ym yv rfl) (sk wz) ?_
   refine zi rfl rfl (zq rfl xW (gk wv) rfl (zt rfl) (zb rfl)) (sk wV) ?_
   refine zi rfl rfl (zg rfl yR (zb rfl)) (sk wU) ?_
   refine zi rfl rfl (yM rfl yX (gk wD) (gk w4) isl (wc hx1)) (sk wG) ?_
   refine zi rfl rfl (yW rfl ty47.choose_spec.1 (gk wH) (zu (cs':=[.int .u64 x1.time,.int .u8 x1.dot.actor.rep,.int .u32 x1.dot.actor.inc,.int .u64 x1.dot.seq,.str x1.text]) ty47.choose_spec.2 rfl rfl) (zb rfl)) (sk w9) ?_
   refine zi rfl rfl (zd rfl ym yf rfl) (sk w8) ?_
   refine zi rfl rfl (zq rfl xW (gk va) rfl (zt rfl) (zb rfl)) (sk w7) ?_
   refine zi rfl rfl (zg rfl yR (zb rfl)) (sk wT) ?_
   refine zQ hF (fun y32 hy32 hF=>?_)
   refine zi rfl rfl (yM rfl yX (gk wZ) (gk wQ) isl hy32) (sk wS) ?_
   refine zi rfl rfl (yW rfl ty47.choose_spec.1 (gk wY) (zu (cs':=[.int .u64 y32.time,.int .u8 y32.dot.actor.rep,.int .u32 y32.dot.actor.inc,.int .u64 y32.dot.seq,.str y32.text]) ty47.choose_spec.2 rfl rfl) (zb rfl)) (sk wR) ?_
   refine zi rfl rfl (zz rfl (gk we) (gk wX) (bin_ne pk47 rfl)) (sk vg) ?_
   refine zX ?_
   refine zk ?_
   refine zI (gk vn) hF (fun hc33 hF=>?_) (fun hc33 hF=>?_)
   ·refine zn (ze ?_)
    refine zc rfl (zj rfl rfl (zb rfl)) yV ?_
    refine zf (zk (zJ ?_))
    refine zL ?_
    refine zD ?_
    refine yN ?_
    obtain rfl:=Option.some.inj hF
    replace hF:=hK1
    refine zL ?_
    refine zD ?_
    obtain rfl:=Option.some.inj hF
    refine zF rfl (zH yp zA) (zB (leV.refl _) rfl ?_)
    exact ⟨rfl,rfl⟩
   ·refine zN (ye (zk (ze ?_)))
    refine zc rfl (zg rfl yR (zb rfl)) (sk wp) ?_
    refine zc rfl (zz rfl (gk wg) rfl rfl) (sk wu) ?_
    refine zc rfl (zj rfl (gk ww) (zb rfl)) xp ?_
    refine zf (xw ?_)
    obtain rfl:=Option.some.inj hF
    exact ⟨(),hl1,hK1,wk.le (by exact (.drop (.drop (.eq (.eq (.drop (.cons (leV.of_eq (qT (by omega) (by omega))) (.d16 (.d16 (.d16 (.d16 (.d16 (.d4 (.d4 leL.nil))))))))))))))⟩
  ·refine xD ?_
   refine yd ?_
   refine z7 ?_
   refine z8 ?_
   refine zk (zn (zn (ze ?_)))
   refine zc rfl (zj rfl rfl (zb rfl)) xI ?_
   refine zf (zk (zW ?_))
   refine xi (fun (n2:Nat) (s2:Unit)=>xB [0,1,4,5,7,8,9,10,11,12,13,14,15,16,17,18,19,20,21,22,23,24,25,26,27,28,29,30,31,32,33,34,35,36,37,38,39,40,41,42,43,44,45,46,47,48,49,50,51,52,53,54,55,56,57,58,59,60,61,62,63,64,65,66,67,68,69,70,71,72,73,74,75,76,77,78,79,80,81,82,83,84,85,86,87,88,89,90,91,92,93] [(6,.int .i64 (n2:Int))]) (fun s2=>h.ext [.cells [.int .u8 a0.typ,.int .i64 a0.n,.int .u64 a0.time,.int .u8 a0.dot.actor.rep,.int .u32 a0.dot.actor.inc,.int .u64 a0.dot.seq,.str a0.text,.sl 5 (a0.items.map GItem.row),.sl 3 (a0.tombs.map GDot.row)],.cells [.int .u8 b1.typ,.int .i64 b1.n,.int .u64 b1.time,.int .u8 b1.dot.actor.rep,.int .u32 b1.dot.actor.inc,.int .u64 b1.dot.seq,.str b1.text,.sl 5 (b1.items.map GItem.row),.sl 3 (b1.tombs.map GDot.row)]] []) hF (fun _ _=>by simp only [xB,upd,List.set_cons_succ,List.set_cons_zero];try rfl) (wk.le (by exact (.drop (.drop (.eq (.eq (.drop (.drop (.cons (leV.of_eq rfl) (.d16 (.d16 (.d16 (.d16 (.d16 (.d4 (.drop (.drop (.drop leL.nil)))))))))))))))))) ?_
   intro n2 s2 hi2 hF
   refine zn (zn (ze ?_))
   refine zc rfl (zg rfl xh (zb rfl)) (sk vf) ?_
   refine zc rfl (zd rfl y5 yv rfl) (sk vI) ?_
   refine zc rfl (zq rfl xP (gk vC) rfl (zt rfl) (zb rfl)) (sk vN) ?_
   refine yj rfl (ya rfl rfl rfl rfl yU (gk vO) yC) (sk vZ) fun hn59=>?_
   replace hn59:=wW hn59
   refine zc rfl (zz rfl (gk vm) (gk qe) rfl) (sk (sk st0)) ?_
   refine zf (zk ?_)
   refine xO (gk (gk yh)) hF (fun x2 o2 hl2 hx2 hF hK2=>?_) (fun hF=>?_)
   ·refine zN (zk (zn (zW (zn ?_))))
    refine yb [] [] trivial mixed (by kernel_rfl) ?_
    refine zi rfl rfl (zd rfl y5 yv rfl) (sk (sk x5)) ?_
    refine zi rfl rfl (zq rfl xP (gk (gk yf)) rfl (zt rfl) (zb rfl)) (sk (sk yV)) ?_
    refine zi rfl rfl (zg rfl xh (zb rfl)) (sk (sk xp)) ?_
    refine zi rfl rfl (yM rfl yU (gk (gk yp)) (gk (gk yR)) isl (wc hx2)) (sk (sk xI)) ?_
    refine zi rfl rfl (yW rfl ty27.choose_spec.1 (gk (gk xh)) (zu (cs':=[.int .u8 x2.actor.rep,.int .u32 x2.actor.inc,.int .u64 x2.seq]) ty27.choose_spec.2 rfl rfl) (zb rfl)) (sk (sk xN)) ?_
    refine zi rfl rfl (zd rfl y5 yf rfl) (sk (sk xC)) ?_
    refine zi rfl rfl (zq rfl xP (gk (gk xr)) rfl (zt rfl) (zb rfl)) (sk (sk xR)) ?_
    refine zi rfl rfl (zg rfl xh (zb rfl)) (sk (sk yy)) ?_
    refine zQ hF (fun y60 hy60 hF=>?_)
    refine zi rfl rfl (yM rfl yU (gk (gk xK)) (gk (gk yw)) isl hy60) (sk (sk yx)) ?_
    refine zi rfl rfl (yW rfl ty27.choose_spec.1 (gk (gk yr)) (zu (cs':=[.int .u8 y60.actor.rep,.int .u32 y60.actor.inc,.int .u64 y60.seq]) ty27.choose_spec.2 rfl rfl) (zb rfl)) (sk (sk yE)) ?_
    refine zi rfl rfl (zz rfl (gk (gk xu)) (gk (gk yD)) (bin_ne pk27 rfl)) (sk (sk yK)) ?_
    refine zX ?_
    refine zk ?_
    refine zI (gk (gk yI)) hF (fun hc61 hF=>?_) (fun hc61 hF=>?_)
    ·refine zn (ze ?_)
     refine zc rfl (zj rfl rfl (zb rfl)) yV ?_
     refine zf (zk (zJ ?_))
     refine zL ?_
     refine zD ?_
     refine yN ?_
     obtain rfl:=Option.some.inj hF
     replace hF:=hK2
     refine zL ?_
     refine zD ?_
     obtain rfl:=Option.some.inj hF
     refine zF rfl (zH yp zA) (zB (leV.refl _) rfl ?_)
     exact ⟨rfl,rfl⟩
    ·refine zN (ye (zk (ze ?_)))
     refine zc rfl (zg rfl xh (zb rfl)) (sk (sk st1)) ?_
     refine zc rfl (zz rfl (gk (gk yB)) rfl rfl) (sk (sk xf)) ?_
     refine zc rfl (zj rfl (gk (gk yv)) (zb rfl)) xI ?_
     refine zf (xw ?_)
     obtain rfl:=Option.some.inj hF
     exact ⟨(),hl2,hK2,wk.le (by exact (.drop (.drop (.eq (.eq (.drop (.drop (.cons (leV.of_eq (qT (by omega) (by omega))) (.d16 (.d16 (.d16 (.d16 (.d16 (.d4 (.drop (.drop (.drop leL.nil)))))))))))))))))⟩
   ·refine xD ?_
    refine yd ?_
    refine z7 ?_
    refine z8 ?_
    refine zk (zn (ze ?_))
    refine zc rfl (zj rfl rfl (zb rfl)) yV ?_
    refine zf (zk (zJ ?_))
    obtain rfl:=Option.some.inj hF
    refine zF rfl (zH yp zA) (zB (leV.refl _) rfl ?_)
    exact ⟨rfl,rfl⟩
/-! varve/leaf.New -/
theorem ok11 {kind0:Int} {res:GLeaf} {h:AH}  (hF:leafNew kind0=some res):Spec Tryz.prog 11 [.int .u8 kind0] h (fun rr hh=>rr=.agg [.int .u8 res.typ,.int .i64 res.n,.int .u64 res.time,.int .u8 res.dot.actor.rep,.int .u32 res.dot.actor.inc,.int .u64 res.dot.seq,.str res.text,.sl 5 (res.items.map GItem.row),.sl 3 (res.tombs.map GDot.row)]∧hh=h):=by
 unfold leafNew at hF
 refine zx Tryz.func11 rfl (by kernel_rfl) (env:=[.int .u8 kind0,za,za,za,za,za,za,za,za,za,za,za]) (by rfl) ?_
 refine zn (ze ?_)
 refine zc rfl (xG (n:=0) rfl ze31 rfl) xf ?_
 refine zf (zk (zn (zn (ze ?_))))
 refine zc rfl (zg rfl yh (zb rfl)) x5 ?_
 refine zc rfl (zz rfl yf rfl rfl) yV ?_
 refine zc rfl (zg rfl yp (zb rfl)) xp ?_
 refine zr rfl (fun hb=>zg rfl yh (zb rfl)) xI ?_
 refine zr rfl (fun hb=>zz rfl (zp xh hb) rfl rfl) xN ?_
 refine zc rfl (zM rfl yR rfl xu (zZ (fun ht=>gF ht))) xC ?_
 refine zf (zk ?_)
 refine zI xr hF (fun hc1 hF=>?_) (fun hc1 hF=>?_)
 ·refine zn (ze ?_)
  refine zc rfl (xc (cs':=[.int .u8 (0:Int),.int .i64 (0:Int),.int .u64 (0:Int),.int .u8 (0:Int),.int .u32 (0:Int),.int .u64 (0:Int),.str ([]:yn),.osl none 5 (([]:List GItem).map GItem.row),.osl none 3 (([]:List GDot).map GDot.row)]) rfl su31 ze31 pl31 zT .nil rfl rfl) xR ?_
  refine zc rfl (zP (cs':=[.int .u8 (0:Int),.int .i64 (0:Int),.int .u64 (0:Int),.int .u8 (0:Int),.int .u32 (0:Int),.int .u64 (0:Int),.str ([]:yn),.osl none 5 (([]:List GItem).map GItem.row),.osl none 3 (([]:List GDot).map GDot.row)]) rfl ty31.choose_spec.1 yv xK (zb rfl) rfl rfl rfl rfl rfl) rfl ?_
  refine zf (zk (zJ (zD ?_)))
  obtain rfl:=Option.some.inj hF
  refine zF rfl (xg ty31.choose_spec.1 yv rfl (zu (cs':=[.int .u8 (0:Int),.int .i64 (0:Int),.int .u64 (0:Int),.int .u8 (0:Int),.int .u32 (0:Int),.int .u64 (0:Int),.str ([]:yn),.osl none 5 (([]:List GItem).map GItem.row),.osl none 3 (([]:List GDot).map GDot.row)]) ty31.choose_spec.2 rfl rfl) (zb rfl) zA) (zB (leV.agg (.eq (.eq (.eq (.eq (.eq (.eq (.eq (.cons (leV.osl _ _ _) (.cons (leV.osl _ _ _) leL.nil))))))))) rfl) rfl ?_)
  exact ⟨rfl,rfl⟩
 ·refine zN (zk (zn (ze ?_)))
  refine zc rfl (zg rfl yh (zb rfl)) yy ?_
  refine zc rfl (xc (cs':=[.int .u8 kind0,.int .i64 (0:Int),.int .u64 (0:Int),.int .u8 (0:Int),.int .u32 (0:Int),.int .u64 (0:Int),.str ([]:yn),.osl none 5 (([]:List GItem).map GItem.row),.osl none 3 (([]:List GDot).map GDot.row)]) rfl su31 ze31 pl31 (zK yw zT) (.cons (zb rfl) .nil) rfl rfl) yx ?_
  refine zc rfl (zP (cs':=[.int .u8 kind0,.int .i64 (0:Int),.int .u64 (0:Int),.int .u8 (0:Int),.int .u32 (0:Int),.int .u64 (0:Int),.str ([]:yn),.osl none 5 (([]:List GItem).map GItem.row),.osl none 3 (([]:List GDot).map GDot.row)]) rfl ty31.choose_spec.1 yv yr (zb rfl) rfl rfl rfl rfl rfl) rfl ?_
  refine zf (zk (zJ ?_))
  obtain rfl:=Option.some.inj hF
  refine zF rfl (xg ty31.choose_spec.1 yv rfl (zu (cs':=[.int .u8 kind0,.int .i64 (0:Int),.int .u64 (0:Int),.int .u8 (0:Int),.int .u32 (0:Int),.int .u64 (0:Int),.str ([]:yn),.osl none 5 (([]:List GItem).map GItem.row),.osl none 3 (([]:List GDot).map GDot.row)]) ty31.choose_spec.2 rfl rfl) (zb rfl) zA) (zB (leV.agg (.eq (.eq (.eq (.eq (.eq (.eq (.eq (.cons (leV.osl _ _ _) (.cons (leV.osl _ _ _) leL.nil))))))))) rfl) rfl ?_)
  exact ⟨rfl,rfl⟩
/-! cmp.Or[int] -/
theorem ok48 {vals0:(List Int)} {res:Int} {h:AH}  (hF:cmpOrInt vals0=some res):Spec Tryz.prog 48 [.sl 1 (vals0.map (intRow .i64))] h (fun rr hh=>rr=.int .i64 res∧hh=h):=by
 unfold cmpOrInt at hF
 refine zx Tryz.func48 rfl (by kernel_rfl) (env:=[.sl 1 (vals0.map (intRow .i64)),za,za,za,za,za,za,za,za,za,za,za,za,za,za,za,za,za]) (by rfl) ?_
 refine zn (ze ?_)
 refine zc rfl (zj rfl rfl (zb rfl)) xf ?_
 refine zf (zk (zn (ze ?_)))
 refine zc rfl (zj rfl rfl (zb rfl)) x5 ?_
 refine zf (zk (zn (zn (ze ?_))))
 refine zc rfl (zg rfl yh (zb rfl)) xI ?_
 refine yj rfl (ya rfl rfl rfl rfl el90 xh yC) xN fun hn1=>?_
 replace hn1:=wW hn1
 refine zc rfl (zg rfl rfl (zb rfl)) xC ?_
 refine zf (zk (zW ?_))
 refine xi (fun (n1:Nat) (s1:Unit)=>xB [0,1,2,4,5,9,10,11,12,13,14,15,16,17] [(8,.int .i64 (n1:Int))]) (fun s1=>h.ext [] []) hF (fun _ _=>by simp only [xB,upd,List.set_cons_succ,List.set_cons_zero];try rfl) (wk.le (by exact (.drop (.drop (.drop (.eq (.drop (.drop (.eq (.eq (.cons (leV.of_eq rfl) (.d4 (.d4 (.drop leL.nil)))))))))))))) ?_
 intro n1 s1 hi1 hF
 refine zn (ze ?_)
 refine zc rfl (zz rfl xr xu rfl) xR ?_
 refine zf (zk (zn ?_))
 refine xO xK hF (fun x1 o1 hl1 hx1 hF hK1=>?_) (fun hF=>?_)
 ·refine zN (zk (zn (zW (zn (ze ?_)))))
  refine zc rfl (yM rfl el90 xh xr isl (wc hx1)) yy ?_
  refine zc rfl (yW rfl ty3 yw (zt rfl) (zb rfl)) yx ?_
  refine zc rfl (zj rfl yr (zb rfl)) xp ?_
  refine zf (zk (zn (ze ?_)))
  refine zc rfl (zg rfl yR (zb rfl)) yE ?_
  refine zc rfl (zg rfl yf (zb rfl)) yK ?_
  refine zc rfl (zz rfl yD yI rfl) yT ?_
  refine zf (zk ?_)
  refine zI yY hF (fun hc6 hF=>?_) (fun hc6 hF=>?_)
  ·refine zn (ze ?_)
   refine zc rfl (zg rfl yR (zb rfl)) yS ?_
   refine zc rfl (zj rfl yO (zb rfl)) xf ?_
   refine zf (zk (zJ ?_))
   refine zL ?_
   refine zD ?_
   refine yN ?_
   obtain rfl:=Option.some.inj hF
   replace hF:=hK1
   refine zL ?_
   refine zD ?_
   obtain rfl:=Option.some.inj hF
   refine zF rfl (zH yv zA) (zB (leV.refl _) rfl ?_)
   exact ⟨rfl,rfl⟩
  ·refine zN (ye (zk (ze ?_)))
   refine zc rfl (zz rfl xr rfl rfl) yZ ?_
   refine zc rfl (zg rfl y4 (zb rfl)) xC ?_
   refine zf (xw ?_)
   obtain rfl:=Option.some.inj hF
   exact ⟨(),hl1,hK1,wk.le (by exact (.drop (.drop (.drop (.eq (.drop (.drop (.eq (.eq (.cons (leV.of_eq (qT (by omega) (by omega))) (.d4 (.d4 (.drop leL.nil)))))))))))))⟩
 ·refine xD ?_
  refine yd ?_
  refine z7 ?_
  refine z8 ?_
  refine zk (zn (ze ?_))
  refine zc rfl (zg rfl yf (zb rfl)) y8 ?_
  refine zc rfl (zj rfl xd (zb rfl)) xf ?_
  refine zf (zk (zJ ?_))
  obtain rfl:=Option.some.inj hF
  refine zF rfl (zH yv zA) (zB (leV.refl _) rfl ?_)
  exact ⟨rfl,rfl⟩
/-! cmp.isNaN[uint64] -/
theorem ok62 {x0:Int} {res:Bool} {h:AH}  (hF:vE x0=some res):Spec Tryz.prog 62 [.int .u64 x0] h (fun rr hh=>rr=.bool res∧hh=h):=by
 unfold vE at hF
 refine zx Tryz.func62 rfl (by kernel_rfl) (env:=[.int .u64 x0,za,za,za,za,za]) (by rfl) ?_
 refine zn (ze ?_)
 refine zc rfl (zj rfl rfl (zb rfl)) xf ?_
 refine zf (zk (zn (ze ?_)))
 refine zc rfl (zg rfl yh (zb rfl)) x5 ?_
 refine zc rfl (zg rfl yh (zb rfl)) yV ?_
 refine zc rfl (zz rfl yf yp rfl) xp ?_
 refine zc rfl (zj rfl yR (zb rfl)) xf ?_
 refine zf (zk (zJ ?_))
 obtain rfl:=Option.some.inj hF
 refine zF rfl (zH yv zA) (zB (leV.refl _) rfl ?_)
 exact ⟨rfl,rfl⟩
/-! cmp.Compare[uint64] -/
theorem ok49 {x0:Int} {y1:Int} {res:Int} {h:AH}  (hF:wx x0 y1=some res):Spec Tryz.prog 49 [.int .u64 x0,.int .u64 y1] h (fun rr hh=>rr=.int .i64 res∧hh=h):=by
 unfold wx at hF
 refine zx Tryz.func49 rfl (by kernel_rfl) (env:=[.int .u64 x0,.int .u64 y1,za,za,za,za,za,za,za,za,za,za,za,za,za,za,za,za,za,za]) (by rfl) ?_
 refine zn (ze ?_)
 refine zc rfl (zj rfl rfl (zb rfl)) yV ?_
 refine zf (zk (zn (ze ?_)))
 refine zc rfl (zg rfl yh (zb rfl)) xN ?_
 refine zQ hF (fun v1 hv1 hF=>?_)
 refine zU rfl (zC rfl rfl rfl (zo xu zw) (.cons (zb rfl) .nil)) (ok62 hv1) xC ?_
 refine zc rfl (zj rfl xr (zb rfl)) xp ?_
 refine zf (zk (zn (ze ?_)))
 refine zc rfl (zg rfl yB (zb rfl)) xR ?_
 refine zQ hF (fun v2 hv2 hF=>?_)
 refine zU rfl (zC rfl rfl rfl (zo xK zw) (.cons (zb rfl) .nil)) (ok62 hv2) yy ?_
 refine zc rfl (zj rfl yw (zb rfl)) xI ?_
 refine zf (zk (zn (zn (ze ?_))))
 refine zc rfl (zg rfl yR (zb rfl)) yx ?_
 refine zf (zk ?_)
 refine zI yr hF (fun hc3 hF=>?_) (fun hc3 hF=>?_)
 ·refine zn (zn (ze ?_))
  refine zc rfl (zg rfl xh (zb rfl)) yE ?_
  refine zf (zk ?_)
  refine zI yD hF (fun hc4 hF=>?_) (fun hc4 hF=>?_)
  ·refine zn (ze ?_)
   refine zc rfl (zj rfl rfl (zb rfl)) yV ?_
   refine zf (zk (zJ (zD (zD ?_))))
   obtain rfl:=Option.some.inj hF
   refine zF rfl (zH yp zA) (zB (leV.refl _) rfl ?_)
   exact ⟨rfl,rfl⟩
  ·refine zN (zk (zn (ze ?_)))
   refine zc rfl (zj rfl rfl (zb rfl)) yV ?_
   refine zf (zk (zJ (zD ?_)))
   obtain rfl:=Option.some.inj hF
   refine zF rfl (zH yp zA) (zB (leV.refl _) rfl ?_)
   exact ⟨rfl,rfl⟩
 ·refine zN (zk (zn (zn (ze ?_))))
  refine zc rfl (zg rfl xh (zb rfl)) yK ?_
  refine zf (zk ?_)
  refine zI yI hF (fun hc5 hF=>?_) (fun hc5 hF=>?_)
  ·refine zn (ze ?_)
   refine zc rfl (zj rfl rfl (zb rfl)) yV ?_
   refine zf (zk (zJ (zD ?_)))
   obtain rfl:=Option.some.inj hF
   refine zF rfl (zH yp zA) (zB (leV.refl _) rfl ?_)
   exact ⟨rfl,rfl⟩
  ·refine zN (zk (zn (zn (ze ?_))))
   refine zc rfl (zg rfl yh (zb rfl)) yT ?_
   refine zc rfl (zg rfl yB (zb rfl)) yS ?_
   refine zc rfl (zz rfl yY yO rfl) yZ ?_
   refine zf (zk ?_)
   refine zI y4 hF (fun hc6 hF=>?_) (fun hc6 hF=>?_)
   ·refine zn (ze ?_)
    refine zc rfl (zj rfl rfl (zb rfl)) yV ?_
    refine zf (zk (zJ (zD ?_)))
    obtain rfl:=Option.some.inj hF
    refine zF rfl (zH yp zA) (zB (leV.refl _) rfl ?_)
    exact ⟨rfl,rfl⟩
   ·refine zN (zk (zn (zn (ze ?_))))
    refine zc rfl (zg rfl yh (zb rfl)) y8 ?_
    refine zc rfl (zg rfl yB (zb rfl)) xk ?_
    refine zc rfl (zz rfl xd xl rfl) xJ ?_
    refine zf (zk ?_)
    refine zI xL hF (fun hc7 hF=>?_) (fun hc7 hF=>?_)
    ·refine zn (ze ?_)
     refine zc rfl (zj rfl rfl (zb rfl)) yV ?_
     refine zf (zk (zJ (zD ?_)))
     obtain rfl:=Option.some.inj hF
     refine zF rfl (zH yp zA) (zB (leV.refl _) rfl ?_)
     exact ⟨rfl,rfl⟩
    ·refine zN (zk (zn (ze ?_)))
     refine zc rfl (zj rfl rfl (zb rfl)) yV ?_
     refine zf (zk (zJ ?_))
     obtain rfl:=Option.some.inj hF
     refine zF rfl (zH yp zA) (zB (leV.refl _) rfl ?_)
     exact ⟨rfl,rfl⟩
/-! cmp.isNaN[uint8] -/
theorem ok93 {x0:Int} {res:Bool} {h:AH}  (hF:vW x0=some res):Spec Tryz.prog 93 [.int .u8 x0] h (fun rr hh=>rr=.bool res∧hh=h):=by
 unfold vW at hF
 refine zx Tryz.func93 rfl (by kernel_rfl) (env:=[.int .u8 x0,za,za,za,za,za]) (by rfl) ?_
 refine zn (ze ?_)
 refine zc rfl (zj rfl rfl (zb rfl)) xf ?_
 refine zf (zk (zn (ze ?_)))
 refine zc rfl (zg rfl yh (zb rfl)) x5 ?_
 refine zc rfl (zg rfl yh (zb rfl)) yV ?_
 refine zc rfl (zz rfl yf yp rfl) xp ?_
 refine zc rfl (zj rfl yR (zb rfl)) xf ?_
 refine zf (zk (zJ ?_))
 obtain rfl:=Option.some.inj hF
 refine zF rfl (zH yv zA) (zB (leV.refl _) rfl ?_)
 exact ⟨rfl,rfl⟩
/-! cmp.Compare[uint8] -/
theorem ok75 {x0:Int} {y1:Int} {res:Int} {h:AH}  (hF:vG x0 y1=some res):Spec Tryz.prog 75 [.int .u8 x0,.int .u8 y1] h (fun rr hh=>rr=.int .i64 res∧hh=h):=by
 unfold vG at hF
 refine zx Tryz.func75 rfl (by kernel_rfl) (env:=[.int .u8 x0,.int .u8 y1,za,za,za,za,za,za,za,za,za,za,za,za,za,za,za,za,za,za]) (by rfl) ?_
 refine zn (ze ?_)
 refine zc rfl (zj rfl rfl (zb rfl)) yV ?_
 refine zf (zk (zn (ze ?_)))
 refine zc rfl (zg rfl yh (zb rfl)) xN ?_
 refine zQ hF (fun v1 hv1 hF=>?_)
 refine zU rfl (zC rfl rfl rfl (zo xu zw) (.cons (zb rfl) .nil)) (ok93 hv1) xC ?_
 refine zc rfl (zj rfl xr (zb rfl)) xp ?_
 refine zf (zk (zn (ze ?_)))
 refine zc rfl (zg rfl yB (zb rfl)) xR ?_
 refine zQ hF (fun v2 hv2 hF=>?_)
 refine zU rfl (zC rfl rfl rfl (zo xK zw) (.cons (zb rfl) .nil)) (ok93 hv2) yy ?_
 refine zc rfl (zj rfl yw (zb rfl)) xI ?_
 refine zf (zk (zn (zn (ze ?_))))
 refine zc rfl (zg rfl yR (zb rfl)) yx ?_
 refine zf (zk ?_)
 refine zI yr hF (fun hc3 hF=>?_) (fun hc3 hF=>?_)
 ·refine zn (zn (ze ?_))
  refine zc rfl (zg rfl xh (zb rfl)) yE ?_
  refine zf (zk ?_)
  refine zI yD hF (fun hc4 hF=>?_) (fun hc4 hF=>?_)
  ·refine zn (ze ?_)
   refine zc rfl (zj rfl rfl (zb rfl)) yV ?_
   refine zf (zk (zJ (zD (zD ?_))))
   obtain rfl:=Option.some.inj hF
   refine zF rfl (zH yp zA) (zB (leV.refl _) rfl ?_)
   exact ⟨rfl,rfl⟩
  ·refine zN (zk (zn (ze ?_)))
   refine zc rfl (zj rfl rfl (zb rfl)) yV ?_
   refine zf (zk (zJ (zD ?_)))
   obtain rfl:=Option.some.inj hF
   refine zF rfl (zH yp zA) (zB (leV.refl _) rfl ?_)
   exact ⟨rfl,rfl⟩
 ·refine zN (zk (zn (zn (ze ?_))))
  refine zc rfl (zg rfl xh (zb rfl)) yK ?_
  refine zf (zk ?_)
  refine zI yI hF (fun hc5 hF=>?_) (fun hc5 hF=>?_)
  ·refine zn (ze ?_)
   refine zc rfl (zj rfl rfl (zb rfl)) yV ?_
   refine zf (zk (zJ (zD ?_)))
   obtain rfl:=Option.some.inj hF
   refine zF rfl (zH yp zA) (zB (leV.refl _) rfl ?_)
   exact ⟨rfl,rfl⟩
  ·refine zN (zk (zn (zn (ze ?_))))
   refine zc rfl (zg rfl yh (zb rfl)) yT ?_
   refine zc rfl (zg rfl yB (zb rfl)) yS ?_
   refine zc rfl (zz rfl yY yO rfl) yZ ?_
   refine zf (zk ?_)
   refine zI y4 hF (fun hc6 hF=>?_) (fun hc6 hF=>?_)
   ·refine zn (ze ?_)
    refine zc rfl (zj rfl rfl (zb rfl)) yV ?_
    refine zf (zk (zJ (zD ?_)))
    obtain rfl:=Option.some.inj hF
    refine zF rfl (zH yp zA) (zB (leV.refl _) rfl ?_)
    exact ⟨rfl,rfl⟩
   ·refine zN (zk (zn (zn (ze ?_))))
    refine zc rfl (zg rfl yh (zb rfl)) y8 ?_
    refine zc rfl (zg rfl yB (zb rfl)) xk ?_
    refine zc rfl (zz rfl xd xl rfl) xJ ?_
    refine zf (zk ?_)
    refine zI xL hF (fun hc7 hF=>?_) (fun hc7 hF=>?_)
    ·refine zn (ze ?_)
     refine zc rfl (zj rfl rfl (zb rfl)) yV ?_
     refine zf (zk (zJ (zD ?_)))
     obtain rfl:=Option.some.inj hF
     refine zF rfl (zH yp zA) (zB (leV.refl _) rfl ?_)
     exact ⟨rfl,rfl⟩
    ·refine zN (zk (zn (ze ?_)))
     refine zc rfl (zj rfl rfl (zb rfl)) yV ?_
     refine zf (zk (zJ ?_))
     obtain rfl:=Option.some.inj hF
     refine zF rfl (zH yp zA) (zB (leV.refl _) rfl ?_)
     exact ⟨rfl,rfl⟩
/-! cmp.isNaN[uint32] -/
theorem ok94 {x0:Int} {res:Bool} {h:AH}  (hF:vF x0=some res):Spec Tryz.prog 94 [.int .u32 x0] h (fun rr hh=>rr=.bool res∧hh=h):=by
 unfold vF at hF
 refine zx Tryz.func94 rfl (by kernel_rfl) (env:=[.int .u32 x0,za,za,za,za,za]) (by rfl) ?_
 refine zn (ze ?_)
 refine zc rfl (zj rfl rfl (zb rfl)) xf ?_
 refine zf (zk (zn (ze ?_)))
 refine zc rfl (zg rfl yh (zb rfl)) x5 ?_
 refine zc rfl (zg rfl yh (zb rfl)) yV ?_
 refine zc rfl (zz rfl yf yp rfl) xp ?_
 refine zc rfl (zj rfl yR (zb rfl)) xf ?_
 refine zf (zk (zJ ?_))
 obtain rfl:=Option.some.inj hF
 refine zF rfl (zH yv zA) (zB (leV.refl _) rfl ?_)
 exact ⟨rfl,rfl⟩
/-! cmp.Compare[uint32] -/
theorem ok76 {x0:Int} {y1:Int} {res:Int} {h:AH}  (hF:vq x0 y1=some res):Spec Tryz.prog 76 [.int .u32 x0,.int .u32 y1] h (fun rr hh=>rr=.int .i64 res∧hh=h):=by
 unfold vq at hF
 refine zx Tryz.func76 rfl (by kernel_rfl) (env:=[.int .u32 x0,.int .u32 y1,za,za,za,za,za,za,za,za,za,za,za,za,za,za,za,za,za,za]) (by rfl) ?_
 refine zn (ze ?_)
 refine zc rfl (zj rfl rfl (zb rfl)) yV ?_
 refine zf (zk (zn (ze ?_)))
 refine zc rfl (zg rfl yh (zb rfl)) xN ?_
 refine zQ hF (fun v1 hv1 hF=>?_)
 refine zU rfl (zC rfl rfl rfl (zo xu zw) (.cons (zb rfl) .nil)) (ok94 hv1) xC ?_
 refine zc rfl (zj rfl xr (zb rfl)) xp ?_
 refine zf (zk (zn (ze ?_)))
 refine zc rfl (zg rfl yB (zb rfl)) xR ?_
 refine zQ hF (fun v2 hv2 hF=>?_)
 refine zU rfl (zC rfl rfl rfl (zo xK zw) (.cons (zb rfl) .nil)) (ok94 hv2) yy ?_
 refine zc rfl (zj rfl yw (zb rfl)) xI ?_
 refine zf (zk (zn (zn (ze ?_))))
 refine zc rfl (zg rfl yR (zb rfl)) yx ?_
 refine zf (zk ?_)
 refine zI yr hF (fun hc3 hF=>?_) (fun hc3 hF=>?_)
 ·refine zn (zn (ze ?_))
  refine zc rfl (zg rfl xh (zb rfl)) yE ?_
  refine zf (zk ?_)
  refine zI yD hF (fun hc4 hF=>?_) (fun hc4 hF=>?_)
  ·refine zn (ze ?_)
   refine zc rfl (zj rfl rfl (zb rfl)) yV ?_
   refine zf (zk (zJ (zD (zD ?_))))
   obtain rfl:=Option.some.inj hF
   refine zF rfl (zH yp zA) (zB (leV.refl _) rfl ?_)
   exact ⟨rfl,rfl⟩
  ·refine zN (zk (zn (ze ?_)))
   refine zc rfl (zj rfl rfl (zb rfl)) yV ?_
   refine zf (zk (zJ (zD ?_)))
   obtain rfl:=Option.some.inj hF
   refine zF rfl (zH yp zA) (zB (leV.refl _) rfl ?_)
   exact ⟨rfl,rfl⟩
 ·refine zN (zk (zn (zn (ze ?_))))
  refine zc rfl (zg rfl xh (zb rfl)) yK ?_
  refine zf (zk ?_)
  refine zI yI hF (fun hc5 hF=>?_) (fun hc5 hF=>?_)
  ·refine zn (ze ?_)
   refine zc rfl (zj rfl rfl (zb rfl)) yV ?_
   refine zf (zk (zJ (zD ?_)))
   obtain rfl:=Option.some.inj hF
   refine zF rfl (zH yp zA) (zB (leV.refl _) rfl ?_)
   exact ⟨rfl,rfl⟩
  ·refine zN (zk (zn (zn (ze ?_))))
   refine zc rfl (zg rfl yh (zb rfl)) yT ?_
   refine zc rfl (zg rfl yB (zb rfl)) yS ?_
   refine zc rfl (zz rfl yY yO rfl) yZ ?_
   refine zf (zk ?_)
   refine zI y4 hF (fun hc6 hF=>?_) (fun hc6 hF=>?_)
   ·refine zn (ze ?_)
    refine zc rfl (zj rfl rfl (zb rfl)) yV ?_
    refine zf (zk (zJ (zD ?_)))
    obtain rfl:=Option.some.inj hF
    refine zF rfl (zH yp zA) (zB (leV.refl _) rfl ?_)
    exact ⟨rfl,rfl⟩
   ·refine zN (zk (zn (zn (ze ?_))))
    refine zc rfl (zg rfl yh (zb rfl)) y8 ?_
    refine zc rfl (zg rfl yB (zb rfl)) xk ?_
    refine zc rfl (zz rfl xd xl rfl) xJ ?_
    refine zf (zk ?_)
    refine zI xL hF (fun hc7 hF=>?_) (fun hc7 hF=>?_)
    ·refine zn (ze ?_)
     refine zc rfl (zj rfl rfl (zb rfl)) yV ?_
     refine zf (zk (zJ (zD ?_)))
     obtain rfl:=Option.some.inj hF
     refine zF rfl (zH yp zA) (zB (leV.refl _) rfl ?_)
     exact ⟨rfl,rfl⟩
    ·refine zN (zk (zn (ze ?_)))
     refine zc rfl (zj rfl rfl (zb rfl)) yV ?_
     refine zf (zk (zJ ?_))
     obtain rfl:=Option.some.inj hF
     refine zF rfl (zH yp zA) (zB (leV.refl _) rfl ?_)
     exact ⟨rfl,rfl⟩
/-! varve/dot.compare -/
theorem ok59 {a0:GActor} {b1:GActor} {res:Int} {h:AH}  (hF:dotXcompare a0 b1=some res):Spec Tryz.prog 59 [.agg [.int .u8 a0.rep,.int .u32 a0.inc],.agg [.int .u8 b1.rep,.int .u32 b1.inc]] h (fun rr hh=>rr=.int .i64 res∧hh=h):=by
 unfold dotXcompare at hF
 refine zx Tryz.func59 rfl (by kernel_rfl) (env:=[.agg [.int .u8 a0.rep,.int .u32 a0.inc],.agg [.int .u8 b1.rep,.int .u32 b1.inc],za,za,za,za,za,za,za,za,za,za,za,za,za,za,za]) (by rfl) ?_
 refine zn (ze ?_)
 refine zc rfl (yF (n:=0) rfl yh (zb rfl) rfl rfl) xf ?_
 refine zc rfl (yF (n:=1) rfl yB (zb rfl) rfl rfl) x5 ?_
 refine zc rfl (zj rfl rfl (zb rfl)) yV ?_
 refine zf (zk (zn ?_))
 refine yb [4,9,11] [] trivial mixed (by kernel_rfl) ?_
 refine zi rfl rfl (zd rfl fo25x0 yv rfl) xp ?_
 refine zi rfl rfl (zq rfl ty5 yR rfl (zt rfl) (zb rfl)) xI ?_
 refine zi rfl rfl (zd rfl fo25x0 yf rfl) xN ?_
 refine zi rfl rfl (zq rfl ty5 xu rfl (zt rfl) (zb rfl)) xC ?_
 refine zQ hF (fun v1 hv1 hF=>?_)
 refine yQ rfl rfl (fun _=>zC rfl rfl rfl (zo xh (zo xr zw)) (.cons (zb rfl) (.cons (zb rfl) .nil))) (by rintro _ ⟨B2,T2,rfl,hk2⟩;exact ok75 hv1) xR ?_
 refine zi rfl rfl (zd rfl fo25x1 yv rfl) yy ?_
 refine zi rfl rfl (zq rfl ty23 yw rfl (zt rfl) (zb rfl)) yx ?_
 refine zi rfl rfl (zd rfl fo25x1 yf rfl) yE ?_
 refine zi rfl rfl (zq rfl ty23 yD rfl (zt rfl) (zb rfl)) yK ?_
 refine zQ hF (fun v2 hv2 hF=>?_)
 refine yQ rfl rfl (fun _=>zC rfl rfl rfl (zo yr (zo yI zw)) (.cons (zb rfl) (.cons (zb rfl) .nil))) (by rintro _ ⟨B2,T2,rfl,hk2⟩;exact ok76 hv2) yT ?_
 refine zi rfl rfl (yq (es:=([v1,v2]:List Int).map (intRow .i64)) rfl el90 ze3 rfl rfl (zK xK (zK yY zT)) (.cons (zb rfl) (.cons (zb rfl) .nil)) rfl rfl rfl) yS ?_
 refine zQ hF (fun v3 hv3 hF=>?_)
 refine yQ rfl rfl (fun _=>zC rfl rfl rfl (zo yO zw) (.cons (zb rfl) .nil)) (by rintro _ ⟨B2,T2,rfl,hk2⟩;exact (ok48 hv3).le (.cons (leV.osl _ _ _) leL.nil)) yZ ?_
 refine zi rfl rfl (zj rfl y4 (zb rfl)) yV ?_
 refine zX ?_
 refine zk (zJ ?_)
 obtain rfl:=Option.some.inj hF
 refine zF rfl (zH yp zA) (zB (leV.refl _) rfl ?_)
 exact ⟨rfl,rfl⟩
/-! varve/dot.Compare -/
theorem ok45 {a0:GDot} {b1:GDot} {res:Int} {h:AH}  (hF:vw a0 b1=some res):Spec Tryz.prog 45 [.agg [.int .u8 a0.actor.rep,.int .u32 a0.actor.inc,.int .u64 a0.seq],.agg [.int .u8 b1.actor.rep,.int .u32 b1.actor.inc,.int .u64 b1.seq]] h (fun rr hh=>rr=.int .i64 res∧hh=h):=by
 unfold vw at hF
 refine zx Tryz.func45 rfl (by kernel_rfl) (env:=[.agg [.int .u8 a0.actor.rep,.int .u32 a0.actor.inc,.int .u64 a0.seq],.agg [.int .u8 b1.actor.rep,.int .u32 b1.actor.inc,.int .u64 b1.seq],za,za,za,za,za,za,za,za,za,za,za,za,za,za,za]) (by rfl) ?_
 refine zn (ze ?_)
 refine zc rfl (yF (n:=0) rfl yh (zb rfl) rfl rfl) xf ?_
 refine zc rfl (yF (n:=1) rfl yB (zb rfl) rfl rfl) x5 ?_
 refine zc rfl (zj rfl rfl (zb rfl)) yV ?_
 refine zf (zk (zn ?_))
 refine yb [4,9,11] [] trivial mixed (by kernel_rfl) ?_
 refine zi rfl rfl (zd rfl fo27x0 yv rfl) xp ?_
 refine zi rfl rfl (zq rfl ty25.choose_spec.1 yR rfl (zu (cs':=[.int .u8 a0.actor.rep,.int .u32 a0.actor.inc]) ty25.choose_spec.2 rfl rfl) (zb rfl)) xI ?_
 refine zi rfl rfl (zd rfl fo27x0 yf rfl) xN ?_
 refine zi rfl rfl (zq rfl ty25.choose_spec.1 xu rfl (zu (cs':=[.int .u8 b1.actor.rep,.int .u32 b1.actor.inc]) ty25.choose_spec.2 rfl rfl) (zb rfl)) xC ?_
 refine zQ hF (fun v1 hv1 hF=>?_)
 refine yQ rfl rfl (fun _=>zC rfl rfl rfl (zo xh (zo xr zw)) (.cons (zb rfl) (.cons (zb rfl) .nil))) (by rintro _ ⟨B2,T2,rfl,hk2⟩;exact ok59 hv1) xR ?_
 refine zi rfl rfl (zd rfl fo27x1 yv rfl) yy ?_
 refine zi rfl rfl (zq rfl xM yw rfl (zt rfl) (zb rfl)) yx ?_
 refine zi rfl rfl (zd rfl fo27x1 yf rfl) yE ?_
 refine zi rfl rfl (zq rfl xM yD rfl (zt rfl) (zb rfl)) yK ?_
 refine zQ hF (fun v2 hv2 hF=>?_)
 refine yQ rfl rfl (fun _=>zC rfl rfl rfl (zo yr (zo yI zw)) (.cons (zb rfl) (.cons (zb rfl) .nil))) (by rintro _ ⟨B2,T2,rfl,hk2⟩;exact ok49 hv2) yT ?_
 refine zi rfl rfl (yq (es:=([v1,v2]:List Int).map (intRow .i64)) rfl el90 ze3 rfl rfl (zK xK (zK yY zT)) (.cons (zb rfl) (.cons (zb rfl) .nil)) rfl rfl rfl) yS ?_
 refine zQ hF (fun v3 hv3 hF=>?_)
 refine yQ rfl rfl (fun _=>zC rfl rfl rfl (zo yO zw) (.cons (zb rfl) .nil)) (by rintro _ ⟨B2,T2,rfl,hk2⟩;exact (ok48 hv3).le (.cons (leV.osl _ _ _) leL.nil)) yZ ?_
 refine zi rfl rfl (zj rfl y4 (zb rfl)) yV ?_
 refine zX ?_
 refine zk (zJ ?_)
 obtain rfl:=Option.some.inj hF
 refine zF rfl (zH yp zA) (zB (leV.refl _) rfl ?_)
 exact ⟨rfl,rfl⟩
/-! varve/leaf.compare -/
theorem ok28 {a0:Int} {d1:GDot} {b2:Int} {o3:GDot} {res:Int} {h:AH}  (hF:qd a0 d1 b2 o3=some res):Spec Tryz.prog 28 [.int .u64 a0,.agg [.int .u8 d1.actor.rep,.int .u32 d1.actor.inc,.int .u64 d1.seq],.int .u64 b2,.agg [.int .u8 o3.actor.rep,.int .u32 o3.actor.inc,.int .u64 o3.seq]] h (fun rr hh=>rr=.int .i64 res∧hh=h):=by
 unfold qd at hF
 refine zx Tryz.func28 rfl (by kernel_rfl) (env:=[.int .u64 a0,.agg [.int .u8 d1.actor.rep,.int .u32 d1.actor.inc,.int .u64 d1.seq],.int .u64 b2,.agg [.int .u8 o3.actor.rep,.int .u32 o3.actor.inc,.int .u64 o3.seq],za,za,za,za,za,za,za,za,za,za,za,za,za]) (by rfl) ?_
 refine zn (ze ?_)
 refine zc rfl (yF (n:=0) rfl yB (zb rfl) rfl rfl) xp ?_
 refine zc rfl (yF (n:=1) rfl yf (zb rfl) rfl rfl) xN ?_
 refine zc rfl (zj rfl rfl (zb rfl)) xC ?_
 refine zf (zk (zn ?_))
 refine yb [2,5,7] [] trivial mixed (by kernel_rfl) ?_
 refine zi rfl rfl (zg rfl yh (zb rfl)) xR ?_
 refine zi rfl rfl (zg rfl yv (zb rfl)) yy ?_
 refine zQ hF (fun v1 hv1 hF=>?_)
 refine yQ rfl rfl (fun _=>zC rfl rfl rfl (zo xK (zo yw zw)) (.cons (zb rfl) (.cons (zb rfl) .nil))) (by rintro _ ⟨B2,T2,rfl,hk2⟩;exact ok49 hv1) yx ?_
 refine zi rfl rfl (zq rfl ty27.choose_spec.1 yR rfl (zu (cs':=[.int .u8 d1.actor.rep,.int .u32 d1.actor.inc,.int .u64 d1.seq]) ty27.choose_spec.2 rfl rfl) (zb rfl)) yE ?_
 refine zi rfl rfl (zq rfl ty27.choose_spec.1 xu rfl (zu (cs':=[.int .u8 o3.actor.rep,.int .u32 o3.actor.inc,.int .u64 o3.seq]) ty27.choose_spec.2 rfl rfl) (zb rfl)) yK ?_
 refine zQ hF (fun v2 hv2 hF=>?_)
 refine yQ rfl rfl (fun _=>zC rfl rfl rfl (zo yD (zo yI zw)) (.cons (zb rfl) (.cons (zb rfl) .nil))) (by rintro _ ⟨B2,T2,rfl,hk2⟩;exact ok45 hv2) yT ?_
 refine zi rfl rfl (yq (es:=([v1,v2]:List Int).map (intRow .i64)) rfl el90 ze3 rfl rfl (zK yr (zK yY zT)) (.cons (zb rfl) (.cons (zb rfl) .nil)) rfl rfl rfl) yS ?_
 refine zQ hF (fun v3 hv3 hF=>?_)
 refine yQ rfl rfl (fun _=>zC rfl rfl rfl (zo yO zw) (.cons (zb rfl) .nil)) (by rintro _ ⟨B2,T2,rfl,hk2⟩;exact (ok48 hv3).le (.cons (leV.osl _ _ _) leL.nil)) yZ ?_
 refine zi rfl rfl (zj rfl y4 (zb rfl)) xC ?_
 refine zX ?_
 refine zk (zJ ?_)
 obtain rfl:=Option.some.inj hF
 refine zF rfl (zH xr zA) (zB (leV.refl _) rfl ?_)
 exact ⟨rfl,rfl⟩
/-! varve/leaf.Ahead -/
theorem ok13 {time0:Int} {d1:GDot} {other2:Int} {o3:GDot} {res:Bool} {h:AH}  (hF:qy time0 d1 other2 o3=some res):Spec Tryz.prog 13 [.int .u64 time0,.agg [.int .u8 d1.actor.rep,.int .u32 d1.actor.inc,.int .u64 d1.seq],.int .u64 other2,.agg [.int .u8 o3.actor.rep,.int .u32 o3.actor.inc,.int .u64 o3.seq]] h (fun rr hh=>rr=.bool res∧hh=h):=by
 unfold qy at hF
 refine zx Tryz.func13 rfl (by kernel_rfl) (env:=[.int .u64 time0,.agg [.int .u8 d1.actor.rep,.int .u32 d1.actor.inc,.int .u64 d1.seq],.int .u64 other2,.agg [.int .u8 o3.actor.rep,.int .u32 o3.actor.inc,.int .u64 o3.seq],za,za,za,za,za,za,za,za,za,za,za]) (by rfl) ?_
 refine zn (ze ?_)
 refine zc rfl (yF (n:=0) rfl yB (zb rfl) rfl rfl) xp ?_
 refine zc rfl (yF (n:=1) rfl yf (zb rfl) rfl rfl) xN ?_
 refine zc rfl (zj rfl rfl (zb rfl)) xC ?_
 refine zf (zk (zn (ze ?_)))
 refine zc rfl (zg rfl yh (zb rfl)) xR ?_
 refine zc rfl (zq rfl ty27.choose_spec.1 yR rfl (zu (cs':=[.int .u8 d1.actor.rep,.int .u32 d1.actor.inc,.int .u64 d1.seq]) ty27.choose_spec.2 rfl rfl) (zb rfl)) yy ?_
 refine zc rfl (zg rfl yv (zb rfl)) yx ?_
 refine zc rfl (zq rfl ty27.choose_spec.1 xu rfl (zu (cs':=[.int .u8 o3.actor.rep,.int .u32 o3.actor.inc,.int .u64 o3.seq]) ty27.choose_spec.2 rfl rfl) (zb rfl)) yE ?_
 refine zQ hF (fun v1 hv1 hF=>?_)
 refine zU rfl (zC rfl rfl rfl (zo xK (zo yw (zo yr (zo yD zw)))) (.cons (zb rfl) (.cons (zb rfl) (.cons (zb rfl) (.cons (zb rfl) .nil))))) (ok28 hv1) yK ?_
 refine zc rfl (zz rfl yI rfl rfl) yT ?_
 refine zc rfl (zj rfl yY (zb rfl)) xC ?_
 refine zf (zk (zJ ?_))
 obtain rfl:=Option.some.inj hF
 refine zF rfl (zH xr zA) (zB (leV.refl _) rfl ?_)
 exact ⟨rfl,rfl⟩
/-! slices.Index[[]varve/api.Dot,varve/api.Dot] -/
theorem ok67 {s0:(List GDot)} {v1:GDot} {res:Int} {h:AH}  (hF:qG s0 v1=some res):Spec Tryz.prog 67 [.sl 3 (s0.map GDot.row),.agg [.int .u8 v1.actor.rep,.int .u32 v1.actor.inc,.int .u64 v1.seq]] h (fun rr hh=>rr=.int .i64 res∧hh=h):=by
 unfold qG at hF
 refine zx Tryz.func67 rfl (by kernel_rfl) (env:=[.sl 3 (s0.map GDot.row),.agg [.int .u8 v1.actor.rep,.int .u32 v1.actor.inc,.int .u64 v1.seq],za,za,za,za,za,za,za,za,za,za,za,za,za,za,za,za,za]) (by rfl) ?_
 refine zn (ze ?_)
 refine zc rfl (yF (n:=0) rfl yB (zb rfl) rfl rfl) x5 ?_
 refine zc rfl (zj rfl rfl (zb rfl)) yV ?_
 refine zf (zk (zn (zn (ze ?_))))
 refine zc rfl (zg rfl yh (zb rfl)) xI ?_
 refine yj rfl (ya rfl rfl rfl rfl yU xh yC) xN fun hn1=>?_
 replace hn1:=wW hn1
 refine zc rfl (zg rfl rfl (zb rfl)) xC ?_
 refine zf (zk (zW ?_))
 refine xi (fun (n1:Nat) (s1:Unit)=>xB [1,2,4,5,6,9,10,11,12,13,14,15,16,17,18] [(8,.int .i64 (n1:Int))]) (fun s1=>h.ext [.cells [.int .u8 v1.actor.rep,.int .u32 v1.actor.inc,.int .u64 v1.seq]] []) hF (fun _ _=>by simp only [xB,upd,List.set_cons_succ,List.set_cons_zero];try rfl) (wk.le (by exact (.eq (.drop (.drop (.eq (.drop (.drop (.drop (.eq (.cons (leV.of_eq rfl) (.d4 (.d4 (.drop (.drop leL.nil))))))))))))))) ?_
 intro n1 s1 hi1 hF
 refine zn (ze ?_)
 refine zc rfl (zz rfl xr xu rfl) xR ?_
 refine zf (zk (zn ?_))
 refine xO xK hF (fun x1 o1 hl1 hx1 hF hK1=>?_) (fun hF=>?_)
 ·refine zN (zk (zn (zW (zn (ze ?_)))))
  refine zc rfl (zg rfl xr (zb rfl)) yy ?_
  refine zc rfl (zj rfl yw (zb rfl)) xp ?_
  refine zf (zk (zn ?_))
  refine yb [] [] trivial mixed (by kernel_rfl) ?_
  refine zi rfl rfl (zq rfl ty27.choose_spec.1 yf rfl (zu (cs':=[.int .u8 v1.actor.rep,.int .u32 v1.actor.inc,.int .u64 v1.seq]) ty27.choose_spec.2 rfl rfl) (zb rfl)) yx ?_
  refine zi rfl rfl (zg rfl yh (zb rfl)) yE ?_
  refine zi rfl rfl (zg rfl yR (zb rfl)) yK ?_
  refine zi rfl rfl (yM rfl yU yD yI isl (wc hx1)) yT ?_
  refine zi rfl rfl (yW rfl ty27.choose_spec.1 yY (zu (cs':=[.int .u8 x1.actor.rep,.int .u32 x1.actor.inc,.int .u64 x1.seq]) ty27.choose_spec.2 rfl rfl) (zb rfl)) yS ?_
  refine zi rfl rfl (zz rfl yr yO (bin_eq pk27 rfl)) yZ ?_
  refine zX ?_
  refine zk ?_
  refine zI y4 hF (fun hc9 hF=>?_) (fun hc9 hF=>?_)
  ·refine zn (ze ?_)
   refine zc rfl (zg rfl yR (zb rfl)) y8 ?_
   refine zc rfl (zj rfl xd (zb rfl)) yV ?_
   refine zf (zk (zJ ?_))
   refine zL ?_
   refine zD ?_
   refine yN ?_
   obtain rfl:=Option.some.inj hF
   replace hF:=hK1
   refine zL ?_
   refine zD ?_
   obtain rfl:=Option.some.inj hF
   refine zF rfl (zH yp zA) (zB (leV.refl _) rfl ?_)
   exact ⟨rfl,rfl⟩
  ·refine zN (ye (zk (ze ?_)))
   refine zc rfl (zz rfl xr rfl rfl) xk ?_
   refine zc rfl (zg rfl xl (zb rfl)) xC ?_
   refine zf (xw ?_)
   obtain rfl:=Option.some.inj hF
   exact ⟨(),hl1,hK1,wk.le (by exact (.eq (.drop (.drop (.eq (.drop (.drop (.drop (.eq (.cons (leV.of_eq (qT (by omega) (by omega))) (.d4 (.d4 (.drop (.drop leL.nil))))))))))))))⟩
 ·refine xD ?_
  refine yd ?_
  refine z7 ?_
  refine z8 ?_
  refine zk (zn (ze ?_))
  refine zc rfl (zj rfl rfl (zb rfl)) yV ?_
  refine zf (zk (zJ ?_))
  obtain rfl:=Option.some.inj hF
  refine zF rfl (zH yp zA) (zB (leV.refl _) rfl ?_)
  exact ⟨rfl,rfl⟩
/-! slices.Contains[[]varve/api.Dot,varve/api.Dot] -/
theorem ok52 {s0:(List GDot)} {v1:GDot} {res:Bool} {h:AH}  (hF:wh s0 v1=some res):Spec Tryz.prog 52 [.sl 3 (s0.map GDot.row),.agg [.int .u8 v1.actor.rep,.int .u32 v1.actor.inc,.int .u64 v1.seq]] h (fun rr hh=>rr=.bool res∧hh=h):=by
 unfold wh at hF
 refine zx Tryz.func52 rfl (by kernel_rfl) (env:=[.sl 3 (s0.map GDot.row),.agg [.int .u8 v1.actor.rep,.int .u32 v1.actor.inc,.int .u64 v1.seq],za,za,za,za,za,za,za]) (by rfl) ?_
 refine zn (ze ?_)
 refine zc rfl (yF (n:=0) rfl yB (zb rfl) rfl rfl) x5 ?_
 refine zc rfl (zj rfl rfl (zb rfl)) yV ?_
 refine zf (zk (zn (ze ?_)))
 refine zc rfl (zg rfl yh (zb rfl)) xp ?_
 refine zc rfl (zq rfl ty27.choose_spec.1 yf rfl (zu (cs':=[.int .u8 v1.actor.rep,.int .u32 v1.actor.inc,.int .u64 v1.seq]) ty27.choose_spec.2 rfl rfl) (zb rfl)) xI ?_
 refine zQ hF (fun v1 hv1 hF=>?_)
 refine zU rfl (zC rfl rfl rfl (zo yR (zo xh zw)) (.cons (zb rfl) (.cons (zb rfl) .nil))) (ok67 hv1) xN ?_
 refine zc rfl (zz rfl xu rfl rfl) xC ?_
 refine zc rfl (zj rfl xr (zb rfl)) yV ?_
 refine zf (zk (zJ ?_))
 obtain rfl:=Option.some.inj hF
 refine zF rfl (zH yp zA) (zB (leV.refl _) rfl ?_)
 exact ⟨rfl,rfl⟩
/-! slices.Insert[[]varve/api.Item,varve/api.Item] -/
def ins70TryzRen:Go.Shelf.Ren :=
  { f:=fun x=>match x with
      | 22=>70
      | 29=>80
      | 30=>81
      | n=>n
    t:=fun x=>match x with
      | 0=>0
      | 3=>3
      | 4=>4
      | 9=>47
      | 24=>28
      | n=>n
    g:=fun n=>n }
theorem ins70TryzLays:InsLays Tryz.prog ins70TryzRen 5 where
  mixed:=by kernel_rfl
  f22:=⟨Tryz.f70.name,Tryz.func70.trans (by kernel_rfl),by kernel_rfl⟩
  f29:=fun args w=>run_callFunc_extern Tryz.func80 (by kernel_rfl) (by kernel_rfl) (by kernel_rfl) (e:=Extern.SlicesOverlaps.overlaps #[28,28] #[4]) (by kernel_rfl) args w
  t0:=Tryz.underlying0
  a0:=Tryz.isAgg0
  z0:=Tryz.sizeOf0
  v0:=Tryz.zeroValue0
  t3:=Tryz.underlying3
  a3:=Tryz.isAgg3
  z3:=Tryz.sizeOf3
  v3:=Tryz.zeroValue3
  t4:=Tryz.underlying4
  a4:=Tryz.isAgg4
  z4:=Tryz.sizeOf4
  v4:=Tryz.zeroValue4
  t24:=Tryz.underlying28
  a24:=Tryz.isAgg28
  z24:=Tryz.sizeOf28
  v24:=Tryz.zeroValue28
  i9:=⟨_,_,rfl,rfl,rfl,rfl,by decide⟩
  k0:=by decide
/-! slices.BinarySearchFunc[[]varve/api.Item,varve/api.Item,varve/api.Item] -/
theorem ok68 {x0:(List GItem)} {target1:GItem} {cmp2:(GItem→GItem→Option Int)} {fcmp2:FuncId} {acmp2 kcmp2:List AV} {res:(Int×Bool)} {h:AH} (hcmp2:∀ x0 x1 v (L:List Blk) (M:List Nat),cmp2 x0 x1=some v→Spec Tryz.prog fcmp2 (acmp2++[.agg [.int .u64 x0.time,.int .u8 x0.dot.actor.rep,.int .u32 x0.dot.actor.inc,.int .u64 x0.dot.seq,.str x0.text],.agg [.int .u64 x1.time,.int .u8 x1.dot.actor.rep,.int .u32 x1.dot.actor.inc,.int .u64 x1.dot.seq,.str x1.text]]++kcmp2) (h.ext L M) (fun rr hh=>rr=.int .i64 v∧hh=h.ext L M)) (hF:yg x0 target1 cmp2=some res):Spec Tryz.prog 68 [.sl 5 (x0.map GItem.row),.agg [.int .u64 target1.time,.int .u8 target1.dot.actor.rep,.int .u32 target1.dot.actor.inc,.int .u64 target1.dot.seq,.str target1.text],.fn (.func fcmp2) acmp2 kcmp2] h (fun rr hh=>rr=.tup [.int .i64 res.1,.bool res.2]∧hh=h):=by
 unfold yg at hF
 refine xF Tryz.func68 rfl (by kernel_rfl) (env:=[.sl 5 (x0.map GItem.row),.agg [.int .u64 target1.time,.int .u8 target1.dot.actor.rep,.int .u32 target1.dot.actor.inc,.int .u64 target1.dot.seq,.str target1.text],.fn (.func fcmp2) acmp2 kcmp2,za,za,za,za,za,za,za,za,za,za,za,za,za,za,za,za,za,za,za,za,za,za,za,za,za,za,za,za,za,za,za,za,za,za,za,za,za,za,za,za,za,za,za,za,za,za]) (by rfl) (fun hlow hC=>?_)
 simp only [y3,AV.low,Bool.and_eq_true,Bool.true_and,and_true] at hlow
 have hlacmp2:∀ n m,h.blks.length≤n→h.toks.length≤m→y3 n m acmp2=true:=fun n m h1 h2=>xV h1 h2 _ (by simp [hlow])
 have hlkcmp2:∀ n m,h.blks.length≤n→h.toks.length≤m→y3 n m kcmp2=true:=fun n m h1 h2=>xV h1 h2 _ (by simp [hlow])
 refine zn (ze ?_)
 refine zc rfl (yF (n:=0) rfl yB (zb rfl) rfl rfl) yV ?_
 refine zc rfl (zj rfl rfl (zb rfl)) xI ?_
 refine zc rfl (zj rfl rfl (zb rfl)) xN ?_
 refine zf (zk (zn (ze ?_)))
 refine zc rfl (zg rfl yh (zb rfl)) yE ?_
 refine yj rfl (ya rfl rfl rfl rfl yX yD yC) yK fun hn1=>?_
 replace hn1:=wW hn1
 refine zc rfl (zj rfl yI (zb rfl)) xC ?_
 refine zf (zk (zn (ze ?_)))
 refine zc rfl (zg rfl xr (zb rfl)) yT ?_
 refine zc rfl (zj rfl rfl (zb rfl)) xR ?_
 refine zc rfl (zj rfl yY (zb rfl)) yy ?_
 refine zf (zk (zn (zW ?_)))
 refine r_loopWF (fun (s1:Int×Int)=>xB [1,3,5,6,7,11,12,13,14,15,16,17,18,19,20,21,22,23,24,25,26,27,28,29,30,31,32,33,34,35,36,37,38,39,40,41,42,43,44,45,46,47,48] [(9,.int .i64 s1.1),(10,.int .i64 s1.2)]) (fun s1=>h.ext [.cells [.int .u64 target1.time,.int .u8 target1.dot.actor.rep,.int .u32 target1.dot.actor.inc,.int .u64 target1.dot.seq,.str target1.text]] []) hF (fun _=>by simp only [xB,upd,List.set_cons_succ,List.set_cons_zero];try rfl) (wk.le (by exact (.eq (.drop (.eq (.drop (.eq (.drop (.drop (.drop (.eq (.cons (leV.of_eq rfl) (.cons (leV.of_eq rfl) (.d16 (.d16 (.d4 (.drop (.drop leL.nil)))))))))))))))))) ?_
 intro n1 s1 o1 hF hK1
 refine zn (zn (ze ?_))
 refine zc rfl (zg rfl xK (zb rfl)) yS ?_
 refine zc rfl (zg rfl yw (zb rfl)) yZ ?_
 refine zc rfl (zz rfl yO y4 rfl) y8 ?_
 refine zf (zk ?_)
 refine zI xd hF (fun hc13 hF=>?_) (fun hc13 hF=>?_)
 ·refine zN (zk (zW (zn (ze ?_))))
  refine zc rfl (zg rfl xK (zb rfl)) xk ?_
  refine zc rfl (zg rfl yw (zb rfl)) xJ ?_
  refine zc rfl (zz rfl xl xL rfl) xQ ?_
  refine zc rfl (s_convert rfl ty3 ty100 xX rfl) wb ?_
  refine zc rfl (zz rfl wa rfl rfl) wl ?_
  refine zc rfl (s_convert rfl ty100 ty3 wq rfl) wp ?_
  refine zc rfl (zj rfl wg (zb rfl)) yx ?_
  refine zf (zk (zn ?_))
  refine yb [] [] trivial mixed (by kernel_rfl) ?_
  refine zi rfl rfl (zg rfl yv (zb rfl)) wu ?_
  refine zi rfl rfl (zg rfl yh (zb rfl)) wz ?_
  refine zi rfl rfl (zg rfl yr (zb rfl)) wV ?_
  refine zQ hF (fun y14 hy14 hF=>?_)
  refine zi rfl rfl (yM rfl yX wv wD isl hy14) wU ?_
  refine zi rfl rfl (yW rfl ty47.choose_spec.1 w4 (zu (cs':=[.int .u64 y14.time,.int .u8 y14.dot.actor.rep,.int .u32 y14.dot.actor.inc,.int .u64 y14.dot.seq,.str y14.text]) ty47.choose_spec.2 rfl rfl) (zb rfl)) wG ?_
  refine zi rfl rfl (zq rfl ty47.choose_spec.1 yp rfl (zu (cs':=[.int .u64 target1.time,.int .u8 target1.dot.actor.rep,.int .u32 target1.dot.actor.inc,.int .u64 target1.dot.seq,.str target1.text]) ty47.choose_spec.2 rfl rfl) (zb rfl)) w9 ?_
  refine zQ hF (fun v15 hv15 hF=>?_)
  refine wM rfl rfl (s_callC rfl rfl ww (zo wH (zo we zw)) (.cons (zb rfl) (.cons (zb rfl) .nil)) rfl) (hcmp2 _ _ _ _ _ hv15) w8 ?_
  refine zi rfl rfl (zz rfl va rfl rfl) w7 ?_
  refine zX ?_
  refine zk ?_
  refine zI wZ hF (fun hc16 hF=>?_) (fun hc16 hF=>?_)
  ·refine ze ?_
   refine zc rfl (zg rfl yr (zb rfl)) wT ?_
   refine zc rfl (zz rfl wQ rfl rfl) wS ?_
   refine zc rfl (zj rfl wY (zb rfl)) xR ?_
   refine zf (ye (xw ?_))
   obtain rfl:=Option.some.inj hF
   exact ⟨((IntKind.wrap .i64 ((IntKind.wrap .i64 ((Int.fdiv (IntKind.wrap .u64 ((IntKind.wrap .i64 (s1.1+s1.2)))) (2 ^ (min (1:Int).toNat (IntKind.bits .u64))))))+(1:Int))),s1.2),hK1,wk.le (by exact (.eq (.drop (.eq (.drop (.eq (.drop (.drop (.drop (.eq (.cons (leV.of_eq rfl) (.cons (leV.of_eq rfl) (.d16 (.d16 (.d4 (.drop (.drop leL.nil)))))))))))))))))⟩
  ·refine ze ?_
   refine zc rfl (zg rfl yr (zb rfl)) wR ?_
   refine zc rfl (zj rfl wX (zb rfl)) yy ?_
   refine zf (ye (xw ?_))
   obtain rfl:=Option.some.inj hF
   exact ⟨(s1.1,(IntKind.wrap .i64 ((Int.fdiv (IntKind.wrap .u64 ((IntKind.wrap .i64 (s1.1+s1.2)))) (2 ^ (min (1:Int).toNat (IntKind.bits .u64))))))),hK1,wk.le (by exact (.eq (.drop (.eq (.drop (.eq (.drop (.drop (.drop (.eq (.cons (leV.of_eq rfl) (.cons (leV.of_eq rfl) (.d16 (.d16 (.d4 (.drop (.drop leL.nil)))))))))))))))))⟩
 ·refine xD ?_
  refine yd ?_
  refine z7 ?_
  obtain rfl:=Option.some.inj hF
  replace hF:=hK1
  refine z8 ?_
  refine zk (zn ?_)
  refine yb [] [] trivial mixed (by kernel_rfl) ?_
  refine zi rfl rfl (zg rfl xK (zb rfl)) vg ?_
  refine zi rfl rfl (zg rfl xK (zb rfl)) vf ?_
  refine zi rfl rfl (zg rfl xr (zb rfl)) vI ?_
  refine zi rfl rfl (zz rfl vm vC rfl) vN ?_
  refine zi rfl rfl (zg rfl vO (zb rfl)) vZ ?_
  refine zy rfl rfl (fun hb=>zg rfl yv (zb rfl)) (sk st0) ?_
  refine zy rfl rfl (fun hb=>zg rfl yh (zb rfl)) (sk st1) ?_
  refine zy rfl rfl (fun hb=>zg rfl xK (zb rfl)) (sk xf) ?_
  refine vz hF (fun hg19 hF=>?_)
  refine zy rfl rfl (fun hb=>wi default rfl yX (zp (gk yB) hb) (zp (gk yv) hb) isl (hg19 hb)) (sk x5) ?_
  refine zy rfl rfl (fun hb=>yW rfl ty47.choose_spec.1 (zp (gk yf) hb) (zu (cs':=[.int .u64 (((x0).getD s1.1.toNat default).time),.int .u8 (((x0).getD s1.1.toNat default).dot.actor.rep),.int .u32 (((x0).getD s1.1.toNat default).dot.actor.inc),.int .u64 (((x0).getD s1.1.toNat default).dot.seq),.str (((x0).getD s1.1.toNat default).text)]) ty47.choose_spec.2 rfl rfl) (zb rfl)) (sk yV) ?_
  refine zy rfl rfl (fun hb=>zq rfl ty47.choose_spec.1 yp rfl (zu (cs':=[.int .u64 target1.time,.int .u8 target1.dot.actor.rep,.int .u32 target1.dot.actor.inc,.int .u64 target1.dot.seq,.str target1.text]) ty47.choose_spec.2 rfl rfl) (zb rfl)) (sk xp) ?_
  refine yP hF (fun v20 hv20 hF=>?_)
  refine xn rfl rfl (fun hb=>s_callC rfl rfl (zp (gk yh) hb) (zo (zp (gk yp) hb) (zo (zp (gk yR) hb) zw)) (.cons (zb rfl) (.cons (zb rfl) .nil)) rfl) (fun hb=>hcmp2 _ _ _ _ _ (hv20 hb)) (sk xI) ?_
  refine zy rfl rfl (fun hb=>zz rfl (zp (gk xh) hb) rfl rfl) (sk xN) ?_
  refine zi rfl rfl (zM rfl qe (gk xu) rfl (zS (fun ht=>gT ht))) (sk xC) ?_
  refine zi rfl rfl (zj rfl vn (zb rfl)) xI ?_
  refine zi rfl rfl (zj rfl (gk xr) (zb rfl)) xN ?_
  refine zX ?_
  refine zk (zJ ?_)
  obtain rfl:=Option.some.inj hF
  refine xU rfl (zH xh (zH xu zA)) (zB (leV.refl _) rfl ?_)
  exact ⟨rfl,rfl⟩
/-! (*varve/leaf.change).lay 1 -/
theorem ok69 {a0:GItem} {b1:GItem} {res:Int} {h:AH}  (hF:xy a0 b1=some res):Spec Tryz.prog 69 [.agg [.int .u64 a0.time,.int .u8 a0.dot.actor.rep,.int .u32 a0.dot.actor.inc,.int .u64 a0.dot.seq,.str a0.text],.agg [.int .u64 b1.time,.int .u8 b1.dot.actor.rep,.int .u32 b1.dot.actor.inc,.int .u64 b1.dot.seq,.str b1.text]] h (fun rr hh=>rr=.int .i64 res∧hh=h):=by
 unfold xy at hF
 refine zx Tryz.func69 rfl (by kernel_rfl) (env:=[.agg [.int .u64 a0.time,.int .u8 a0.dot.actor.rep,.int .u32 a0.dot.actor.inc,.int .u64 a0.dot.seq,.str a0.text],.agg [.int .u64 b1.time,.int .u8 b1.dot.actor.rep,.int .u32 b1.dot.actor.inc,.int .u64 b1.dot.seq,.str b1.text],za,za,za,za,za,za,za,za,za,za,za,za]) (by rfl) ?_
 refine zn (ze ?_)
 refine zc rfl (yF (n:=0) rfl yh (zb rfl) rfl rfl) xf ?_
 refine zc rfl (yF (n:=1) rfl yB (zb rfl) rfl rfl) x5 ?_
 refine zc rfl (zj rfl rfl (zb rfl)) yV ?_
 refine zf (zk (zn (ze ?_)))
 refine zc rfl (zd rfl qX yv rfl) xp ?_
 refine zc rfl (zq rfl xM yR rfl (zt rfl) (zb rfl)) xI ?_
 refine zc rfl (zd rfl wI yv rfl) xN ?_
 refine zc rfl (zq rfl ty27.choose_spec.1 xu rfl (zu (cs':=[.int .u8 a0.dot.actor.rep,.int .u32 a0.dot.actor.inc,.int .u64 a0.dot.seq]) ty27.choose_spec.2 rfl rfl) (zb rfl)) xC ?_
 refine zc rfl (zd rfl qX yf rfl) xR ?_
 refine zc rfl (zq rfl xM xK rfl (zt rfl) (zb rfl)) yy ?_
 refine zc rfl (zd rfl wI yf rfl) yx ?_
 refine zc rfl (zq rfl ty27.choose_spec.1 yr rfl (zu (cs':=[.int .u8 b1.dot.actor.rep,.int .u32 b1.dot.actor.inc,.int .u64 b1.dot.seq]) ty27.choose_spec.2 rfl rfl) (zb rfl)) yE ?_
 refine zQ hF (fun v1 hv1 hF=>?_)
 refine zU rfl (zC rfl rfl rfl (zo xh (zo xr (zo yw (zo yD zw)))) (.cons (zb rfl) (.cons (zb rfl) (.cons (zb rfl) (.cons (zb rfl) .nil))))) (ok28 hv1) yK ?_
 refine zc rfl (zj rfl yI (zb rfl)) yV ?_
 refine zf (zk (zJ ?_))
 obtain rfl:=Option.some.inj hF
 refine zF rfl (zH yp zA) (zB (leV.refl _) rfl ?_)
 exact ⟨rfl,rfl⟩
/-! slices.IndexFunc[[]varve/api.Item,varve/api.Item] -/
theorem ok73 {s0:(List GItem)} {f1:(GItem→Option Bool)} {ff1:FuncId} {af1 kf1:List AV} {res:Int} {h:AH} (hf1:∀ x0 v (L:List Blk) (M:List Nat),f1 x0=some v→Spec Tryz.prog ff1 (af1++[.agg [.int .u64 x0.time,.int .u8 x0.dot.actor.rep,.int .u32 x0.dot.actor.inc,.int .u64 x0.dot.seq,.str x0.text]]++kf1) (h.ext L M) (fun rr hh=>rr=.bool v∧hh=h.ext L M)) (hF:xb s0 f1=some res):Spec Tryz.prog 73 [.sl 5 (s0.map GItem.row),.fn (.func ff1) af1 kf1] h (fun rr hh=>rr=.int .i64 res∧hh=h):=by
 unfold xb at hF
 refine xF Tryz.func73 rfl (by kernel_rfl) (env:=[.sl 5 (s0.map GItem.row),.fn (.func ff1) af1 kf1,za,za,za,za,za,za,za,za,za,za,za,za,za,za,za,za,za]) (by rfl) (fun hlow hC=>?_)
 simp only [y3,AV.low,Bool.and_eq_true,Bool.true_and,and_true] at hlow
 have hlaf1:∀ n m,h.blks.length≤n→h.toks.length≤m→y3 n m af1=true:=fun n m h1 h2=>xV h1 h2 _ (by simp [hlow])
 have hlkf1:∀ n m,h.blks.length≤n→h.toks.length≤m→y3 n m kf1=true:=fun n m h1 h2=>xV h1 h2 _ (by simp [hlow])
 refine zn (ze ?_)
 refine zc rfl (zj rfl rfl (zb rfl)) yV ?_
 refine zf (zk (zn (zn (ze ?_))))
 refine zc rfl (zg rfl yh (zb rfl)) xI ?_
 refine yj rfl (ya rfl rfl rfl rfl yX xh yC) xN fun hn1=>?_
 replace hn1:=wW hn1
 refine zc rfl (zg rfl rfl (zb rfl)) xC ?_
 refine zf (zk (zW ?_))
 refine xi (fun (n1:Nat) (s1:Unit)=>xB [2,3,4,5,6,9,10,11,12,13,14,15,16,17,18] [(8,.int .i64 (n1:Int))]) (fun s1=>h.ext [] []) hF (fun _ _=>by simp only [xB,upd,List.set_cons_succ,List.set_cons_zero];try rfl) (wk.le (by exact (.eq (.eq (.d4 (.drop (.eq (.cons (leV.of_eq rfl) (.d4 (.d4 (.drop (.drop leL.nil)))))))))))) ?_
 intro n1 s1 hi1 hF
 refine zn (ze ?_)
 refine zc rfl (zz rfl xr xu rfl) xR ?_
 refine zf (zk (zn ?_))
 refine xO xK hF (fun x1 o1 hl1 hx1 hF hK1=>?_) (fun hF=>?_)
 ·refine zN (zk (zn (zW (zn (ze ?_)))))
  refine zc rfl (zg rfl xr (zb rfl)) yy ?_
  refine zc rfl (zj rfl yw (zb rfl)) xp ?_
  refine zf (zk (zn (ze ?_)))
  refine zc rfl (zg rfl yB (zb rfl)) yx ?_
  refine zc rfl (zg rfl yh (zb rfl)) yE ?_
  refine zc rfl (zg rfl yR (zb rfl)) yK ?_
  refine zc rfl (yM rfl yX yD yI isl (wc hx1)) yT ?_
  refine zc rfl (yW rfl ty47.choose_spec.1 yY (zu (cs':=[.int .u64 x1.time,.int .u8 x1.dot.actor.rep,.int .u32 x1.dot.actor.inc,.int .u64 x1.dot.seq,.str x1.text]) ty47.choose_spec.2 rfl rfl) (zb rfl)) yS ?_
  refine zQ hF (fun v7 hv7 hF=>?_)
  refine zU rfl (s_callC rfl rfl yr (zo yO zw) (.cons (zb rfl) .nil) rfl) (hf1 _ _ _ _ hv7) yZ ?_
  refine zf (zk ?_)
  refine zI y4 hF (fun hc8 hF=>?_) (fun hc8 hF=>?_)
  ·refine zn (ze ?_)
   refine zc rfl (zg rfl yR (zb rfl)) y8 ?_
   refine zc rfl (zj rfl xd (zb rfl)) yV ?_
   refine zf (zk (zJ ?_))
   refine zL ?_
   refine zD ?_
   refine yN ?_
   obtain rfl:=Option.some.inj hF
   replace hF:=hK1
   refine zL ?_
   refine zD ?_
   obtain rfl:=Option.some.inj hF
   refine zF rfl (zH yp zA) (zB (leV.refl _) rfl ?_)
   exact ⟨rfl,rfl⟩
  ·refine zN (ye (zk (ze ?_)))
   refine zc rfl (zz rfl xr rfl rfl) xk ?_
   refine zc rfl (zg rfl xl (zb rfl)) xC ?_
   refine zf (xw ?_)
   obtain rfl:=Option.some.inj hF
   exact ⟨(),hl1,hK1,wk.le (by exact (.eq (.eq (.d4 (.drop (.eq (.cons (leV.of_eq (qT (by omega) (by omega))) (.d4 (.d4 (.drop (.drop leL.nil)))))))))))⟩
 ·refine xD ?_
  refine yd ?_
  refine z7 ?_
  refine z8 ?_
  refine zk (zn (ze ?_))
  refine zc rfl (zj rfl rfl (zb rfl)) yV ?_
  refine zf (zk (zJ ?_))
  obtain rfl:=Option.some.inj hF
  refine zF rfl (zH yp zA) (zB (leV.refl _) rfl ?_)
  exact ⟨rfl,rfl⟩
theorem okR73 {bl tl:Nat} {s0:(List GItem)} {f1:(GItem→Option Bool)} {ff1:FuncId} {af1 kf1:List AV} {res:Int} {h:AH} (hbl:h.blks.length=bl) (htl:h.toks.length=tl) (hf1:∀ x0 v (L:List Blk) (M:List Nat),f1 x0=some v→Spec Tryz.prog ff1 (af1++[.agg [.int .u64 x0.time,.int .u8 x0.dot.actor.rep,.int .u32 x0.dot.actor.inc,.int .u64 x0.dot.seq,.str x0.text]]++kf1) (h.ext L M) (fun rr hh=>rr=.bool v∧hh=h.ext L M)) (hlaf1:∀ n m,h.blks.length≤n→h.toks.length≤m→y3 n m af1=true) (hlkf1:∀ n m,h.blks.length≤n→h.toks.length≤m→y3 n m kf1=true) (hF:xb s0 f1=some res):Spec Tryz.prog 73 [.rsl bl tl 5 s0.length,.fn (.func ff1) af1 kf1] (h.ext [.row tl 5 (s0.map GItem.row)] [s0.length]) (fun rr hh=>rr=.int .i64 res∧hh=h.ext [.row tl 5 (s0.map GItem.row)] [s0.length]):=by
 unfold xb at hF
 subst hbl htl
 refine yz Tryz.func73 rfl (by kernel_rfl) (env:=[.rsl h.blks.length h.toks.length 5 s0.length,.fn (.func ff1) af1 kf1,za,za,za,za,za,za,za,za,za,za,za,za,za,za,za,za,za]) (by rfl) ?_
 refine zn (ze ?_)
 refine zc rfl (zj rfl rfl (zb rfl)) yV ?_
 refine zf (zk (zn (zn (ze ?_))))
 refine zc rfl (zg rfl yh (zb rfl)) xI ?_
 refine yj rfl (ya rfl rfl rfl rfl yX xh rfl) xN fun hn1=>?_
 replace hn1:=wW hn1
 refine zc rfl (zg rfl rfl (zb rfl)) xC ?_
 refine zf (zk (zW ?_))
 refine xi (fun (n1:Nat) (s1:Unit)=>xB [2,3,4,5,6,9,10,11,12,13,14,15,16,17,18] [(8,.int .i64 (n1:Int))]) (fun s1=>h.ext [.row (h.toks.length+0) 5 (s0.map GItem.row)] [s0.length]) hF (fun _ _=>by simp only [xB,upd,List.set_cons_succ,List.set_cons_zero];try rfl) (wk.le (by exact (.eq (.eq (.d4 (.drop (.eq (.cons (leV.of_eq rfl) (.d4 (.d4 (.drop (.drop leL.nil)))))))))))) ?_
 intro n1 s1 hi1 hF
 refine zn (ze ?_)
 refine zc rfl (zz rfl xr xu rfl) xR ?_
 refine zf (zk (zn ?_))
 refine xO xK hF (fun x1 o1 hl1 hx1 hF hK1=>?_) (fun hF=>?_)
 ·refine zN (zk (zn (zW (zn (ze ?_)))))
  refine zc rfl (zg rfl xr (zb rfl)) yy ?_
  refine zc rfl (zj rfl yw (zb rfl)) xp ?_
  refine zf (zk (zn (ze ?_)))
  refine zc rfl (zg rfl yB (zb rfl)) yx ?_
  refine zc rfl (zg rfl yh (zb rfl)) yE ?_
  refine zc rfl (zg rfl yR (zb rfl)) yK ?_
  refine zc rfl (e_idxR rfl yX yD yI (idxRn (wc hx1) rfl)) yT ?_
  refine zc rfl (e_ldR (off:=0) (i:=0) (q:=h.toks.length+0) (z:=(n1:Int).toNat) (row:=GItem.row) (fun _=>rfl) rfl ty47.choose_spec.1 (by decide) yY rfl rfl (idxR (wc hx1)).2.2 (zu (cs':=[.int .u64 x1.time,.int .u8 x1.dot.actor.rep,.int .u32 x1.dot.actor.inc,.int .u64 x1.dot.seq,.str x1.text]) ty47.choose_spec.2 rfl rfl) (zb rfl)) yS ?_
  refine zQ hF (fun v8 hv8 hF=>?_)
  refine zU rfl (s_callC rfl rfl yr (zo yO zw) (.cons (zb rfl) .nil) rfl) (hf1 _ _ _ _ hv8) yZ ?_
  refine zf (zk ?_)
  refine zI y4 hF (fun hc9 hF=>?_) (fun hc9 hF=>?_)
  ·refine zn (ze ?_)
   refine zc rfl (zg rfl yR (zb rfl)) y8 ?_
   refine zc rfl (zj rfl xd (zb rfl)) yV ?_
   refine zf (zk (zJ ?_))
   refine zL ?_
   refine zD ?_
   refine yN ?_
   obtain rfl:=Option.some.inj hF
   replace hF:=hK1
   refine zL ?_
   refine zD ?_
   obtain rfl:=Option.some.inj hF
   refine zF rfl (zH yp zA) (fin_extR (L:=[]) (M:=[]) rfl rfl (leV.refl _) rfl ?_)
   exact ⟨rfl,rfl⟩
  ·refine zN (ye (zk (ze ?_)))
   refine zc rfl (zz rfl xr rfl rfl) xk ?_
   refine zc rfl (zg rfl xl (zb rfl)) xC ?_
   refine zf (xw ?_)
   obtain rfl:=Option.some.inj hF
   exact ⟨(),hl1,hK1,wk.le (by exact (.eq (.eq (.d4 (.drop (.eq (.cons (leV.of_eq (qT (by omega) (by omega))) (.d4 (.d4 (.drop (.drop leL.nil)))))))))))⟩
 ·refine xD ?_
  refine yd ?_
  refine z7 ?_
  refine z8 ?_
  refine zk (zn (ze ?_))
  refine zc rfl (zj rfl rfl (zb rfl)) yV ?_
  refine zf (zk (zJ ?_))
  obtain rfl:=Option.some.inj hF
  refine zF rfl (zH yp zA) (fin_extR (L:=[]) (M:=[]) rfl rfl (leV.refl _) rfl ?_)
  exact ⟨rfl,rfl⟩
/-! slices.ContainsFunc[[]varve/api.Item,varve/api.Item] -/
theorem ok60 {s0:(List GItem)} {f1:(GItem→Option Bool)} {ff1:FuncId} {af1 kf1:List AV} {res:Bool} {h:AH} (hf1:∀ x0 v (L:List Blk) (M:List Nat),f1 x0=some v→Spec Tryz.prog ff1 (af1++[.agg [.int .u64 x0.time,.int .u8 x0.dot.actor.rep,.int .u32 x0.dot.actor.inc,.int .u64 x0.dot.seq,.str x0.text]]++kf1) (h.ext L M) (fun rr hh=>rr=.bool v∧hh=h.ext L M)) (hF:xT s0 f1=some res):Spec Tryz.prog 60 [.sl 5 (s0.map GItem.row),.fn (.func ff1) af1 kf1] h (fun rr hh=>rr=.bool res∧hh=h):=by
 unfold xT at hF
 refine xF Tryz.func60 rfl (by kernel_rfl) (env:=[.sl 5 (s0.map GItem.row),.fn (.func ff1) af1 kf1,za,za,za,za,za,za,za]) (by rfl) (fun hlow hC=>?_)
 simp only [y3,AV.low,Bool.and_eq_true,Bool.true_and,and_true] at hlow
 have hlaf1:∀ n m,h.blks.length≤n→h.toks.length≤m→y3 n m af1=true:=fun n m h1 h2=>xV h1 h2 _ (by simp [hlow])
 have hlkf1:∀ n m,h.blks.length≤n→h.toks.length≤m→y3 n m kf1=true:=fun n m h1 h2=>xV h1 h2 _ (by simp [hlow])
 refine zn (ze ?_)
 refine zc rfl (zj rfl rfl (zb rfl)) yV ?_
 refine zf (zk (zn (ze ?_)))
 refine zc rfl (zg rfl yh (zb rfl)) xp ?_
 refine zc rfl (zg rfl yB (zb rfl)) xI ?_
 refine zQ hF (fun v1 hv1 hF=>?_)
 refine zU rfl (zC rfl rfl rfl (zo yR (zo xh zw)) (.cons (zb rfl) (.cons (zb rfl) .nil))) (ok73 (fun x0 v L M hv=>by rw [qr];exact hf1 x0 v _ _ hv) hv1) xN ?_
 refine zc rfl (zz rfl xu rfl rfl) xC ?_
 refine zc rfl (zj rfl xr (zb rfl)) yV ?_
 refine zf (zk (zJ ?_))
 obtain rfl:=Option.some.inj hF
 refine zF rfl (zH yp zA) (zB (leV.refl _) rfl ?_)
 exact ⟨rfl,rfl⟩
/-! varve/leaf.has 1 -/
theorem ok61 {x0:GItem} {c0:GDot} {i0:Nat} {res:Bool} {h:AH} (hb0:h.blk i0=some (.cells [.int .u8 c0.actor.rep,.int .u32 c0.actor.inc,.int .u64 c0.seq])) (hF:leafXhasC1 x0 c0=some res):Spec Tryz.prog 61 [.agg [.int .u64 x0.time,.int .u8 x0.dot.actor.rep,.int .u32 x0.dot.actor.inc,.int .u64 x0.dot.seq,.str x0.text],.ptr i0 0] h (fun rr hh=>rr=.bool res∧hh=h):=by
 unfold leafXhasC1 at hF
 refine zx Tryz.func61 rfl (by kernel_rfl) (env:=[.agg [.int .u64 x0.time,.int .u8 x0.dot.actor.rep,.int .u32 x0.dot.actor.inc,.int .u64 x0.dot.seq,.str x0.text],.ptr i0 0,za,za,za,za,za,za]) (by rfl) ?_
 refine zn (ze ?_)
 refine zc rfl (yF (n:=0) rfl yh (zb rfl) rfl rfl) xf ?_
 refine zc rfl (zj rfl rfl (zb rfl)) x5 ?_
 refine zf (zk (zn (ze ?_)))
 refine zc rfl (zd rfl wI yv rfl) yV ?_
 refine zc rfl (zq rfl ty27.choose_spec.1 yp rfl (zu (cs':=[.int .u8 x0.dot.actor.rep,.int .u32 x0.dot.actor.inc,.int .u64 x0.dot.seq]) ty27.choose_spec.2 rfl rfl) (zb rfl)) xp ?_
 refine zc rfl (b_load rfl ty27.choose_spec.1 yB hb0 (zu (cs':=[.int .u8 c0.actor.rep,.int .u32 c0.actor.inc,.int .u64 c0.seq]) ty27.choose_spec.2 rfl rfl) (zb rfl)) xI ?_
 refine zc rfl (zz rfl yR xh (bin_eq pk27 rfl)) xN ?_
 refine zc rfl (zj rfl xu (zb rfl)) x5 ?_
 refine zf (zk (zJ ?_))
 obtain rfl:=Option.some.inj hF
 refine zF rfl (zH yf zA) (zB (leV.refl _) rfl ?_)
 exact ⟨rfl,rfl⟩
/-! varve/leaf.has -/
theorem ok46 {l0:(List GItem)} {d1:GDot} {res:Bool} {h:AH}  (hF:leafXhas l0 d1=some res):Spec Tryz.prog 46 [.sl 5 (l0.map GItem.row),.agg [.int .u8 d1.actor.rep,.int .u32 d1.actor.inc,.int .u64 d1.seq]] h (fun rr hh=>rr=.bool res∧hh=h):=by
 unfold leafXhas at hF
 refine zx Tryz.func46 rfl (by kernel_rfl) (env:=[.sl 5 (l0.map GItem.row),.agg [.int .u8 d1.actor.rep,.int .u32 d1.actor.inc,.int .u64 d1.seq],za,za,za,za,za,za]) (by rfl) ?_
 refine zn (ze ?_)
 refine zc rfl (yF (n:=0) rfl yB (zb rfl) rfl rfl) x5 ?_
 refine zc rfl (zj rfl rfl (zb rfl)) yV ?_
 refine zf (zk (zn (ze ?_)))
 refine zc rfl (zg rfl yh (zb rfl)) xp ?_
 refine zc rfl (s_makeFunc rfl rfl rfl) xI ?_
 refine zQ hF (fun v1 hv1 hF=>?_)
 refine zU rfl (zC rfl rfl rfl (zo yR (zo xh zw)) (.cons (zb rfl) (.cons (zb rfl) .nil))) (ok60 (fun _ v L M hv=>ok61 (blk_ext2 (j:=0) rfl) hv) hv1) xN ?_
 refine zc rfl (zj rfl xu (zb rfl)) yV ?_
 refine zf (zk (zJ ?_))
 obtain rfl:=Option.some.inj hF
 refine zF rfl (zH yp zA) (zB (leV.refl _) rfl ?_)
 exact ⟨rfl,rfl⟩
/-! slices.SortFunc[[]varve/api.Dot,varve/api.Dot] -/
def sort54TryzRen:Go.Shelf.Ren :=
  { f:=fun x=>match x with
      | 6=>54
      | 15=>72
      | 14=>71
      | 28=>90
      | 29=>91
      | 20=>82
      | 21=>83
      | 22=>84
      | 23=>85
      | 24=>86
      | 25=>87
      | 26=>88
      | 27=>89
      | 46=>99
      | 47=>100
      | 48=>101
      | 49=>102
      | 50=>103
      | 57=>106
      | n=>n
    t:=fun x=>match x with
      | 22=>29
      | 24=>27
      | 25=>75
      | 3=>3
      | 39=>100
      | 0=>0
      | 53=>23
      | 55=>22
      | 4=>4
      | 46=>108
      | 45=>107
      | 50=>94
      | 5=>5
      | 9=>9
      | 66=>120
      | 70=>124
      | 76=>128
      | 77=>129
      | n=>n
    g:=fun n=>n }
theorem sort54TryzLays:Go.Proofs.SlLaysF0.n6 Tryz.prog sort54TryzRen where
  mixed:=mixed
  f6:=⟨Tryz.f54.name,by kernel_rfl,Tryz.func54.trans (by kernel_rfl)⟩
  f15:=Tryz.func72.trans (by kernel_rfl)
  f14:=⟨Tryz.f71.name,by kernel_rfl,Tryz.func71.trans (by kernel_rfl)⟩
  f28:=Tryz.func90.trans (by kernel_rfl)
  f29:=Tryz.func91.trans (by kernel_rfl)
  f20:=⟨Tryz.f82.name,by kernel_rfl,Tryz.func82.trans (by kernel_rfl)⟩
  f21:=⟨Tryz.f83.name,by kernel_rfl,Tryz.func83.trans (by kernel_rfl)⟩
  f22:=⟨Tryz.f84.name,by kernel_rfl,Tryz.func84.trans (by kernel_rfl)⟩
  f23:=⟨Tryz.f85.name,by kernel_rfl,Tryz.func85.trans (by kernel_rfl)⟩
  f24:=⟨Tryz.f86.name,by kernel_rfl,Tryz.func86.trans (by kernel_rfl)⟩
  f25:=⟨Tryz.f87.name,by kernel_rfl,Tryz.func87.trans (by kernel_rfl)⟩
  f26:=⟨Tryz.f88.name,by kernel_rfl,Tryz.func88.trans (by kernel_rfl)⟩
  f27:=⟨Tryz.f89.name,by kernel_rfl,Tryz.func89.trans (by kernel_rfl)⟩
  f46:=⟨Tryz.f99.name,by kernel_rfl,Tryz.func99.trans (by kernel_rfl)⟩
  f47:=Tryz.func100.trans (by kernel_rfl)
  f48:=Tryz.func101.trans (by kernel_rfl)
  f49:=⟨Tryz.f102.name,by kernel_rfl,Tryz.func102.trans (by kernel_rfl)⟩
  f50:=⟨Tryz.f103.name,by kernel_rfl,Tryz.func103.trans (by kernel_rfl)⟩
  f57:=⟨Tryz.f106.name,by kernel_rfl,Tryz.func106.trans (by kernel_rfl)⟩
  t0:=Tryz.underlying0
  a0:=Tryz.isAgg0
  z0:=Tryz.sizeOf0
  v0:=Tryz.zeroValue0
  t3:=Tryz.underlying3
  a3:=Tryz.isAgg3
  z3:=Tryz.sizeOf3
  v3:=Tryz.zeroValue3
  t4:=Tryz.underlying4
  a4:=Tryz.isAgg4
  z4:=Tryz.sizeOf4
  v4:=Tryz.zeroValue4
  t5:=Tryz.underlying5
  a5:=Tryz.isAgg5
  z5:=Tryz.sizeOf5
  v5:=Tryz.zeroValue5
  t9:=Tryz.underlying9
  a9:=Tryz.isAgg9
  z9:=Tryz.sizeOf9
  v9:=Tryz.zeroValue9
  t22:=Tryz.underlying29
  a22:=Tryz.isAgg29
  z22:=Tryz.sizeOf29
  v22:=Tryz.zeroValue29
  t25:=Tryz.underlying75
  a25:=Tryz.isAgg75
  z25:=Tryz.sizeOf75
  v25:=Tryz.zeroValue75
  t39:=Tryz.underlying100
  a39:=Tryz.isAgg100
  z39:=Tryz.sizeOf100
  v39:=Tryz.zeroValue100
  t45:=Tryz.underlying107
  a45:=Tryz.isAgg107
  z45:=Tryz.sizeOf107
  v45:=Tryz.zeroValue107
  t46:=Tryz.underlying108
  a46:=Tryz.isAgg108
  z46:=Tryz.sizeOf108
  v46:=Tryz.zeroValue108
  t50:=Tryz.underlying94
  a50:=Tryz.isAgg94
  z50:=Tryz.sizeOf94
  v50:=Tryz.zeroValue94
  t53:=Tryz.underlying23
  a53:=Tryz.isAgg23
  z53:=Tryz.sizeOf23
  v53:=Tryz.zeroValue23
  t55:=Tryz.underlying22
  a55:=Tryz.isAgg22
  z55:=Tryz.sizeOf22
  v55:=Tryz.zeroValue22
  t66:=Tryz.underlying120
  a66:=Tryz.isAgg120
  z66:=Tryz.sizeOf120
  v66:=Tryz.zeroValue120
  t70:=Tryz.underlying124
  a70:=Tryz.isAgg124
  z70:=Tryz.sizeOf124
  v70:=Tryz.zeroValue124
  t76:=Tryz.underlying128
  a76:=Tryz.isAgg128
  z76:=Tryz.sizeOf128
  v76:=Tryz.zeroValue128
  t77:=Tryz.underlying129
  a77:=Tryz.isAgg129
  z77:=Tryz.sizeOf129
  v77:=Tryz.zeroValue129
/-! slices.Compact[[]varve/api.Dot,varve/api.Dot] -/
theorem okR55 {bl tl:Nat} {s0:(List GDot)} {res:(List GDot)} {h:AH} (hbl:h.blks.length=bl) (htl:h.toks.length=tl) (hF:wO s0=some res):Spec Tryz.prog 55 [.rsl bl tl 3 s0.length] (h.ext [.row tl 3 (s0.map GDot.row)] [s0.length]) (TurnK h bl tl 3 res.length (res.map GDot.row)):=by
 unfold wO at hF
 subst hbl htl
 refine yz Tryz.func55 rfl (by kernel_rfl) (env:=[.rsl h.blks.length h.toks.length 3 s0.length,za,za,za,za,za,za,za,za,za,za,za,za,za,za,za,za,za,za,za,za,za,za,za,za,za,za,za,za,za,za,za,za,za,za,za,za,za,za,za,za,za,za,za,za,za,za,za,za,za,za,za,za,za,za,za,za,za,za,za,za]) (by rfl) ?_
 refine zn (ze ?_)
 refine zc rfl (zj rfl rfl (qf yU)) xf ?_
 refine zf (zk (zn (zn (ze ?_))))
 refine zc rfl (zg rfl yh (zb rfl)) xI ?_
 refine yj rfl (ya rfl rfl rfl rfl yU xh rfl) xN fun hn1=>?_
 replace hn1:=wW hn1
 refine zc rfl (zz rfl xu rfl rfl) xC ?_
 refine zf (zk ?_)
 refine zI xr hF (fun hc2 hF=>?_) (fun hc2 hF=>?_)
 ·refine zn (ze ?_)
  refine zc rfl (zg rfl yh (zb rfl)) xR ?_
  refine zc rfl (zj rfl xK (zb rfl)) xf ?_
  refine zf (zk (zJ (zD ?_)))
  obtain rfl:=Option.some.inj hF
  refine zF rfl (zH yv zA) (fin_turn0 (row:=GDot.row) ?_)
  exact ⟨rfl,_,rfl⟩
 ·refine zN (zk (zn (zn (ze ?_))))
  refine zc rfl (zj rfl rfl (zb rfl)) x5 ?_
  refine zf (zk (zW ?_))
  refine r_loopWF (fun (s1:Int)=>xB [1,2,4,5,6,7,8,9,10,11,12,13,14,15,16,17,18,19,20,21,22,23,24,25,26,27,28,29,30,31,32,33,34,35,36,37,38,39,40,41,42,43,44,45,46,47,48,49,50,51,52,53,54,55,56,57,58,59,60] [(3,.int .i64 s1)]) (fun s1=>h.ext [.row (h.toks.length+0) 3 (s0.map GDot.row)] [s0.length]) hF (fun _=>by simp only [xB,upd,List.set_cons_succ,List.set_cons_zero];try rfl) (wk.le (by exact (.eq (.drop (.drop (.cons (leV.of_eq rfl) (.d16 (.d16 (.d16 (.d4 (.d4 (.drop leL.nil)))))))))))) ?_
  intro n1 s1 o1 hF hK1
  refine zn (zn (ze ?_))
  refine zc rfl (zg rfl yf (zb rfl)) yy ?_
  refine zc rfl (zg rfl yh (zb rfl)) yx ?_
  refine yj rfl (ya rfl rfl rfl rfl yU yr rfl) yE fun hn33=>?_
  replace hn33:=wW hn33
  refine zc rfl (zz rfl yw yD rfl) yK ?_
  refine zf (zk ?_)
  refine zI yI hF (fun hc34 hF=>?_) (fun hc34 hF=>?_)
  ·refine zN (zk (zn (zW (zn ?_))))
   refine yb [] [] trivial mixed (by kernel_rfl) ?_
   refine zi rfl rfl (zg rfl yh (zb rfl)) yZ ?_
   refine zi rfl rfl (zg rfl yf (zb rfl)) y8 ?_
   refine zQ hF (fun y35 hy35 hF=>?_)
   refine zi rfl rfl (e_idxR rfl yU y4 xd (idxRn hy35 rfl)) xk ?_
   refine zi rfl rfl (e_ldR (off:=0) (i:=0) (q:=h.toks.length+0) (z:=s1.toNat) (row:=GDot.row) (fun _=>rfl) rfl ty27.choose_spec.1 (by decide) xl rfl rfl (idxR hy35).2.2 (zu (cs':=[.int .u8 y35.actor.rep,.int .u32 y35.actor.inc,.int .u64 y35.seq]) ty27.choose_spec.2 rfl rfl) (zb rfl)) xJ ?_
   refine zi rfl rfl (zg rfl yh (zb rfl)) xQ ?_
   refine zi rfl rfl (zg rfl yf (zb rfl)) wb ?_
   refine zi rfl rfl (zz rfl wa rfl rfl) wl ?_
   refine zQ hF (fun y36 hy36 hF=>?_)
   refine zi rfl rfl (e_idxR rfl yU xX wq (idxRn hy36 rfl)) wp ?_
   refine zi rfl rfl (e_ldR (off:=0) (i:=0) (q:=h.toks.length+0) (z:=(IntKind.wrap .i64 (s1 - (1:Int))).toNat) (row:=GDot.row) (fun _=>rfl) rfl ty27.choose_spec.1 (by decide) wg rfl rfl (idxR hy36).2.2 (zu (cs':=[.int .u8 y36.actor.rep,.int .u32 y36.actor.inc,.int .u64 y36.seq]) ty27.choose_spec.2 rfl rfl) (zb rfl)) wu ?_
   refine zi rfl rfl (zz rfl xL ww (bin_eq pk27 rfl)) wz ?_
   refine zX ?_
   refine zk ?_
   refine zI wv hF (fun hc37 hF=>?_) (fun hc37 hF=>?_)
   ·refine zn (ze ?_)
    refine zc rfl (zg rfl yh (zb rfl)) wV ?_
    refine zc rfl (zg rfl yf (zb rfl)) wU ?_
    refine vz hF (fun hm38 hF=>?_)
    refine ops_b rfl (e_sufR rfl yU wD w4 hm38) wG ?_
    refine zc rfl (zj rfl wH (zb rfl)) yV ?_
    refine zf (zk (zn (zn (ze ?_))))
    refine zc rfl (zj rfl rfl (zb rfl)) xp ?_
    refine zf (zk (zW ?_))
    refine r_loopWF (fun (s2:Int×Int×(List GDot))=>xB [1,2,6,7,8,9,10,11,12,13,14,15,16,17,18,19,20,21,22,23,24,25,26,27,28,29,30,31,32,33,34,35,36,37,38,39,40,41,42,43,44,45,46,47,48,49,50,51,52,53,54,55,56,57,58,59,60] [(3,.int .i64 s2.1),(5,.int .i64 s2.2.1)]) (fun s2=>h.ext [.row (h.toks.length+0) 3 (s2.2.2.map GDot.row)] [s0.length]) hF (fun _=>by simp only [xB,upd,List.set_cons_succ,List.set_cons_zero];try rfl) (wk.le (by exact (.eq (.drop (.drop (.cons (leV.of_eq rfl) (.eq (.cons (leV.of_eq rfl) (.d16 (.d16 (.d16 (.d4 (.drop (.drop (.drop leL.nil))))))))))))))) ?_
    intro n2 s2 o2 hF hK2
    refine vz hF (fun hr2 hF=>?_)
    refine zn (zn (ze ?_))
    refine zc rfl (zg rfl yR (zb rfl)) w9 ?_
    refine zc rfl (zg rfl yp (zb rfl)) w8 ?_
    refine yj rfl (ya rfl rfl rfl rfl yU va rfl) w7 fun hn49=>?_
    refine zc rfl (zz rfl we wZ rfl) wT ?_
    refine zf (zk ?_)
    refine zI wQ hF (fun hc50 hF=>?_) (fun hc50 hF=>?_)
    ·refine zN (zk (zn (zW (zn ?_))))
     refine yb [] [] trivial mixed (by kernel_rfl) ?_
     refine zi rfl rfl (zg rfl yp (zb rfl)) vg ?_
     refine zi rfl rfl (zg rfl yR (zb rfl)) vf ?_
     refine zQ hF (fun y51 hy51 hF=>?_)
     replace hy51:=idxS hy51
     refine zi rfl rfl (e_idxS rfl yU vn vm ⟨hy51.1,by have:=hy51.2.1;have:=hr2;omega⟩) vI ?_
     refine zi rfl rfl (e_ldR (off:=0) (i:=0) (q:=h.toks.length+0) (z:=(s1.toNat+s2.2.1.toNat)) (row:=GDot.row) (fun _=>rfl) rfl ty27.choose_spec.1 (by decide) vC rfl hr2 hy51.2.2 (zu (cs':=[.int .u8 y51.actor.rep,.int .u32 y51.actor.inc,.int .u64 y51.seq]) ty27.choose_spec.2 rfl rfl) (zb rfl)) vN ?_
     refine zi rfl rfl (zg rfl yp (zb rfl)) vZ ?_
     refine zi rfl rfl (zg rfl yR (zb rfl)) (sk st0) ?_
     refine zi rfl rfl (zz rfl (gk yh) rfl rfl) (sk st1) ?_
     refine zQ hF (fun y52 hy52 hF=>?_)
     replace hy52:=idxS hy52
     refine zi rfl rfl (e_idxS rfl yU qe (gk yB) ⟨hy52.1,by have:=hy52.2.1;have:=hr2;omega⟩) (sk xf) ?_
     refine zi rfl rfl (e_ldR (off:=0) (i:=0) (q:=h.toks.length+0) (z:=(s1.toNat+(IntKind.wrap .i64 (s2.2.1 - (1:Int))).toNat)) (row:=GDot.row) (fun _=>rfl) rfl ty27.choose_spec.1 (by decide) (gk yv) rfl hr2 hy52.2.2 (zu (cs':=[.int .u8 y52.actor.rep,.int .u32 y52.actor.inc,.int .u64 y52.seq]) ty27.choose_spec.2 rfl rfl) (zb rfl)) (sk x5) ?_
     refine zi rfl rfl (zz rfl vO (gk yf) (bin_ne pk27 rfl)) (sk yV) ?_
     refine zX ?_
     refine zk ?_
     refine zI (gk yp) hF (fun hc53 hF=>?_) (fun hc53 hF=>?_)
     ·refine zn (ze ?_)
      refine zc rfl (zg rfl yh (zb rfl)) (sk xp) ?_
      refine zc rfl (zg rfl yf (zb rfl)) (sk xI) ?_
      refine zc rfl (zg rfl yp (zb rfl)) (sk xN) ?_
      refine zc rfl (zg rfl yR (zb rfl)) (sk xC) ?_
      refine zQ hF (fun y54 hy54 hF=>?_)
      replace hy54:=idxS hy54
      refine zc rfl (e_idxS rfl yU (gk xu) (gk xr) ⟨hy54.1,by have:=hy54.2.1;have:=hr2;omega⟩) (sk xR) ?_
      refine zc rfl (e_ldR (off:=0) (i:=0) (q:=h.toks.length+0) (z:=(s1.toNat+s2.2.1.toNat)) (row:=GDot.row) (fun _=>rfl) rfl ty27.choose_spec.1 (by decide) (gk xK) rfl hr2 hy54.2.2 (zu (cs':=[.int .u8 y54.actor.rep,.int .u32 y54.actor.inc,.int .u64 y54.seq]) ty27.choose_spec.2 rfl rfl) (zb rfl)) (sk yy) ?_
      refine zQ hF (fun y55 hy55 hF=>?_)
      refine zc rfl (e_idxR rfl yU (gk yR) (gk xh) (idxRn hy55 hr2)) (sk yx) ?_
      refine zc rfl (e_stR (off:=0) (i:=0) (q:=h.toks.length+0) (z:=s2.1.toNat) (row:=GDot.row) (y':=y54) (us:=[.int .u8 y54.actor.rep,.int .u32 y54.actor.inc,.int .u64 y54.seq]) (B':=[.row (h.toks.length+0) 3 ((s2.2.2.set s2.1.toNat y54).map GDot.row)]) (fun _=>rfl) rfl ty27.choose_spec.1 (gk yr) (gk yw) (zb rfl) rfl rfl rfl rfl hr2 (idxR hy55).2.2 (by decide) rfl rfl) rfl ?_
      refine zf (zk (ze ?_))
      refine zc rfl (zg rfl yf (zb rfl)) (sk yE) ?_
      refine zc rfl (zz rfl (gk yD) rfl rfl) (sk yK) ?_
      refine zc rfl (zj rfl (gk yI) (zb rfl)) x5 ?_
      refine zf (ye (zk (ze ?_)))
      refine zc rfl (zg rfl yR (zb rfl)) wS ?_
      refine zc rfl (zz rfl wY rfl rfl) wR ?_
      refine zc rfl (zj rfl wX (zb rfl)) xp ?_
      refine zf (xw ?_)
      obtain rfl:=Option.some.inj hF
      exact ⟨((IntKind.wrap .i64 (s2.1+(1:Int))),(IntKind.wrap .i64 (s2.2.1+(1:Int))),(s2.2.2.set s2.1.toNat y54)),hK2,wk.le (by exact (.eq (.drop (.drop (.cons (leV.of_eq rfl) (.eq (.cons (leV.of_eq rfl) (.d16 (.d16 (.d16 (.d4 (.drop (.drop (.drop leL.nil))))))))))))))⟩
     ·refine zN (ye (zk (ze ?_)))
      refine zc rfl (zg rfl yR (zb rfl)) wS ?_
      refine zc rfl (zz rfl wY rfl rfl) wR ?_
      refine zc rfl (zj rfl wX (zb rfl)) xp ?_
      refine zf (xw ?_)
      obtain rfl:=Option.some.inj hF
      exact ⟨(s2.1,(IntKind.wrap .i64 (s2.2.1+(1:Int))),s2.2.2),hK2,wk.le (by exact (.eq (.drop (.drop (.cons (leV.of_eq rfl) (.eq (.cons (leV.of_eq rfl) (.d16 (.d16 (.d16 (.d4 (.drop (.drop (.drop leL.nil))))))))))))))⟩
    ·refine xD ?_
     refine yd ?_
     refine z7 ?_
     obtain rfl:=Option.some.inj hF
     replace hF:=hK2
     refine z8 ?_
     refine zk (zn (ze ?_))
     refine zc rfl (zg rfl yh (zb rfl)) (sk yT) ?_
     refine zc rfl (zg rfl yf (zb rfl)) (sk yS) ?_
     refine vz hF (fun hm58 hF=>?_)
     refine ops_b rfl (e_sufR rfl yU (gk yY) (gk yO) hm58) (sk yZ) ?_
     refine ops_b rfl (e_clrR (i:=0) (q:=h.toks.length+0) (L:=s2.2.2) (row:=GDot.row) (d:=(GDot.mk (GActor.mk (0:Int) (0:Int)) (0:Int))) (B':=[.row (h.toks.length+0) 3 ((s2.2.2.take s2.1.toNat++List.replicate (s0.length - s2.1.toNat) (GDot.mk (GActor.mk (0:Int) (0:Int)) (0:Int))).map GDot.row)]) (fun _=>rfl) rfl rfl rfl rfl yU ze27 rfl (gk y4) rfl hr2 (Int.toNat_le.2 hm58.2) rfl) rfl ?_
     refine zf (zk (zn (ze ?_)))
     refine zc rfl (zg rfl yh (zb rfl)) (sk y8) ?_
     refine zc rfl (zg rfl yf (zb rfl)) (sk xk) ?_
     refine zQ hF (fun m59 hm59 hF=>?_)
     refine ops_b rfl (e_cutR (i:=0) (j:=0) (L:=(s2.2.2.take s2.1.toNat++List.replicate (s0.length - s2.1.toNat) (GDot.mk (GActor.mk (0:Int) (0:Int)) (0:Int)))) (row:=GDot.row) (B':=[.dead,.row (h.toks.length+1) 3 (m59.map GDot.row)]) (T':=[s0.length+1,(m59).length]) rfl yU (gk xd) (gk xl) rfl (clr_len hr2 (Int.toNat_le.2 hm58.2)) hm59 rfl rfl rfl rfl) (sk xJ) ?_
     refine zc rfl (zj rfl (gk xL) (zb rfl)) xf ?_
     refine zf (zk (zJ ?_))
     refine zL ?_
     refine zD ?_
     refine yN ?_
     obtain rfl:=Option.some.inj hF
     replace hF:=hK1
     refine zL ?_
     refine zD ?_
     obtain rfl:=Option.some.inj hF
     refine zF rfl (zH yv zA) (fin_at ?_)
     exact ⟨rfl,_,rfl⟩
   ·refine zN (ye (zk (ze ?_)))
    refine zc rfl (zg rfl yf (zb rfl)) yT ?_
    refine zc rfl (zz rfl yY rfl rfl) yS ?_
    refine zc rfl (zj rfl yO (zb rfl)) x5 ?_
    refine zf (xw ?_)
    obtain rfl:=Option.some.inj hF
    exact ⟨(IntKind.wrap .i64 (s1+(1:Int))),hK1,wk.le (by exact (.eq (.drop (.drop (.cons (leV.of_eq rfl) (.d16 (.d16 (.d16 (.d4 (.d4 (.drop leL.nil)))))))))))⟩
  ·refine xD ?_
   refine yd ?_
   refine z7 ?_
   obtain rfl:=Option.some.inj hF
   replace hF:=hK1
   refine z8 ?_
   refine zk (zn (ze ?_))
   refine zc rfl (zg rfl yh (zb rfl)) (sk xQ) ?_
   refine zc rfl (zj rfl (gk xX) (zb rfl)) xf ?_
   refine zf (zk (zJ ?_))
   obtain rfl:=Option.some.inj hF
   refine zF rfl (zH yv zA) (fin_turn0 (row:=GDot.row) ?_)
   exact ⟨rfl,_,rfl⟩
/-! slices.DeleteFunc[[]varve/api.Item,varve/api.Item] -/
theorem okR56 {bl tl:Nat} {s0:(List GItem)} {del1:(GItem→Option Bool)} {fdel1:FuncId} {adel1 kdel1:List AV} {res:(List GItem)} {h:AH} (hbl:h.blks.length=bl) (htl:h.toks.length=tl) (hdel1:∀ x0 v (L:List Blk) (M:List Nat),del1 x0=some v→Spec Tryz.prog fdel1 (adel1++[.agg [.int .u64 x0.time,.int .u8 x0.dot.actor.rep,.int .u32 x0.dot.actor.inc,.int .u64 x0.dot.seq,.str x0.text]]++kdel1) (h.ext L M) (fun rr hh=>rr=.bool v∧hh=h.ext L M)) (hladel1:∀ n m,h.blks.length≤n→h.toks.length≤m→y3 n m adel1=true) (hlkdel1:∀ n m,h.blks.length≤n→h.toks.length≤m→y3 n m kdel1=true) (hF:x8 s0 del1=some res):Spec Tryz.prog 56 [.rsl bl tl 5 s0.length,.fn (.func fdel1) adel1 kdel1] (h.ext [.row tl 5 (s0.map GItem.row)] [s0.length]) (TurnK h bl tl 5 res.length (res.map GItem.row)):=by
 unfold x8 at hF
 subst hbl htl
 refine yz Tryz.func56 rfl (by kernel_rfl) (env:=[.rsl h.blks.length h.toks.length 5 s0.length,.fn (.func fdel1) adel1 kdel1,za,za,za,za,za,za,za,za,za,za,za,za,za,za,za,za,za,za,za,za,za,za,za,za,za,za,za,za,za,za,za,za,za,za,za,za,za,za,za,za]) (by rfl) ?_
 refine zn (ze ?_)
 refine zc rfl (zj rfl rfl (qf yX)) yV ?_
 refine zf (zk (zn (ze ?_)))
 refine zc rfl (zg rfl yh (zb rfl)) xC ?_
 refine zc rfl (zg rfl yB (zb rfl)) xR ?_
 refine zQ hF (fun v1 hv1 hF=>?_)
 refine zU rfl (zC rfl rfl rfl (zo xr (zo xK zw)) (.cons (zb rfl) (.cons (zb rfl) .nil))) (row_read (B1:=[]) (T1:=[]) (okR73 (by simp [AH.ext]) (by simp [AH.ext]) (fun x0 v L M hv=>by rw [qr];exact hdel1 x0 v _ _ hv) (fun n m h1 h2=>hladel1 n m (by simp [AH.ext] at h1;omega) (by simp [AH.ext] at h2;omega)) (fun n m h1 h2=>hlkdel1 n m (by simp [AH.ext] at h1;omega) (by simp [AH.ext] at h2;omega)) hv1) rfl rfl) yy ?_
 refine zc rfl (zj rfl yw (zb rfl)) xp ?_
 refine zf (zk (zn (zn (ze ?_))))
 refine zc rfl (zg rfl yR (zb rfl)) yx ?_
 refine zc rfl (zz rfl yr rfl rfl) yE ?_
 refine zf (zk ?_)
 refine zI yD hF (fun hc2 hF=>?_) (fun hc2 hF=>?_)
 ·refine zn (ze ?_)
  refine zc rfl (zg rfl yh (zb rfl)) yK ?_
  refine zc rfl (zj rfl yI (zb rfl)) yV ?_
  refine zf (zk (zJ (zD ?_)))
  obtain rfl:=Option.some.inj hF
  refine zF rfl (zH yp zA) (fin_turn0 (row:=GItem.row) ?_)
  exact ⟨rfl,_,rfl⟩
 ·refine zN (zk (zn (zn (ze ?_))))
  refine zc rfl (zg rfl yR (zb rfl)) yT ?_
  refine zc rfl (zz rfl yY rfl rfl) yS ?_
  refine zc rfl (zj rfl yO (zb rfl)) xI ?_
  refine zf (zk (zW ?_))
  refine r_loopWF (fun (s1:Int×Int×(List GItem))=>xB [2,3,4,7,8,9,10,11,12,13,14,15,16,17,18,19,20,21,22,23,24,25,26,27,28,29,30,31,32,33,34,35,36,37,38,39,40,41] [(5,.int .i64 s1.1),(6,.int .i64 s1.2.1)]) (fun s1=>h.ext [.row (h.toks.length+0) 5 (s1.2.2.map GItem.row)] [s0.length]) hF (fun _=>by simp only [xB,upd,List.set_cons_succ,List.set_cons_zero];try rfl) (wk.le (by exact (.eq (.eq (.drop (.drop (.drop (.cons (leV.of_eq rfl) (.cons (leV.of_eq rfl) (.d16 (.d16 (.drop (.drop (.drop leL.nil)))))))))))))) ?_
  intro n1 s1 o1 hF hK1
  refine vz hF (fun hr1 hF=>?_)
  refine zn (zn (ze ?_))
  refine zc rfl (zg rfl xh (zb rfl)) yZ ?_
  refine zc rfl (zg rfl yh (zb rfl)) y8 ?_
  refine yj rfl (ya rfl rfl rfl rfl yX xd rfl) xk fun hn12=>?_
  refine zc rfl (zz rfl y4 xl rfl) xJ ?_
  refine zf (zk ?_)
  refine zI xL hF (fun hc13 hF=>?_) (fun hc13 hF=>?_)
  ·refine zN (zk (zn (zW (zn (ze ?_)))))
   refine zc rfl (zg rfl yh (zb rfl)) wl ?_
   refine zc rfl (zg rfl xh (zb rfl)) wp ?_
   refine zQ hF (fun y14 hy14 hF=>?_)
   refine zc rfl (e_idxR rfl yX wq wg (idxRn hy14 hr1)) wu ?_
   refine zc rfl (e_ldR (off:=0) (i:=0) (q:=h.toks.length+0) (z:=s1.2.1.toNat) (row:=GItem.row) (fun _=>rfl) rfl ty47.choose_spec.1 (by decide) ww rfl hr1 (idxR hy14).2.2 (zu (cs':=[.int .u64 y14.time,.int .u8 y14.dot.actor.rep,.int .u32 y14.dot.actor.inc,.int .u64 y14.dot.seq,.str y14.text]) ty47.choose_spec.2 rfl rfl) (zb rfl)) wz ?_
   refine zc rfl (xG (n:=1) rfl ze47 rfl) xN ?_
   refine zc rfl (zP (cs':=[.int .u64 y14.time,.int .u8 y14.dot.actor.rep,.int .u32 y14.dot.actor.inc,.int .u64 y14.dot.seq,.str y14.text]) rfl ty47.choose_spec.1 xu wv (zb rfl) rfl rfl rfl rfl rfl) rfl ?_
   refine zf (zk (zn (ze ?_)))
   refine zc rfl (zg rfl yB (zb rfl)) wV ?_
   refine zc rfl (zq rfl ty47.choose_spec.1 xu rfl (zu (cs':=[.int .u64 y14.time,.int .u8 y14.dot.actor.rep,.int .u32 y14.dot.actor.inc,.int .u64 y14.dot.seq,.str y14.text]) ty47.choose_spec.2 rfl rfl) (zb rfl)) wU ?_
   refine zQ hF (fun v15 hv15 hF=>?_)
   refine zU rfl (s_callC rfl rfl wD (zo w4 zw) (.cons (zb rfl) .nil) rfl) (hdel1 _ _ _ _ hv15) wG ?_
   refine zc rfl (vB rfl wH rfl) w9 ?_
   refine zf (zk ?_)
   refine zI we hF (fun hc16 hF=>?_) (fun hc16 hF=>?_)
   ·refine zn (ze ?_)
    refine zc rfl (zg rfl yh (zb rfl)) w8 ?_
    refine zc rfl (zg rfl yR (zb rfl)) w7 ?_
    refine zc rfl (zq rfl ty47.choose_spec.1 xu rfl (zu (cs':=[.int .u64 y14.time,.int .u8 y14.dot.actor.rep,.int .u32 y14.dot.actor.inc,.int .u64 y14.dot.seq,.str y14.text]) ty47.choose_spec.2 rfl rfl) (zb rfl)) wT ?_
    refine zQ hF (fun y17 hy17 hF=>?_)
    refine zc rfl (e_idxR rfl yX va wZ (idxRn hy17 hr1)) wS ?_
    refine zc rfl (e_stR (off:=0) (i:=0) (q:=h.toks.length+0) (z:=s1.1.toNat) (row:=GItem.row) (y':=y14) (us:=[.int .u64 y14.time,.int .u8 y14.dot.actor.rep,.int .u32 y14.dot.actor.inc,.int .u64 y14.dot.seq,.str y14.text]) (B':=[.row (h.toks.length+0) 5 ((s1.2.2.set s1.1.toNat y14).map GItem.row),.cells [.int .u64 y14.time,.int .u8 y14.dot.actor.rep,.int .u32 y14.dot.actor.inc,.int .u64 y14.dot.seq,.str y14.text]]) (fun _=>rfl) rfl ty47.choose_spec.1 wY wQ (zb rfl) rfl rfl rfl rfl hr1 (idxR hy17).2.2 (by decide) rfl rfl) rfl ?_
    refine zf (zk (ze ?_))
    refine zc rfl (zg rfl yR (zb rfl)) wR ?_
    refine zc rfl (zz rfl wX rfl rfl) vg ?_
    refine zc rfl (zj rfl vn (zb rfl)) xp ?_
    refine zf (ye (zk (ze ?_)))
    refine zc rfl (zg rfl xh (zb rfl)) xQ ?_
    refine zc rfl (zz rfl xX rfl rfl) wb ?_
    refine zc rfl (zj rfl wa (zb rfl)) xI ?_
    refine zf (xw ?_)
    obtain rfl:=Option.some.inj hF
    exact ⟨((IntKind.wrap .i64 (s1.1+(1:Int))),(IntKind.wrap .i64 (s1.2.1+(1:Int))),(s1.2.2.set s1.1.toNat y14)),hK1,wk.trans (wk.le (by exact (.eq (.eq (.drop (.drop (.drop (.cons (leV.of_eq rfl) (.cons (leV.of_eq rfl) (.d16 (.d16 (.drop (.drop (.drop leL.nil)))))))))))))) (vX (by simp [y3,AV.low,hladel1,hlkdel1]) rfl rfl (by simp [Blk.low,y3,AV.low,hladel1,hlkdel1]))⟩
   ·refine zN (ye (zk (ze ?_)))
    refine zc rfl (zg rfl xh (zb rfl)) xQ ?_
    refine zc rfl (zz rfl xX rfl rfl) wb ?_
    refine zc rfl (zj rfl wa (zb rfl)) xI ?_
    refine zf (xw ?_)
    obtain rfl:=Option.some.inj hF
    exact ⟨(s1.1,(IntKind.wrap .i64 (s1.2.1+(1:Int))),s1.2.2),hK1,wk.trans (wk.le (by exact (.eq (.eq (.drop (.drop (.drop (.cons (leV.of_eq rfl) (.cons (leV.of_eq rfl) (.d16 (.d16 (.drop (.drop (.drop leL.nil)))))))))))))) (vX (by simp [y3,AV.low,hladel1,hlkdel1]) rfl rfl (by simp [Blk.low,y3,AV.low,hladel1,hlkdel1]))⟩
  ·refine xD ?_
   refine yd ?_
   refine z7 ?_
   obtain rfl:=Option.some.inj hF
   replace hF:=hK1
   refine z8 ?_
   refine zk (zn (ze ?_))
   refine zc rfl (zg rfl yh (zb rfl)) vf ?_
   refine zc rfl (zg rfl yR (zb rfl)) vI ?_
   refine vz hF (fun hm20 hF=>?_)
   refine ops_b rfl (e_sufR rfl yX vm vC hm20) vN ?_
   refine ops_b rfl (e_clrR (i:=0) (q:=h.toks.length+0) (L:=s1.2.2) (row:=GItem.row) (d:=(GItem.mk (0:Int) (GDot.mk (GActor.mk (0:Int) (0:Int)) (0:Int)) ([]:yn))) (B':=[.row (h.toks.length+0) 5 ((s1.2.2.take s1.1.toNat++List.replicate (s0.length - s1.1.toNat) (GItem.mk (0:Int) (GDot.mk (GActor.mk (0:Int) (0:Int)) (0:Int)) ([]:yn))).map GItem.row)]) (fun _=>rfl) rfl rfl rfl rfl yX ze47 rfl vO rfl hr1 (Int.toNat_le.2 hm20.2) rfl) rfl ?_
   refine zf (zk (zn (ze ?_)))
   refine zc rfl (zg rfl yh (zb rfl)) vZ ?_
   refine zc rfl (zg rfl yR (zb rfl)) (sk st0) ?_
   refine zQ hF (fun m21 hm21 hF=>?_)
   refine ops_b rfl (e_cutR (i:=0) (j:=0) (L:=(s1.2.2.take s1.1.toNat++List.replicate (s0.length - s1.1.toNat) (GItem.mk (0:Int) (GDot.mk (GActor.mk (0:Int) (0:Int)) (0:Int)) ([]:yn)))) (row:=GItem.row) (B':=[.dead,.row (h.toks.length+1) 5 (m21.map GItem.row)]) (T':=[s0.length+1,(m21).length]) rfl yX qe (gk yh) rfl (clr_len hr1 (Int.toNat_le.2 hm20.2)) hm21 rfl rfl rfl rfl) (sk st1) ?_
   refine zc rfl (zj rfl (gk yB) (zb rfl)) yV ?_
   refine zf (zk (zJ ?_))
   obtain rfl:=Option.some.inj hF
   refine zF rfl (zH yp zA) (fin_at ?_)
   exact ⟨rfl,_,rfl⟩
/-! (*varve/leaf.change).drop 1 -/
theorem ok57 {x0:GItem} {c0:GEvent} {i0:Nat} {res:Bool} {h:AH} (hb0:h.blk i0=some (.cells [.int .u8 c0.dot.actor.rep,.int .u32 c0.dot.actor.inc,.int .u64 c0.dot.seq,.int .u64 c0.time,.int .u8 c0.op.kind,.sl 1 (c0.op.path.map zG),.int .i64 c0.op.n,.str c0.op.text,.sl 3 (c0.op.dots.map GDot.row)])) (hF:wC x0 c0=some res):Spec Tryz.prog 57 [.agg [.int .u64 x0.time,.int .u8 x0.dot.actor.rep,.int .u32 x0.dot.actor.inc,.int .u64 x0.dot.seq,.str x0.text],.ptr i0 0] h (fun rr hh=>rr=.bool res∧hh=h):=by
 unfold wC at hF
 refine zx Tryz.func57 rfl (by kernel_rfl) (env:=[.agg [.int .u64 x0.time,.int .u8 x0.dot.actor.rep,.int .u32 x0.dot.actor.inc,.int .u64 x0.dot.seq,.str x0.text],.ptr i0 0,za,za,za,za,za,za,za,za]) (by rfl) ?_
 refine zn (ze ?_)
 refine zc rfl (yF (n:=0) rfl yh (zb rfl) rfl rfl) xf ?_
 refine zc rfl (zj rfl rfl (zb rfl)) x5 ?_
 refine zf (zk (zn (ze ?_)))
 refine zc rfl (zd rfl wd yB rfl) yV ?_
 refine zc rfl (zd rfl vJ yp rfl) xp ?_
 refine zc rfl (b_load rfl xP yR hb0 (zt rfl) (zb rfl)) xI ?_
 refine zc rfl (zd rfl wI yv rfl) xN ?_
 refine zc rfl (zq rfl ty27.choose_spec.1 xu rfl (zu (cs':=[.int .u8 x0.dot.actor.rep,.int .u32 x0.dot.actor.inc,.int .u64 x0.dot.seq]) ty27.choose_spec.2 rfl rfl) (zb rfl)) xC ?_
 refine zQ hF (fun v1 hv1 hF=>?_)
 refine zU rfl (zC rfl rfl rfl (zo xh (zo xr zw)) (.cons (zb rfl) (.cons (zb rfl) .nil))) (ok52 hv1) xR ?_
 refine zc rfl (zj rfl xK (zb rfl)) x5 ?_
 refine zf (zk (zJ ?_))
 obtain rfl:=Option.some.inj hF
 refine zF rfl (zH yf zA) (zB (leV.refl _) rfl ?_)
 exact ⟨rfl,rfl⟩
/-! slices.Clone[[]varve/api.Item,varve/api.Item] -/
theorem ok36 {s0:(List GItem)} {res:(List GItem)} {h:AH}  (hF:wL s0=some res):Spec Tryz.prog 36 [.sl 5 (s0.map GItem.row)] h (OwnK h 5 res.length (res.map GItem.row)):=by
 unfold wL at hF
 refine zx Tryz.func36 rfl (by kernel_rfl) (env:=[.sl 5 (s0.map GItem.row),za,za,za,za,za,za,za]) (by rfl) ?_
 refine zn (ze ?_)
 refine zc rfl (zj rfl rfl (qf yX)) xf ?_
 refine zf (zk (zn (zn (ze ?_))))
 refine zc rfl (zg rfl yh (zb rfl)) x5 ?_
 refine ops_nilqE rfl rfl yX yf isl rfl (fun _=>yV) hF (fun b1 hb1 hF=>?_)
 refine zf (zk ?_)
 refine zI yp hF (fun hc2 hF=>?_) (fun hc2 hF=>?_)
 ·refine zn (ze ?_)
  refine zc rfl (zj rfl rfl (qf yX)) xf ?_
  refine zf (zk (zJ (zD ?_)))
  obtain rfl:=Option.some.inj hF
  refine zF rfl (zH yv zA) (fin_own0 (row:=GItem.row) (L:=([]:List GItem)) ?_)
  exact ⟨rfl,rfl⟩
 ·refine zN (zk (zn (ze ?_)))
  refine zc rfl (yq (es:=([]:List GItem).map GItem.row) rfl yX ze47 rfl rfl zT .nil rfl rfl rfl) xp ?_
  refine zc rfl (zg rfl yh (zb rfl)) xI ?_
  refine vz hF (fun hm3 hF=>?_)
  refine zc rfl (e_appN (m:=0) (T':=[((([]:List GItem)++s0)).length]) rfl rfl rfl rfl yX yX yR xh (zb rfl) (zb rfl) qI hm3 rfl rfl) xN ?_
  refine zc rfl (zj rfl xu (zb rfl)) xf ?_
  refine zf (zk (zJ ?_))
  obtain rfl:=Option.some.inj hF
  refine zF rfl (zH yv zA) (fin_own ?_)
  exact ⟨rfl,rfl⟩
theorem okR36 {s0:(List GItem)} {res:(List GItem)} {h:AH}  (hF:wL s0=some res):Spec Tryz.prog 36 [.sl 5 (s0.map GItem.row)] h (NewK h 5 res.length (res.map GItem.row)):=by
 unfold wL at hF
 refine zx Tryz.func36 rfl (by kernel_rfl) (env:=[.sl 5 (s0.map GItem.row),za,za,za,za,za,za,za]) (by rfl) ?_
 refine zn (ze ?_)
 refine zc rfl (zj rfl rfl (qf yX)) xf ?_
 refine zf (zk (zn (zn (ze ?_))))
 refine zc rfl (zg rfl yh (zb rfl)) x5 ?_
 refine ops_nilqE rfl rfl yX yf isl rfl (fun _=>yV) hF (fun b1 hb1 hF=>?_)
 refine zf (zk ?_)
 refine zI yp hF (fun hc2 hF=>?_) (fun hc2 hF=>?_)
 ·refine zn (ze ?_)
  refine zc rfl (zj rfl rfl (qf yX)) xf ?_
  refine zf (zk (zJ (zD ?_)))
  obtain rfl:=Option.some.inj hF
  refine zF rfl (zH yv zA) (fin_row0 ?_)
  exact ⟨rfl,rfl⟩
 ·refine zN (zk (zn (ze ?_)))
  refine zc rfl (yq (es:=([]:List GItem).map GItem.row) rfl yX ze47 rfl rfl zT .nil rfl rfl rfl) xp ?_
  refine zc rfl (zg rfl yh (zb rfl)) xI ?_
  refine ops_swk (swk_thaw yR rfl rfl xp rfl rfl) ?_
  refine vz hF (fun hm3 hF=>?_)
  refine zc rfl (e_appR (i:=0) (j:=0) (B':=[.row (h.toks.length+0) 5 ((([]:List GItem)++s0).map GItem.row)]) (T':=[((([]:List GItem)++s0)).length]) rfl rfl rfl rfl yX yX yR xh rfl (zb rfl) qI hm3 rfl rfl rfl rfl rfl) xN ?_
  refine zc rfl (zj rfl xu (zb rfl)) xf ?_
  refine zf (zk (zJ ?_))
  obtain rfl:=Option.some.inj hF
  refine zF rfl (zH yv zA) (fin_at ?_)
  exact ⟨rfl,rfl⟩
/-! slices.Clone[[]varve/api.Dot,varve/api.Dot] -/
theorem ok37 {s0:(List GDot)} {res:(List GDot)} {h:AH}  (hF:vi s0=some res):Spec Tryz.prog 37 [.sl 3 (s0.map GDot.row)] h (OwnK h 3 res.length (res.map GDot.row)):=by
 unfold vi at hF
 refine zx Tryz.func37 rfl (by kernel_rfl) (env:=[.sl 3 (s0.map GDot.row),za,za,za,za,za,za,za]) (by rfl) ?_
 refine zn (ze ?_)
 refine zc rfl (zj rfl rfl (qf yU)) xf ?_
 refine zf (zk (zn (zn (ze ?_))))
 refine zc rfl (zg rfl yh (zb rfl)) x5 ?_
 refine ops_nilqE rfl rfl yU yf isl rfl (fun _=>yV) hF (fun b1 hb1 hF=>?_)
 refine zf (zk ?_)
 refine zI yp hF (fun hc2 hF=>?_) (fun hc2 hF=>?_)
 ·refine zn (ze ?_)
  refine zc rfl (zj rfl rfl (qf yU)) xf ?_
  refine zf (zk (zJ (zD ?_)))
  obtain rfl:=Option.some.inj hF
  refine zF rfl (zH yv zA) (fin_own0 (row:=GDot.row) (L:=([]:List GDot)) ?_)
  exact ⟨rfl,rfl⟩
 ·refine zN (zk (zn (ze ?_)))
  refine zc rfl (yq (es:=([]:List GDot).map GDot.row) rfl yU ze27 rfl rfl zT .nil rfl rfl rfl) xp ?_
  refine zc rfl (zg rfl yh (zb rfl)) xI ?_
  refine vz hF (fun hm3 hF=>?_)
  refine zc rfl (e_appN (m:=0) (T':=[((([]:List GDot)++s0)).length]) rfl rfl rfl rfl yU yU yR xh (zb rfl) (zb rfl) qI hm3 rfl rfl) xN ?_
  refine zc rfl (zj rfl xu (zb rfl)) xf ?_
  refine zf (zk (zJ ?_))
  obtain rfl:=Option.some.inj hF
  refine zF rfl (zH yv zA) (fin_own ?_)
  exact ⟨rfl,rfl⟩
theorem okR37 {s0:(List GDot)} {res:(List GDot)} {h:AH}  (hF:vi s0=some res):Spec Tryz.prog 37 [.sl 3 (s0.map GDot.row)] h (NewK h 3 res.length (res.map GDot.row)):=by
 unfold vi at hF
 refine zx Tryz.func37 rfl (by kernel_rfl) (env:=[.sl 3 (s0.map GDot.row),za,za,za,za,za,za,za]) (by rfl) ?_
 refine zn (ze ?_)
 refine zc rfl (zj rfl rfl (qf yU)) xf ?_
 refine zf (zk (zn (zn (ze ?_))))
 refine zc rfl (zg rfl yh (zb rfl)) x5 ?_
 refine ops_nilqE rfl rfl yU yf isl rfl (fun _=>yV) hF (fun b1 hb1 hF=>?_)
 refine zf (zk ?_)
 refine zI yp hF (fun hc2 hF=>?_) (fun hc2 hF=>?_)
 ·refine zn (ze ?_)
  refine zc rfl (zj rfl rfl (qf yU)) xf ?_
  refine zf (zk (zJ (zD ?_)))
  obtain rfl:=Option.some.inj hF
  refine zF rfl (zH yv zA) (fin_row0 ?_)
  exact ⟨rfl,rfl⟩
 ·refine zN (zk (zn (ze ?_)))
  refine zc rfl (yq (es:=([]:List GDot).map GDot.row) rfl yU ze27 rfl rfl zT .nil rfl rfl rfl) xp ?_
  refine zc rfl (zg rfl yh (zb rfl)) xI ?_
  refine ops_swk (swk_thaw yR rfl rfl xp rfl rfl) ?_
  refine vz hF (fun hm3 hF=>?_)
  refine zc rfl (e_appR (i:=0) (j:=0) (B':=[.row (h.toks.length+0) 3 ((([]:List GDot)++s0).map GDot.row)]) (T':=[((([]:List GDot)++s0)).length]) rfl rfl rfl rfl yU yU yR xh rfl (zb rfl) qI hm3 rfl rfl rfl rfl rfl) xN ?_
  refine zc rfl (zj rfl xu (zb rfl)) xf ?_
  refine zf (zk (zJ ?_))
  obtain rfl:=Option.some.inj hF
  refine zF rfl (zH yv zA) (fin_at ?_)
  exact ⟨rfl,rfl⟩
/-! slices.Equal[[]varve/api.Item,varve/api.Item] -/
theorem ok26 {s10:(List GItem)} {s21:(List GItem)} {res:Bool} {h:AH}  (hF:vA s10 s21=some res):Spec Tryz.prog 26 [.sl 5 (s10.map GItem.row),.sl 5 (s21.map GItem.row)] h (fun rr hh=>rr=.bool res∧hh=h):=by
 unfold vA at hF
 refine zx Tryz.func26 rfl (by kernel_rfl) (env:=[.sl 5 (s10.map GItem.row),.sl 5 (s21.map GItem.row),za,za,za,za,za,za,za,za,za,za,za,za,za,za,za,za,za,za,za,za,za,za,za,za]) (by rfl) ?_
 refine zn (ze ?_)
 refine zc rfl (zj rfl rfl (zb rfl)) yV ?_
 refine zf (zk (zn (zn (ze ?_))))
 refine zc rfl (zg rfl yh (zb rfl)) xI ?_
 refine yj rfl (ya rfl rfl rfl rfl yX xh yC) xN fun hn1=>?_
 replace hn1:=wW hn1
 refine zc rfl (zg rfl yB (zb rfl)) xC ?_
 refine yj rfl (ya rfl rfl rfl rfl yX xr yC) xR fun hn2=>?_
 replace hn2:=wW hn2
 refine zc rfl (zz rfl xu xK rfl) yy ?_
 refine zf (zk ?_)
 refine zI yw hF (fun hc3 hF=>?_) (fun hc3 hF=>?_)
 ·refine zn (ze ?_)
  refine zc rfl (zj rfl rfl (zb rfl)) yV ?_
  refine zf (zk (zJ (zD ?_)))
  obtain rfl:=Option.some.inj hF
  refine zF rfl (zH yp zA) (zB (leV.refl _) rfl ?_)
  exact ⟨rfl,rfl⟩
 ·refine zN (zk (zn (zn (ze ?_))))
  refine zc rfl (zg rfl yh (zb rfl)) yx ?_
  refine yj rfl (ya rfl rfl rfl rfl yX yr yC) yE fun hn4=>?_
  replace hn4:=wW hn4
  refine zc rfl (zg rfl rfl (zb rfl)) yK ?_
  refine zf (zk (zW ?_))
  refine xi (fun (n1:Nat) (s1:Unit)=>xB [2,3,4,5,6,7,8,9,10,11,14,15,16,17,18,19,20,21,22,23,24,25] [(13,.int .i64 (n1:Int))]) (fun s1=>h.ext [] []) hF (fun _ _=>by simp only [xB,upd,List.set_cons_succ,List.set_cons_zero];try rfl) (wk.le (by exact (.eq (.eq (.d4 (.d4 (.drop (.drop (.eq (.cons (leV.of_eq rfl) (.d4 (.d4 (.d4 leL.nil))))))))))))) ?_
  intro n1 s1 hi1 hF
  refine zn (ze ?_)
  refine zc rfl (zz rfl yI yD rfl) yT ?_
  refine zf (zk (zn ?_))
  refine xO yY hF (fun x1 o1 hl1 hx1 hF hK1=>?_) (fun hF=>?_)
  ·refine zN (zk (zn (zW (zn (ze ?_)))))
   refine zc rfl (zg rfl yI (zb rfl)) yS ?_
   refine zc rfl (zj rfl yO (zb rfl)) xp ?_
   refine zf (zk (zn ?_))
   refine yb [] [] trivial mixed (by kernel_rfl) ?_
   refine zi rfl rfl (zg rfl yh (zb rfl)) yZ ?_
   refine zi rfl rfl (zg rfl yR (zb rfl)) y8 ?_
   refine zi rfl rfl (yM rfl yX y4 xd isl (wc hx1)) xk ?_
   refine zi rfl rfl (yW rfl ty47.choose_spec.1 xl (zu (cs':=[.int .u64 x1.time,.int .u8 x1.dot.actor.rep,.int .u32 x1.dot.actor.inc,.int .u64 x1.dot.seq,.str x1.text]) ty47.choose_spec.2 rfl rfl) (zb rfl)) xJ ?_
   refine zi rfl rfl (zg rfl yB (zb rfl)) xQ ?_
   refine zi rfl rfl (zg rfl yR (zb rfl)) wb ?_
   refine zQ hF (fun y10 hy10 hF=>?_)
   refine zi rfl rfl (yM rfl yX xX wa isl hy10) wl ?_
   refine zi rfl rfl (yW rfl ty47.choose_spec.1 wq (zu (cs':=[.int .u64 y10.time,.int .u8 y10.dot.actor.rep,.int .u32 y10.dot.actor.inc,.int .u64 y10.dot.seq,.str y10.text]) ty47.choose_spec.2 rfl rfl) (zb rfl)) wp ?_
   refine zi rfl rfl (zz rfl xL wg (bin_ne pk47 rfl)) wu ?_
   refine zX ?_
   refine zk ?_
   refine zI ww hF (fun hc11 hF=>?_) (fun hc11 hF=>?_)
   ·refine zn (ze ?_)
    refine zc rfl (zj rfl rfl (zb rfl)) yV ?_
    refine zf (zk (zJ ?_))
    refine zL ?_
    refine zD ?_
    refine yN ?_
    obtain rfl:=Option.some.inj hF
    replace hF:=hK1
    refine zL ?_
    refine zD ?_
    obtain rfl:=Option.some.inj hF
    refine zF rfl (zH yp zA) (zB (leV.refl _) rfl ?_)
    exact ⟨rfl,rfl⟩
   ·refine zN (ye (zk (ze ?_)))
    refine zc rfl (zz rfl yI rfl rfl) wz ?_
    refine zc rfl (zg rfl wv (zb rfl)) yK ?_
    refine zf (xw ?_)
    obtain rfl:=Option.some.inj hF
    exact ⟨(),hl1,hK1,wk.le (by exact (.eq (.eq (.d4 (.d4 (.drop (.drop (.eq (.cons (leV.of_eq (qT (by omega) (by omega))) (.d4 (.d4 (.d4 leL.nil))))))))))))⟩
  ·refine xD ?_
   refine yd ?_
   refine z7 ?_
   refine z8 ?_
   refine zk (zn (ze ?_))
   refine zc rfl (zj rfl rfl (zb rfl)) yV ?_
   refine zf (zk (zJ ?_))
   obtain rfl:=Option.some.inj hF
   refine zF rfl (zH yp zA) (zB (leV.refl _) rfl ?_)
   exact ⟨rfl,rfl⟩
/-! slices.Equal[[]varve/api.Dot,varve/api.Dot] -/
theorem ok27 {s10:(List GDot)} {s21:(List GDot)} {res:Bool} {h:AH}  (hF:vP s10 s21=some res):Spec Tryz.prog 27 [.sl 3 (s10.map GDot.row),.sl 3 (s21.map GDot.row)] h (fun rr hh=>rr=.bool res∧hh=h):=by
 unfold vP at hF
 refine zx Tryz.func27 rfl (by kernel_rfl) (env:=[.sl 3 (s10.map GDot.row),.sl 3 (s21.map GDot.row),za,za,za,za,za,za,za,za,za,za,za,za,za,za,za,za,za,za,za,za,za,za,za,za]) (by rfl) ?_
 refine zn (ze ?_)
 refine zc rfl (zj rfl rfl (zb rfl)) yV ?_
 refine zf (zk (zn (zn (ze ?_))))
 refine zc rfl (zg rfl yh (zb rfl)) xI ?_
 refine yj rfl (ya rfl rfl rfl rfl yU xh yC) xN fun hn1=>?_
 replace hn1:=wW hn1
 refine zc rfl (zg rfl yB (zb rfl)) xC ?_
 refine yj rfl (ya rfl rfl rfl rfl yU xr yC) xR fun hn2=>?_
 replace hn2:=wW hn2
 refine zc rfl (zz rfl xu xK rfl) yy ?_
 refine zf (zk ?_)
 refine zI yw hF (fun hc3 hF=>?_) (fun hc3 hF=>?_)
 ·refine zn (ze ?_)
  refine zc rfl (zj rfl rfl (zb rfl)) yV ?_
  refine zf (zk (zJ (zD ?_)))
  obtain rfl:=Option.some.inj hF
  refine zF rfl (zH yp zA) (zB (leV.refl _) rfl ?_)
  exact ⟨rfl,rfl⟩
 ·refine zN (zk (zn (zn (ze ?_))))
  refine zc rfl (zg rfl yh (zb rfl)) yx ?_
  refine yj rfl (ya rfl rfl rfl rfl yU yr yC) yE fun hn4=>?_
  replace hn4:=wW hn4
  refine zc rfl (zg rfl rfl (zb rfl)) yK ?_
  refine zf (zk (zW ?_))
  refine xi (fun (n1:Nat) (s1:Unit)=>xB [2,3,4,5,6,7,8,9,10,11,14,15,16,17,18,19,20,21,22,23,24,25] [(13,.int .i64 (n1:Int))]) (fun s1=>h.ext [] []) hF (fun _ _=>by simp only [xB,upd,List.set_cons_succ,List.set_cons_zero];try rfl) (wk.le (by exact (.eq (.eq (.d4 (.d4 (.drop (.drop (.eq (.cons (leV.of_eq rfl) (.d4 (.d4 (.d4 leL.nil))))))))))))) ?_
  intro n1 s1 hi1 hF
  refine zn (ze ?_)
  refine zc rfl (zz rfl yI yD rfl) yT ?_
  refine zf (zk (zn ?_))
  refine xO yY hF (fun x1 o1 hl1 hx1 hF hK1=>?_) (fun hF=>?_)
  ·refine zN (zk (zn (zW (zn (ze ?_)))))
   refine zc rfl (zg rfl yI (zb rfl)) yS ?_
   refine zc rfl (zj rfl yO (zb rfl)) xp ?_
   refine zf (zk (zn ?_))
   refine yb [] [] trivial mixed (by kernel_rfl) ?_
   refine zi rfl rfl (zg rfl yh (zb rfl)) yZ ?_
   refine zi rfl rfl (zg rfl yR (zb rfl)) y8 ?_
   refine zi rfl rfl (yM rfl yU y4 xd isl (wc hx1)) xk ?_
   refine zi rfl rfl (yW rfl ty27.choose_spec.1 xl (zu (cs':=[.int .u8 x1.actor.rep,.int .u32 x1.actor.inc,.int .u64 x1.seq]) ty27.choose_spec.2 rfl rfl) (zb rfl)) xJ ?_
   refine zi rfl rfl (zg rfl yB (zb rfl)) xQ ?_
   refine zi rfl rfl (zg rfl yR (zb rfl)) wb ?_
   refine zQ hF (fun y10 hy10 hF=>?_)
   refine zi rfl rfl (yM rfl yU xX wa isl hy10) wl ?_
   refine zi rfl rfl (yW rfl ty27.choose_spec.1 wq (zu (cs':=[.int .u8 y10.actor.rep,.int .u32 y10.actor.inc,.int .u64 y10.seq]) ty27.choose_spec.2 rfl rfl) (zb rfl)) wp ?_
   refine zi rfl rfl (zz rfl xL wg (bin_ne pk27 rfl)) wu ?_
   refine zX ?_
   refine zk ?_
   refine zI ww hF (fun hc11 hF=>?_) (fun hc11 hF=>?_)
   ·refine zn (ze ?_)
    refine zc rfl (zj rfl rfl (zb rfl)) yV ?_
    refine zf (zk (zJ ?_))
    refine zL ?_
    refine zD ?_
    refine yN ?_
    obtain rfl:=Option.some.inj hF
    replace hF:=hK1
    refine zL ?_
    refine zD ?_
    obtain rfl:=Option.some.inj hF
    refine zF rfl (zH yp zA) (zB (leV.refl _) rfl ?_)
    exact ⟨rfl,rfl⟩
   ·refine zN (ye (zk (ze ?_)))
    refine zc rfl (zz rfl yI rfl rfl) wz ?_
    refine zc rfl (zg rfl wv (zb rfl)) yK ?_
    refine zf (xw ?_)
    obtain rfl:=Option.some.inj hF
    exact ⟨(),hl1,hK1,wk.le (by exact (.eq (.eq (.d4 (.d4 (.drop (.drop (.eq (.cons (leV.of_eq (qT (by omega) (by omega))) (.d4 (.d4 (.d4 leL.nil))))))))))))⟩
  ·refine xD ?_
   refine yd ?_
   refine z7 ?_
   refine z8 ?_
   refine zk (zn (ze ?_))
   refine zc rfl (zj rfl rfl (zb rfl)) yV ?_
   refine zf (zk (zJ ?_))
   obtain rfl:=Option.some.inj hF
   refine zF rfl (zH yp zA) (zB (leV.refl _) rfl ?_)
   exact ⟨rfl,rfl⟩
/-! varve/leaf.Same -/
theorem ok9 {a0:GLeaf} {b1:GLeaf} {res:Bool} {h:AH}  (hF:qK a0 b1=some res):Spec Tryz.prog 9 [.agg [.int .u8 a0.typ,.int .i64 a0.n,.int .u64 a0.time,.int .u8 a0.dot.actor.rep,.int .u32 a0.dot.actor.inc,.int .u64 a0.dot.seq,.str a0.text,.sl 5 (a0.items.map GItem.row),.sl 3 (a0.tombs.map GDot.row)],.agg [.int .u8 b1.typ,.int .i64 b1.n,.int .u64 b1.time,.int .u8 b1.dot.actor.rep,.int .u32 b1.dot.actor.inc,.int .u64 b1.dot.seq,.str b1.text,.sl 5 (b1.items.map GItem.row),.sl 3 (b1.tombs.map GDot.row)]] h (fun rr hh=>rr=.bool res∧hh=h):=by
 unfold qK at hF
 refine zx Tryz.func9 rfl (by kernel_rfl) (env:=[.agg [.int .u8 a0.typ,.int .i64 a0.n,.int .u64 a0.time,.int .u8 a0.dot.actor.rep,.int .u32 a0.dot.actor.inc,.int .u64 a0.dot.seq,.str a0.text,.sl 5 (a0.items.map GItem.row),.sl 3 (a0.tombs.map GDot.row)],.agg [.int .u8 b1.typ,.int .i64 b1.n,.int .u64 b1.time,.int .u8 b1.dot.actor.rep,.int .u32 b1.dot.actor.inc,.int .u64 b1.dot.seq,.str b1.text,.sl 5 (b1.items.map GItem.row),.sl 3 (b1.tombs.map GDot.row)],za,za,za,za,za,za,za,za,za,za,za,za,za,za,za,za,za,za,za,za,za,za,za,za,za,za,za,za,za,za,za,za,za,za,za,za,za,za,za,za,za,za,za,za,za,za,za,za,za,za]) (by rfl) ?_
 refine zn (ze ?_)
 refine zc rfl (yF (n:=0) rfl yh (zb rfl) rfl rfl) xf ?_
 refine zc rfl (yF (n:=1) rfl yB (zb rfl) rfl rfl) x5 ?_
 refine zc rfl (zj rfl rfl (zb rfl)) yV ?_
 refine zf (zk (zn (ze ?_)))
 refine zc rfl (zd rfl vu yv rfl) xp ?_
 refine zc rfl (zq rfl ty5 yR rfl (zt rfl) (zb rfl)) xI ?_
 refine zc rfl (zd rfl vu yf rfl) xN ?_
 refine zc rfl (zq rfl ty5 xu rfl (zt rfl) (zb rfl)) xC ?_
 refine zc rfl (zz rfl xh xr rfl) xR ?_
 refine zc rfl (zg rfl xK (zb rfl)) yy ?_
 refine zr rfl (fun hb=>zd rfl qZ yv rfl) yx ?_
 refine zr rfl (fun hb=>zq rfl ty2 (zp yr hb) rfl (zt rfl) (zb rfl)) yE ?_
 refine zr rfl (fun hb=>zd rfl qZ yf rfl) yK ?_
 refine zr rfl (fun hb=>zq rfl ty2 (zp yI hb) rfl (zt rfl) (zb rfl)) yT ?_
 refine zr rfl (fun hb=>zz rfl (zp yD hb) (zp yY hb) rfl) yS ?_
 refine zc rfl (zM rfl yw yO rfl (zS (fun ht=>gT ht))) yZ ?_
 refine zc rfl (zg rfl y4 (zb rfl)) y8 ?_
 refine zr rfl (fun hb=>zd rfl wm yv rfl) xk ?_
 refine zr rfl (fun hb=>zq rfl xM (zp xl hb) rfl (zt rfl) (zb rfl)) xJ ?_
 refine zr rfl (fun hb=>zd rfl wm yf rfl) xQ ?_
 refine zr rfl (fun hb=>zq rfl xM (zp xX hb) rfl (zt rfl) (zb rfl)) wb ?_
 refine zr rfl (fun hb=>zz rfl (zp xL hb) (zp wa hb) rfl) wl ?_
 refine zc rfl (zM rfl xd wq rfl (zS (fun ht=>gT ht))) wp ?_
 refine zc rfl (zg rfl wg (zb rfl)) wu ?_
 refine zr rfl (fun hb=>zd rfl vp yv rfl) wz ?_
 refine zr rfl (fun hb=>zq rfl ty27.choose_spec.1 (zp wv hb) rfl (zu (cs':=[.int .u8 a0.dot.actor.rep,.int .u32 a0.dot.actor.inc,.int .u64 a0.dot.seq]) ty27.choose_spec.2 rfl rfl) (zb rfl)) wV ?_
 refine zr rfl (fun hb=>zd rfl vp yf rfl) wU ?_
 refine zr rfl (fun hb=>zq rfl ty27.choose_spec.1 (zp w4 hb) rfl (zu (cs':=[.int .u8 b1.dot.actor.rep,.int .u32 b1.dot.actor.inc,.int .u64 b1.dot.seq]) ty27.choose_spec.2 rfl rfl) (zb rfl)) wG ?_
 refine zr rfl (fun hb=>zz rfl (zp wD hb) (zp wH hb) (bin_eq pk27 rfl)) w9 ?_
 refine zc rfl (zM rfl ww we rfl (zS (fun ht=>gT ht))) w8 ?_
 refine zc rfl (zg rfl va (zb rfl)) w7 ?_
 refine zr rfl (fun hb=>zd rfl qN yv rfl) wT ?_
 refine zr rfl (fun hb=>zq rfl ty9 (zp wQ hb) rfl (zt rfl) (zb rfl)) wS ?_
 refine zr rfl (fun hb=>zd rfl qN yf rfl) wR ?_
 refine zr rfl (fun hb=>zq rfl ty9 (zp wX hb) rfl (zt rfl) (zb rfl)) vg ?_
 refine zr rfl (fun hb=>zz rfl (zp wY hb) (zp vn hb) rfl) vf ?_
 refine zc rfl (zM rfl wZ vm rfl (zS (fun ht=>gT ht))) vI ?_
 refine zc rfl (zg rfl vC (zb rfl)) vN ?_
 refine zr rfl (fun hb=>zd rfl ym yv rfl) vZ ?_
 refine zr rfl (fun hb=>zq rfl xW (zp qe hb) rfl (zt rfl) (zb rfl)) (sk st0) ?_
 refine zr rfl (fun hb=>zd rfl ym yf rfl) (sk st1) ?_
 refine zr rfl (fun hb=>zq rfl xW (zp (gk yB) hb) rfl (zt rfl) (zb rfl)) (sk xf) ?_
 refine yP hF (fun v1 hv1 hF=>?_)
 refine yJ rfl (fun hb=>zC rfl rfl rfl (zo (zp (gk yh) hb) (zo (zp (gk yv) hb) zw)) (.cons (zb rfl) (.cons (zb rfl) .nil))) (fun hb=>ok26 (hv1 hb)) (sk x5) ?_
 refine zc rfl (zM rfl vO (gk yf) rfl (zS (fun ht=>gT ht))) (sk yV) ?_
 refine zc rfl (zg rfl (gk yp) (zb rfl)) (sk xp) ?_
 refine zr rfl (fun hb=>zd rfl y5 yv rfl) (sk xI) ?_
 refine zr rfl (fun hb=>zq rfl xP (zp (gk xh) hb) rfl (zt rfl) (zb rfl)) (sk xN) ?_
 refine zr rfl (fun hb=>zd rfl y5 yf rfl) (sk xC) ?_
 refine zr rfl (fun hb=>zq rfl xP (zp (gk xr) hb) rfl (zt rfl) (zb rfl)) (sk xR) ?_
 refine yP hF (fun v2 hv2 hF=>?_)
 refine yJ rfl (fun hb=>zC rfl rfl rfl (zo (zp (gk xu) hb) (zo (zp (gk xK) hb) zw)) (.cons (zb rfl) (.cons (zb rfl) .nil))) (fun hb=>ok27 (hv2 hb)) (sk yy) ?_
 refine zc rfl (zM rfl (gk yR) (gk yw) rfl (zS (fun ht=>gT ht))) (sk yx) ?_
 refine zc rfl (zj rfl (gk yr) (zb rfl)) yV ?_
 refine zf (zk (zJ ?_))
 obtain rfl:=Option.some.inj hF
 refine zF rfl (zH yp zA) (zB (leV.refl _) rfl ?_)
 exact ⟨rfl,rfl⟩
/-! varve/leaf.isTime -/
theorem ok17 {n0:Int} {res:Bool} {h:AH}  (hF:leafXisTime n0=some res):Spec Tryz.prog 17 [.int .u64 n0] h (fun rr hh=>rr=.bool res∧hh=h):=by
 unfold leafXisTime at hF
 refine zx Tryz.func17 rfl (by kernel_rfl) (env:=[.int .u64 n0,za,za,za,za,za,za,za,za]) (by rfl) ?_
 refine zn (ze ?_)
 refine zc rfl (zj rfl rfl (zb rfl)) xf ?_
 refine zf (zk (zn (ze ?_)))
 refine zc rfl (zg rfl yh (zb rfl)) x5 ?_
 refine zc rfl (zz rfl yf rfl rfl) yV ?_
 refine zc rfl (zg rfl yp (zb rfl)) xp ?_
 refine zr rfl (fun hb=>zg rfl yh (zb rfl)) xI ?_
 refine zr rfl (fun hb=>zz rfl (zp xh hb) rfl rfl) xN ?_
 refine zc rfl (zM rfl yR xu rfl (zS (fun ht=>gT ht))) xC ?_
 refine zc rfl (zj rfl xr (zb rfl)) xf ?_
 refine zf (zk (zJ ?_))
 obtain rfl:=Option.some.inj hF
 refine zF rfl (zH yv zA) (zB (leV.refl _) rfl ?_)
 exact ⟨rfl,rfl⟩
/-! varve/dot.MayActor -/
theorem ok43 {a0:GActor} {res:Bool} {h:AH}  (hF:dotMayActor a0=some res):Spec Tryz.prog 43 [.agg [.int .u8 a0.rep,.int .u32 a0.inc]] h (fun rr hh=>rr=.bool res∧hh=h):=by
 unfold dotMayActor at hF
 refine zx Tryz.func43 rfl (by kernel_rfl) (env:=[.agg [.int .u8 a0.rep,.int .u32 a0.inc],za,za,za,za,za,za,za,za,za,za,za,za,za,za,za]) (by rfl) ?_
 refine zn (ze ?_)
 refine zc rfl (yF (n:=0) rfl yh (zb rfl) rfl rfl) st1 ?_
 refine zc rfl (zj rfl rfl (zb rfl)) xf ?_
 refine zf (zk (zn (ze ?_)))
 refine zc rfl (zd rfl fo25x0 yB rfl) x5 ?_
 refine zc rfl (zq rfl ty5 yf rfl (zt rfl) (zb rfl)) yV ?_
 refine zc rfl (zz rfl yp rfl rfl) xp ?_
 refine zc rfl (zg rfl yR (zb rfl)) xI ?_
 refine zr rfl (fun hb=>zd rfl fo25x1 yB rfl) xN ?_
 refine zr rfl (fun hb=>zq rfl ty23 (zp xu hb) rfl (zt rfl) (zb rfl)) xC ?_
 refine zr rfl (fun hb=>zz rfl (zp xr hb) rfl rfl) xR ?_
 refine zc rfl (zM rfl xh xK rfl (zS (fun ht=>gT ht))) yy ?_
 refine zc rfl (zg rfl yw (zb rfl)) yx ?_
 refine zr rfl (fun hb=>zd rfl fo25x1 yB rfl) yE ?_
 refine zr rfl (fun hb=>zq rfl ty23 (zp yD hb) rfl (zt rfl) (zb rfl)) yK ?_
 refine zr rfl (fun hb=>zz rfl (zp yI hb) rfl rfl) yT ?_
 refine zc rfl (zM rfl yr yY rfl (zS (fun ht=>gT ht))) yS ?_
 refine zc rfl (zj rfl yO (zb rfl)) xf ?_
 refine zf (zk (zJ ?_))
 obtain rfl:=Option.some.inj hF
 refine zF rfl (zH yv zA) (zB (leV.refl _) rfl ?_)
 exact ⟨rfl,rfl⟩
/-! varve/dot.May -/
theorem ok18 {d0:GDot} {res:Bool} {h:AH}  (hF:dotMay d0=some res):Spec Tryz.prog 18 [.agg [.int .u8 d0.actor.rep,.int .u32 d0.actor.inc,.int .u64 d0.seq]] h (fun rr hh=>rr=.bool res∧hh=h):=by
 unfold dotMay at hF
 refine zx Tryz.func18 rfl (by kernel_rfl) (env:=[.agg [.int .u8 d0.actor.rep,.int .u32 d0.actor.inc,.int .u64 d0.seq],za,za,za,za,za,za,za,za,za,za,za,za,za,za,za]) (by rfl) ?_
 refine zn (ze ?_)
 refine zc rfl (yF (n:=0) rfl yh (zb rfl) rfl rfl) st1 ?_
 refine zc rfl (zj rfl rfl (zb rfl)) xf ?_
 refine zf (zk (zn (ze ?_)))
 refine zc rfl (zd rfl fo27x0 yB rfl) x5 ?_
 refine zc rfl (zq rfl ty25.choose_spec.1 yf rfl (zu (cs':=[.int .u8 d0.actor.rep,.int .u32 d0.actor.inc]) ty25.choose_spec.2 rfl rfl) (zb rfl)) yV ?_
 refine zQ hF (fun v1 hv1 hF=>?_)
 refine zU rfl (zC rfl rfl rfl (zo yp zw) (.cons (zb rfl) .nil)) (ok43 hv1) xp ?_
 refine zc rfl (zg rfl yR (zb rfl)) xI ?_
 refine zr rfl (fun hb=>zd rfl fo27x1 yB rfl) xN ?_
 refine zr rfl (fun hb=>zq rfl xM (zp xu hb) rfl (zt rfl) (zb rfl)) xC ?_
 refine zr rfl (fun hb=>zz rfl (zp xr hb) rfl rfl) xR ?_
 refine zc rfl (zM rfl xh xK rfl (zS (fun ht=>gT ht))) yy ?_
 refine zc rfl (zg rfl yw (zb rfl)) yx ?_
 refine zr rfl (fun hb=>zd rfl fo27x1 yB rfl) yE ?_
 refine zr rfl (fun hb=>zq rfl xM (zp yD hb) rfl (zt rfl) (zb rfl)) yK ?_
 refine zr rfl (fun hb=>zz rfl (zp yI hb) rfl rfl) yT ?_
 refine zc rfl (zM rfl yr yY rfl (zS (fun ht=>gT ht))) yS ?_
 refine zc rfl (zj rfl yO (zb rfl)) xf ?_
 refine zf (zk (zJ ?_))
 obtain rfl:=Option.some.inj hF
 refine zF rfl (zH yv zA) (zB (leV.refl _) rfl ?_)
 exact ⟨rfl,rfl⟩
/-! varve/leaf.isText -/
theorem ok19 {s0:yn} {res:Bool} {h:AH}  (hF:qx s0=some res):Spec Tryz.prog 19 [.str s0] h (fun rr hh=>rr=.bool res∧hh=h):=by
 unfold qx at hF
 refine zx Tryz.func19 rfl (by kernel_rfl) (env:=[.str s0,za,za,za,za,za]) (by rfl) ?_
 refine zn (ze ?_)
 refine zc rfl (zj rfl rfl (zb rfl)) xf ?_
 refine zf (zk (zn (ze ?_)))
 refine zc rfl (zg rfl yh (zb rfl)) x5 ?_
 refine yj rfl (wA rfl rfl rfl rfl ty9 yf) yV fun hn1=>?_
 replace hn1:=wW hn1
 refine zc rfl (zz rfl yp rfl rfl) xp ?_
 refine zc rfl (zj rfl yR (zb rfl)) xf ?_
 refine zf (zk (zJ ?_))
 obtain rfl:=Option.some.inj hF
 refine zF rfl (zH yv zA) (zB (leV.refl _) rfl ?_)
 exact ⟨rfl,rfl⟩
/-! varve/leaf.twice -/
theorem ok44 {l0:(List GItem)} {res:Bool} {h:AH}  (hF:leafXtwice l0=some res):Spec Tryz.prog 44 [.sl 5 (l0.map GItem.row)] h (fun rr hh=>rr=.bool res∧hh=h):=by
 unfold leafXtwice at hF
 refine zx Tryz.func44 rfl (by kernel_rfl) (env:=[.sl 5 (l0.map GItem.row),za,za,za,za,za,za,za,za,za,za,za,za,za,za,za,za,za,za,za,za,za,za,za,za,za]) (by rfl) ?_
 refine zn (ze ?_)
 refine zc rfl (zj rfl rfl (zb rfl)) xf ?_
 refine zf (zk (zn (ze ?_)))
 refine zc rfl (e_makeMap (n:=0) rfl rfl) xI ?_
 refine zc rfl (zj rfl xh (zb rfl)) x5 ?_
 refine zf (zk (zn (zn (ze ?_))))
 refine zc rfl (zg rfl yh (zb rfl)) xN ?_
 refine yj rfl (ya rfl rfl rfl rfl yX xu yC) xC fun hn1=>?_
 replace hn1:=wW hn1
 refine zc rfl (zg rfl rfl (zb rfl)) xR ?_
 refine zf (zk (zW ?_))
 refine xi (fun (n1:Nat) (s1:List (GDot×Int))=>xB [1,2,4,5,6,10,11,12,13,14,15,16,17,18,19,20,21,22,23,24,25] [(9,.int .i64 (n1:Int))]) (fun s1=>h.ext [.mapo (s1.map (mrow (fun x=>AV.agg (GDot.row x)) (AV.int .i64))) 0] []) hF (fun _ _=>by simp only [xB,upd,List.set_cons_succ,List.set_cons_zero];try rfl) (wk.le (by exact (.eq (.drop (.drop (.eq (.drop (.drop (.drop (.eq (.eq (.cons (leV.of_eq rfl) (.d16 leL.nil))))))))))))) ?_
 intro n1 s1 hi1 hF
 refine zn (ze ?_)
 refine zc rfl (zz rfl xK xr rfl) yy ?_
 refine zf (zk (zn ?_))
 refine xO yw hF (fun x1 o1 hl1 hx1 hF hK1=>?_) (fun hF=>?_)
 ·refine zN (zk (zn (zW (zn (ze ?_)))))
  refine zc rfl (yM rfl yX xu xK isl (wc hx1)) yx ?_
  refine zc rfl (yW rfl ty47.choose_spec.1 yr (zu (cs':=[.int .u64 x1.time,.int .u8 x1.dot.actor.rep,.int .u32 x1.dot.actor.inc,.int .u64 x1.dot.seq,.str x1.text]) ty47.choose_spec.2 rfl rfl) (zb rfl)) yE ?_
  refine zc rfl (xG (n:=1) rfl ze47 rfl) xp ?_
  refine zc rfl (zP (cs':=[.int .u64 x1.time,.int .u8 x1.dot.actor.rep,.int .u32 x1.dot.actor.inc,.int .u64 x1.dot.seq,.str x1.text]) rfl ty47.choose_spec.1 yR yD (zb rfl) rfl rfl rfl rfl rfl) rfl ?_
  refine zf (zk ?_)
  refine r_drawnF [3] (fun _=>MapE h 0 (s1.map (mrow (fun x=>AV.agg (GDot.row x)) (AV.int .i64))) ((ment GDot.eqb (0:Int) s1 x1.dot).map (mrow (fun x=>AV.agg (GDot.row x)) (AV.int .i64)))) (fun _=>⟨_,_,rfl,.inl rfl⟩) mixed (by kernel_rfl) ?_
  refine zi rfl rfl (zg rfl yf (zb rfl)) yK ?_
  refine zi rfl rfl (zd rfl wI yR rfl) yT ?_
  refine zi rfl rfl (zq rfl ty27.choose_spec.1 yY rfl (zu (cs':=[.int .u8 x1.dot.actor.rep,.int .u32 x1.dot.actor.inc,.int .u64 x1.dot.seq]) ty27.choose_spec.2 rfl rfl) (zb rfl)) yS ?_
  refine vD rfl rfl (e_lookupF (m:=s1) (k:=x1.dot) (d:=(0:Int)) (j:=0) (kv:=(fun x=>AV.agg (GDot.row x))) (vv:=(AV.int .i64)) rfl Tryz.underlying87 kq27 az3 yI yO) yZ ?_
  refine zi rfl rfl (zz rfl y4 rfl rfl) y8 ?_
  refine yG rfl (FOk.all ⟨_,_,rfl,.inr rfl⟩) (by kernel_rfl) rfl (e_entry (m:=s1) (k:=x1.dot) (d:=(0:Int)) (j:=0) (kv:=(fun x=>AV.agg (GDot.row x))) (vv:=(AV.int .i64)) rfl Tryz.underlying87 kq27 az3 yI rfl yO rfl) xk ?_
  refine zi rfl rfl (zV rfl xl rfl (zb rfl)) xJ ?_
  refine yG rfl (FOk.skip (by kernel_rfl)) (by kernel_rfl) rfl (e_entryStore (m:=s1) (k:=x1.dot) (d:=(0:Int)) (v:=(IntKind.wrap .i64 ((w6 GDot.eqb (0:Int) s1 x1.dot)+(1:Int)))) (j:=0) (eq:=GDot.eqb) (kv:=(fun x=>AV.agg (GDot.row x))) (vv:=(AV.int .i64)) rfl yI rfl xL rfl xd rfl rfl) rfl ?_
  refine zX ?_
  refine ye (zk (ze ?_))
  refine zc rfl (zz rfl xK rfl rfl) xQ ?_
  refine zc rfl (zg rfl xX (zb rfl)) xR ?_
  refine zf (xw ?_)
  obtain rfl:=Option.some.inj hF
  exact ⟨(mput GDot.eqb s1 x1.dot (IntKind.wrap .i64 ((w6 GDot.eqb (0:Int) s1 x1.dot)+(1:Int)))),hl1,hK1,wk.trans (wk.le (by exact (.eq (.drop (.drop (.eq (.drop (.drop (.drop (.eq (.eq (.cons (leV.of_eq (qT (by omega) (by omega))) (.d16 leL.nil))))))))))))) (vX (by simp [y3,AV.low]) rfl rfl (by simp [Blk.low,y3,AV.low,GDot.row,mrow]))⟩
 ·refine xD ?_
  refine yd ?_
  refine z7 ?_
  refine z8 ?_
  refine zk (zn (ze ?_))
  refine zc rfl (zg rfl yf (zb rfl)) wb ?_
  refine ops_mlen (m:=s1) (j:=0) (kv:=(fun x=>AV.agg (GDot.row x))) (vv:=(AV.int .i64)) rfl rfl rfl rfl rfl Tryz.underlying87 wa rfl wl ?_
  refine zc rfl (zg rfl yh (zb rfl)) wp ?_
  refine yj rfl (ya rfl rfl rfl rfl yX wg yC) wu fun hn7=>?_
  replace hn7:=wW hn7
  refine zc rfl (zz rfl wq ww rfl) wz ?_
  refine zc rfl (zj rfl wv (zb rfl)) xf ?_
  refine zf (zk (zJ ?_))
  obtain rfl:=Option.some.inj hF
  refine zF rfl (zH yv zA) (zB (leV.refl _) rfl ?_)
  exact ⟨rfl,rfl⟩
/-! varve/leaf.items -/
theorem ok20 {l0:(List GItem)} {timed1:Bool} {res:Bool} {h:AH}  (hF:qW l0 timed1=some res):Spec Tryz.prog 20 [.sl 5 (l0.map GItem.row),.bool timed1] h (fun rr hh=>rr=.bool res∧hh=h):=by
 unfold qW at hF
 refine zx Tryz.func20 rfl (by kernel_rfl) (env:=[.sl 5 (l0.map GItem.row),.bool timed1,za,za,za,za,za,za,za,za,za,za,za,za,za,za,za,za,za,za,za,za,za,za,za,za,za,za,za,za,za,za,za,za,za,za,za,za,za,za,za,za,za,za,za,za,za,za,za,za,za,za,za,za,za,za,za,za,za,za,za,za,za,za,za,za]) (by rfl) ?_
 refine zn (ze ?_)
 refine zc rfl (zj rfl rfl (zb rfl)) yV ?_
 refine zf (zk (zn (zn (ze ?_))))
 refine zc rfl (zg rfl yh (zb rfl)) xN ?_
 refine yj rfl (ya rfl rfl rfl rfl yX xu yC) xC fun hn1=>?_
 replace hn1:=wW hn1
 refine zc rfl (zg rfl rfl (zb rfl)) xR ?_
 refine zf (zk (zW ?_))
 refine xi (fun (n1:Nat) (s1:Unit)=>xB [2,3,4,5,6,10,11,12,13,14,15,16,17,18,19,20,21,22,23,24,25,26,27,28,29,30,31,32,33,34,35,36,37,38,39,40,41,42,43,44,45,46,47,48,49,50,51,52,53,54,55,56,57,58,59,60,61,62,63,64,65] [(9,.int .i64 (n1:Int))]) (fun s1=>h.ext [] []) hF (fun _ _=>by simp only [xB,upd,List.set_cons_succ,List.set_cons_zero];try rfl) (wk.le (by exact (.eq (.eq (.d4 (.drop (.eq (.eq (.cons (leV.of_eq rfl) (.d16 (.d16 (.d16 (.d4 (.d4 leL.nil)))))))))))))) ?_
 intro n1 s1 hi1 hF
 refine zn (ze ?_)
 refine zc rfl (zz rfl xK xr rfl) yy ?_
 refine zf (zk (zn ?_))
 refine xO yw hF (fun x1 o1 hl1 hx1 hF hK1=>?_) (fun hF=>?_)
 ·refine zN (zk (zn (zW (zn (ze ?_)))))
  refine zc rfl (zg rfl xK (zb rfl)) yx ?_
  refine zc rfl (yM rfl yX xu xK isl (wc hx1)) yE ?_
  refine zc rfl (yW rfl ty47.choose_spec.1 yD (zu (cs':=[.int .u64 x1.time,.int .u8 x1.dot.actor.rep,.int .u32 x1.dot.actor.inc,.int .u64 x1.dot.seq,.str x1.text]) ty47.choose_spec.2 rfl rfl) (zb rfl)) yK ?_
  refine zc rfl (xG (n:=0) rfl ze47 rfl) xI ?_
  refine zc rfl (zj rfl yr (zb rfl)) xp ?_
  refine zc rfl (zP (cs':=[.int .u64 x1.time,.int .u8 x1.dot.actor.rep,.int .u32 x1.dot.actor.inc,.int .u64 x1.dot.seq,.str x1.text]) rfl ty47.choose_spec.1 xh yI (zb rfl) rfl rfl rfl rfl rfl) rfl ?_
  refine zf (zk (zn (zn (ze ?_))))
  refine zc rfl (zd rfl wI xh rfl) yT ?_
  refine zc rfl (zq rfl ty27.choose_spec.1 yY rfl (zu (cs':=[.int .u8 x1.dot.actor.rep,.int .u32 x1.dot.actor.inc,.int .u64 x1.dot.seq]) ty27.choose_spec.2 rfl rfl) (zb rfl)) yS ?_
  refine zQ hF (fun v13 hv13 hF=>?_)
  refine zU rfl (zC rfl rfl rfl (zo yO zw) (.cons (zb rfl) .nil)) (ok18 hv13) yZ ?_
  refine zc rfl (vB rfl y4 rfl) y8 ?_
  refine zc rfl (zg rfl xd (zb rfl)) xk ?_
  refine zr rfl (fun hb=>zd rfl fo47x2 xh rfl) xJ ?_
  refine zr rfl (fun hb=>zq rfl ty9 (zp xL hb) rfl (zt rfl) (zb rfl)) xQ ?_
  refine yP hF (fun v14 hv14 hF=>?_)
  refine yJ rfl (fun hb=>zC rfl rfl rfl (zo (zp xX hb) zw) (.cons (zb rfl) .nil)) (fun hb=>ok19 (hv14 hb)) wb ?_
  refine zr rfl (fun hb=>vB rfl (zp wa hb) rfl) wl ?_
  refine zc rfl (zM rfl xl rfl wq (zZ (fun ht=>gF ht))) wp ?_
  refine zc rfl (zg rfl wg (zb rfl)) wu ?_
  refine zr rfl (fun hb=>zg rfl yB (zb rfl)) wz ?_
  refine zr rfl (fun hb=>zd rfl qX xh rfl) wV ?_
  refine zr rfl (fun hb=>zq rfl xM (zp wD hb) rfl (zt rfl) (zb rfl)) wU ?_
  refine yP hF (fun v15 hv15 hF=>?_)
  refine yJ rfl (fun hb=>zC rfl rfl rfl (zo (zp w4 hb) zw) (.cons (zb rfl) .nil)) (fun hb=>ok17 (hv15 hb)) wG ?_
  refine zr rfl (fun hb=>zz rfl (zp wv hb) (zp wH hb) (bin_boolN ty4)) w9 ?_
  refine zc rfl (zM rfl ww rfl we (zZ (fun ht=>gF ht))) w8 ?_
  refine zc rfl (zg rfl va (zb rfl)) w7 ?_
  refine zr rfl (fun hb=>zg rfl yB (zb rfl)) wT ?_
  refine zr rfl (fun hb=>vB rfl (zp wQ hb) rfl) wS ?_
  refine zr rfl (fun hb=>zg rfl (zp wY hb) (zb rfl)) wR ?_
  refine zr (yc rfl rfl rfl) (fun hb=>zd rfl qX xh rfl) vg ?_
  refine zr (yc rfl rfl rfl) (fun hb=>zq rfl xM (zp vn hb) rfl (zt rfl) (zb rfl)) vf ?_
  refine zr (yc rfl rfl rfl) (fun hb=>zz rfl (zp vm hb) rfl rfl) vI ?_
  refine zr rfl (fun hb=>zM rfl (zp wX hb) vC rfl (zS (fun ht=>gT2 hb ht))) vN ?_
  refine zc rfl (zM rfl wZ rfl vO (zZ (fun ht=>gF ht))) vZ ?_
  refine zf (zk ?_)
  refine zI qe hF (fun hc16 hF=>?_) (fun hc16 hF=>?_)
  ·refine zn (ze ?_)
   refine zc rfl (zj rfl rfl (zb rfl)) yV ?_
   refine zf (zk (zJ (zD ?_)))
   refine zL ?_
   refine zD ?_
   refine yN ?_
   obtain rfl:=Option.some.inj hF
   replace hF:=hK1
   refine zL ?_
   refine zD ?_
   obtain rfl:=Option.some.inj hF
   refine zF rfl (zH yp zA) (zB (leV.refl _) rfl ?_)
   exact ⟨rfl,rfl⟩
  ·refine zN (zk (zn ?_))
   refine yb [] [] trivial mixed (by kernel_rfl) ?_
   refine zi rfl rfl (zg rfl yR (zb rfl)) (sk st0) ?_
   refine zi rfl rfl (zz rfl (gk yh) rfl rfl) (sk st1) ?_
   refine zi rfl rfl (zg rfl (gk yB) (zb rfl)) (sk xf) ?_
   refine zy rfl rfl (fun hb=>zg rfl yh (zb rfl)) (sk x5) ?_
   refine zy rfl rfl (fun hb=>zg rfl yR (zb rfl)) (sk yV) ?_
   refine zy rfl rfl (fun hb=>zz rfl (zp (gk yp) hb) rfl rfl) (sk xp) ?_
   refine vz hF (fun hg17 hF=>?_)
   refine zy rfl rfl (fun hb=>wi default rfl yX (zp (gk yf) hb) (zp (gk yR) hb) isl (hg17 hb)) (sk xI) ?_
   refine zy rfl rfl (fun hb=>zd rfl qX (zp (gk xh) hb) rfl) (sk xN) ?_
   refine zy rfl rfl (fun hb=>yW rfl xM (zp (gk xu) hb) (zt rfl) (zb rfl)) (sk xC) ?_
   refine zy rfl rfl (fun hb=>zg rfl yh (zb rfl)) (sk xR) ?_
   refine zy rfl rfl (fun hb=>zg rfl yR (zb rfl)) (sk yy) ?_
   refine zy rfl rfl (fun hb=>zz rfl (zp (gk yw) hb) rfl rfl) (sk yx) ?_
   refine vz hF (fun hg18 hF=>?_)
   refine zy rfl rfl (fun hb=>wi default rfl yX (zp (gk xK) hb) (zp (gk yr) hb) isl (hg18 hb)) (sk yE) ?_
   refine zy rfl rfl (fun hb=>zd rfl wI (zp (gk yD) hb) rfl) (sk yK) ?_
   refine zy rfl rfl (fun hb=>yW rfl ty27.choose_spec.1 (zp (gk yI) hb) (zu (cs':=[.int .u8 (((l0).getD (IntKind.wrap .i64 ((n1:Int) - (1:Int))).toNat default).dot.actor.rep),.int .u32 (((l0).getD (IntKind.wrap .i64 ((n1:Int) - (1:Int))).toNat default).dot.actor.inc),.int .u64 (((l0).getD (IntKind.wrap .i64 ((n1:Int) - (1:Int))).toNat default).dot.seq)]) ty27.choose_spec.2 rfl rfl) (zb rfl)) (sk yT) ?_
   refine zy rfl rfl (fun hb=>zd rfl qX xh rfl) (sk yS) ?_
   refine zy rfl rfl (fun hb=>zq rfl xM (zp (gk yO) hb) rfl (zt rfl) (zb rfl)) (sk yZ) ?_
   refine zy rfl rfl (fun hb=>zd rfl wI xh rfl) (sk y8) ?_
   refine zy rfl rfl (fun hb=>zq rfl ty27.choose_spec.1 (zp (gk xd) hb) rfl (zu (cs':=[.int .u8 x1.dot.actor.rep,.int .u32 x1.dot.actor.inc,.int .u64 x1.dot.seq]) ty27.choose_spec.2 rfl rfl) (zb rfl)) (sk xk) ?_
   refine yP hF (fun v19 hv19 hF=>?_)
   refine xn rfl rfl (fun hb=>zC rfl rfl rfl (zo (zp (gk xr) hb) (zo (zp (gk yY) hb) (zo (zp (gk y4) hb) (zo (zp (gk xl) hb) zw)))) (.cons (zb rfl) (.cons (zb rfl) (.cons (zb rfl) (.cons (zb rfl) .nil))))) (fun hb=>ok13 (hv19 hb)) (sk xJ) ?_
   refine zy rfl rfl (fun hb=>vB rfl (zp (gk xL) hb) rfl) (sk xQ) ?_
   refine zi rfl rfl (zM rfl (gk yv) (gk xX) rfl (zS (fun ht=>gT ht))) (sk wb) ?_
   refine zX ?_
   refine zk ?_
   refine zI (gk wa) hF (fun hc20 hF=>?_) (fun hc20 hF=>?_)
   ·refine zn (ze ?_)
    refine zc rfl (zj rfl rfl (zb rfl)) yV ?_
    refine zf (zk (zJ ?_))
    refine zL ?_
    refine zD ?_
    refine yN ?_
    obtain rfl:=Option.some.inj hF
    replace hF:=hK1
    refine zL ?_
    refine zD ?_
    obtain rfl:=Option.some.inj hF
    refine zF rfl (zH yp zA) (zB (leV.refl _) rfl ?_)
    exact ⟨rfl,rfl⟩
   ·refine zN (ye (zk (ze ?_)))
    refine zc rfl (zz rfl xK rfl rfl) (sk wl) ?_
    refine zc rfl (zg rfl (gk wq) (zb rfl)) xR ?_
    refine zf (xw ?_)
    obtain rfl:=Option.some.inj hF
    exact ⟨(),hl1,hK1,wk.trans (wk.le (by exact (.eq (.eq (.d4 (.drop (.eq (.eq (.cons (leV.of_eq (qT (by omega) (by omega))) (.d16 (.d16 (.d16 (.d4 (.d4 leL.nil)))))))))))))) (vX (by simp [y3,AV.low]) rfl rfl (by simp [Blk.low,y3,AV.low]))⟩
 ·refine xD ?_
  refine yd ?_
  refine z7 ?_
  refine z8 ?_
  refine zk (zn (ze ?_))
  refine zc rfl (zg rfl yh (zb rfl)) (sk wp) ?_
  refine zQ hF (fun v21 hv21 hF=>?_)
  refine zU rfl (zC rfl rfl rfl (zo (gk wg) zw) (.cons (zb rfl) .nil)) (ok44 hv21) (sk wu) ?_
  refine zc rfl (vB rfl (gk ww) rfl) (sk wz) ?_
  refine zc rfl (zj rfl (gk wv) (zb rfl)) yV ?_
  refine zf (zk (zJ ?_))
  obtain rfl:=Option.some.inj hF
  refine zF rfl (zH yp zA) (zB (leV.refl _) rfl ?_)
  exact ⟨rfl,rfl⟩
/-! varve/leaf.tombs -/
theorem ok21 {l0:GLeaf} {res:Bool} {h:AH}  (hF:leafXtombs l0=some res):Spec Tryz.prog 21 [.agg [.int .u8 l0.typ,.int .i64 l0.n,.int .u64 l0.time,.int .u8 l0.dot.actor.rep,.int .u32 l0.dot.actor.inc,.int .u64 l0.dot.seq,.str l0.text,.sl 5 (l0.items.map GItem.row),.sl 3 (l0.tombs.map GDot.row)]] h (fun rr hh=>rr=.bool res∧hh=h):=by
 unfold leafXtombs at hF
 refine zx Tryz.func21 rfl (by kernel_rfl) (env:=[.agg [.int .u8 l0.typ,.int .i64 l0.n,.int .u64 l0.time,.int .u8 l0.dot.actor.rep,.int .u32 l0.dot.actor.inc,.int .u64 l0.dot.seq,.str l0.text,.sl 5 (l0.items.map GItem.row),.sl 3 (l0.tombs.map GDot.row)],za,za,za,za,za,za,za,za,za,za,za,za,za,za,za,za,za,za,za,za,za,za,za,za,za,za,za,za,za,za,za,za,za,za,za,za,za]) (by rfl) ?_
 refine zn (ze ?_)
 refine zc rfl (yF (n:=0) rfl yh (zb rfl) rfl rfl) st1 ?_
 refine zc rfl (zj rfl rfl (zb rfl)) xf ?_
 refine zf (zk (zn (zn (ze ?_))))
 refine zc rfl (zd rfl y5 yB rfl) xp ?_
 refine zc rfl (zq rfl xP yR rfl (zt rfl) (zb rfl)) xI ?_
 refine yj rfl (ya rfl rfl rfl rfl yU xh yC) xN fun hn1=>?_
 replace hn1:=wW hn1
 refine zc rfl (zg rfl rfl (zb rfl)) xC ?_
 refine zf (zk (zW ?_))
 refine xi (fun (n1:Nat) (s1:Unit)=>xB [0,2,3,4,5,9,10,11,12,13,14,15,16,17,18,19,20,21,22,23,24,25,26,27,28,29,30,31,32,33,34,35,36,37] [(8,.int .i64 (n1:Int))]) (fun s1=>h.ext [.cells [.int .u8 l0.typ,.int .i64 l0.n,.int .u64 l0.time,.int .u8 l0.dot.actor.rep,.int .u32 l0.dot.actor.inc,.int .u64 l0.dot.seq,.str l0.text,.sl 5 (l0.items.map GItem.row),.sl 3 (l0.tombs.map GDot.row)]] []) hF (fun _ _=>by simp only [xB,upd,List.set_cons_succ,List.set_cons_zero];try rfl) (wk.le (by exact (.drop (.eq (.d4 (.eq (.eq (.cons (leV.of_eq rfl) (.d16 (.d4 (.d4 (.d4 (.drop leL.nil))))))))))))) ?_
 intro n1 s1 hi1 hF
 refine zn (ze ?_)
 refine zc rfl (zz rfl xr xu rfl) xR ?_
 refine zf (zk (zn ?_))
 refine xO xK hF (fun x1 o1 hl1 hx1 hF hK1=>?_) (fun hF=>?_)
 ·refine zN (zk (zn (zW (zn (ze ?_)))))
  refine zc rfl (zg rfl xr (zb rfl)) yy ?_
  refine zc rfl (yM rfl yU xh xr isl (wc hx1)) yx ?_
  refine zc rfl (yW rfl ty27.choose_spec.1 yr (zu (cs':=[.int .u8 x1.actor.rep,.int .u32 x1.actor.inc,.int .u64 x1.seq]) ty27.choose_spec.2 rfl rfl) (zb rfl)) yE ?_
  refine zc rfl (xG (n:=1) rfl ze27 rfl) yV ?_
  refine zc rfl (zj rfl yw (zb rfl)) x5 ?_
  refine zc rfl (zP (cs':=[.int .u8 x1.actor.rep,.int .u32 x1.actor.inc,.int .u64 x1.seq]) rfl ty27.choose_spec.1 yp yD (zb rfl) rfl rfl rfl rfl rfl) rfl ?_
  refine zf (zk (zn ?_))
  refine yb [1] [] trivial mixed (by kernel_rfl) ?_
  refine zi rfl rfl (zq rfl ty27.choose_spec.1 yp rfl (zu (cs':=[.int .u8 x1.actor.rep,.int .u32 x1.actor.inc,.int .u64 x1.seq]) ty27.choose_spec.2 rfl rfl) (zb rfl)) yK ?_
  refine zQ hF (fun v19 hv19 hF=>?_)
  refine yQ rfl rfl (fun _=>zC rfl rfl rfl (zo yI zw) (.cons (zb rfl) .nil)) (by rintro _ ⟨B2,T2,rfl,hk2⟩;exact ok18 hv19) yT ?_
  refine zi rfl rfl (vB rfl yY rfl) yS ?_
  refine zi rfl rfl (zg rfl yO (zb rfl)) yZ ?_
  refine zy rfl rfl (fun hb=>zg rfl yf (zb rfl)) y8 ?_
  refine zy rfl rfl (fun hb=>zz rfl (zp xd hb) rfl rfl) xk ?_
  refine zy rfl rfl (fun hb=>zg rfl (zp xl hb) (zb rfl)) xJ ?_
  refine zy rfl (yc rfl rfl rfl) (fun hb=>zd rfl y5 yB rfl) xQ ?_
  refine zy rfl (yc rfl rfl rfl) (fun hb=>zq rfl xP (zp xX hb) rfl (zt rfl) (zb rfl)) wb ?_
  refine zy rfl (yc rfl rfl rfl) (fun hb=>zg rfl yf (zb rfl)) wl ?_
  refine zy rfl (yc rfl rfl rfl) (fun hb=>zz rfl (zp wq hb) rfl rfl) wp ?_
  refine vz hF (fun hg20 hF=>?_)
  refine zy rfl (yc rfl rfl rfl) (fun hb=>wi default rfl yU (zp wa hb) (zp wg hb) isl (hg20 hb)) wu ?_
  refine zy rfl (yc rfl rfl rfl) (fun hb=>yW rfl ty27.choose_spec.1 (zp ww hb) (zu (cs':=[.int .u8 (((l0.tombs).getD (IntKind.wrap .i64 ((n1:Int) - (1:Int))).toNat default).actor.rep),.int .u32 (((l0.tombs).getD (IntKind.wrap .i64 ((n1:Int) - (1:Int))).toNat default).actor.inc),.int .u64 (((l0.tombs).getD (IntKind.wrap .i64 ((n1:Int) - (1:Int))).toNat default).seq)]) ty27.choose_spec.2 rfl rfl) (zb rfl)) wz ?_
  refine zy rfl (yc rfl rfl rfl) (fun hb=>zq rfl ty27.choose_spec.1 yp rfl (zu (cs':=[.int .u8 x1.actor.rep,.int .u32 x1.actor.inc,.int .u64 x1.seq]) ty27.choose_spec.2 rfl rfl) (zb rfl)) wV ?_
  refine yP hF (fun v21 hv21 hF=>?_)
  refine xn rfl (yc rfl rfl rfl) (fun hb=>zC rfl rfl rfl (zo (zp wv hb) (zo (zp wD hb) zw)) (.cons (zb rfl) (.cons (zb rfl) .nil))) (fun hb=>ok45 (hv21 hb)) wU ?_
  refine zy rfl (yc rfl rfl rfl) (fun hb=>zz rfl (zp w4 hb) rfl rfl) wG ?_
  refine zy rfl rfl (fun hb=>zM rfl (zp xL hb) wH rfl (zS (fun ht=>gT2 hb ht))) w9 ?_
  refine zi rfl rfl (zM rfl y4 rfl we (zZ (fun ht=>gF ht))) w8 ?_
  refine zi rfl rfl (zg rfl va (zb rfl)) w7 ?_
  refine zy rfl rfl (fun hb=>zd rfl ym yB rfl) wT ?_
  refine zy rfl rfl (fun hb=>zq rfl xW (zp wQ hb) rfl (zt rfl) (zb rfl)) wS ?_
  refine zy rfl rfl (fun hb=>zq rfl ty27.choose_spec.1 yp rfl (zu (cs':=[.int .u8 x1.actor.rep,.int .u32 x1.actor.inc,.int .u64 x1.seq]) ty27.choose_spec.2 rfl rfl) (zb rfl)) wR ?_
  refine yP hF (fun v22 hv22 hF=>?_)
  refine xn rfl rfl (fun hb=>zC rfl rfl rfl (zo (zp wY hb) (zo (zp wX hb) zw)) (.cons (zb rfl) (.cons (zb rfl) .nil))) (fun hb=>ok46 (hv22 hb)) vg ?_
  refine zi rfl rfl (zM rfl wZ rfl vn (zZ (fun ht=>gF ht))) vf ?_
  refine zX ?_
  refine zk ?_
  refine zI vm hF (fun hc23 hF=>?_) (fun hc23 hF=>?_)
  ·refine zn (ze ?_)
   refine zc rfl (zj rfl rfl (zb rfl)) xf ?_
   refine zf (zk (zJ ?_))
   refine zL ?_
   refine zD ?_
   refine yN ?_
   obtain rfl:=Option.some.inj hF
   replace hF:=hK1
   refine zL ?_
   refine zD ?_
   obtain rfl:=Option.some.inj hF
   refine zF rfl (zH yv zA) (zB (leV.refl _) rfl ?_)
   exact ⟨rfl,rfl⟩
  ·refine zN (ye (zk (ze ?_)))
   refine zc rfl (zz rfl xr rfl rfl) vI ?_
   refine zc rfl (zg rfl vC (zb rfl)) xC ?_
   refine zf (xw ?_)
   obtain rfl:=Option.some.inj hF
   exact ⟨(),hl1,hK1,wk.trans (wk.le (by exact (.drop (.eq (.d4 (.eq (.eq (.cons (leV.of_eq (qT (by omega) (by omega))) (.d16 (.d4 (.d4 (.d4 (.drop leL.nil))))))))))))) (vX (by simp [y3,AV.low]) rfl rfl (by simp [Blk.low,y3,AV.low]))⟩
 ·refine xD ?_
  refine yd ?_
  refine z7 ?_
  refine z8 ?_
  refine zk (zn (ze ?_))
  refine zc rfl (zj rfl rfl (zb rfl)) xf ?_
  refine zf (zk (zJ ?_))
  obtain rfl:=Option.some.inj hF
  refine zF rfl (zH yv zA) (zB (leV.refl _) rfl ?_)
  exact ⟨rfl,rfl⟩
end Go.Vv
