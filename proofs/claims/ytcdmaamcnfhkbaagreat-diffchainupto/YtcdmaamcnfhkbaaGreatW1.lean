/- Each function that the law reaches computes what its reading says; printed by a program. -/
import Derived.Test.YtcdmaamcnfhkbaaGreatVvMl
import Derived.Test.YtcdmaamcnfhkbaaGreatVvRb
import Derived.Test.YtcdmaamcnfhkbaaGreatVvSo
import Derived.Test.YtcdmaamcnfhkbaaGreatVvZ
import Derived.Test.YtcdmaamcnfhkbaaGreatVvAn
import Derived.Test.YtcdmaamcnfhkbaaGreatVvLb
import Derived.Test.YtcdmaamcnfhkbaaGreatVvLc
import Derived.Test.YtcdmaamcnfhkbaaGreatVvMr
import Derived.Test.YtcdmaamcnfhkbaaGreatVvIt
import Derived.Test.YtcdmaamcnfhkbaaGreatVvRd
import Derived.Test.YtcdmaamcnfhkbaaGreatD
import Derived.Test.YtcdmaamcnfhkbaaGreatProg
namespace Go.Vv
open Go Go.Proofs
set_option maxRecDepth 100000
set_option maxHeartbeats 1000000
set_option linter.unusedSimpArgs false
set_option linter.unusedVariables false
section
variable {v a0 a1 a2 a3 a4 a5 a6 a7 a8 a9 a10 a11 a12 a13 a14 a15 a16 a17 a18 a19 a20 a21 a22 a23 a24 a25 a26 a27 a28 a29 a30 a31 a32 a33 a34 a35 a36 a37 a38 a39:AV} {r q:List AV} {t:Nat}
theorem yr:xf (a0::r) (.tmp 0)=some a0:=rfl
theorem st0:vH (some 0) (a0::r) v=some (v::r):=rfl
theorem yF:xf (a0::a1::r) (.tmp 1)=some a1:=rfl
theorem st1:vH (some 1) (a0::a1::r) v=some (a0::v::r):=rfl
theorem yV:xf (a0::a1::a2::r) (.tmp 2)=some a2:=rfl
theorem xh:vH (some 2) (a0::a1::a2::r) v=some (a0::a1::v::r):=rfl
theorem xn:xf (a0::a1::a2::a3::r) (.tmp 3)=some a3:=rfl
theorem wo:vH (some 3) (a0::a1::a2::a3::r) v=some (a0::a1::a2::v::r):=rfl
theorem yz:xf (a0::a1::a2::a3::a4::r) (.tmp 4)=some a4:=rfl
theorem yB:vH (some 4) (a0::a1::a2::a3::a4::r) v=some (a0::a1::a2::a3::v::r):=rfl
theorem yS:xf (a0::a1::a2::a3::a4::a5::r) (.tmp 5)=some a5:=rfl
theorem xz:vH (some 5) (a0::a1::a2::a3::a4::a5::r) v=some (a0::a1::a2::a3::a4::v::r):=rfl
theorem yU:xf (a0::a1::a2::a3::a4::a5::a6::r) (.tmp 6)=some a6:=rfl
theorem xE:vH (some 6) (a0::a1::a2::a3::a4::a5::a6::r) v=some (a0::a1::a2::a3::a4::a5::v::r):=rfl
theorem xH:xf (a0::a1::a2::a3::a4::a5::a6::a7::r) (.tmp 7)=some a7:=rfl
theorem xO:vH (some 7) (a0::a1::a2::a3::a4::a5::a6::a7::r) v=some (a0::a1::a2::a3::a4::a5::a6::v::r):=rfl
theorem xj:xf (a0::a1::a2::a3::a4::a5::a6::a7::a8::r) (.tmp 8)=some a8:=rfl
theorem xX:vH (some 8) (a0::a1::a2::a3::a4::a5::a6::a7::a8::r) v=some (a0::a1::a2::a3::a4::a5::a6::a7::v::r):=rfl
theorem xV:xf (a0::a1::a2::a3::a4::a5::a6::a7::a8::a9::r) (.tmp 9)=some a9:=rfl
theorem wB:vH (some 9) (a0::a1::a2::a3::a4::a5::a6::a7::a8::a9::r) v=some (a0::a1::a2::a3::a4::a5::a6::a7::a8::v::r):=rfl
theorem yq:xf (a0::a1::a2::a3::a4::a5::a6::a7::a8::a9::a10::r) (.tmp 10)=some a10:=rfl
theorem yL:vH (some 10) (a0::a1::a2::a3::a4::a5::a6::a7::a8::a9::a10::r) v=some (a0::a1::a2::a3::a4::a5::a6::a7::a8::a9::v::r):=rfl
theorem yA:xf (a0::a1::a2::a3::a4::a5::a6::a7::a8::a9::a10::a11::r) (.tmp 11)=some a11:=rfl
theorem yP:vH (some 11) (a0::a1::a2::a3::a4::a5::a6::a7::a8::a9::a10::a11::r) v=some (a0::a1::a2::a3::a4::a5::a6::a7::a8::a9::a10::v::r):=rfl
theorem yM:xf (a0::a1::a2::a3::a4::a5::a6::a7::a8::a9::a10::a11::a12::r) (.tmp 12)=some a12:=rfl
theorem yX:vH (some 12) (a0::a1::a2::a3::a4::a5::a6::a7::a8::a9::a10::a11::a12::r) v=some (a0::a1::a2::a3::a4::a5::a6::a7::a8::a9::a10::a11::v::r):=rfl
theorem yC:xf (a0::a1::a2::a3::a4::a5::a6::a7::a8::a9::a10::a11::a12::a13::r) (.tmp 13)=some a13:=rfl
theorem yW:vH (some 13) (a0::a1::a2::a3::a4::a5::a6::a7::a8::a9::a10::a11::a12::a13::r) v=some (a0::a1::a2::a3::a4::a5::a6::a7::a8::a9::a10::a11::a12::v::r):=rfl
theorem yY:xf (a0::a1::a2::a3::a4::a5::a6::a7::a8::a9::a10::a11::a12::a13::a14::r) (.tmp 14)=some a14:=rfl
theorem y5:vH (some 14) (a0::a1::a2::a3::a4::a5::a6::a7::a8::a9::a10::a11::a12::a13::a14::r) v=some (a0::a1::a2::a3::a4::a5::a6::a7::a8::a9::a10::a11::a12::a13::v::r):=rfl
theorem yT:xf (a0::a1::a2::a3::a4::a5::a6::a7::a8::a9::a10::a11::a12::a13::a14::a15::r) (.tmp 15)=some a15:=rfl
theorem y6:vH (some 15) (a0::a1::a2::a3::a4::a5::a6::a7::a8::a9::a10::a11::a12::a13::a14::a15::r) v=some (a0::a1::a2::a3::a4::a5::a6::a7::a8::a9::a10::a11::a12::a13::a14::v::r):=rfl
theorem xd:xf (a0::a1::a2::a3::a4::a5::a6::a7::a8::a9::a10::a11::a12::a13::a14::a15::a16::r) (.tmp 16)=some a16:=rfl
theorem xg:vH (some 16) (a0::a1::a2::a3::a4::a5::a6::a7::a8::a9::a10::a11::a12::a13::a14::a15::a16::r) v=some (a0::a1::a2::a3::a4::a5::a6::a7::a8::a9::a10::a11::a12::a13::a14::a15::v::r):=rfl
theorem xi:xf (a0::a1::a2::a3::a4::a5::a6::a7::a8::a9::a10::a11::a12::a13::a14::a15::a16::a17::r) (.tmp 17)=some a17:=rfl
theorem xk:vH (some 17) (a0::a1::a2::a3::a4::a5::a6::a7::a8::a9::a10::a11::a12::a13::a14::a15::a16::a17::r) v=some (a0::a1::a2::a3::a4::a5::a6::a7::a8::a9::a10::a11::a12::a13::a14::a15::a16::v::r):=rfl
theorem xB:xf (a0::a1::a2::a3::a4::a5::a6::a7::a8::a9::a10::a11::a12::a13::a14::a15::a16::a17::a18::r) (.tmp 18)=some a18:=rfl
theorem xD:vH (some 18) (a0::a1::a2::a3::a4::a5::a6::a7::a8::a9::a10::a11::a12::a13::a14::a15::a16::a17::a18::r) v=some (a0::a1::a2::a3::a4::a5::a6::a7::a8::a9::a10::a11::a12::a13::a14::a15::a16::a17::v::r):=rfl
theorem xJ:xf (a0::a1::a2::a3::a4::a5::a6::a7::a8::a9::a10::a11::a12::a13::a14::a15::a16::a17::a18::a19::r) (.tmp 19)=some a19:=rfl
theorem xK:vH (some 19) (a0::a1::a2::a3::a4::a5::a6::a7::a8::a9::a10::a11::a12::a13::a14::a15::a16::a17::a18::a19::r) v=some (a0::a1::a2::a3::a4::a5::a6::a7::a8::a9::a10::a11::a12::a13::a14::a15::a16::a17::a18::v::r):=rfl
theorem xZ:xf (a0::a1::a2::a3::a4::a5::a6::a7::a8::a9::a10::a11::a12::a13::a14::a15::a16::a17::a18::a19::a20::r) (.tmp 20)=some a20:=rfl
theorem xY:vH (some 20) (a0::a1::a2::a3::a4::a5::a6::a7::a8::a9::a10::a11::a12::a13::a14::a15::a16::a17::a18::a19::a20::r) v=some (a0::a1::a2::a3::a4::a5::a6::a7::a8::a9::a10::a11::a12::a13::a14::a15::a16::a17::a18::a19::v::r):=rfl
theorem x5:xf (a0::a1::a2::a3::a4::a5::a6::a7::a8::a9::a10::a11::a12::a13::a14::a15::a16::a17::a18::a19::a20::a21::r) (.tmp 21)=some a21:=rfl
theorem x7:vH (some 21) (a0::a1::a2::a3::a4::a5::a6::a7::a8::a9::a10::a11::a12::a13::a14::a15::a16::a17::a18::a19::a20::a21::r) v=some (a0::a1::a2::a3::a4::a5::a6::a7::a8::a9::a10::a11::a12::a13::a14::a15::a16::a17::a18::a19::a20::v::r):=rfl
theorem wi:xf (a0::a1::a2::a3::a4::a5::a6::a7::a8::a9::a10::a11::a12::a13::a14::a15::a16::a17::a18::a19::a20::a21::a22::r) (.tmp 22)=some a22:=rfl
theorem wl:vH (some 22) (a0::a1::a2::a3::a4::a5::a6::a7::a8::a9::a10::a11::a12::a13::a14::a15::a16::a17::a18::a19::a20::a21::a22::r) v=some (a0::a1::a2::a3::a4::a5::a6::a7::a8::a9::a10::a11::a12::a13::a14::a15::a16::a17::a18::a19::a20::a21::v::r):=rfl
theorem xN:xf (a0::a1::a2::a3::a4::a5::a6::a7::a8::a9::a10::a11::a12::a13::a14::a15::a16::a17::a18::a19::a20::a21::a22::a23::r) (.tmp 23)=some a23:=rfl
theorem x6:vH (some 23) (a0::a1::a2::a3::a4::a5::a6::a7::a8::a9::a10::a11::a12::a13::a14::a15::a16::a17::a18::a19::a20::a21::a22::a23::r) v=some (a0::a1::a2::a3::a4::a5::a6::a7::a8::a9::a10::a11::a12::a13::a14::a15::a16::a17::a18::a19::a20::a21::a22::v::r):=rfl
theorem wc:xf (a0::a1::a2::a3::a4::a5::a6::a7::a8::a9::a10::a11::a12::a13::a14::a15::a16::a17::a18::a19::a20::a21::a22::a23::a24::r) (.tmp 24)=some a24:=rfl
theorem wh:vH (some 24) (a0::a1::a2::a3::a4::a5::a6::a7::a8::a9::a10::a11::a12::a13::a14::a15::a16::a17::a18::a19::a20::a21::a22::a23::a24::r) v=some (a0::a1::a2::a3::a4::a5::a6::a7::a8::a9::a10::a11::a12::a13::a14::a15::a16::a17::a18::a19::a20::a21::a22::a23::v::r):=rfl
theorem wb:xf (a0::a1::a2::a3::a4::a5::a6::a7::a8::a9::a10::a11::a12::a13::a14::a15::a16::a17::a18::a19::a20::a21::a22::a23::a24::a25::r) (.tmp 25)=some a25:=rfl
theorem wj:vH (some 25) (a0::a1::a2::a3::a4::a5::a6::a7::a8::a9::a10::a11::a12::a13::a14::a15::a16::a17::a18::a19::a20::a21::a22::a23::a24::a25::r) v=some (a0::a1::a2::a3::a4::a5::a6::a7::a8::a9::a10::a11::a12::a13::a14::a15::a16::a17::a18::a19::a20::a21::a22::a23::a24::v::r):=rfl
theorem wE:xf (a0::a1::a2::a3::a4::a5::a6::a7::a8::a9::a10::a11::a12::a13::a14::a15::a16::a17::a18::a19::a20::a21::a22::a23::a24::a25::a26::r) (.tmp 26)=some a26:=rfl
theorem wF:vH (some 26) (a0::a1::a2::a3::a4::a5::a6::a7::a8::a9::a10::a11::a12::a13::a14::a15::a16::a17::a18::a19::a20::a21::a22::a23::a24::a25::a26::r) v=some (a0::a1::a2::a3::a4::a5::a6::a7::a8::a9::a10::a11::a12::a13::a14::a15::a16::a17::a18::a19::a20::a21::a22::a23::a24::a25::v::r):=rfl
theorem wN:xf (a0::a1::a2::a3::a4::a5::a6::a7::a8::a9::a10::a11::a12::a13::a14::a15::a16::a17::a18::a19::a20::a21::a22::a23::a24::a25::a26::a27::r) (.tmp 27)=some a27:=rfl
theorem wM:vH (some 27) (a0::a1::a2::a3::a4::a5::a6::a7::a8::a9::a10::a11::a12::a13::a14::a15::a16::a17::a18::a19::a20::a21::a22::a23::a24::a25::a26::a27::r) v=some (a0::a1::a2::a3::a4::a5::a6::a7::a8::a9::a10::a11::a12::a13::a14::a15::a16::a17::a18::a19::a20::a21::a22::a23::a24::a25::a26::v::r):=rfl
theorem wH:xf (a0::a1::a2::a3::a4::a5::a6::a7::a8::a9::a10::a11::a12::a13::a14::a15::a16::a17::a18::a19::a20::a21::a22::a23::a24::a25::a26::a27::a28::r) (.tmp 28)=some a28:=rfl
theorem wL:vH (some 28) (a0::a1::a2::a3::a4::a5::a6::a7::a8::a9::a10::a11::a12::a13::a14::a15::a16::a17::a18::a19::a20::a21::a22::a23::a24::a25::a26::a27::a28::r) v=some (a0::a1::a2::a3::a4::a5::a6::a7::a8::a9::a10::a11::a12::a13::a14::a15::a16::a17::a18::a19::a20::a21::a22::a23::a24::a25::a26::a27::v::r):=rfl
theorem w6:xf (a0::a1::a2::a3::a4::a5::a6::a7::a8::a9::a10::a11::a12::a13::a14::a15::a16::a17::a18::a19::a20::a21::a22::a23::a24::a25::a26::a27::a28::a29::r) (.tmp 29)=some a29:=rfl
theorem wW:vH (some 29) (a0::a1::a2::a3::a4::a5::a6::a7::a8::a9::a10::a11::a12::a13::a14::a15::a16::a17::a18::a19::a20::a21::a22::a23::a24::a25::a26::a27::a28::a29::r) v=some (a0::a1::a2::a3::a4::a5::a6::a7::a8::a9::a10::a11::a12::a13::a14::a15::a16::a17::a18::a19::a20::a21::a22::a23::a24::a25::a26::a27::a28::v::r):=rfl
theorem vg:xf (a0::a1::a2::a3::a4::a5::a6::a7::a8::a9::a10::a11::a12::a13::a14::a15::a16::a17::a18::a19::a20::a21::a22::a23::a24::a25::a26::a27::a28::a29::a30::r) (.tmp 30)=some a30:=rfl
theorem wV:vH (some 30) (a0::a1::a2::a3::a4::a5::a6::a7::a8::a9::a10::a11::a12::a13::a14::a15::a16::a17::a18::a19::a20::a21::a22::a23::a24::a25::a26::a27::a28::a29::a30::r) v=some (a0::a1::a2::a3::a4::a5::a6::a7::a8::a9::a10::a11::a12::a13::a14::a15::a16::a17::a18::a19::a20::a21::a22::a23::a24::a25::a26::a27::a28::a29::v::r):=rfl
theorem w5:xf (a0::a1::a2::a3::a4::a5::a6::a7::a8::a9::a10::a11::a12::a13::a14::a15::a16::a17::a18::a19::a20::a21::a22::a23::a24::a25::a26::a27::a28::a29::a30::a31::r) (.tmp 31)=some a31:=rfl
theorem wU:vH (some 31) (a0::a1::a2::a3::a4::a5::a6::a7::a8::a9::a10::a11::a12::a13::a14::a15::a16::a17::a18::a19::a20::a21::a22::a23::a24::a25::a26::a27::a28::a29::a30::a31::r) v=some (a0::a1::a2::a3::a4::a5::a6::a7::a8::a9::a10::a11::a12::a13::a14::a15::a16::a17::a18::a19::a20::a21::a22::a23::a24::a25::a26::a27::a28::a29::a30::v::r):=rfl
theorem vf:xf (a0::a1::a2::a3::a4::a5::a6::a7::a8::a9::a10::a11::a12::a13::a14::a15::a16::a17::a18::a19::a20::a21::a22::a23::a24::a25::a26::a27::a28::a29::a30::a31::a32::r) (.tmp 32)=some a32:=rfl
theorem vl:vH (some 32) (a0::a1::a2::a3::a4::a5::a6::a7::a8::a9::a10::a11::a12::a13::a14::a15::a16::a17::a18::a19::a20::a21::a22::a23::a24::a25::a26::a27::a28::a29::a30::a31::a32::r) v=some (a0::a1::a2::a3::a4::a5::a6::a7::a8::a9::a10::a11::a12::a13::a14::a15::a16::a17::a18::a19::a20::a21::a22::a23::a24::a25::a26::a27::a28::a29::a30::a31::v::r):=rfl
theorem vt:xf (a0::a1::a2::a3::a4::a5::a6::a7::a8::a9::a10::a11::a12::a13::a14::a15::a16::a17::a18::a19::a20::a21::a22::a23::a24::a25::a26::a27::a28::a29::a30::a31::a32::a33::r) (.tmp 33)=some a33:=rfl
theorem vk:vH (some 33) (a0::a1::a2::a3::a4::a5::a6::a7::a8::a9::a10::a11::a12::a13::a14::a15::a16::a17::a18::a19::a20::a21::a22::a23::a24::a25::a26::a27::a28::a29::a30::a31::a32::a33::r) v=some (a0::a1::a2::a3::a4::a5::a6::a7::a8::a9::a10::a11::a12::a13::a14::a15::a16::a17::a18::a19::a20::a21::a22::a23::a24::a25::a26::a27::a28::a29::a30::a31::a32::v::r):=rfl
theorem wZ:xf (a0::a1::a2::a3::a4::a5::a6::a7::a8::a9::a10::a11::a12::a13::a14::a15::a16::a17::a18::a19::a20::a21::a22::a23::a24::a25::a26::a27::a28::a29::a30::a31::a32::a33::a34::r) (.tmp 34)=some a34:=rfl
theorem vb:vH (some 34) (a0::a1::a2::a3::a4::a5::a6::a7::a8::a9::a10::a11::a12::a13::a14::a15::a16::a17::a18::a19::a20::a21::a22::a23::a24::a25::a26::a27::a28::a29::a30::a31::a32::a33::a34::r) v=some (a0::a1::a2::a3::a4::a5::a6::a7::a8::a9::a10::a11::a12::a13::a14::a15::a16::a17::a18::a19::a20::a21::a22::a23::a24::a25::a26::a27::a28::a29::a30::a31::a32::a33::v::r):=rfl
theorem ve:xf (a0::a1::a2::a3::a4::a5::a6::a7::a8::a9::a10::a11::a12::a13::a14::a15::a16::a17::a18::a19::a20::a21::a22::a23::a24::a25::a26::a27::a28::a29::a30::a31::a32::a33::a34::a35::r) (.tmp 35)=some a35:=rfl
theorem va:vH (some 35) (a0::a1::a2::a3::a4::a5::a6::a7::a8::a9::a10::a11::a12::a13::a14::a15::a16::a17::a18::a19::a20::a21::a22::a23::a24::a25::a26::a27::a28::a29::a30::a31::a32::a33::a34::a35::r) v=some (a0::a1::a2::a3::a4::a5::a6::a7::a8::a9::a10::a11::a12::a13::a14::a15::a16::a17::a18::a19::a20::a21::a22::a23::a24::a25::a26::a27::a28::a29::a30::a31::a32::a33::a34::v::r):=rfl
theorem wY:xf (a0::a1::a2::a3::a4::a5::a6::a7::a8::a9::a10::a11::a12::a13::a14::a15::a16::a17::a18::a19::a20::a21::a22::a23::a24::a25::a26::a27::a28::a29::a30::a31::a32::a33::a34::a35::a36::r) (.tmp 36)=some a36:=rfl
theorem w9:vH (some 36) (a0::a1::a2::a3::a4::a5::a6::a7::a8::a9::a10::a11::a12::a13::a14::a15::a16::a17::a18::a19::a20::a21::a22::a23::a24::a25::a26::a27::a28::a29::a30::a31::a32::a33::a34::a35::a36::r) v=some (a0::a1::a2::a3::a4::a5::a6::a7::a8::a9::a10::a11::a12::a13::a14::a15::a16::a17::a18::a19::a20::a21::a22::a23::a24::a25::a26::a27::a28::a29::a30::a31::a32::a33::a34::a35::v::r):=rfl
theorem wX:xf (a0::a1::a2::a3::a4::a5::a6::a7::a8::a9::a10::a11::a12::a13::a14::a15::a16::a17::a18::a19::a20::a21::a22::a23::a24::a25::a26::a27::a28::a29::a30::a31::a32::a33::a34::a35::a36::a37::r) (.tmp 37)=some a37:=rfl
theorem vj:vH (some 37) (a0::a1::a2::a3::a4::a5::a6::a7::a8::a9::a10::a11::a12::a13::a14::a15::a16::a17::a18::a19::a20::a21::a22::a23::a24::a25::a26::a27::a28::a29::a30::a31::a32::a33::a34::a35::a36::a37::r) v=some (a0::a1::a2::a3::a4::a5::a6::a7::a8::a9::a10::a11::a12::a13::a14::a15::a16::a17::a18::a19::a20::a21::a22::a23::a24::a25::a26::a27::a28::a29::a30::a31::a32::a33::a34::a35::a36::v::r):=rfl
theorem vM:xf (a0::a1::a2::a3::a4::a5::a6::a7::a8::a9::a10::a11::a12::a13::a14::a15::a16::a17::a18::a19::a20::a21::a22::a23::a24::a25::a26::a27::a28::a29::a30::a31::a32::a33::a34::a35::a36::a37::a38::r) (.tmp 38)=some a38:=rfl
theorem vI:vH (some 38) (a0::a1::a2::a3::a4::a5::a6::a7::a8::a9::a10::a11::a12::a13::a14::a15::a16::a17::a18::a19::a20::a21::a22::a23::a24::a25::a26::a27::a28::a29::a30::a31::a32::a33::a34::a35::a36::a37::a38::r) v=some (a0::a1::a2::a3::a4::a5::a6::a7::a8::a9::a10::a11::a12::a13::a14::a15::a16::a17::a18::a19::a20::a21::a22::a23::a24::a25::a26::a27::a28::a29::a30::a31::a32::a33::a34::a35::a36::a37::v::r):=rfl
theorem vr:xf (a0::a1::a2::a3::a4::a5::a6::a7::a8::a9::a10::a11::a12::a13::a14::a15::a16::a17::a18::a19::a20::a21::a22::a23::a24::a25::a26::a27::a28::a29::a30::a31::a32::a33::a34::a35::a36::a37::a38::a39::r) (.tmp 39)=some a39:=rfl
theorem vA:vH (some 39) (a0::a1::a2::a3::a4::a5::a6::a7::a8::a9::a10::a11::a12::a13::a14::a15::a16::a17::a18::a19::a20::a21::a22::a23::a24::a25::a26::a27::a28::a29::a30::a31::a32::a33::a34::a35::a36::a37::a38::a39::r) v=some (a0::a1::a2::a3::a4::a5::a6::a7::a8::a9::a10::a11::a12::a13::a14::a15::a16::a17::a18::a19::a20::a21::a22::a23::a24::a25::a26::a27::a28::a29::a30::a31::a32::a33::a34::a35::a36::a37::a38::v::r):=rfl
theorem gk (h:xf r (.tmp t)=some v):xf (a0::a1::a2::a3::a4::a5::a6::a7::a8::a9::a10::a11::a12::a13::a14::a15::a16::a17::a18::a19::a20::a21::a22::a23::a24::a25::a26::a27::a28::a29::a30::a31::a32::a33::a34::a35::a36::a37::a38::a39::r) (.tmp (t+40))=some v:=h
theorem sk (h:vH (some t) r v=some q):vH (some (t+40)) (a0::a1::a2::a3::a4::a5::a6::a7::a8::a9::a10::a11::a12::a13::a14::a15::a16::a17::a18::a19::a20::a21::a22::a23::a24::a25::a26::a27::a28::a29::a30::a31::a32::a33::a34::a35::a36::a37::a38::a39::r) v=some (a0::a1::a2::a3::a4::a5::a6::a7::a8::a9::a10::a11::a12::a13::a14::a15::a16::a17::a18::a19::a20::a21::a22::a23::a24::a25::a26::a27::a28::a29::a30::a31::a32::a33::a34::a35::a36::a37::a38::a39::q):=congrArg (fun x=>some (a0::a1::a2::a3::a4::a5::a6::a7::a8::a9::a10::a11::a12::a13::a14::a15::a16::a17::a18::a19::a20::a21::a22::a23::a24::a25::a26::a27::a28::a29::a30::a31::a32::a33::a34::a35::a36::a37::a38::a39::x)) (Option.some.inj h)
end

def GActor.row (x:GActor):List AV:=[.int .u8 x.rep,.int .u32 x.inc]
def GDot.row (x:GDot):List AV:=[.int .u8 x.actor.rep,.int .u32 x.actor.inc,.int .u64 x.seq]
def GItem.row (x:GItem):List AV:=[.int .u64 x.time,.int .u8 x.dot.actor.rep,.int .u32 x.dot.actor.inc,.int .u64 x.dot.seq,.str x.text]
def GLeaf.row (x:GLeaf):List AV:=[.int .u8 x.typ,.int .i64 x.n,.int .u64 x.time,.int .u8 x.dot.actor.rep,.int .u32 x.dot.actor.inc,.int .u64 x.dot.seq,.str x.text,.sl 5 (x.items.map GItem.row),.sl 3 (x.tombs.map GDot.row)]
mutual
def GNode.row:GNode→List AV
  | ⟨name,leaves,subs⟩=>[.str name,.sl 9 (leaves.map GLeaf.row),.sl 3 (GNode.rows subs)]
def GNode.rows:List GNode→List (List AV)
  | []=>[]
  | x::r=>x.row::GNode.rows r
end
theorem GNode.rows_eq (l:List GNode):GNode.rows l=l.map GNode.row:=by
  induction l with
  | nil=>rfl
  | cons x r ih=>simp only [GNode.rows,List.map_cons,ih]
theorem GNode.row_eq (x:GNode):x.row=[.str x.name,.sl 9 (x.leaves.map GLeaf.row),.sl 3 (x.subs.map GNode.row)]:=by
  cases x;simp only [GNode.row,GNode.rows_eq]
def GEdit.row (x:GEdit):List AV:=[.sl 1 (x.path.map zP),.int .u8 x.typ,.bool x.had,.bool x.has,.int .u8 x.was.typ,.int .i64 x.was.n,.int .u64 x.was.time,.int .u8 x.was.dot.actor.rep,.int .u32 x.was.dot.actor.inc,.int .u64 x.was.dot.seq,.str x.was.text,.sl 5 (x.was.items.map GItem.row),.sl 3 (x.was.tombs.map GDot.row),.int .u8 x.is.typ,.int .i64 x.is.n,.int .u64 x.is.time,.int .u8 x.is.dot.actor.rep,.int .u32 x.is.dot.actor.inc,.int .u64 x.is.dot.seq,.str x.is.text,.sl 5 (x.is.items.map GItem.row),.sl 3 (x.is.tombs.map GDot.row)]
def GRow.row (x:GRow):List AV:=[.sl 1 (x.path.map zP),.int .u8 x.leaf.typ,.int .i64 x.leaf.n,.int .u64 x.leaf.time,.int .u8 x.leaf.dot.actor.rep,.int .u32 x.leaf.dot.actor.inc,.int .u64 x.leaf.dot.seq,.str x.leaf.text,.sl 5 (x.leaf.items.map GItem.row),.sl 3 (x.leaf.tombs.map GDot.row)]
theorem xC:El Tryz.prog 23 51 3:=mkEl Tryz.underlying23 (by kernel_rfl)
theorem mixed:Tryz.prog.follows .mixedOrders=true:=by kernel_rfl
theorem fo51x0:Fo Tryz.prog 51 0 0 9 1:=mkFo (by kernel_rfl) (by kernel_rfl)
theorem ty9:Ty Tryz.prog 9 .string 1:=mkTy Tryz.underlying9 (by kernel_rfl)
theorem fo51x2:Fo Tryz.prog 51 2 2 23 1:=mkFo (by kernel_rfl) (by kernel_rfl)
theorem ty23:Ty Tryz.prog 23 (.slice 51) 1:=mkTy Tryz.underlying23 (by kernel_rfl)
theorem wm:Fo Tryz.prog 51 1 1 49 1:=mkFo (by kernel_rfl) (by kernel_rfl)
theorem ty49:Ty Tryz.prog 49 (.slice 48) 1:=mkTy Tryz.underlying49 (by kernel_rfl)
theorem wu:El Tryz.prog 49 48 9:=mkEl Tryz.underlying49 (by kernel_rfl)
theorem ty48:∃ d,Ty Tryz.prog 48 d 9∧xa d=true:=⟨_,mkTy Tryz.underlying48 (by kernel_rfl),by kernel_rfl⟩
theorem ze48:vS Tryz.prog 48=some [.int .u8 0,.int .i64 0,.int .u64 0,.int .u8 0,.int .u32 0,.int .u64 0,.str [],.osl none 5 [],.osl none 3 []]:=by kernel_rfl
theorem fo48x4:Fo Tryz.prog 48 4 6 9 1:=mkFo (by kernel_rfl) (by kernel_rfl)
theorem wr:Fo Tryz.prog 48 6 8 46 1:=mkFo (by kernel_rfl) (by kernel_rfl)
theorem ty46:Ty Tryz.prog 46 (.slice 44) 1:=mkTy Tryz.underlying46 (by kernel_rfl)
theorem el46:El Tryz.prog 46 44 3:=mkEl Tryz.underlying46 (by kernel_rfl)
theorem x4:Fo Tryz.prog 48 5 7 45 1:=mkFo (by kernel_rfl) (by kernel_rfl)
theorem ty45:Ty Tryz.prog 45 (.slice 87) 1:=mkTy Tryz.underlying45 (by kernel_rfl)
theorem qj:El Tryz.prog 45 87 5:=mkEl Tryz.underlying45 (by kernel_rfl)
theorem fo87x2:Fo Tryz.prog 87 2 4 9 1:=mkFo (by kernel_rfl) (by kernel_rfl)
theorem qE:El Tryz.prog 27 54 22:=mkEl Tryz.underlying27 (by kernel_rfl)
theorem ty54:∃ d,Ty Tryz.prog 54 d 22∧xa d=true:=⟨_,mkTy Tryz.underlying54 (by kernel_rfl),by kernel_rfl⟩
theorem ze54:vS Tryz.prog 54=some [.osl none 1 [],.int .u8 0,.bool false,.bool false,.int .u8 0,.int .i64 0,.int .u64 0,.int .u8 0,.int .u32 0,.int .u64 0,.str [],.osl none 5 [],.osl none 3 [],.int .u8 0,.int .i64 0,.int .u64 0,.int .u8 0,.int .u32 0,.int .u64 0,.str [],.osl none 5 [],.osl none 3 []]:=by kernel_rfl
theorem qX:Fo Tryz.prog 54 0 0 52 1:=mkFo (by kernel_rfl) (by kernel_rfl)
theorem ty52:Ty Tryz.prog 52 (.slice 9) 1:=mkTy Tryz.underlying52 (by kernel_rfl)
theorem wt:El Tryz.prog 52 9 1:=mkEl Tryz.underlying52 (by kernel_rfl)
theorem fo54x4:Fo Tryz.prog 54 4 4 48 9:=mkFo (by kernel_rfl) (by kernel_rfl)
theorem fo54x5:Fo Tryz.prog 54 5 13 48 9:=mkFo (by kernel_rfl) (by kernel_rfl)
theorem fo87x1:Fo Tryz.prog 87 1 1 44 3:=mkFo (by kernel_rfl) (by kernel_rfl)
theorem ty44:∃ d,Ty Tryz.prog 44 d 3∧xa d=true:=⟨_,mkTy Tryz.underlying44 (by kernel_rfl),by kernel_rfl⟩
theorem pk44:PK Tryz.prog 44 [.i,.i,.i]:=mkPK (by kernel_rfl) (by kernel_rfl) (by kernel_rfl)
theorem fo44x0:Fo Tryz.prog 44 0 0 42 2:=mkFo (by kernel_rfl) (by kernel_rfl)
theorem fo42x0:Fo Tryz.prog 42 0 0 5 1:=mkFo (by kernel_rfl) (by kernel_rfl)
theorem ty5:Ty Tryz.prog 5 (.int .u8) 1:=mkTy Tryz.underlying5 (by kernel_rfl)
theorem fo42x1:Fo Tryz.prog 42 1 1 40 1:=mkFo (by kernel_rfl) (by kernel_rfl)
theorem ty40:Ty Tryz.prog 40 (.int .u32) 1:=mkTy Tryz.underlying40 (by kernel_rfl)
theorem fo44x1:Fo Tryz.prog 44 1 2 39 1:=mkFo (by kernel_rfl) (by kernel_rfl)
theorem ty39:Ty Tryz.prog 39 (.int .u64) 1:=mkTy Tryz.underlying39 (by kernel_rfl)
theorem ty42:∃ d,Ty Tryz.prog 42 d 2∧xa d=true:=⟨_,mkTy Tryz.underlying42 (by kernel_rfl),by kernel_rfl⟩
theorem wd:Fo Tryz.prog 48 0 0 5 1:=mkFo (by kernel_rfl) (by kernel_rfl)
theorem fo48x1:Fo Tryz.prog 48 1 1 2 1:=mkFo (by kernel_rfl) (by kernel_rfl)
theorem ty2:Ty Tryz.prog 2 (.int .i64) 1:=mkTy Tryz.underlying2 (by kernel_rfl)
noncomputable def sf44:Array Field:=match Tryz.prog.underlying 44 with | some (.struct fs)=>fs | _=>#[]
theorem su44:Tryz.prog.underlying 44=some (.struct sf44):=by kernel_rfl
theorem ze44:vS Tryz.prog 44=some [.int .u8 0,.int .u32 0,.int .u64 0]:=by kernel_rfl
theorem pl44:placesL Tryz.prog sf44=some [(0,2),(2,1)]:=by kernel_rfl
theorem fo48x2:Fo Tryz.prog 48 2 2 39 1:=mkFo (by kernel_rfl) (by kernel_rfl)
theorem fo48x3:Fo Tryz.prog 48 3 3 44 3:=mkFo (by kernel_rfl) (by kernel_rfl)
theorem ty87:∃ d,Ty Tryz.prog 87 d 5∧xa d=true:=⟨_,mkTy Tryz.underlying87 (by kernel_rfl),by kernel_rfl⟩
theorem ze87:vS Tryz.prog 87=some [.int .u64 0,.int .u8 0,.int .u32 0,.int .u64 0,.str []]:=by kernel_rfl
theorem fo87x0:Fo Tryz.prog 87 0 0 39 1:=mkFo (by kernel_rfl) (by kernel_rfl)
theorem ty51:∃ d,Ty Tryz.prog 51 d 3∧xa d=true:=⟨_,mkTy Tryz.underlying51 (by kernel_rfl),by kernel_rfl⟩
theorem ze51:vS Tryz.prog 51=some [.str [],.osl none 9 [],.osl none 3 []]:=by kernel_rfl
theorem el56:El Tryz.prog 56 59 10:=mkEl Tryz.underlying56 (by kernel_rfl)
theorem ze59:vS Tryz.prog 59=some [.osl none 1 [],.int .u8 0,.int .i64 0,.int .u64 0,.int .u8 0,.int .u32 0,.int .u64 0,.str [],.osl none 5 [],.osl none 3 []]:=by kernel_rfl
theorem ty59:∃ d,Ty Tryz.prog 59 d 10∧xa d=true:=⟨_,mkTy Tryz.underlying59 (by kernel_rfl),by kernel_rfl⟩
theorem ty56:Ty Tryz.prog 56 (.slice 59) 1:=mkTy Tryz.underlying56 (by kernel_rfl)
theorem ze9:vS Tryz.prog 9=some [.str []]:=by kernel_rfl
theorem ty113:Ty Tryz.prog 113 (.func #[59] #[4] false) 1:=mkTy Tryz.underlying113 (by kernel_rfl)
noncomputable def sf59:Array Field:=match Tryz.prog.underlying 59 with | some (.struct fs)=>fs | _=>#[]
theorem su59:Tryz.prog.underlying 59=some (.struct sf59):=by kernel_rfl
theorem pl59:placesL Tryz.prog sf59=some [(0,1),(1,9)]:=by kernel_rfl
theorem ty4:Ty Tryz.prog 4 .bool 1:=mkTy Tryz.underlying4 (by kernel_rfl)
theorem el151:El Tryz.prog 151 3 1:=mkEl Tryz.underlying151 (by kernel_rfl)
theorem ty3:Ty Tryz.prog 3 (.int .i64) 1:=mkTy Tryz.underlying3 (by kernel_rfl)
theorem ze3:vS Tryz.prog 3=some [.int .i64 0]:=by kernel_rfl
theorem kq44:KQ Tryz.prog 44 (fun x=>AV.agg (GDot.row x)) GDot.eqb:=.struct su44 pk44 (fun _ _=>rfl) (fun a=>by simp [GDot.eqb])
theorem az3:aZeroM Tryz.prog 3=some ((AV.int .i64) (0:Int)):=by kernel_rfl
theorem pk87:PK Tryz.prog 87 [.i,.i,.i,.i,.s]:=mkPK (by kernel_rfl) (by kernel_rfl) (by kernel_rfl)
noncomputable def sf48:Array Field:=match Tryz.prog.underlying 48 with | some (.struct fs)=>fs | _=>#[]
theorem su48:Tryz.prog.underlying 48=some (.struct sf48):=by kernel_rfl
theorem pl48:placesL Tryz.prog sf48=some [(0,1),(1,1),(2,1),(3,3),(6,1),(7,1),(8,1)]:=by kernel_rfl
theorem el79:El Tryz.prog 79 5 1:=mkEl Tryz.underlying79 (by kernel_rfl)
theorem ze5:vS Tryz.prog 5=some [.int .u8 0]:=by kernel_rfl
theorem fo54x1:Fo Tryz.prog 54 1 1 5 1:=mkFo (by kernel_rfl) (by kernel_rfl)
theorem fo54x2:Fo Tryz.prog 54 2 2 4 1:=mkFo (by kernel_rfl) (by kernel_rfl)
theorem fo54x3:Fo Tryz.prog 54 3 3 4 1:=mkFo (by kernel_rfl) (by kernel_rfl)
theorem fo59x0:Fo Tryz.prog 59 0 0 52 1:=mkFo (by kernel_rfl) (by kernel_rfl)
theorem fo59x1:Fo Tryz.prog 59 1 1 48 9:=mkFo (by kernel_rfl) (by kernel_rfl)
noncomputable def sf54:Array Field:=match Tryz.prog.underlying 54 with | some (.struct fs)=>fs | _=>#[]
theorem su54:Tryz.prog.underlying 54=some (.struct sf54):=by kernel_rfl
theorem pl54:placesL Tryz.prog sf54=some [(0,1),(1,1),(2,1),(3,1),(4,9),(13,9)]:=by kernel_rfl
theorem kq9:KQ Tryz.prog 9 AV.str (fun a b=>a==b):=.str ty9
theorem az54:aZeroM Tryz.prog 54=some ((fun x=>AV.agg (GEdit.row x)) (GEdit.mk ([]:List zJ) (0:Int) false false zZ zZ)):=by kernel_rfl
noncomputable def sf51:Array Field:=match Tryz.prog.underlying 51 with | some (.struct fs)=>fs | _=>#[]
theorem su51:Tryz.prog.underlying 51=some (.struct sf51):=by kernel_rfl
theorem pl51:placesL Tryz.prog sf51=some [(0,1),(1,1),(2,1)]:=by kernel_rfl
theorem ty126:Ty Tryz.prog 126 (.int .u64) 1:=mkTy Tryz.underlying126 (by kernel_rfl)
/-! varve/varveref07.size -/
theorem ok28N (n:Nat):∀ {t0:(List GNode)} {deep1:Int} {res:Int} {h:AH} , wq n t0 deep1=some res→Spec Tryz.prog 28 [.sl 3 (t0.map GNode.row),.int .i64 deep1] h (fun rr hh=>rr=.int .i64 res∧hh=h):=by
 induction n with
 | zero=>intro t0 deep1 res h  hF;simp [wq] at hF
 | succ n ih =>
  intro t0 deep1 res h  hF
  unfold wq at hF
  refine zt Tryz.func28 rfl (by kernel_rfl) (env:=[.sl 3 (t0.map GNode.row),.int .i64 deep1,za,za,za,za,za,za,za,za,za,za,za,za,za,za,za,za,za,za,za,za,za,za,za,za,za,za,za,za,za,za,za,za,za,za,za,za,za,za,za,za,za,za,za,za,za,za,za,za,za,za,za,za,za,za,za,za,za,za,za,za,za,za,za,za,za,za,za,za,za,za,za,za,za,za,za,za,za,za,za,za,za,za]) (by rfl) ?_
  refine zk (zd ?_)
  refine zc rfl (zi rfl rfl (zb rfl)) yB ?_
  refine ze (zj (zk (zd ?_)))
  refine zc rfl (zi rfl rfl (zb rfl)) xz ?_
  refine ze (zj (zk (zk (zd ?_))))
  refine zc rfl (zi rfl rfl (zb rfl)) xE ?_
  refine ze (zj (zQ ?_))
  refine r_loopWF (fun (s1:Int×Int)=>yO [2,3,4,7,8,9,10,11,12,13,14,15,16,17,18,19,20,21,22,23,24,25,26,27,28,29,30,31,32,33,34,35,36,37,38,39,40,41,42,43,44,45,46,47,48,49,50,51,52,53,54,55,56,57,58,59,60,61,62,63,64,65,66,67,68,69,70,71,72,73,74,75,76,77,78,79,80,81,82,83] [(5,.int .i64 s1.1),(6,.int .i64 s1.2)]) (fun s1=>h.ext [] []) hF (fun _=>by simp only [yO,upd,List.set_cons_succ,List.set_cons_zero];try rfl) (wk.le (by exact (.eq (.eq (.drop (.drop (.drop (.cons (leV.of_eq rfl) (.cons (leV.of_eq rfl) (.d16 (.d16 (.d16 (.d16 (.d4 (.d4 (.d4 (.drop leL.nil))))))))))))))))) ?_
  intro n1 s1 o1 hF hK1
  refine zk (zk (zd ?_))
  refine zc rfl (zf rfl yU (zb rfl)) yL ?_
  refine zc rfl (zf rfl yr (zb rfl)) yP ?_
  refine yb rfl (zS rfl rfl rfl rfl xC yA yc) yX fun hn66=>?_
  replace hn66:=xl hn66
  refine zc rfl (zy rfl yq yM rfl) yW ?_
  refine zc rfl (zf rfl yC (zb rfl)) y5 ?_
  refine zp rfl (fun hb=>zf rfl yF (zb rfl)) y6 ?_
  refine zp rfl (fun hb=>zy rfl (zn yT hb) rfl rfl) xg ?_
  refine zc rfl (zM rfl yY xd rfl (zX (fun ht=>gT ht))) xk ?_
  refine ze (zj ?_)
  refine zO xi hF (fun hc67 hF=>?_) (fun hc67 hF=>?_)
  ·refine zK (zj (zk (zQ (zk ?_))))
   refine yI [16] [] trivial mixed (by kernel_rfl) ?_
   refine zq rfl rfl (zf rfl yS (zb rfl)) xY ?_
   refine zq rfl rfl (zy rfl xZ rfl rfl) x7 ?_
   refine zq rfl rfl (zf rfl yr (zb rfl)) wl ?_
   refine zq rfl rfl (zf rfl yU (zb rfl)) x6 ?_
   refine zR hF (fun y68 hy68 hF=>?_)
   refine zq rfl rfl (xS rfl xC wi xN w7 hy68 (GNode.row_eq _)) wh ?_
   refine zq rfl rfl (zg rfl fo51x0 wc rfl) wj ?_
   refine zq rfl rfl (ye rfl ty9 wb (zr rfl) (zb rfl)) wF ?_
   refine draw_len rfl rfl (qa rfl rfl rfl rfl ty9 wE) wM ?_
   refine zq rfl rfl (zy rfl x5 wN rfl) wL ?_
   refine zq rfl rfl (zf rfl yr (zb rfl)) wW ?_
   refine zq rfl rfl (zf rfl yU (zb rfl)) wV ?_
   refine zR hF (fun y70 hy70 hF=>?_)
   refine zq rfl rfl (xS rfl xC w6 vg w7 hy70 (GNode.row_eq _)) wU ?_
   refine zq rfl rfl (zg rfl fo51x2 w5 rfl) vl ?_
   refine zq rfl rfl (ye rfl ty23 vf (zr rfl) (zb rfl)) vk ?_
   refine zq rfl rfl (zf rfl yF (zb rfl)) vb ?_
   refine zq rfl rfl (zy rfl wZ rfl rfl) va ?_
   refine zR hF (fun v71 hv71 hF=>?_)
   refine yu rfl rfl (fun _=>zC rfl rfl rfl (zo vt (zo ve zw)) (.cons (zb rfl) (.cons (zb rfl) .nil))) (by rintro _ ⟨B2,T2,rfl,hk2⟩;exact ih hv71) w9 ?_
   refine zq rfl rfl (zy rfl wH wY rfl) vj ?_
   refine zq rfl rfl (zi rfl wX (zb rfl)) xz ?_
   refine ym ?_
   refine zj (zk (zd ?_))
   refine zc rfl (zi rfl rfl (zb rfl)) xO ?_
   refine ze (zj (zQ ?_))
   refine r_loopWF (fun (s2:Int×Int)=>yO [2,3,4,8,9,10,11,12,13,14,15,16,17,18,19,20,21,22,23,24,25,26,27,28,29,30,31,32,33,34,35,36,37,38,39,40,41,42,43,44,45,46,47,48,49,50,51,52,53,54,55,56,57,58,59,60,61,62,63,64,65,66,67,68,69,70,71,72,73,74,75,76,77,78,79,80,81,82,83] [(5,.int .i64 s2.1),(7,.int .i64 s2.2)]) (fun s2=>h.ext [] []) hF (fun _=>by simp only [yO,upd,List.set_cons_succ,List.set_cons_zero];try rfl) (wk.le (by exact (.eq (.eq (.drop (.drop (.drop (.cons (leV.of_eq rfl) (.eq (.cons (leV.of_eq rfl) (.d16 (.d16 (.d16 (.d16 (.d4 (.d4 (.d4 leL.nil))))))))))))))))) ?_
   intro n2 s2 o2 hF hK2
   refine zk (zk (zd ?_))
   refine zc rfl (zf rfl xH (zb rfl)) vI ?_
   refine zc rfl (zf rfl yr (zb rfl)) vA ?_
   refine zc rfl (zf rfl yU (zb rfl)) (sk st0) ?_
   refine zR hF (fun y102 hy102 hF=>?_)
   refine zc rfl (xS rfl xC vr (gk yr) w7 hy102 (GNode.row_eq _)) (sk st1) ?_
   refine zc rfl (zg rfl wm (gk yF) rfl) (sk xh) ?_
   refine zc rfl (ye rfl ty49 (gk yV) (zr rfl) (zb rfl)) (sk wo) ?_
   refine yb rfl (zS rfl rfl rfl rfl wu (gk xn) yc) (sk yB) fun hn103=>?_
   replace hn103:=xl hn103
   refine zc rfl (zy rfl vM (gk yz) rfl) (sk xz) ?_
   refine ze (zj ?_)
   refine zO (gk yS) hF (fun hc104 hF=>?_) (fun hc104 hF=>?_)
   ·refine zK (zj (zk (zQ (zk (zd ?_)))))
    refine zc rfl (zf rfl yr (zb rfl)) (sk xX) ?_
    refine zc rfl (zf rfl yU (zb rfl)) (sk wB) ?_
    refine zR hF (fun y105 hy105 hF=>?_)
    refine zc rfl (xS rfl xC (gk xj) (gk xV) w7 hy105 (GNode.row_eq _)) (sk yL) ?_
    refine zc rfl (zg rfl wm (gk yq) rfl) (sk yP) ?_
    refine zc rfl (ye rfl ty49 (gk yA) (zr rfl) (zb rfl)) (sk yX) ?_
    refine zc rfl (zf rfl xH (zb rfl)) (sk yW) ?_
    refine zR hF (fun y106 hy106 hF=>?_)
    refine zc rfl (yj rfl wu (gk yM) (gk yC) w7 hy106) (sk y5) ?_
    refine zc rfl (ye rfl ty48.choose_spec.1 (gk yY) (zH (cs':=[.int .u8 y106.typ,.int .i64 y106.n,.int .u64 y106.time,.int .u8 y106.dot.actor.rep,.int .u32 y106.dot.actor.inc,.int .u64 y106.dot.seq,.str y106.text,.sl 5 (y106.items.map GItem.row),.sl 3 (y106.tombs.map GDot.row)]) ty48.choose_spec.2 rfl rfl) (zb rfl)) (sk y6) ?_
    refine zc rfl (y4 (n:=0) rfl ze48 rfl) xX ?_
    refine zc rfl (yg (cs':=[.int .u8 y106.typ,.int .i64 y106.n,.int .u64 y106.time,.int .u8 y106.dot.actor.rep,.int .u32 y106.dot.actor.inc,.int .u64 y106.dot.seq,.str y106.text,.sl 5 (y106.items.map GItem.row),.sl 3 (y106.tombs.map GDot.row)]) rfl ty48.choose_spec.1 xj (gk yT) (zb rfl) rfl rfl rfl rfl rfl) rfl ?_
    refine ze (zj (zk (zd ?_)))
    refine zc rfl (zf rfl yS (zb rfl)) (sk xg) ?_
    refine zc rfl (zy rfl (gk xd) rfl rfl) (sk xk) ?_
    refine zc rfl (zg rfl fo48x4 xj rfl) (sk xD) ?_
    refine zc rfl (zu rfl ty9 (gk xB) rfl (zr rfl) (zb rfl)) (sk xK) ?_
    refine yb rfl (qa rfl rfl rfl rfl ty9 (gk xJ)) (sk xY) fun hn107=>?_
    replace hn107:=xl hn107
    refine zc rfl (zy rfl (gk xi) (gk xZ) rfl) (sk x7) ?_
    refine zc rfl (zg rfl wr xj rfl) (sk wl) ?_
    refine zc rfl (zu rfl ty46 (gk wi) rfl (zr rfl) (zb rfl)) (sk x6) ?_
    refine yb rfl (zS rfl rfl rfl rfl el46 (gk xN) yc) (sk wh) fun hn108=>?_
    replace hn108:=xl hn108
    refine zc rfl (zy rfl (gk x5) (gk wc) rfl) (sk wj) ?_
    refine zc rfl (zi rfl (gk wb) (zb rfl)) xz ?_
    refine ze (zj (zk (zd ?_)))
    refine zc rfl (zi rfl rfl (zb rfl)) wB ?_
    refine ze (zj (zQ ?_))
    refine yo (fun (n3:Nat) (s3:Int)=>yO [2,3,4,10,11,12,13,14,15,16,17,18,19,20,21,22,23,24,25,26,27,28,29,30,31,32,33,34,35,36,37,38,39,40,41,42,43,44,45,46,47,48,49,50,51,52,53,54,55,56,57,58,59,60,61,62,63,64,65,66,67,68,69,70,71,72,73,74,75,76,77,78,79,80,81,82,83] [(5,.int .i64 s3),(9,.int .i64 (n3:Int))]) (fun s3=>h.ext [.cells [.int .u8 y106.typ,.int .i64 y106.n,.int .u64 y106.time,.int .u8 y106.dot.actor.rep,.int .u32 y106.dot.actor.inc,.int .u64 y106.dot.seq,.str y106.text,.sl 5 (y106.items.map GItem.row),.sl 3 (y106.tombs.map GDot.row)]] []) hF (fun _ _=>by simp only [yO,upd,List.set_cons_succ,List.set_cons_zero];try rfl) (wk.le (by exact (.eq (.eq (.drop (.drop (.drop (.cons (leV.of_eq rfl) (.eq (.eq (.eq (.cons (leV.of_eq rfl) (.d16 (.d16 (.d16 (.d16 (.d4 (.d4 (.drop (.drop leL.nil)))))))))))))))))))) ?_
    intro n3 s3 hi3 hF
    refine zk (zk (zd ?_))
    refine zc rfl (zf rfl xV (zb rfl)) (sk wF) ?_
    refine zc rfl (zg rfl x4 xj rfl) (sk wM) ?_
    refine zc rfl (zu rfl ty45 (gk wN) rfl (zr rfl) (zb rfl)) (sk wL) ?_
    refine yb rfl (zS rfl rfl rfl rfl qj (gk wH) yc) (sk wW) fun hn125=>?_
    replace hn125:=xl hn125
    refine zc rfl (zy rfl (gk wE) (gk w6) rfl) (sk wV) ?_
    refine ze (zj ?_)
    refine yJ (gk vg) hF (fun x3 o3 hl3 hx3 hF hK3=>?_) (fun hF=>?_)
    ·refine zK (zj (zk (zQ (zd ?_))))
     refine zc rfl (zf rfl yS (zb rfl)) (sk vk) ?_
     refine zc rfl (zy rfl (gk vt) rfl rfl) (sk vb) ?_
     refine zc rfl (zg rfl x4 xj rfl) (sk va) ?_
     refine zc rfl (zu rfl ty45 (gk ve) rfl (zr rfl) (zb rfl)) (sk w9) ?_
     refine zc rfl (zf rfl xV (zb rfl)) (sk vj) ?_
     refine zc rfl (yj rfl qj (gk wY) (gk wX) w7 (yK hx3)) (sk vI) ?_
     refine zc rfl (zg rfl fo87x2 (gk vM) rfl) (sk vA) ?_
     refine zc rfl (ye rfl ty9 (gk vr) (zr rfl) (zb rfl)) (sk (sk st0)) ?_
     refine yb rfl (qa rfl rfl rfl rfl ty9 (gk (gk yr))) (sk (sk st1)) fun hn126=>?_
     replace hn126:=xl hn126
     refine zc rfl (zy rfl (gk wZ) (gk (gk yF)) rfl) (sk (sk xh)) ?_
     refine zc rfl (zi rfl (gk (gk yV)) (zb rfl)) xz ?_
     refine ze (yh (zj (zd ?_)))
     refine zc rfl (zf rfl xV (zb rfl)) (sk wU) ?_
     refine zc rfl (zy rfl (gk w5) rfl rfl) (sk vl) ?_
     refine zc rfl (zi rfl (gk vf) (zb rfl)) wB ?_
     refine ze (yH ?_)
     obtain rfl:=Option.some.inj hF
     exact ⟨(IntKind.wrap .i64 ((IntKind.wrap .i64 (s3+(1:Int)))+((x3.text).length:Int))),hl3,hK3,wk.le (by exact (.eq (.eq (.drop (.drop (.drop (.cons (leV.of_eq rfl) (.eq (.eq (.eq (.cons (leV.of_eq (w8 (by omega) (by omega))) (.d16 (.d16 (.d16 (.d16 (.d4 (.d4 (.drop (.drop leL.nil)))))))))))))))))))⟩
    ·refine yR ?_
     refine ya ?_
     refine zV ?_
     refine zW ?_
     refine yh (zj (zd ?_))
     refine zc rfl (zf rfl xH (zb rfl)) (sk xE) ?_
     refine zc rfl (zy rfl (gk yU) rfl rfl) (sk xO) ?_
     refine zc rfl (zi rfl (gk xH) (zb rfl)) xO ?_
     refine ze (yH ?_)
     obtain rfl:=Option.some.inj hF
     exact ⟨(s3,(IntKind.wrap .i64 (s2.2+(1:Int)))),hK2,wk.trans (wk.le (by exact (.eq (.eq (.drop (.drop (.drop (.cons (leV.of_eq rfl) (.eq (.cons (leV.of_eq rfl) (.d16 (.d16 (.d16 (.d16 (.d4 (.d4 (.d4 leL.nil))))))))))))))))) (xI (by simp [yi,AV.low]) rfl rfl (by simp [Blk.low,yi,AV.low]))⟩
   ·refine yR ?_
    refine ya ?_
    refine zV ?_
    obtain rfl:=Option.some.inj hF
    replace hF:=hK2
    refine zW ?_
    refine yh (zj (zd ?_))
    refine zc rfl (zf rfl yU (zb rfl)) xD ?_
    refine zc rfl (zy rfl xB rfl rfl) xK ?_
    refine zc rfl (zi rfl xJ (zb rfl)) xE ?_
    refine ze (yH ?_)
    obtain rfl:=Option.some.inj hF
    exact ⟨(s2.1,(IntKind.wrap .i64 (s1.2+(1:Int)))),hK1,wk.le (by exact (.eq (.eq (.drop (.drop (.drop (.cons (leV.of_eq rfl) (.cons (leV.of_eq rfl) (.d16 (.d16 (.d16 (.d16 (.d4 (.d4 (.d4 (.drop leL.nil))))))))))))))))⟩
  ·refine yR ?_
   refine ya ?_
   refine zV ?_
   obtain rfl:=Option.some.inj hF
   replace hF:=hK1
   refine zW ?_
   refine zj (zk (zd ?_))
   refine zc rfl (zf rfl yS (zb rfl)) (sk (sk wo)) ?_
   refine zc rfl (zi rfl (gk (gk xn)) (zb rfl)) yB ?_
   refine ze (zj (zL ?_))
   obtain rfl:=Option.some.inj hF
   refine zA rfl (zD yz zG) (zz (leV.refl _) rfl ?_)
   exact ⟨rfl,rfl⟩
theorem ok28 {t0:(List GNode)} {deep1:Int} {res:Int} {h:AH}  (hF:ref07Xsize t0 deep1=some res):Spec Tryz.prog 28 [.sl 3 (t0.map GNode.row),.int .i64 deep1] h (fun rr hh=>rr=.int .i64 res∧hh=h):=by
 obtain ⟨n,hn⟩:=anyN_is hF
 exact ok28N n  hn
/-! varve/varveref07.Great -/
theorem ok12 {t0:(List GNode)} {res:Bool} {h:AH}  (hF:qV t0=some res):Spec Tryz.prog 12 [.sl 3 (t0.map GNode.row)] h (fun rr hh=>rr=.bool res∧hh=h):=by
 unfold qV at hF
 refine zt Tryz.func12 rfl (by kernel_rfl) (env:=[.sl 3 (t0.map GNode.row),za,za,za,za,za]) (by rfl) ?_
 refine zk (zd ?_)
 refine zc rfl (zi rfl rfl (zb rfl)) xh ?_
 refine ze (zj (zk (zd ?_)))
 refine zc rfl (zf rfl yr (zb rfl)) wo ?_
 refine zR hF (fun v1 hv1 hF=>?_)
 refine zN rfl (zC rfl rfl rfl (zo xn (zo rfl zw)) (.cons (zb rfl) (.cons (zb rfl) .nil))) (ok28 hv1) yB ?_
 refine zc rfl (zy rfl yz rfl rfl) xz ?_
 refine zc rfl (zi rfl yS (zb rfl)) xh ?_
 refine ze (zj (zL ?_))
 obtain rfl:=Option.some.inj hF
 refine zA rfl (zD yV zG) (zz (leV.refl _) rfl ?_)
 exact ⟨rfl,rfl⟩
/-! varve/varveref31.Great -/
theorem ok13 {l0:(List GEdit)} {res:Bool} {h:AH}  (hF:ref31Great l0=some res):Spec Tryz.prog 13 [.sl 22 (l0.map GEdit.row)] h (fun rr hh=>rr=.bool res∧hh=h):=by
 unfold ref31Great at hF
 refine zt Tryz.func13 rfl (by kernel_rfl) (env:=[.sl 22 (l0.map GEdit.row),za,za,za,za,za,za,za,za,za,za,za,za,za,za,za,za,za,za,za,za,za,za,za,za,za,za,za,za,za,za,za,za,za,za,za,za,za,za,za,za,za,za,za,za,za,za,za,za,za,za,za,za,za,za,za,za,za,za,za,za]) (by rfl) ?_
 refine zk (zd ?_)
 refine zc rfl (zi rfl rfl (zb rfl)) xh ?_
 refine ze (zj (zk (zk (zd ?_))))
 refine zc rfl (zi rfl rfl (zb rfl)) wo ?_
 refine ze (zj (zQ ?_))
 refine yo (fun (n1:Nat) (s1:Unit)=>yO [1,2,4,5,6,7,8,9,10,11,12,13,14,15,16,17,18,19,20,21,22,23,24,25,26,27,28,29,30,31,32,33,34,35,36,37,38,39,40,41,42,43,44,45,46,47,48,49,50,51,52,53,54,55,56,57,58,59,60] [(3,.int .i64 (n1:Int))]) (fun s1=>h.ext [] []) hF (fun _ _=>by simp only [yO,upd,List.set_cons_succ,List.set_cons_zero];try rfl) (wk.le (by exact (.eq (.drop (.drop (.cons (leV.of_eq rfl) (.d16 (.d16 (.d16 (.d4 (.d4 (.drop leL.nil)))))))))))) ?_
 intro n1 s1 hi1 hF
 refine zk (zk (zd ?_))
 refine zc rfl (zf rfl xn (zb rfl)) xE ?_
 refine zc rfl (zf rfl yr (zb rfl)) xO ?_
 refine yb rfl (zS rfl rfl rfl rfl qE xH yc) xX fun hn45=>?_
 replace hn45:=xl hn45
 refine zc rfl (zy rfl yU xj rfl) wB ?_
 refine ze (zj ?_)
 refine yJ xV hF (fun x1 o1 hl1 hx1 hF hK1=>?_) (fun hF=>?_)
 ·refine zK (zj (zk (zQ (zk (zd ?_)))))
  refine zc rfl (zf rfl yr (zb rfl)) yX ?_
  refine zc rfl (zf rfl xn (zb rfl)) yW ?_
  refine zc rfl (yj rfl qE yM yC w7 (yK hx1)) y5 ?_
  refine zc rfl (ye rfl ty54.choose_spec.1 yY (zH (cs':=[.sl 1 (x1.path.map zP),.int .u8 x1.typ,.bool x1.had,.bool x1.has,.int .u8 x1.was.typ,.int .i64 x1.was.n,.int .u64 x1.was.time,.int .u8 x1.was.dot.actor.rep,.int .u32 x1.was.dot.actor.inc,.int .u64 x1.was.dot.seq,.str x1.was.text,.sl 5 (x1.was.items.map GItem.row),.sl 3 (x1.was.tombs.map GDot.row),.int .u8 x1.is.typ,.int .i64 x1.is.n,.int .u64 x1.is.time,.int .u8 x1.is.dot.actor.rep,.int .u32 x1.is.dot.actor.inc,.int .u64 x1.is.dot.seq,.str x1.is.text,.sl 5 (x1.is.items.map GItem.row),.sl 3 (x1.is.tombs.map GDot.row)]) ty54.choose_spec.2 rfl rfl) (zb rfl)) y6 ?_
  refine zc rfl (y4 (n:=0) rfl ze54 rfl) yB ?_
  refine zc rfl (yg (cs':=[.sl 1 (x1.path.map zP),.int .u8 x1.typ,.bool x1.had,.bool x1.has,.int .u8 x1.was.typ,.int .i64 x1.was.n,.int .u64 x1.was.time,.int .u8 x1.was.dot.actor.rep,.int .u32 x1.was.dot.actor.inc,.int .u64 x1.was.dot.seq,.str x1.was.text,.sl 5 (x1.was.items.map GItem.row),.sl 3 (x1.was.tombs.map GDot.row),.int .u8 x1.is.typ,.int .i64 x1.is.n,.int .u64 x1.is.time,.int .u8 x1.is.dot.actor.rep,.int .u32 x1.is.dot.actor.inc,.int .u64 x1.is.dot.seq,.str x1.is.text,.sl 5 (x1.is.items.map GItem.row),.sl 3 (x1.is.tombs.map GDot.row)]) rfl ty54.choose_spec.1 yz yT (zb rfl) rfl rfl rfl rfl rfl) rfl ?_
  refine ze (zj (zk (zk (zd ?_))))
  refine zc rfl (zg rfl qX yz rfl) xg ?_
  refine zc rfl (zu rfl ty52 xd rfl (zr rfl) (zb rfl)) xk ?_
  refine yb rfl (zS rfl rfl rfl rfl wt xi yc) xD fun hn46=>?_
  replace hn46:=xl hn46
  refine zc rfl (zy rfl xB rfl rfl) xK ?_
  refine zc rfl (zf rfl xJ (zb rfl)) xY ?_
  refine zp rfl (fun hb=>zg rfl fo54x4 yz rfl) x7 ?_
  refine zp rfl (fun hb=>zg rfl x4 (zn x5 hb) rfl) wl ?_
  refine zp rfl (fun hb=>zu rfl ty45 (zn wi hb) rfl (zr rfl) (zb rfl)) x6 ?_
  refine xA rfl (fun hb=>zS rfl rfl rfl rfl qj (zn xN hb) yc) wh fun hn47=>?_
  refine zp rfl (fun hb=>zg rfl fo54x5 yz rfl) wj ?_
  refine zp rfl (fun hb=>zg rfl x4 (zn wb hb) rfl) wF ?_
  refine zp rfl (fun hb=>zu rfl ty45 (zn wE hb) rfl (zr rfl) (zb rfl)) wM ?_
  refine xA rfl (fun hb=>zS rfl rfl rfl rfl qj (zn wN hb) yc) wL fun hn48=>?_
  refine zp rfl (fun hb=>zy rfl (zn wc hb) (zn wH hb) rfl) wW ?_
  refine zp rfl (fun hb=>zy rfl (zn w6 hb) rfl rfl) wV ?_
  refine zc rfl (zM rfl xZ rfl vg (z8 (fun ht=>gF ht))) wU ?_
  refine zc rfl (zf rfl w5 (zb rfl)) vl ?_
  refine zp rfl (fun hb=>zg rfl fo54x4 yz rfl) vk ?_
  refine zp rfl (fun hb=>zg rfl wr (zn vt hb) rfl) vb ?_
  refine zp rfl (fun hb=>zu rfl ty46 (zn wZ hb) rfl (zr rfl) (zb rfl)) va ?_
  refine xA rfl (fun hb=>zS rfl rfl rfl rfl el46 (zn ve hb) yc) w9 fun hn49=>?_
  refine zp rfl (fun hb=>zg rfl fo54x5 yz rfl) vj ?_
  refine zp rfl (fun hb=>zg rfl wr (zn wX hb) rfl) vI ?_
  refine zp rfl (fun hb=>zu rfl ty46 (zn vM hb) rfl (zr rfl) (zb rfl)) vA ?_
  refine xA rfl (fun hb=>zS rfl rfl rfl rfl el46 (zn vr hb) yc) (sk st0) fun hn50=>?_
  refine zp rfl (fun hb=>zy rfl (zn wY hb) (zn (gk yr) hb) rfl) (sk st1) ?_
  refine zp rfl (fun hb=>zy rfl (zn (gk yF) hb) rfl rfl) (sk xh) ?_
  refine zc rfl (zM rfl vf rfl (gk yV) (z8 (fun ht=>gF ht))) (sk wo) ?_
  refine ze (zj ?_)
  refine zO (gk xn) hF (fun hc51 hF=>?_) (fun hc51 hF=>?_)
  ·refine zk (zd ?_)
   refine zc rfl (zi rfl rfl (zb rfl)) xh ?_
   refine ze (zj (zL (zx ?_)))
   refine zF ?_
   refine zx ?_
   refine yd ?_
   obtain rfl:=Option.some.inj hF
   replace hF:=hK1
   refine zF ?_
   refine zx ?_
   obtain rfl:=Option.some.inj hF
   refine zA rfl (zD yV zG) (zz (leV.refl _) rfl ?_)
   exact ⟨rfl,rfl⟩
  ·refine zK (zj (zk (zd ?_)))
   refine zc rfl (zi rfl rfl (zb rfl)) xz ?_
   refine ze (zj (zQ ?_))
   refine yo (fun (n2:Nat) (s2:Unit)=>yO [1,2,6,7,8,9,10,11,12,13,14,15,16,17,18,19,20,21,22,23,24,25,26,27,28,29,30,31,32,33,34,35,36,37,38,39,40,41,42,43,44,45,46,47,48,49,50,51,52,53,54,55,56,57,58,59,60] [(5,.int .i64 (n2:Int))]) (fun s2=>h.ext [.cells [.sl 1 (x1.path.map zP),.int .u8 x1.typ,.bool x1.had,.bool x1.has,.int .u8 x1.was.typ,.int .i64 x1.was.n,.int .u64 x1.was.time,.int .u8 x1.was.dot.actor.rep,.int .u32 x1.was.dot.actor.inc,.int .u64 x1.was.dot.seq,.str x1.was.text,.sl 5 (x1.was.items.map GItem.row),.sl 3 (x1.was.tombs.map GDot.row),.int .u8 x1.is.typ,.int .i64 x1.is.n,.int .u64 x1.is.time,.int .u8 x1.is.dot.actor.rep,.int .u32 x1.is.dot.actor.inc,.int .u64 x1.is.dot.seq,.str x1.is.text,.sl 5 (x1.is.items.map GItem.row),.sl 3 (x1.is.tombs.map GDot.row)]] []) hF (fun _ _=>by simp only [yO,upd,List.set_cons_succ,List.set_cons_zero];try rfl) (wk.le (by exact (.eq (.drop (.drop (.eq (.eq (.cons (leV.of_eq rfl) (.d16 (.d16 (.d16 (.d4 (.drop (.drop (.drop leL.nil))))))))))))))) ?_
   intro n2 s2 hi2 hF
   refine zk (zk (zd ?_))
   refine zc rfl (zf rfl yS (zb rfl)) (sk yB) ?_
   refine zc rfl (zg rfl qX yz rfl) (sk xz) ?_
   refine zc rfl (zu rfl ty52 (gk yS) rfl (zr rfl) (zb rfl)) (sk xE) ?_
   refine yb rfl (zS rfl rfl rfl rfl wt (gk yU) yc) (sk xO) fun hn81=>?_
   replace hn81:=xl hn81
   refine zc rfl (zy rfl (gk yz) (gk xH) rfl) (sk xX) ?_
   refine ze (zj ?_)
   refine yJ (gk xj) hF (fun x2 o2 hl2 hx2 hF hK2=>?_) (fun hF=>?_)
   ·refine zK (zj (zk (zQ (zk (zd ?_)))))
    refine zc rfl (zg rfl qX yz rfl) (sk yP) ?_
    refine zc rfl (zu rfl ty52 (gk yA) rfl (zr rfl) (zb rfl)) (sk yX) ?_
    refine zc rfl (zf rfl yS (zb rfl)) (sk yW) ?_
    refine zc rfl (yj rfl wt (gk yM) (gk yC) w7 (yK hx2)) (sk y5) ?_
    refine zc rfl (ye rfl ty9 (gk yY) (zr rfl) (zb rfl)) (sk y6) ?_
    refine yb rfl (qa rfl rfl rfl rfl ty9 (gk yT)) (sk xg) fun hn82=>?_
    replace hn82:=xl hn82
    refine zc rfl (zy rfl (gk xd) rfl rfl) (sk xk) ?_
    refine ze (zj ?_)
    refine zO (gk xi) hF (fun hc83 hF=>?_) (fun hc83 hF=>?_)
    ·refine zk (zd ?_)
     refine zc rfl (zi rfl rfl (zb rfl)) xh ?_
     refine ze (zj (zL ?_))
     refine zF ?_
     refine zx ?_
     refine yd ?_
     obtain rfl:=Option.some.inj hF
     replace hF:=hK2
     refine zF ?_
     refine zF ?_
     refine zx ?_
     refine yd ?_
     obtain rfl:=Option.some.inj hF
     replace hF:=hK1
     refine zF ?_
     refine zx ?_
     obtain rfl:=Option.some.inj hF
     refine zA rfl (zD yV zG) (zz (leV.refl _) rfl ?_)
     exact ⟨rfl,rfl⟩
    ·refine zK (yh (zj (zd ?_)))
     refine zc rfl (zf rfl yS (zb rfl)) (sk wB) ?_
     refine zc rfl (zy rfl (gk xV) rfl rfl) (sk yL) ?_
     refine zc rfl (zi rfl (gk yq) (zb rfl)) xz ?_
     refine ze (yH ?_)
     obtain rfl:=Option.some.inj hF
     exact ⟨(),hl2,hK2,wk.le (by exact (.eq (.drop (.drop (.eq (.eq (.cons (leV.of_eq (w8 (by omega) (by omega))) (.d16 (.d16 (.d16 (.d4 (.drop (.drop (.drop leL.nil))))))))))))))⟩
   ·refine yR ?_
    refine ya ?_
    refine zV ?_
    refine zW ?_
    refine yh (zj (zd ?_))
    refine zc rfl (zf rfl xn (zb rfl)) yL ?_
    refine zc rfl (zy rfl yq rfl rfl) yP ?_
    refine zc rfl (zi rfl yA (zb rfl)) wo ?_
    refine ze (yH ?_)
    obtain rfl:=Option.some.inj hF
    exact ⟨(),hl1,hK1,wk.trans (wk.le (by exact (.eq (.drop (.drop (.cons (leV.of_eq (w8 (by omega) (by omega))) (.d16 (.d16 (.d16 (.d4 (.d4 (.drop leL.nil)))))))))))) (xI (by simp [yi,AV.low]) rfl rfl (by simp [Blk.low,yi,AV.low]))⟩
 ·refine yR ?_
  refine ya ?_
  refine zV ?_
  refine zW ?_
  refine zj (zk (zd ?_))
  refine zc rfl (zf rfl yr (zb rfl)) (sk xD) ?_
  refine yb rfl (zS rfl rfl rfl rfl qE (gk xB) yc) (sk xK) fun hn84=>?_
  replace hn84:=xl hn84
  refine zc rfl (zy rfl (gk xJ) rfl rfl) (sk xY) ?_
  refine zc rfl (zi rfl (gk xZ) (zb rfl)) xh ?_
  refine ze (zj (zL ?_))
  obtain rfl:=Option.some.inj hF
  refine zA rfl (zD yV zG) (zz (leV.refl _) rfl ?_)
  exact ⟨rfl,rfl⟩
/-! varve/varvelaw31.great -/
theorem ok4 {a0:(List GNode)} {b1:(List GNode)} {c2:(List GNode)} {l3:(List GEdit)} {m4:(List GEdit)} {res:Bool} {h:AH}  (hF:law31Xgreat a0 b1 c2 l3 m4=some res):Spec Tryz.prog 4 [.sl 3 (a0.map GNode.row),.sl 3 (b1.map GNode.row),.sl 3 (c2.map GNode.row),.sl 22 (l3.map GEdit.row),.sl 22 (m4.map GEdit.row)] h (fun rr hh=>rr=.bool res∧hh=h):=by
 unfold law31Xgreat at hF
 refine zt Tryz.func4 rfl (by kernel_rfl) (env:=[.sl 3 (a0.map GNode.row),.sl 3 (b1.map GNode.row),.sl 3 (c2.map GNode.row),.sl 22 (l3.map GEdit.row),.sl 22 (m4.map GEdit.row),za,za,za,za,za,za,za,za,za,za,za,za,za,za,za,za,za,za,za,za,za,za,za,za]) (by rfl) ?_
 refine zk (zd ?_)
 refine zc rfl (zi rfl rfl (zb rfl)) yL ?_
 refine ze (zj (zk (zd ?_)))
 refine zc rfl (zf rfl yr (zb rfl)) yP ?_
 refine zR hF (fun v1 hv1 hF=>?_)
 refine zN rfl (zC rfl rfl rfl (zo yA zw) (.cons (zb rfl) .nil)) (ok12 hv1) yX ?_
 refine zc rfl (zf rfl yM (zb rfl)) yW ?_
 refine zp rfl (fun hb=>zf rfl yF (zb rfl)) y5 ?_
 refine yN hF (fun v2 hv2 hF=>?_)
 refine yk rfl (fun hb=>zC rfl rfl rfl (zo (zn yY hb) zw) (.cons (zb rfl) .nil)) (fun hb=>ok12 (hv2 hb)) y6 ?_
 refine zc rfl (zM rfl yC rfl yT (z8 (fun ht=>gF ht))) xg ?_
 refine zc rfl (zf rfl xd (zb rfl)) xk ?_
 refine zp rfl (fun hb=>zf rfl yV (zb rfl)) xD ?_
 refine yN hF (fun v3 hv3 hF=>?_)
 refine yk rfl (fun hb=>zC rfl rfl rfl (zo (zn xB hb) zw) (.cons (zb rfl) .nil)) (fun hb=>ok12 (hv3 hb)) xK ?_
 refine zc rfl (zM rfl xi rfl xJ (z8 (fun ht=>gF ht))) xY ?_
 refine zc rfl (zf rfl xZ (zb rfl)) x7 ?_
 refine zp rfl (fun hb=>zf rfl xn (zb rfl)) wl ?_
 refine yN hF (fun v4 hv4 hF=>?_)
 refine yk rfl (fun hb=>zC rfl rfl rfl (zo (zn wi hb) zw) (.cons (zb rfl) .nil)) (fun hb=>ok13 (hv4 hb)) x6 ?_
 refine zc rfl (zM rfl x5 rfl xN (z8 (fun ht=>gF ht))) wh ?_
 refine zc rfl (zf rfl wc (zb rfl)) wj ?_
 refine zp rfl (fun hb=>zf rfl yz (zb rfl)) wF ?_
 refine yN hF (fun v5 hv5 hF=>?_)
 refine yk rfl (fun hb=>zC rfl rfl rfl (zo (zn wE hb) zw) (.cons (zb rfl) .nil)) (fun hb=>ok13 (hv5 hb)) wM ?_
 refine zc rfl (zM rfl wb rfl wN (z8 (fun ht=>gF ht))) wL ?_
 refine zc rfl (zi rfl wH (zb rfl)) yL ?_
 refine ze (zj (zL ?_))
 obtain rfl:=Option.some.inj hF
 refine zA rfl (zD yq zG) (zz (leV.refl _) rfl ?_)
 exact ⟨rfl,rfl⟩
/-! varve/varveref04.IsName -/
theorem ok29 {s0:zJ} {res:Bool} {h:AH}  (hF:ref04IsName s0=some res):Spec Tryz.prog 29 [.str s0] h (fun rr hh=>rr=.bool res∧hh=h):=by
 unfold ref04IsName at hF
 refine zt Tryz.func29 rfl (by kernel_rfl) (env:=[.str s0,za,za,za,za,za,za,za,za,za,za,za,za,za,za,za,za,za,za,za,za,za,za,za,za,za,za,za,za,za,za,za,za,za,za,za,za,za,za,za,za,za,za,za,za]) (by rfl) ?_
 refine zk (zd ?_)
 refine zc rfl (zi rfl rfl (zb rfl)) xh ?_
 refine ze (zj (zk (zk (zd ?_))))
 refine zc rfl (zf rfl yr (zb rfl)) xz ?_
 refine yb rfl (qa rfl rfl rfl rfl ty9 yS) xE fun hn1=>?_
 replace hn1:=xl hn1
 refine zc rfl (zy rfl yU rfl rfl) xO ?_
 refine zc rfl (zf rfl xH (zb rfl)) xX ?_
 refine zp rfl (fun hb=>zf rfl yr (zb rfl)) wB ?_
 refine xA rfl (fun hb=>qa rfl rfl rfl rfl ty9 (zn xV hb)) yL fun hn2=>?_
 refine zp rfl (fun hb=>zy rfl (zn yq hb) rfl rfl) yP ?_
 refine zc rfl (zM rfl xj rfl yA (z8 (fun ht=>gF ht))) yX ?_
 refine ze (zj ?_)
 refine zO yM hF (fun hc3 hF=>?_) (fun hc3 hF=>?_)
 ·refine zk (zd ?_)
  refine zc rfl (zi rfl rfl (zb rfl)) xh ?_
  refine ze (zj (zL (zx ?_)))
  obtain rfl:=Option.some.inj hF
  refine zA rfl (zD yV zG) (zz (leV.refl _) rfl ?_)
  exact ⟨rfl,rfl⟩
 ·refine zK (zj (zk (zk (zd ?_))))
  refine zc rfl (zi rfl rfl (zb rfl)) wo ?_
  refine ze (zj (zQ ?_))
  refine yo (fun (n1:Nat) (s1:Unit)=>yO [1,2,4,5,6,7,8,9,10,11,12,13,14,15,16,17,18,19,20,21,22,23,24,25,26,27,28,29,30,31,32,33,34,35,36,37,38,39,40,41,42,43,44] [(3,.int .i64 (n1:Int))]) (fun s1=>h.ext [] []) hF (fun _ _=>by simp only [yO,upd,List.set_cons_succ,List.set_cons_zero];try rfl) (wk.le (by exact (.eq (.drop (.drop (.cons (leV.of_eq rfl) (.d16 (.d16 (.d4 (.d4 (.drop leL.nil))))))))))) ?_
  intro n1 s1 hi1 hF
  refine zk (zk (zd ?_))
  refine zc rfl (zf rfl xn (zb rfl)) yW ?_
  refine zc rfl (zf rfl yr (zb rfl)) y5 ?_
  refine yb rfl (qa rfl rfl rfl rfl ty9 yY) y6 fun hn10=>?_
  replace hn10:=xl hn10
  refine zc rfl (zy rfl yC yT rfl) xg ?_
  refine ze (zj ?_)
  refine yJ xd hF (fun x1 o1 hl1 hx1 hF hK1=>?_) (fun hF=>?_)
  ·refine zK (zj (zk (zQ (zk (zd ?_)))))
   refine zc rfl (zf rfl yr (zb rfl)) xK ?_
   refine zc rfl (zf rfl xn (zb rfl)) xY ?_
   refine zc rfl (s_idxStr rfl ty9 xJ xZ (yK hx1)) x7 ?_
   refine zc rfl (zi rfl x5 (zb rfl)) yB ?_
   refine ze (zj (zk (zd ?_)))
   refine zc rfl (zf rfl yz (zb rfl)) wl ?_
   refine zc rfl (zy rfl wi rfl rfl) x6 ?_
   refine zc rfl (zf rfl xN (zb rfl)) wh ?_
   refine zp rfl (fun hb=>zf rfl yz (zb rfl)) wj ?_
   refine zp rfl (fun hb=>zy rfl (zn wb hb) rfl rfl) wF ?_
   refine zc rfl (zM rfl wc wE rfl (zX (fun ht=>gT ht))) wM ?_
   refine zc rfl (zf rfl wN (zb rfl)) wL ?_
   refine zp rfl (fun hb=>zf rfl yz (zb rfl)) wW ?_
   refine zp rfl (fun hb=>zy rfl (zn w6 hb) rfl rfl) wV ?_
   refine zp rfl (fun hb=>zf rfl (zn vg hb) (zb rfl)) wU ?_
   refine zp (z7 rfl rfl rfl) (fun hb=>zf rfl yz (zb rfl)) vl ?_
   refine zp (z7 rfl rfl rfl) (fun hb=>zy rfl (zn vf hb) rfl rfl) vk ?_
   refine zp rfl (fun hb=>zM rfl (zn w5 hb) vt rfl (zX (fun ht=>gT2 hb ht))) vb ?_
   refine zc rfl (zM rfl wH rfl wZ (z8 (fun ht=>gF ht))) va ?_
   refine zc rfl (zf rfl ve (zb rfl)) w9 ?_
   refine zp rfl (fun hb=>zf rfl yz (zb rfl)) vj ?_
   refine zp rfl (fun hb=>zy rfl (zn wX hb) rfl rfl) vI ?_
   refine zp rfl (fun hb=>zf rfl (zn vM hb) (zb rfl)) vA ?_
   refine zp (z7 rfl rfl rfl) (fun hb=>zf rfl yz (zb rfl)) (sk st0) ?_
   refine zp (z7 rfl rfl rfl) (fun hb=>zy rfl (zn (gk yr) hb) rfl rfl) (sk st1) ?_
   refine zp rfl (fun hb=>zM rfl (zn vr hb) (gk yF) rfl (zX (fun ht=>gT2 hb ht))) (sk xh) ?_
   refine zc rfl (zM rfl wY rfl (gk yV) (z8 (fun ht=>gF ht))) (sk wo) ?_
   refine zc rfl (xR rfl (gk xn) rfl) (sk yB) ?_
   refine ze (zj ?_)
   refine zO (gk yz) hF (fun hc11 hF=>?_) (fun hc11 hF=>?_)
   ·refine zk (zd ?_)
    refine zc rfl (zi rfl rfl (zb rfl)) xh ?_
    refine ze (zj (zL ?_))
    refine zF ?_
    refine zx ?_
    refine yd ?_
    obtain rfl:=Option.some.inj hF
    replace hF:=hK1
    refine zF ?_
    refine zx ?_
    obtain rfl:=Option.some.inj hF
    refine zA rfl (zD yV zG) (zz (leV.refl _) rfl ?_)
    exact ⟨rfl,rfl⟩
   ·refine zK (yh (zj (zd ?_)))
    refine zc rfl (zf rfl xn (zb rfl)) xk ?_
    refine zc rfl (zy rfl xi rfl rfl) xD ?_
    refine zc rfl (zi rfl xB (zb rfl)) wo ?_
    refine ze (yH ?_)
    obtain rfl:=Option.some.inj hF
    exact ⟨(),hl1,hK1,wk.le (by exact (.eq (.drop (.drop (.cons (leV.of_eq (w8 (by omega) (by omega))) (.d16 (.d16 (.d4 (.d4 (.drop leL.nil))))))))))⟩
  ·refine yR ?_
   refine ya ?_
   refine zV ?_
   refine zW ?_
   refine zj (zk (zd ?_))
   refine zc rfl (zi rfl rfl (zb rfl)) xh ?_
   refine ze (zj (zL ?_))
   obtain rfl:=Option.some.inj hF
   refine zA rfl (zD yV zG) (zz (leV.refl _) rfl ?_)
   exact ⟨rfl,rfl⟩
/-! varve/varveref05.Item -/
theorem ok64 {l0:(List GItem)} {d1:GDot} {res:Int} {h:AH}  (hF:ref05Item l0 d1=some res):Spec Tryz.prog 64 [.sl 5 (l0.map GItem.row),.agg [.int .u8 d1.actor.rep,.int .u32 d1.actor.inc,.int .u64 d1.seq]] h (fun rr hh=>rr=.int .i64 res∧hh=h):=by
 unfold ref05Item at hF
 refine zt Tryz.func64 rfl (by kernel_rfl) (env:=[.sl 5 (l0.map GItem.row),.agg [.int .u8 d1.actor.rep,.int .u32 d1.actor.inc,.int .u64 d1.seq],za,za,za,za,za,za,za,za,za,za,za,za,za,za,za,za,za,za]) (by rfl) ?_
 refine zk (zd ?_)
 refine zc rfl (xw (n:=0) rfl yF (zb rfl) rfl rfl) wo ?_
 refine zc rfl (zi rfl rfl (zb rfl)) yB ?_
 refine ze (zj (zk (zk (zd ?_))))
 refine zc rfl (zi rfl rfl (zb rfl)) xz ?_
 refine ze (zj (zQ ?_))
 refine yo (fun (n1:Nat) (s1:Unit)=>yO [1,2,4,6,7,8,9,10,11,12,13,14,15,16,17,18,19] [(5,.int .i64 (n1:Int))]) (fun s1=>h.ext [.cells [.int .u8 d1.actor.rep,.int .u32 d1.actor.inc,.int .u64 d1.seq]] []) hF (fun _ _=>by simp only [yO,upd,List.set_cons_succ,List.set_cons_zero];try rfl) (wk.le (by exact (.eq (.drop (.drop (.eq (.drop (.cons (leV.of_eq rfl) (.d4 (.d4 (.d4 (.drop (.drop leL.nil))))))))))))) ?_
 intro n1 s1 hi1 hF
 refine zk (zk (zd ?_))
 refine zc rfl (zf rfl yS (zb rfl)) xE ?_
 refine zc rfl (zf rfl yr (zb rfl)) xO ?_
 refine yb rfl (zS rfl rfl rfl rfl qj xH yc) xX fun hn10=>?_
 replace hn10:=xl hn10
 refine zc rfl (zy rfl yU xj rfl) wB ?_
 refine ze (zj ?_)
 refine yJ xV hF (fun x1 o1 hl1 hx1 hF hK1=>?_) (fun hF=>?_)
 ·refine zK (zj (zk (zQ (zk ?_))))
  refine yI [] [] trivial mixed (by kernel_rfl) ?_
  refine zq rfl rfl (zf rfl yr (zb rfl)) yX ?_
  refine zq rfl rfl (zf rfl yS (zb rfl)) yW ?_
  refine zq rfl rfl (yj rfl qj yM yC w7 (yK hx1)) y5 ?_
  refine zq rfl rfl (zg rfl fo87x1 yY rfl) y6 ?_
  refine zq rfl rfl (ye rfl ty44.choose_spec.1 yT (zH (cs':=[.int .u8 x1.dot.actor.rep,.int .u32 x1.dot.actor.inc,.int .u64 x1.dot.seq]) ty44.choose_spec.2 rfl rfl) (zb rfl)) xg ?_
  refine zq rfl rfl (zu rfl ty44.choose_spec.1 xn rfl (zH (cs':=[.int .u8 d1.actor.rep,.int .u32 d1.actor.inc,.int .u64 d1.seq]) ty44.choose_spec.2 rfl rfl) (zb rfl)) xk ?_
  refine zq rfl rfl (zy rfl xd xi (bin_eq pk44 rfl)) xD ?_
  refine ym ?_
  refine zj ?_
  refine zO xB hF (fun hc11 hF=>?_) (fun hc11 hF=>?_)
  ·refine zk (zd ?_)
   refine zc rfl (zf rfl yS (zb rfl)) xK ?_
   refine zc rfl (zi rfl xJ (zb rfl)) yB ?_
   refine ze (zj (zL ?_))
   refine zF ?_
   refine zx ?_
   refine yd ?_
   obtain rfl:=Option.some.inj hF
   replace hF:=hK1
   refine zF ?_
   refine zx ?_
   obtain rfl:=Option.some.inj hF
   refine zA rfl (zD yz zG) (zz (leV.refl _) rfl ?_)
   exact ⟨rfl,rfl⟩
  ·refine zK (yh (zj (zd ?_)))
   refine zc rfl (zf rfl yS (zb rfl)) yL ?_
   refine zc rfl (zy rfl yq rfl rfl) yP ?_
   refine zc rfl (zi rfl yA (zb rfl)) xz ?_
   refine ze (yH ?_)
   obtain rfl:=Option.some.inj hF
   exact ⟨(),hl1,hK1,wk.le (by exact (.eq (.drop (.drop (.eq (.drop (.cons (leV.of_eq (w8 (by omega) (by omega))) (.d4 (.d4 (.d4 (.drop (.drop leL.nil))))))))))))⟩
 ·refine yR ?_
  refine ya ?_
  refine zV ?_
  refine zW ?_
  refine zj (zk (zd ?_))
  refine zc rfl (zi rfl rfl (zb rfl)) yB ?_
  refine ze (zj (zL ?_))
  obtain rfl:=Option.some.inj hF
  refine zA rfl (zD yz zG) (zz (leV.refl _) rfl ?_)
  exact ⟨rfl,rfl⟩
/-! varve/varveref05.Tomb -/
theorem ok65 {l0:(List GDot)} {d1:GDot} {res:Bool} {h:AH}  (hF:ref05Tomb l0 d1=some res):Spec Tryz.prog 65 [.sl 3 (l0.map GDot.row),.agg [.int .u8 d1.actor.rep,.int .u32 d1.actor.inc,.int .u64 d1.seq]] h (fun rr hh=>rr=.bool res∧hh=h):=by
 unfold ref05Tomb at hF
 refine zt Tryz.func65 rfl (by kernel_rfl) (env:=[.sl 3 (l0.map GDot.row),.agg [.int .u8 d1.actor.rep,.int .u32 d1.actor.inc,.int .u64 d1.seq],za,za,za,za,za,za,za,za,za,za,za,za,za,za,za,za]) (by rfl) ?_
 refine zk (zd ?_)
 refine zc rfl (xw (n:=0) rfl yF (zb rfl) rfl rfl) wo ?_
 refine zc rfl (zi rfl rfl (zb rfl)) yB ?_
 refine ze (zj (zk (zk (zd ?_))))
 refine zc rfl (zi rfl rfl (zb rfl)) xz ?_
 refine ze (zj (zQ ?_))
 refine yo (fun (n1:Nat) (s1:Unit)=>yO [1,2,4,6,7,8,9,10,11,12,13,14,15,16,17] [(5,.int .i64 (n1:Int))]) (fun s1=>h.ext [.cells [.int .u8 d1.actor.rep,.int .u32 d1.actor.inc,.int .u64 d1.seq]] []) hF (fun _ _=>by simp only [yO,upd,List.set_cons_succ,List.set_cons_zero];try rfl) (wk.le (by exact (.eq (.drop (.drop (.eq (.drop (.cons (leV.of_eq rfl) (.d4 (.d4 (.d4 leL.nil))))))))))) ?_
 intro n1 s1 hi1 hF
 refine zk (zk (zd ?_))
 refine zc rfl (zf rfl yS (zb rfl)) xE ?_
 refine zc rfl (zf rfl yr (zb rfl)) xO ?_
 refine yb rfl (zS rfl rfl rfl rfl el46 xH yc) xX fun hn10=>?_
 replace hn10:=xl hn10
 refine zc rfl (zy rfl yU xj rfl) wB ?_
 refine ze (zj ?_)
 refine yJ xV hF (fun x1 o1 hl1 hx1 hF hK1=>?_) (fun hF=>?_)
 ·refine zK (zj (zk (zQ (zk ?_))))
  refine yI [] [] trivial mixed (by kernel_rfl) ?_
  refine zq rfl rfl (zf rfl yr (zb rfl)) yX ?_
  refine zq rfl rfl (zf rfl yS (zb rfl)) yW ?_
  refine zq rfl rfl (yj rfl el46 yM yC w7 (yK hx1)) y5 ?_
  refine zq rfl rfl (ye rfl ty44.choose_spec.1 yY (zH (cs':=[.int .u8 x1.actor.rep,.int .u32 x1.actor.inc,.int .u64 x1.seq]) ty44.choose_spec.2 rfl rfl) (zb rfl)) y6 ?_
  refine zq rfl rfl (zu rfl ty44.choose_spec.1 xn rfl (zH (cs':=[.int .u8 d1.actor.rep,.int .u32 d1.actor.inc,.int .u64 d1.seq]) ty44.choose_spec.2 rfl rfl) (zb rfl)) xg ?_
  refine zq rfl rfl (zy rfl yT xd (bin_eq pk44 rfl)) xk ?_
  refine ym ?_
  refine zj ?_
  refine zO xi hF (fun hc11 hF=>?_) (fun hc11 hF=>?_)
  ·refine zk (zd ?_)
   refine zc rfl (zi rfl rfl (zb rfl)) yB ?_
   refine ze (zj (zL ?_))
   refine zF ?_
   refine zx ?_
   refine yd ?_
   obtain rfl:=Option.some.inj hF
   replace hF:=hK1
   refine zF ?_
   refine zx ?_
   obtain rfl:=Option.some.inj hF
   refine zA rfl (zD yz zG) (zz (leV.refl _) rfl ?_)
   exact ⟨rfl,rfl⟩
  ·refine zK (yh (zj (zd ?_)))
   refine zc rfl (zf rfl yS (zb rfl)) yL ?_
   refine zc rfl (zy rfl yq rfl rfl) yP ?_
   refine zc rfl (zi rfl yA (zb rfl)) xz ?_
   refine ze (yH ?_)
   obtain rfl:=Option.some.inj hF
   exact ⟨(),hl1,hK1,wk.le (by exact (.eq (.drop (.drop (.eq (.drop (.cons (leV.of_eq (w8 (by omega) (by omega))) (.d4 (.d4 (.d4 leL.nil))))))))))⟩
 ·refine yR ?_
  refine ya ?_
  refine zV ?_
  refine zW ?_
  refine zj (zk (zd ?_))
  refine zc rfl (zi rfl rfl (zb rfl)) yB ?_
  refine ze (zj (zL ?_))
  obtain rfl:=Option.some.inj hF
  refine zA rfl (zD yz zG) (zz (leV.refl _) rfl ?_)
  exact ⟨rfl,rfl⟩
/-! varve/varveref03.Less -/
theorem ok67 {a0:GDot} {b1:GDot} {res:Bool} {h:AH}  (hF:ref03Less a0 b1=some res):Spec Tryz.prog 67 [.agg [.int .u8 a0.actor.rep,.int .u32 a0.actor.inc,.int .u64 a0.seq],.agg [.int .u8 b1.actor.rep,.int .u32 b1.actor.inc,.int .u64 b1.seq]] h (fun rr hh=>rr=.bool res∧hh=h):=by
 unfold ref03Less at hF
 refine zt Tryz.func67 rfl (by kernel_rfl) (env:=[.agg [.int .u8 a0.actor.rep,.int .u32 a0.actor.inc,.int .u64 a0.seq],.agg [.int .u8 b1.actor.rep,.int .u32 b1.actor.inc,.int .u64 b1.seq],za,za,za,za,za,za,za,za,za,za,za,za,za,za,za,za,za,za,za,za,za,za,za,za,za,za,za,za,za,za,za,za,za,za,za,za]) (by rfl) ?_
 refine zk (zd ?_)
 refine zc rfl (xw (n:=0) rfl yr (zb rfl) rfl rfl) xh ?_
 refine zc rfl (xw (n:=1) rfl yF (zb rfl) rfl rfl) wo ?_
 refine zc rfl (zi rfl rfl (zb rfl)) yB ?_
 refine ze (zj (zk (zk (zd ?_))))
 refine zc rfl (zg rfl fo44x0 yV rfl) xz ?_
 refine zc rfl (zg rfl fo42x0 yS rfl) xE ?_
 refine zc rfl (zu rfl ty5 yU rfl (zr rfl) (zb rfl)) xO ?_
 refine zc rfl (zg rfl fo44x0 xn rfl) xX ?_
 refine zc rfl (zg rfl fo42x0 xj rfl) wB ?_
 refine zc rfl (zu rfl ty5 xV rfl (zr rfl) (zb rfl)) yL ?_
 refine zc rfl (zy rfl xH yq rfl) yP ?_
 refine ze (zj ?_)
 refine zO yA hF (fun hc1 hF=>?_) (fun hc1 hF=>?_)
 ·refine zk (zd ?_)
  refine zc rfl (zg rfl fo44x0 yV rfl) yX ?_
  refine zc rfl (zg rfl fo42x0 yM rfl) yW ?_
  refine zc rfl (zu rfl ty5 yC rfl (zr rfl) (zb rfl)) y5 ?_
  refine zc rfl (zg rfl fo44x0 xn rfl) y6 ?_
  refine zc rfl (zg rfl fo42x0 yT rfl) xg ?_
  refine zc rfl (zu rfl ty5 xd rfl (zr rfl) (zb rfl)) xk ?_
  refine zc rfl (zy rfl yY xi rfl) xD ?_
  refine zc rfl (zi rfl xB (zb rfl)) yB ?_
  refine ze (zj (zL (zx ?_)))
  obtain rfl:=Option.some.inj hF
  refine zA rfl (zD yz zG) (zz (leV.refl _) rfl ?_)
  exact ⟨rfl,rfl⟩
 ·refine zK (zj (zk (zk (zd ?_))))
  refine zc rfl (zg rfl fo44x0 yV rfl) xK ?_
  refine zc rfl (zg rfl fo42x1 xJ rfl) xY ?_
  refine zc rfl (zu rfl ty40 xZ rfl (zr rfl) (zb rfl)) x7 ?_
  refine zc rfl (zg rfl fo44x0 xn rfl) wl ?_
  refine zc rfl (zg rfl fo42x1 wi rfl) x6 ?_
  refine zc rfl (zu rfl ty40 xN rfl (zr rfl) (zb rfl)) wh ?_
  refine zc rfl (zy rfl x5 wc rfl) wj ?_
  refine ze (zj ?_)
  refine zO wb hF (fun hc2 hF=>?_) (fun hc2 hF=>?_)
  ·refine zk (zd ?_)
   refine zc rfl (zg rfl fo44x0 yV rfl) wF ?_
   refine zc rfl (zg rfl fo42x1 wE rfl) wM ?_
   refine zc rfl (zu rfl ty40 wN rfl (zr rfl) (zb rfl)) wL ?_
   refine zc rfl (zg rfl fo44x0 xn rfl) wW ?_
   refine zc rfl (zg rfl fo42x1 w6 rfl) wV ?_
   refine zc rfl (zu rfl ty40 vg rfl (zr rfl) (zb rfl)) wU ?_
   refine zc rfl (zy rfl wH w5 rfl) vl ?_
   refine zc rfl (zi rfl vf (zb rfl)) yB ?_
   refine ze (zj (zL (zx ?_)))
   obtain rfl:=Option.some.inj hF
   refine zA rfl (zD yz zG) (zz (leV.refl _) rfl ?_)
   exact ⟨rfl,rfl⟩
  ·refine zK (zj (zk (zd ?_)))
   refine zc rfl (zg rfl fo44x1 yV rfl) vk ?_
   refine zc rfl (zu rfl ty39 vt rfl (zr rfl) (zb rfl)) vb ?_
   refine zc rfl (zg rfl fo44x1 xn rfl) va ?_
   refine zc rfl (zu rfl ty39 ve rfl (zr rfl) (zb rfl)) w9 ?_
   refine zc rfl (zy rfl wZ wY rfl) vj ?_
   refine zc rfl (zi rfl wX (zb rfl)) yB ?_
   refine ze (zj (zL ?_))
   obtain rfl:=Option.some.inj hF
   refine zA rfl (zD yz zG) (zz (leV.refl _) rfl ?_)
   exact ⟨rfl,rfl⟩
/-! varve/varveref05.Ahead -/
theorem ok66 {time0:Int} {d1:GDot} {other2:Int} {o3:GDot} {res:Bool} {h:AH}  (hF:ref05Ahead time0 d1 other2 o3=some res):Spec Tryz.prog 66 [.int .u64 time0,.agg [.int .u8 d1.actor.rep,.int .u32 d1.actor.inc,.int .u64 d1.seq],.int .u64 other2,.agg [.int .u8 o3.actor.rep,.int .u32 o3.actor.inc,.int .u64 o3.seq]] h (fun rr hh=>rr=.bool res∧hh=h):=by
 unfold ref05Ahead at hF
 refine zt Tryz.func66 rfl (by kernel_rfl) (env:=[.int .u64 time0,.agg [.int .u8 d1.actor.rep,.int .u32 d1.actor.inc,.int .u64 d1.seq],.int .u64 other2,.agg [.int .u8 o3.actor.rep,.int .u32 o3.actor.inc,.int .u64 o3.seq],za,za,za,za,za,za,za,za,za,za,za,za,za,za]) (by rfl) ?_
 refine zk (zd ?_)
 refine zc rfl (xw (n:=0) rfl yF (zb rfl) rfl rfl) xz ?_
 refine zc rfl (xw (n:=1) rfl xn (zb rfl) rfl rfl) xO ?_
 refine zc rfl (zi rfl rfl (zb rfl)) xX ?_
 refine ze (zj (zk (zk (zd ?_))))
 refine zc rfl (zf rfl yr (zb rfl)) wB ?_
 refine zc rfl (zf rfl yV (zb rfl)) yL ?_
 refine zc rfl (zy rfl xV yq rfl) yP ?_
 refine ze (zj ?_)
 refine zO yA hF (fun hc1 hF=>?_) (fun hc1 hF=>?_)
 ·refine zk (zd ?_)
  refine zc rfl (zf rfl yr (zb rfl)) yX ?_
  refine zc rfl (zf rfl yV (zb rfl)) yW ?_
  refine zc rfl (zy rfl yM yC rfl) y5 ?_
  refine zc rfl (zi rfl yY (zb rfl)) xX ?_
  refine ze (zj (zL (zx ?_)))
  obtain rfl:=Option.some.inj hF
  refine zA rfl (zD xj zG) (zz (leV.refl _) rfl ?_)
  exact ⟨rfl,rfl⟩
 ·refine zK (zj (zk (zd ?_)))
  refine zc rfl (zu rfl ty44.choose_spec.1 yS rfl (zH (cs':=[.int .u8 d1.actor.rep,.int .u32 d1.actor.inc,.int .u64 d1.seq]) ty44.choose_spec.2 rfl rfl) (zb rfl)) y6 ?_
  refine zc rfl (zu rfl ty44.choose_spec.1 xH rfl (zH (cs':=[.int .u8 o3.actor.rep,.int .u32 o3.actor.inc,.int .u64 o3.seq]) ty44.choose_spec.2 rfl rfl) (zb rfl)) xg ?_
  refine zR hF (fun v2 hv2 hF=>?_)
  refine zN rfl (zC rfl rfl rfl (zo yT (zo xd zw)) (.cons (zb rfl) (.cons (zb rfl) .nil))) (ok67 hv2) xk ?_
  refine zc rfl (zi rfl xi (zb rfl)) xX ?_
  refine ze (zj (zL ?_))
  obtain rfl:=Option.some.inj hF
  refine zA rfl (zD xj zG) (zz (leV.refl _) rfl ?_)
  exact ⟨rfl,rfl⟩
/-! varve/varveref03.MayActor -/
theorem ok90 {a0:GActor} {res:Bool} {h:AH}  (hF:qO a0=some res):Spec Tryz.prog 90 [.agg [.int .u8 a0.rep,.int .u32 a0.inc]] h (fun rr hh=>rr=.bool res∧hh=h):=by
 unfold qO at hF
 refine zt Tryz.func90 rfl (by kernel_rfl) (env:=[.agg [.int .u8 a0.rep,.int .u32 a0.inc],za,za,za,za,za,za,za,za,za,za,za,za,za,za,za]) (by rfl) ?_
 refine zk (zd ?_)
 refine zc rfl (xw (n:=0) rfl yr (zb rfl) rfl rfl) st1 ?_
 refine zc rfl (zi rfl rfl (zb rfl)) xh ?_
 refine ze (zj (zk (zd ?_)))
 refine zc rfl (zg rfl fo42x0 yF rfl) wo ?_
 refine zc rfl (zu rfl ty5 xn rfl (zr rfl) (zb rfl)) yB ?_
 refine zc rfl (zy rfl yz rfl rfl) xz ?_
 refine zc rfl (zf rfl yS (zb rfl)) xE ?_
 refine zp rfl (fun hb=>zg rfl fo42x1 yF rfl) xO ?_
 refine zp rfl (fun hb=>zu rfl ty40 (zn xH hb) rfl (zr rfl) (zb rfl)) xX ?_
 refine zp rfl (fun hb=>zy rfl (zn xj hb) rfl rfl) wB ?_
 refine zc rfl (zM rfl yU xV rfl (zX (fun ht=>gT ht))) yL ?_
 refine zc rfl (zf rfl yq (zb rfl)) yP ?_
 refine zp rfl (fun hb=>zg rfl fo42x1 yF rfl) yX ?_
 refine zp rfl (fun hb=>zu rfl ty40 (zn yM hb) rfl (zr rfl) (zb rfl)) yW ?_
 refine zp rfl (fun hb=>zy rfl (zn yC hb) rfl rfl) y5 ?_
 refine zc rfl (zM rfl yA yY rfl (zX (fun ht=>gT ht))) y6 ?_
 refine zc rfl (zi rfl yT (zb rfl)) xh ?_
 refine ze (zj (zL ?_))
 obtain rfl:=Option.some.inj hF
 refine zA rfl (zD yV zG) (zz (leV.refl _) rfl ?_)
 exact ⟨rfl,rfl⟩
/-! varve/varveref03.May -/
theorem ok63 {d0:GDot} {res:Bool} {h:AH}  (hF:ref03May d0=some res):Spec Tryz.prog 63 [.agg [.int .u8 d0.actor.rep,.int .u32 d0.actor.inc,.int .u64 d0.seq]] h (fun rr hh=>rr=.bool res∧hh=h):=by
 unfold ref03May at hF
 refine zt Tryz.func63 rfl (by kernel_rfl) (env:=[.agg [.int .u8 d0.actor.rep,.int .u32 d0.actor.inc,.int .u64 d0.seq],za,za,za,za,za,za,za,za,za,za,za,za,za,za,za]) (by rfl) ?_
 refine zk (zd ?_)
 refine zc rfl (xw (n:=0) rfl yr (zb rfl) rfl rfl) st1 ?_
 refine zc rfl (zi rfl rfl (zb rfl)) xh ?_
 refine ze (zj (zk (zd ?_)))
 refine zc rfl (zg rfl fo44x0 yF rfl) wo ?_
 refine zc rfl (zu rfl ty42.choose_spec.1 xn rfl (zH (cs':=[.int .u8 d0.actor.rep,.int .u32 d0.actor.inc]) ty42.choose_spec.2 rfl rfl) (zb rfl)) yB ?_
 refine zR hF (fun v1 hv1 hF=>?_)
 refine zN rfl (zC rfl rfl rfl (zo yz zw) (.cons (zb rfl) .nil)) (ok90 hv1) xz ?_
 refine zc rfl (zf rfl yS (zb rfl)) xE ?_
 refine zp rfl (fun hb=>zg rfl fo44x1 yF rfl) xO ?_
 refine zp rfl (fun hb=>zu rfl ty39 (zn xH hb) rfl (zr rfl) (zb rfl)) xX ?_
 refine zp rfl (fun hb=>zy rfl (zn xj hb) rfl rfl) wB ?_
 refine zc rfl (zM rfl yU xV rfl (zX (fun ht=>gT ht))) yL ?_
 refine zc rfl (zf rfl yq (zb rfl)) yP ?_
 refine zp rfl (fun hb=>zg rfl fo44x1 yF rfl) yX ?_
 refine zp rfl (fun hb=>zu rfl ty39 (zn yM hb) rfl (zr rfl) (zb rfl)) yW ?_
 refine zp rfl (fun hb=>zy rfl (zn yC hb) rfl rfl) y5 ?_
 refine zc rfl (zM rfl yA yY rfl (zX (fun ht=>gT ht))) y6 ?_
 refine zc rfl (zi rfl yT (zb rfl)) xh ?_
 refine ze (zj (zL ?_))
 obtain rfl:=Option.some.inj hF
 refine zA rfl (zD yV zG) (zz (leV.refl _) rfl ?_)
 exact ⟨rfl,rfl⟩
/-! varve/varveref05.May -/
theorem ok30 {l0:GLeaf} {res:Bool} {h:AH}  (hF:ref05May l0=some res):Spec Tryz.prog 30 [.agg [.int .u8 l0.typ,.int .i64 l0.n,.int .u64 l0.time,.int .u8 l0.dot.actor.rep,.int .u32 l0.dot.actor.inc,.int .u64 l0.dot.seq,.str l0.text,.sl 5 (l0.items.map GItem.row),.sl 3 (l0.tombs.map GDot.row)]] h (fun rr hh=>rr=.bool res∧hh=h):=by
 unfold ref05May at hF
 refine zt Tryz.func30 rfl (by kernel_rfl) (env:=[.agg [.int .u8 l0.typ,.int .i64 l0.n,.int .u64 l0.time,.int .u8 l0.dot.actor.rep,.int .u32 l0.dot.actor.inc,.int .u64 l0.dot.seq,.str l0.text,.sl 5 (l0.items.map GItem.row),.sl 3 (l0.tombs.map GDot.row)],za,za,za,za,za,za,za,za,za,za,za,za,za,za,za,za,za,za,za,za,za,za,za,za,za,za,za,za,za,za,za,za,za,za,za,za,za,za,za,za,za,za,za,za,za,za,za,za,za,za,za,za,za,za,za,za,za,za,za,za,za,za,za,za,za,za,za,za,za,za,za,za,za,za,za,za,za,za,za,za,za,za,za,za,za,za,za,za,za,za,za,za,za,za,za,za,za,za,za,za,za,za,za,za,za,za,za,za,za,za,za,za,za,za,za,za,za,za,za,za,za,za,za,za,za,za,za,za,za,za,za,za,za,za,za,za,za,za,za,za,za,za,za,za,za,za,za,za,za,za,za,za,za,za,za,za,za,za,za,za,za,za,za,za,za,za,za,za,za,za,za,za,za,za,za,za,za,za,za,za,za,za,za,za,za,za,za,za,za,za,za,za,za,za,za,za,za,za,za,za,za,za,za,za]) (by rfl) ?_
 refine zk (zd ?_)
 refine zc rfl (xw (n:=0) rfl yr (zb rfl) rfl rfl) st1 ?_
 refine zc rfl (zi rfl rfl (zb rfl)) xh ?_
 refine ze (zj (zk (zk (zd ?_))))
 refine zc rfl (zg rfl wd yF rfl) xO ?_
 refine zc rfl (zu rfl ty5 xH rfl (zr rfl) (zb rfl)) xX ?_
 refine zc rfl (zy rfl xj rfl rfl) wB ?_
 refine zc rfl (zf rfl xV (zb rfl)) yL ?_
 refine zp rfl (fun hb=>zg rfl wd yF rfl) yP ?_
 refine zp rfl (fun hb=>zu rfl ty5 (zn yA hb) rfl (zr rfl) (zb rfl)) yX ?_
 refine zp rfl (fun hb=>zy rfl (zn yM hb) rfl rfl) yW ?_
 refine zc rfl (zM rfl yq rfl yC (z8 (fun ht=>gF ht))) y5 ?_
 refine zc rfl (zf rfl yY (zb rfl)) y6 ?_
 refine zp rfl (fun hb=>zg rfl wd yF rfl) xg ?_
 refine zp rfl (fun hb=>zu rfl ty5 (zn xd hb) rfl (zr rfl) (zb rfl)) xk ?_
 refine zp rfl (fun hb=>zy rfl (zn xi hb) rfl rfl) xD ?_
 refine zp rfl (fun hb=>zf rfl (zn xB hb) (zb rfl)) xK ?_
 refine zp (z7 rfl rfl rfl) (fun hb=>zg rfl fo48x1 yF rfl) xY ?_
 refine zp (z7 rfl rfl rfl) (fun hb=>zu rfl ty2 (zn xZ hb) rfl (zr rfl) (zb rfl)) x7 ?_
 refine zp (z7 rfl rfl rfl) (fun hb=>zy rfl (zn x5 hb) rfl rfl) wl ?_
 refine zp rfl (fun hb=>zM rfl (zn xJ hb) wi rfl (zX (fun ht=>gT2 hb ht))) x6 ?_
 refine zc rfl (zM rfl yT rfl xN (z8 (fun ht=>gF ht))) wh ?_
 refine zc rfl (zf rfl wc (zb rfl)) wj ?_
 refine zp rfl (fun hb=>zg rfl wd yF rfl) wF ?_
 refine zp rfl (fun hb=>zu rfl ty5 (zn wE hb) rfl (zr rfl) (zb rfl)) wM ?_
 refine zp rfl (fun hb=>zy rfl (zn wN hb) rfl rfl) wL ?_
 refine zp rfl (fun hb=>zf rfl (zn wH hb) (zb rfl)) wW ?_
 refine zp (z7 rfl rfl rfl) (fun hb=>zg rfl x4 yF rfl) wV ?_
 refine zp (z7 rfl rfl rfl) (fun hb=>zu rfl ty45 (zn vg hb) rfl (zr rfl) (zb rfl)) wU ?_
 refine xA (z7 rfl rfl rfl) (fun hb=>zS rfl rfl rfl rfl qj (zn w5 hb) yc) vl fun hn1=>?_
 refine zp (z7 rfl rfl rfl) (fun hb=>zy rfl (zn vf hb) rfl rfl) vk ?_
 refine zp rfl (fun hb=>zM rfl (zn w6 hb) vt rfl (zX (fun ht=>gT2 hb ht))) vb ?_
 refine zc rfl (zM rfl wb rfl wZ (z8 (fun ht=>gF ht))) va ?_
 refine zc rfl (zf rfl ve (zb rfl)) w9 ?_
 refine zp rfl (fun hb=>zg rfl wd yF rfl) vj ?_
 refine zp rfl (fun hb=>zu rfl ty5 (zn wX hb) rfl (zr rfl) (zb rfl)) vI ?_
 refine zp rfl (fun hb=>zy rfl (zn vM hb) rfl rfl) vA ?_
 refine zp rfl (fun hb=>zf rfl (zn vr hb) (zb rfl)) (sk st0) ?_
 refine zp (z7 rfl rfl rfl) (fun hb=>zg rfl wr yF rfl) (sk st1) ?_
 refine zp (z7 rfl rfl rfl) (fun hb=>zu rfl ty46 (zn (gk yF) hb) rfl (zr rfl) (zb rfl)) (sk xh) ?_
 refine xA (z7 rfl rfl rfl) (fun hb=>zS rfl rfl rfl rfl el46 (zn (gk yV) hb) yc) (sk wo) fun hn2=>?_
 refine zp (z7 rfl rfl rfl) (fun hb=>zy rfl (zn (gk xn) hb) rfl rfl) (sk yB) ?_
 refine zp rfl (fun hb=>zM rfl (zn (gk yr) hb) (gk yz) rfl (zX (fun ht=>gT2 hb ht))) (sk xz) ?_
 refine zc rfl (zM rfl wY rfl (gk yS) (z8 (fun ht=>gF ht))) (sk xE) ?_
 refine ze (zj ?_)
 refine zO (gk yU) hF (fun hc3 hF=>?_) (fun hc3 hF=>?_)
 ·refine zk (zd ?_)
  refine zc rfl (zi rfl rfl (zb rfl)) xh ?_
  refine ze (zj (zL (zx ?_)))
  obtain rfl:=Option.some.inj hF
  refine zA rfl (zD yV zG) (zz (leV.refl _) rfl ?_)
  exact ⟨rfl,rfl⟩
 ·refine zK (zj (zk (zd ?_)))
  refine zc rfl (qA (cs':=[.int .u8 (0:Int),.int .u32 (0:Int),.int .u64 (0:Int)]) rfl su44 ze44 pl44 yp .nil rfl rfl) (sk xO) ?_
  refine zc rfl (y4 (n:=1) rfl ze44 rfl) wo ?_
  refine zc rfl (yg (cs':=[.int .u8 (0:Int),.int .u32 (0:Int),.int .u64 (0:Int)]) rfl ty44.choose_spec.1 xn (gk xH) (zb rfl) rfl rfl rfl rfl rfl) rfl ?_
  refine ze (zj ?_)
  refine r_join (fun (s1:Unit)=>yO [0,2,3,4,5,6,7,8,9,10,11,12,13,14,15,16,17,18,19,20,21,22,23,24,25,26,27,28,29,30,31,32,33,34,35,36,37,38,39,40,41,42,43,44,45,46,47,48,49,50,51,52,53,54,55,56,57,58,59,60,61,62,63,64,65,66,67,68,69,70,71,72,73,74,75,76,77,78,79,80,81,82,83,84,85,86,87,88,89,90,91,92,93,94,95,96,97,98,99,100,101,102,103,104,105,106,107,108,109,110,111,112,113,114,115,116,117,118,119,120,121,122,123,124,125,126,127,128,129,130,131,132,133,134,135,136,137,138,139,140,141,142,143,144,145,146,147,148,149,150,151,152,153,154,155,156,157,158,159,160,161,162,163,164,165,166,167,168,169,170,171,172,173,174,175,176,177,178,179,180,181,182,183,184,185,186,187,188,189,190,191,192,193,194,195,196,197,198,199,200,201,202,203,204] []) (fun s1=>h.ext [.cells [.int .u8 l0.typ,.int .i64 l0.n,.int .u64 l0.time,.int .u8 l0.dot.actor.rep,.int .u32 l0.dot.actor.inc,.int .u64 l0.dot.seq,.str l0.text,.sl 5 (l0.items.map GItem.row),.sl 3 (l0.tombs.map GDot.row)],.cells [.int .u8 (0:Int),.int .u32 (0:Int),.int .u64 (0:Int)]] []) hF (fun _=>by simp only [yO,upd,List.set_cons_succ,List.set_cons_zero];try rfl) (fun o1 hF hK1=>?_) (fun s1 hF=>?_)
  ·refine zk (zd ?_)
   refine zc rfl (zg rfl wd yF rfl) (sk xX) ?_
   refine zc rfl (zu rfl ty5 (gk xj) rfl (zr rfl) (zb rfl)) (sk wB) ?_
   refine zc rfl (zy rfl (gk xV) rfl rfl) (sk yL) ?_
   refine zc rfl (zf rfl (gk yq) (zb rfl)) (sk yP) ?_
   refine zp rfl (fun hb=>zg rfl fo48x2 yF rfl) (sk yX) ?_
   refine zp rfl (fun hb=>zu rfl ty39 (zn (gk yM) hb) rfl (zr rfl) (zb rfl)) (sk yW) ?_
   refine zp rfl (fun hb=>zy rfl (zn (gk yC) hb) rfl rfl) (sk y5) ?_
   refine zc rfl (zM rfl (gk yA) rfl (gk yY) (z8 (fun ht=>gF ht))) (sk y6) ?_
   refine ze (zj ?_)
   refine zO (gk yT) hF (fun hc9 hF=>?_) (fun hc9 hF=>?_)
   ·refine zk (zd ?_)
    refine zc rfl (zg rfl fo48x2 yF rfl) (sk xg) ?_
    refine zc rfl (zu rfl ty39 (gk xd) rfl (zr rfl) (zb rfl)) (sk xk) ?_
    refine zc rfl (zy rfl (gk xi) rfl rfl) (sk xD) ?_
    refine zc rfl (zf rfl (gk xB) (zb rfl)) (sk xK) ?_
    refine zp rfl (fun hb=>zg rfl fo48x3 yF rfl) (sk xY) ?_
    refine zp rfl (fun hb=>zu rfl ty44.choose_spec.1 (zn (gk xZ) hb) rfl (zH (cs':=[.int .u8 l0.dot.actor.rep,.int .u32 l0.dot.actor.inc,.int .u64 l0.dot.seq]) ty44.choose_spec.2 rfl rfl) (zb rfl)) (sk x7) ?_
    refine zp rfl (fun hb=>zu rfl ty44.choose_spec.1 xn rfl (zH (cs':=[.int .u8 (0:Int),.int .u32 (0:Int),.int .u64 (0:Int)]) ty44.choose_spec.2 rfl rfl) (zb rfl)) (sk wl) ?_
    refine zp rfl (fun hb=>zy rfl (zn (gk x5) hb) (zn (gk wi) hb) (bin_ne pk44 rfl)) (sk x6) ?_
    refine zc rfl (zM rfl (gk xJ) rfl (gk xN) (z8 (fun ht=>gF ht))) (sk wh) ?_
    refine zc rfl (zf rfl (gk wc) (zb rfl)) (sk wj) ?_
    refine zp rfl (fun hb=>zg rfl fo48x4 yF rfl) (sk wF) ?_
    refine zp rfl (fun hb=>zu rfl ty9 (zn (gk wE) hb) rfl (zr rfl) (zb rfl)) (sk wM) ?_
    refine zp rfl (fun hb=>zy rfl (zn (gk wN) hb) rfl rfl) (sk wL) ?_
    refine zc rfl (zM rfl (gk wb) rfl (gk wH) (z8 (fun ht=>gF ht))) (sk wW) ?_
    refine ze (zj ?_)
    refine zO (gk w6) hF (fun hc10 hF=>?_) (fun hc10 hF=>?_)
    ·refine zk (zd ?_)
     refine zc rfl (zi rfl rfl (zb rfl)) xh ?_
     refine ze (zj (zL ?_))
     refine q_join_ret ?_
     obtain rfl:=Option.some.inj hF
     replace hF:=hK1
     obtain rfl:=Option.some.inj hF
     refine zA rfl (zD yV zG) (zz (leV.refl _) rfl ?_)
     exact ⟨rfl,rfl⟩
    ·refine zK (q_join ?_)
     obtain rfl:=Option.some.inj hF
     exact ⟨(),hK1,wk.le (by exact (.drop (.eq (.d16 (.d16 (.d16 (.d16 (.d16 (.d16 (.d16 (.d16 (.d16 (.d16 (.d16 (.d16 (.d4 (.d4 (.drop (.drop (.drop leL.nil))))))))))))))))))))⟩
   ·refine zk (zd ?_)
    refine zc rfl (zg rfl fo48x2 yF rfl) (sk wV) ?_
    refine zc rfl (zu rfl ty39 (gk vg) rfl (zr rfl) (zb rfl)) (sk wU) ?_
    refine zc rfl (zy rfl (gk w5) rfl rfl) (sk vl) ?_
    refine zc rfl (zf rfl (gk vf) (zb rfl)) (sk vk) ?_
    refine zp rfl (fun hb=>zg rfl fo48x3 yF rfl) (sk vb) ?_
    refine zp rfl (fun hb=>zu rfl ty44.choose_spec.1 (zn (gk wZ) hb) rfl (zH (cs':=[.int .u8 l0.dot.actor.rep,.int .u32 l0.dot.actor.inc,.int .u64 l0.dot.seq]) ty44.choose_spec.2 rfl rfl) (zb rfl)) (sk va) ?_
    refine yN hF (fun v11 hv11 hF=>?_)
    refine yk rfl (fun hb=>zC rfl rfl rfl (zo (zn (gk ve) hb) zw) (.cons (zb rfl) .nil)) (fun hb=>ok63 (hv11 hb)) (sk w9) ?_
    refine zp rfl (fun hb=>xR rfl (zn (gk wY) hb) rfl) (sk vj) ?_
    refine zc rfl (zM rfl (gk vt) rfl (gk wX) (z8 (fun ht=>gF ht))) (sk vI) ?_
    refine zc rfl (zf rfl (gk vM) (zb rfl)) (sk vA) ?_
    refine zp rfl (fun hb=>zg rfl fo48x4 yF rfl) (sk (sk st0)) ?_
    refine zp rfl (fun hb=>zu rfl ty9 (zn (gk (gk yr)) hb) rfl (zr rfl) (zb rfl)) (sk (sk st1)) ?_
    refine xA rfl (fun hb=>qa rfl rfl rfl rfl ty9 (zn (gk (gk yF)) hb)) (sk (sk xh)) fun hn12=>?_
    refine zp rfl (fun hb=>zy rfl (zn (gk (gk yV)) hb) rfl rfl) (sk (sk wo)) ?_
    refine zc rfl (zM rfl (gk vr) rfl (gk (gk xn)) (z8 (fun ht=>gF ht))) (sk (sk yB)) ?_
    refine ze (zj ?_)
    refine zO (gk (gk yz)) hF (fun hc13 hF=>?_) (fun hc13 hF=>?_)
    ·refine zk (zd ?_)
     refine zc rfl (zi rfl rfl (zb rfl)) xh ?_
     refine ze (zj (zL ?_))
     refine q_join_ret ?_
     obtain rfl:=Option.some.inj hF
     replace hF:=hK1
     obtain rfl:=Option.some.inj hF
     refine zA rfl (zD yV zG) (zz (leV.refl _) rfl ?_)
     exact ⟨rfl,rfl⟩
    ·refine zK (q_join ?_)
     obtain rfl:=Option.some.inj hF
     exact ⟨(),hK1,wk.le (by exact (.drop (.eq (.d16 (.d16 (.d16 (.d16 (.d16 (.d16 (.d16 (.d16 (.d16 (.d16 (.d16 (.d16 (.d4 (.d4 (.drop (.drop (.drop leL.nil))))))))))))))))))))⟩
  ·refine zk (zk (zd ?_))
   refine zc rfl (zi rfl rfl (zb rfl)) yB ?_
   refine ze (zj (zQ ?_))
   refine yo (fun (n2:Nat) (s2:Unit)=>yO [0,2,3,5,6,7,8,9,10,11,12,13,14,15,16,17,18,19,20,21,22,23,24,25,26,27,28,29,30,31,32,33,34,35,36,37,38,39,40,41,42,43,44,45,46,47,48,49,50,51,52,53,54,55,56,57,58,59,60,61,62,63,64,65,66,67,68,69,70,71,72,73,74,75,76,77,78,79,80,81,82,83,84,85,86,87,88,89,90,91,92,93,94,95,96,97,98,99,100,101,102,103,104,105,106,107,108,109,110,111,112,113,114,115,116,117,118,119,120,121,122,123,124,125,126,127,128,129,130,131,132,133,134,135,136,137,138,139,140,141,142,143,144,145,146,147,148,149,150,151,152,153,154,155,156,157,158,159,160,161,162,163,164,165,166,167,168,169,170,171,172,173,174,175,176,177,178,179,180,181,182,183,184,185,186,187,188,189,190,191,192,193,194,195,196,197,198,199,200,201,202,203,204] [(4,.int .i64 (n2:Int))]) (fun s2=>h.ext [.cells [.int .u8 l0.typ,.int .i64 l0.n,.int .u64 l0.time,.int .u8 l0.dot.actor.rep,.int .u32 l0.dot.actor.inc,.int .u64 l0.dot.seq,.str l0.text,.sl 5 (l0.items.map GItem.row),.sl 3 (l0.tombs.map GDot.row)],.cells [.int .u8 (0:Int),.int .u32 (0:Int),.int .u64 (0:Int)]] []) hF (fun _ _=>by simp only [yO,upd,List.set_cons_succ,List.set_cons_zero];try rfl) (wk.le (by exact (.drop (.eq (.drop (.drop (.cons (leV.of_eq rfl) (.d16 (.d16 (.d16 (.d16 (.d16 (.d16 (.d16 (.d16 (.d16 (.d16 (.d16 (.d16 (.d4 (.d4 leL.nil))))))))))))))))))))) ?_
   intro n2 s2 hi2 hF
   refine zk (zk (zd ?_))
   refine zc rfl (zf rfl yz (zb rfl)) (sk (sk xz)) ?_
   refine zc rfl (zg rfl x4 yF rfl) (sk (sk xE)) ?_
   refine zc rfl (zu rfl ty45 (gk (gk yU)) rfl (zr rfl) (zb rfl)) (sk (sk xO)) ?_
   refine yb rfl (zS rfl rfl rfl rfl qj (gk (gk xH)) yc) (sk (sk xX)) fun hn40=>?_
   replace hn40:=xl hn40
   refine zc rfl (zy rfl (gk (gk yS)) (gk (gk xj)) rfl) (sk (sk wB)) ?_
   refine ze (zj ?_)
   refine yJ (gk (gk xV)) hF (fun x2 o2 hl2 hx2 hF hK2=>?_) (fun hF=>?_)
   ·refine zK (zj (zk (zQ (zk (zd ?_)))))
    refine zc rfl (zg rfl x4 yF rfl) (sk (sk yX)) ?_
    refine zc rfl (zu rfl ty45 (gk (gk yM)) rfl (zr rfl) (zb rfl)) (sk (sk yW)) ?_
    refine zc rfl (zf rfl yz (zb rfl)) (sk (sk y5)) ?_
    refine zc rfl (yj rfl qj (gk (gk yC)) (gk (gk yY)) w7 (yK hx2)) (sk (sk y6)) ?_
    refine zc rfl (ye rfl ty87.choose_spec.1 (gk (gk yT)) (zH (cs':=[.int .u64 x2.time,.int .u8 x2.dot.actor.rep,.int .u32 x2.dot.actor.inc,.int .u64 x2.dot.seq,.str x2.text]) ty87.choose_spec.2 rfl rfl) (zb rfl)) (sk (sk xg)) ?_
    refine zc rfl (y4 (n:=2) rfl ze87 rfl) xz ?_
    refine zc rfl (yg (cs':=[.int .u64 x2.time,.int .u8 x2.dot.actor.rep,.int .u32 x2.dot.actor.inc,.int .u64 x2.dot.seq,.str x2.text]) rfl ty87.choose_spec.1 yS (gk (gk xd)) (zb rfl) rfl rfl rfl rfl rfl) rfl ?_
    refine ze (zj (zk (zk (zd ?_))))
    refine zc rfl (zg rfl fo87x1 yS rfl) (sk (sk xk)) ?_
    refine zc rfl (zu rfl ty44.choose_spec.1 (gk (gk xi)) rfl (zH (cs':=[.int .u8 x2.dot.actor.rep,.int .u32 x2.dot.actor.inc,.int .u64 x2.dot.seq]) ty44.choose_spec.2 rfl rfl) (zb rfl)) (sk (sk xD)) ?_
    refine zR hF (fun v41 hv41 hF=>?_)
    refine zN rfl (zC rfl rfl rfl (zo (gk (gk xB)) zw) (.cons (zb rfl) .nil)) (ok63 hv41) (sk (sk xK)) ?_
    refine zc rfl (xR rfl (gk (gk xJ)) rfl) (sk (sk xY)) ?_
    refine zc rfl (zf rfl (gk (gk xZ)) (zb rfl)) (sk (sk x7)) ?_
    refine zp rfl (fun hb=>zg rfl fo87x2 yS rfl) (sk (sk wl)) ?_
    refine zp rfl (fun hb=>zu rfl ty9 (zn (gk (gk wi)) hb) rfl (zr rfl) (zb rfl)) (sk (sk x6)) ?_
    refine xA rfl (fun hb=>qa rfl rfl rfl rfl ty9 (zn (gk (gk xN)) hb)) (sk (sk wh)) fun hn42=>?_
    refine zp rfl (fun hb=>zy rfl (zn (gk (gk wc)) hb) rfl rfl) (sk (sk wj)) ?_
    refine zc rfl (zM rfl (gk (gk x5)) rfl (gk (gk wb)) (z8 (fun ht=>gF ht))) (sk (sk wF)) ?_
    refine zc rfl (zf rfl (gk (gk wE)) (zb rfl)) (sk (sk wM)) ?_
    refine zp rfl (fun hb=>zg rfl wd yF rfl) (sk (sk wL)) ?_
    refine zp rfl (fun hb=>zu rfl ty5 (zn (gk (gk wH)) hb) rfl (zr rfl) (zb rfl)) (sk (sk wW)) ?_
    refine zp rfl (fun hb=>zy rfl (zn (gk (gk w6)) hb) rfl rfl) (sk (sk wV)) ?_
    refine zp rfl (fun hb=>zf rfl (zn (gk (gk vg)) hb) (zb rfl)) (sk (sk wU)) ?_
    refine zp (z7 rfl rfl rfl) (fun hb=>zg rfl fo87x0 yS rfl) (sk (sk vl)) ?_
    refine zp (z7 rfl rfl rfl) (fun hb=>zu rfl ty39 (zn (gk (gk vf)) hb) rfl (zr rfl) (zb rfl)) (sk (sk vk)) ?_
    refine zp (z7 rfl rfl rfl) (fun hb=>zy rfl (zn (gk (gk vt)) hb) rfl rfl) (sk (sk vb)) ?_
    refine zp rfl (fun hb=>zM rfl (zn (gk (gk w5)) hb) (gk (gk wZ)) rfl (zX (fun ht=>gT2 hb ht))) (sk (sk va)) ?_
    refine zc rfl (zM rfl (gk (gk wN)) rfl (gk (gk ve)) (z8 (fun ht=>gF ht))) (sk (sk w9)) ?_
    refine zc rfl (zf rfl (gk (gk wY)) (zb rfl)) (sk (sk vj)) ?_
    refine zp rfl (fun hb=>zg rfl wd yF rfl) (sk (sk vI)) ?_
    refine zp rfl (fun hb=>zu rfl ty5 (zn (gk (gk vM)) hb) rfl (zr rfl) (zb rfl)) (sk (sk vA)) ?_
    refine zp rfl (fun hb=>zy rfl (zn (gk (gk vr)) hb) rfl rfl) (sk (sk (sk st0))) ?_
    refine zp rfl (fun hb=>zf rfl (zn (gk (gk (gk yr))) hb) (zb rfl)) (sk (sk (sk st1))) ?_
    refine zp (z7 rfl rfl rfl) (fun hb=>zg rfl fo87x0 yS rfl) (sk (sk (sk xh))) ?_
    refine zp (z7 rfl rfl rfl) (fun hb=>zu rfl ty39 (zn (gk (gk (gk yV))) hb) rfl (zr rfl) (zb rfl)) (sk (sk (sk wo))) ?_
    refine zp (z7 rfl rfl rfl) (fun hb=>zy rfl (zn (gk (gk (gk xn))) hb) rfl rfl) (sk (sk (sk yB))) ?_
    refine zp (z7 rfl rfl rfl) (fun hb=>zf rfl (zn (gk (gk (gk yz))) hb) (zb rfl)) (sk (sk (sk xz))) ?_
    refine zp (z7 rfl rfl rfl) (fun hb=>zg rfl fo87x0 yS rfl) (sk (sk (sk xE))) ?_
    refine zp (z7 rfl rfl rfl) (fun hb=>zu rfl ty39 (zn (gk (gk (gk yU))) hb) rfl (zr rfl) (zb rfl)) (sk (sk (sk xO))) ?_
    refine zp (z7 rfl rfl rfl) (fun hb=>zy rfl (zn (gk (gk (gk xH))) hb) rfl rfl) (sk (sk (sk xX))) ?_
    refine zp (z7 rfl rfl rfl) (fun hb=>zM rfl (zn (gk (gk (gk yS))) hb) rfl (gk (gk (gk xj))) (z8 (fun ht=>gF2 hb ht))) (sk (sk (sk wB))) ?_
    refine zp rfl (fun hb=>zM rfl (zn (gk (gk (gk yF))) hb) (gk (gk (gk xV))) rfl (zX (fun ht=>gT2 hb ht))) (sk (sk (sk yL))) ?_
    refine zc rfl (zM rfl (gk (gk wX)) rfl (gk (gk (gk yq))) (z8 (fun ht=>gF ht))) (sk (sk (sk yP))) ?_
    refine zc rfl (zf rfl (gk (gk (gk yA))) (zb rfl)) (sk (sk (sk yX))) ?_
    refine zp rfl (fun hb=>zg rfl x4 yF rfl) (sk (sk (sk yW))) ?_
    refine zp rfl (fun hb=>zu rfl ty45 (zn (gk (gk (gk yC))) hb) rfl (zr rfl) (zb rfl)) (sk (sk (sk y5))) ?_
    refine zp rfl (fun hb=>zg rfl fo87x1 yS rfl) (sk (sk (sk y6))) ?_
    refine zp rfl (fun hb=>zu rfl ty44.choose_spec.1 (zn (gk (gk (gk yT))) hb) rfl (zH (cs':=[.int .u8 x2.dot.actor.rep,.int .u32 x2.dot.actor.inc,.int .u64 x2.dot.seq]) ty44.choose_spec.2 rfl rfl) (zb rfl)) (sk (sk (sk xg))) ?_
    refine yN hF (fun v43 hv43 hF=>?_)
    refine yk rfl (fun hb=>zC rfl rfl rfl (zo (zn (gk (gk (gk yY))) hb) (zo (zn (gk (gk (gk xd))) hb) zw)) (.cons (zb rfl) (.cons (zb rfl) .nil))) (fun hb=>ok64 (hv43 hb)) (sk (sk (sk xk))) ?_
    refine zp rfl (fun hb=>zf rfl yz (zb rfl)) (sk (sk (sk xD))) ?_
    refine zp rfl (fun hb=>zy rfl (zn (gk (gk (gk xi))) hb) (zn (gk (gk (gk xB))) hb) rfl) (sk (sk (sk xK))) ?_
    refine zc rfl (zM rfl (gk (gk (gk yM))) rfl (gk (gk (gk xJ))) (z8 (fun ht=>gF ht))) (sk (sk (sk xY))) ?_
    refine zc rfl (zf rfl (gk (gk (gk xZ))) (zb rfl)) (sk (sk (sk x7))) ?_
    refine zp rfl (fun hb=>zg rfl wr yF rfl) (sk (sk (sk wl))) ?_
    refine zp rfl (fun hb=>zu rfl ty46 (zn (gk (gk (gk wi))) hb) rfl (zr rfl) (zb rfl)) (sk (sk (sk x6))) ?_
    refine zp rfl (fun hb=>zg rfl fo87x1 yS rfl) (sk (sk (sk wh))) ?_
    refine zp rfl (fun hb=>zu rfl ty44.choose_spec.1 (zn (gk (gk (gk wc))) hb) rfl (zH (cs':=[.int .u8 x2.dot.actor.rep,.int .u32 x2.dot.actor.inc,.int .u64 x2.dot.seq]) ty44.choose_spec.2 rfl rfl) (zb rfl)) (sk (sk (sk wj))) ?_
    refine yN hF (fun v44 hv44 hF=>?_)
    refine yk rfl (fun hb=>zC rfl rfl rfl (zo (zn (gk (gk (gk xN))) hb) (zo (zn (gk (gk (gk wb))) hb) zw)) (.cons (zb rfl) (.cons (zb rfl) .nil))) (fun hb=>ok65 (hv44 hb)) (sk (sk (sk wF))) ?_
    refine zc rfl (zM rfl (gk (gk (gk x5))) rfl (gk (gk (gk wE))) (z8 (fun ht=>gF ht))) (sk (sk (sk wM))) ?_
    refine ze (zj ?_)
    refine zO (gk (gk (gk wN))) hF (fun hc45 hF=>?_) (fun hc45 hF=>?_)
    ·refine zk (zd ?_)
     refine zc rfl (zi rfl rfl (zb rfl)) xh ?_
     refine ze (zj (zL (zx ?_)))
     refine zF ?_
     refine zx ?_
     refine yd ?_
     obtain rfl:=Option.some.inj hF
     replace hF:=hK2
     refine zF ?_
     refine zx ?_
     obtain rfl:=Option.some.inj hF
     refine zA rfl (zD yV zG) (zz (leV.refl _) rfl ?_)
     exact ⟨rfl,rfl⟩
    ·refine zK (zj (zk ?_))
     refine yI [] [] trivial mixed (by kernel_rfl) ?_
     refine zq rfl rfl (zf rfl yz (zb rfl)) (sk (sk (sk wL))) ?_
     refine zq rfl rfl (zy rfl (gk (gk (gk wH))) rfl rfl) (sk (sk (sk wW))) ?_
     refine zq rfl rfl (zf rfl (gk (gk (gk w6))) (zb rfl)) (sk (sk (sk wV))) ?_
     refine zB rfl rfl (fun hb=>zg rfl x4 yF rfl) (sk (sk (sk wU))) ?_
     refine zB rfl rfl (fun hb=>zu rfl ty45 (zn (gk (gk (gk w5))) hb) rfl (zr rfl) (zb rfl)) (sk (sk (sk vl))) ?_
     refine zB rfl rfl (fun hb=>zf rfl yz (zb rfl)) (sk (sk (sk vk))) ?_
     refine zB rfl rfl (fun hb=>zy rfl (zn (gk (gk (gk vt))) hb) rfl rfl) (sk (sk (sk vb))) ?_
     refine wS hF (fun hg46 hF=>?_)
     refine zB rfl rfl (fun hb=>xT default rfl qj (zn (gk (gk (gk vf))) hb) (zn (gk (gk (gk wZ))) hb) w7 (hg46 hb)) (sk (sk (sk va))) ?_
     refine zB rfl rfl (fun hb=>zg rfl fo87x0 (zn (gk (gk (gk ve))) hb) rfl) (sk (sk (sk w9))) ?_
     refine zB rfl rfl (fun hb=>ye rfl ty39 (zn (gk (gk (gk wY))) hb) (zr rfl) (zb rfl)) (sk (sk (sk vj))) ?_
     refine zB rfl rfl (fun hb=>zg rfl x4 yF rfl) (sk (sk (sk vI))) ?_
     refine zB rfl rfl (fun hb=>zu rfl ty45 (zn (gk (gk (gk vM))) hb) rfl (zr rfl) (zb rfl)) (sk (sk (sk vA))) ?_
     refine zB rfl rfl (fun hb=>zf rfl yz (zb rfl)) (sk (sk (sk (sk st0)))) ?_
     refine zB rfl rfl (fun hb=>zy rfl (zn (gk (gk (gk (gk yr)))) hb) rfl rfl) (sk (sk (sk (sk st1)))) ?_
     refine wS hF (fun hg47 hF=>?_)
     refine zB rfl rfl (fun hb=>xT default rfl qj (zn (gk (gk (gk vr))) hb) (zn (gk (gk (gk (gk yF)))) hb) w7 (hg47 hb)) (sk (sk (sk (sk xh)))) ?_
     refine zB rfl rfl (fun hb=>zg rfl fo87x1 (zn (gk (gk (gk (gk yV)))) hb) rfl) (sk (sk (sk (sk wo)))) ?_
     refine zB rfl rfl (fun hb=>ye rfl ty44.choose_spec.1 (zn (gk (gk (gk (gk xn)))) hb) (zH (cs':=[.int .u8 (((l0.items).getD (IntKind.wrap .i64 ((n2:Int) - (1:Int))).toNat default).dot.actor.rep),.int .u32 (((l0.items).getD (IntKind.wrap .i64 ((n2:Int) - (1:Int))).toNat default).dot.actor.inc),.int .u64 (((l0.items).getD (IntKind.wrap .i64 ((n2:Int) - (1:Int))).toNat default).dot.seq)]) ty44.choose_spec.2 rfl rfl) (zb rfl)) (sk (sk (sk (sk yB)))) ?_
     refine zB rfl rfl (fun hb=>zg rfl fo87x0 yS rfl) (sk (sk (sk (sk xz)))) ?_
     refine zB rfl rfl (fun hb=>zu rfl ty39 (zn (gk (gk (gk (gk yS)))) hb) rfl (zr rfl) (zb rfl)) (sk (sk (sk (sk xE)))) ?_
     refine zB rfl rfl (fun hb=>zg rfl fo87x1 yS rfl) (sk (sk (sk (sk xO)))) ?_
     refine zB rfl rfl (fun hb=>zu rfl ty44.choose_spec.1 (zn (gk (gk (gk (gk xH)))) hb) rfl (zH (cs':=[.int .u8 x2.dot.actor.rep,.int .u32 x2.dot.actor.inc,.int .u64 x2.dot.seq]) ty44.choose_spec.2 rfl rfl) (zb rfl)) (sk (sk (sk (sk xX)))) ?_
     refine yN hF (fun v48 hv48 hF=>?_)
     refine vC rfl rfl (fun hb=>zC rfl rfl rfl (zo (zn (gk (gk (gk wX))) hb) (zo (zn (gk (gk (gk (gk yz)))) hb) (zo (zn (gk (gk (gk (gk yU)))) hb) (zo (zn (gk (gk (gk (gk xj)))) hb) zw)))) (.cons (zb rfl) (.cons (zb rfl) (.cons (zb rfl) (.cons (zb rfl) .nil))))) (fun hb=>ok66 (hv48 hb)) (sk (sk (sk (sk wB)))) ?_
     refine zB rfl rfl (fun hb=>xR rfl (zn (gk (gk (gk (gk xV)))) hb) rfl) (sk (sk (sk (sk yL)))) ?_
     refine zq rfl rfl (zM rfl (gk (gk (gk vg))) (gk (gk (gk (gk yq)))) rfl (zX (fun ht=>gT ht))) (sk (sk (sk (sk yP)))) ?_
     refine ym ?_
     refine zj ?_
     refine zO (gk (gk (gk (gk yA)))) hF (fun hc49 hF=>?_) (fun hc49 hF=>?_)
     ·refine zk (zd ?_)
      refine zc rfl (zi rfl rfl (zb rfl)) xh ?_
      refine ze (zj (zL ?_))
      refine zF ?_
      refine zx ?_
      refine yd ?_
      obtain rfl:=Option.some.inj hF
      replace hF:=hK2
      refine zF ?_
      refine zx ?_
      obtain rfl:=Option.some.inj hF
      refine zA rfl (zD yV zG) (zz (leV.refl _) rfl ?_)
      exact ⟨rfl,rfl⟩
     ·refine zK (yh (zj (zd ?_)))
      refine zc rfl (zf rfl yz (zb rfl)) (sk (sk yL)) ?_
      refine zc rfl (zy rfl (gk (gk yq)) rfl rfl) (sk (sk yP)) ?_
      refine zc rfl (zi rfl (gk (gk yA)) (zb rfl)) yB ?_
      refine ze (yH ?_)
      obtain rfl:=Option.some.inj hF
      exact ⟨(),hl2,hK2,wk.trans (wk.le (by exact (.drop (.eq (.drop (.drop (.cons (leV.of_eq (w8 (by omega) (by omega))) (.d16 (.d16 (.d16 (.d16 (.d16 (.d16 (.d16 (.d16 (.d16 (.d16 (.d16 (.d16 (.d4 (.d4 leL.nil))))))))))))))))))))) (xI (by simp [yi,AV.low]) rfl rfl (by simp [Blk.low,yi,AV.low]))⟩
   ·refine yR ?_
    refine ya ?_
    refine zV ?_
    refine zW ?_
    refine zj (zk (zk (zd ?_)))
    refine zc rfl (zi rfl rfl (zb rfl)) xE ?_
    refine ze (zj (zQ ?_))
    refine yo (fun (n3:Nat) (s3:Unit)=>yO [0,2,3,4,5,7,8,9,10,11,12,13,14,15,16,17,18,19,20,21,22,23,24,25,26,27,28,29,30,31,32,33,34,35,36,37,38,39,40,41,42,43,44,45,46,47,48,49,50,51,52,53,54,55,56,57,58,59,60,61,62,63,64,65,66,67,68,69,70,71,72,73,74,75,76,77,78,79,80,81,82,83,84,85,86,87,88,89,90,91,92,93,94,95,96,97,98,99,100,101,102,103,104,105,106,107,108,109,110,111,112,113,114,115,116,117,118,119,120,121,122,123,124,125,126,127,128,129,130,131,132,133,134,135,136,137,138,139,140,141,142,143,144,145,146,147,148,149,150,151,152,153,154,155,156,157,158,159,160,161,162,163,164,165,166,167,168,169,170,171,172,173,174,175,176,177,178,179,180,181,182,183,184,185,186,187,188,189,190,191,192,193,194,195,196,197,198,199,200,201,202,203,204] [(6,.int .i64 (n3:Int))]) (fun s3=>h.ext [.cells [.int .u8 l0.typ,.int .i64 l0.n,.int .u64 l0.time,.int .u8 l0.dot.actor.rep,.int .u32 l0.dot.actor.inc,.int .u64 l0.dot.seq,.str l0.text,.sl 5 (l0.items.map GItem.row),.sl 3 (l0.tombs.map GDot.row)],.cells [.int .u8 (0:Int),.int .u32 (0:Int),.int .u64 (0:Int)]] []) hF (fun _ _=>by simp only [yO,upd,List.set_cons_succ,List.set_cons_zero];try rfl) (wk.le (by exact (.drop (.eq (.d4 (.cons (leV.of_eq rfl) (.d16 (.d16 (.d16 (.d16 (.d16 (.d16 (.d16 (.d16 (.d16 (.d16 (.d16 (.d16 (.d4 (.drop (.drop leL.nil))))))))))))))))))))) ?_
    intro n3 s3 hi3 hF
    refine zk (zk (zd ?_))
    refine zc rfl (zf rfl yU (zb rfl)) (sk (sk (sk (sk yX)))) ?_
    refine zc rfl (zg rfl wr yF rfl) (sk (sk (sk (sk yW)))) ?_
    refine zc rfl (zu rfl ty46 (gk (gk (gk (gk yC)))) rfl (zr rfl) (zb rfl)) (sk (sk (sk (sk y5)))) ?_
    refine yb rfl (zS rfl rfl rfl rfl el46 (gk (gk (gk (gk yY)))) yc) (sk (sk (sk (sk y6)))) fun hn72=>?_
    replace hn72:=xl hn72
    refine zc rfl (zy rfl (gk (gk (gk (gk yM)))) (gk (gk (gk (gk yT)))) rfl) (sk (sk (sk (sk xg)))) ?_
    refine ze (zj ?_)
    refine yJ (gk (gk (gk (gk xd)))) hF (fun x3 o3 hl3 hx3 hF hK3=>?_) (fun hF=>?_)
    ·refine zK (zj (zk (zQ (zk ?_))))
     refine yI [5] [] trivial mixed (by kernel_rfl) ?_
     refine zq rfl rfl (zg rfl wr yF rfl) (sk (sk (sk (sk xK)))) ?_
     refine zq rfl rfl (zu rfl ty46 (gk (gk (gk (gk xJ)))) rfl (zr rfl) (zb rfl)) (sk (sk (sk (sk xY)))) ?_
     refine zq rfl rfl (zf rfl yU (zb rfl)) (sk (sk (sk (sk x7)))) ?_
     refine zq rfl rfl (yj rfl el46 (gk (gk (gk (gk xZ)))) (gk (gk (gk (gk x5)))) w7 (yK hx3)) (sk (sk (sk (sk wl)))) ?_
     refine zq rfl rfl (ye rfl ty44.choose_spec.1 (gk (gk (gk (gk wi)))) (zH (cs':=[.int .u8 x3.actor.rep,.int .u32 x3.actor.inc,.int .u64 x3.seq]) ty44.choose_spec.2 rfl rfl) (zb rfl)) (sk (sk (sk (sk x6)))) ?_
     refine zR hF (fun v73 hv73 hF=>?_)
     refine yu rfl rfl (fun _=>zC rfl rfl rfl (zo (gk (gk (gk (gk xN)))) zw) (.cons (zb rfl) .nil)) (by rintro _ ⟨B2,T2,rfl,hk2⟩;exact ok63 hv73) (sk (sk (sk (sk wh)))) ?_
     refine zq rfl rfl (xR rfl (gk (gk (gk (gk wc)))) rfl) (sk (sk (sk (sk wj)))) ?_
     refine zq rfl rfl (zf rfl (gk (gk (gk (gk wb)))) (zb rfl)) (sk (sk (sk (sk wF)))) ?_
     refine zB rfl rfl (fun hb=>zf rfl yU (zb rfl)) (sk (sk (sk (sk wM)))) ?_
     refine zB rfl rfl (fun hb=>zy rfl (zn (gk (gk (gk (gk wN)))) hb) rfl rfl) (sk (sk (sk (sk wL)))) ?_
     refine zB rfl rfl (fun hb=>zf rfl (zn (gk (gk (gk (gk wH)))) hb) (zb rfl)) (sk (sk (sk (sk wW)))) ?_
     refine zB rfl (z7 rfl rfl rfl) (fun hb=>zg rfl wr yF rfl) (sk (sk (sk (sk wV)))) ?_
     refine zB rfl (z7 rfl rfl rfl) (fun hb=>zu rfl ty46 (zn (gk (gk (gk (gk vg)))) hb) rfl (zr rfl) (zb rfl)) (sk (sk (sk (sk wU)))) ?_
     refine zB rfl (z7 rfl rfl rfl) (fun hb=>zf rfl yU (zb rfl)) (sk (sk (sk (sk vl)))) ?_
     refine zB rfl (z7 rfl rfl rfl) (fun hb=>zy rfl (zn (gk (gk (gk (gk vf)))) hb) rfl rfl) (sk (sk (sk (sk vk)))) ?_
     refine wS hF (fun hg74 hF=>?_)
     refine zB rfl (z7 rfl rfl rfl) (fun hb=>xT default rfl el46 (zn (gk (gk (gk (gk w5)))) hb) (zn (gk (gk (gk (gk vt)))) hb) w7 (hg74 hb)) (sk (sk (sk (sk vb)))) ?_
     refine zB rfl (z7 rfl rfl rfl) (fun hb=>ye rfl ty44.choose_spec.1 (zn (gk (gk (gk (gk wZ)))) hb) (zH (cs':=[.int .u8 (((l0.tombs).getD (IntKind.wrap .i64 ((n3:Int) - (1:Int))).toNat default).actor.rep),.int .u32 (((l0.tombs).getD (IntKind.wrap .i64 ((n3:Int) - (1:Int))).toNat default).actor.inc),.int .u64 (((l0.tombs).getD (IntKind.wrap .i64 ((n3:Int) - (1:Int))).toNat default).seq)]) ty44.choose_spec.2 rfl rfl) (zb rfl)) (sk (sk (sk (sk va)))) ?_
     refine zB rfl (z7 rfl rfl rfl) (fun hb=>zg rfl wr yF rfl) (sk (sk (sk (sk w9)))) ?_
     refine zB rfl (z7 rfl rfl rfl) (fun hb=>zu rfl ty46 (zn (gk (gk (gk (gk wY)))) hb) rfl (zr rfl) (zb rfl)) (sk (sk (sk (sk vj)))) ?_
     refine zB rfl (z7 rfl rfl rfl) (fun hb=>zf rfl yU (zb rfl)) (sk (sk (sk (sk vI)))) ?_
     refine wS hF (fun hg75 hF=>?_)
     refine zB rfl (z7 rfl rfl rfl) (fun hb=>xT default rfl el46 (zn (gk (gk (gk (gk wX)))) hb) (zn (gk (gk (gk (gk vM)))) hb) w7 (hg75 hb)) (sk (sk (sk (sk vA)))) ?_
     refine zB rfl (z7 rfl rfl rfl) (fun hb=>ye rfl ty44.choose_spec.1 (zn (gk (gk (gk (gk vr)))) hb) (zH (cs':=[.int .u8 (((l0.tombs).getD (n3:Int).toNat default).actor.rep),.int .u32 (((l0.tombs).getD (n3:Int).toNat default).actor.inc),.int .u64 (((l0.tombs).getD (n3:Int).toNat default).seq)]) ty44.choose_spec.2 rfl rfl) (zb rfl)) (sk (sk (sk (sk (sk st0))))) ?_
     refine yN hF (fun v76 hv76 hF=>?_)
     refine vC rfl (z7 rfl rfl rfl) (fun hb=>zC rfl rfl rfl (zo (zn (gk (gk (gk (gk ve)))) hb) (zo (zn (gk (gk (gk (gk (gk yr))))) hb) zw)) (.cons (zb rfl) (.cons (zb rfl) .nil))) (fun hb=>ok67 (hv76 hb)) (sk (sk (sk (sk (sk st1))))) ?_
     refine zB rfl (z7 rfl rfl rfl) (fun hb=>xR rfl (zn (gk (gk (gk (gk (gk yF))))) hb) rfl) (sk (sk (sk (sk (sk xh))))) ?_
     refine zB rfl rfl (fun hb=>zM rfl (zn (gk (gk (gk (gk w6)))) hb) (gk (gk (gk (gk (gk yV))))) rfl (zX (fun ht=>gT2 hb ht))) (sk (sk (sk (sk (sk wo))))) ?_
     refine zq rfl rfl (zM rfl (gk (gk (gk (gk wE)))) rfl (gk (gk (gk (gk (gk xn))))) (z8 (fun ht=>gF ht))) (sk (sk (sk (sk (sk yB))))) ?_
     refine ym ?_
     refine zj ?_
     refine zO (gk (gk (gk (gk (gk yz))))) hF (fun hc77 hF=>?_) (fun hc77 hF=>?_)
     ·refine zk (zd ?_)
      refine zc rfl (zi rfl rfl (zb rfl)) xh ?_
      refine ze (zj (zL ?_))
      refine zF ?_
      refine zx ?_
      refine yd ?_
      obtain rfl:=Option.some.inj hF
      replace hF:=hK3
      refine zF ?_
      refine zx ?_
      obtain rfl:=Option.some.inj hF
      refine zA rfl (zD yV zG) (zz (leV.refl _) rfl ?_)
      exact ⟨rfl,rfl⟩
     ·refine zK (yh (zj (zd ?_)))
      refine zc rfl (zf rfl yU (zb rfl)) (sk (sk (sk (sk xk)))) ?_
      refine zc rfl (zy rfl (gk (gk (gk (gk xi)))) rfl rfl) (sk (sk (sk (sk xD)))) ?_
      refine zc rfl (zi rfl (gk (gk (gk (gk xB)))) (zb rfl)) xE ?_
      refine ze (yH ?_)
      obtain rfl:=Option.some.inj hF
      exact ⟨(),hl3,hK3,wk.le (by exact (.drop (.eq (.d4 (.cons (leV.of_eq (w8 (by omega) (by omega))) (.d16 (.d16 (.d16 (.d16 (.d16 (.d16 (.d16 (.d16 (.d16 (.d16 (.d16 (.d16 (.d4 (.drop (.drop leL.nil))))))))))))))))))))⟩
    ·refine yR ?_
     refine ya ?_
     refine zV ?_
     refine zW ?_
     refine zj (zk (zd ?_))
     refine zc rfl (zi rfl rfl (zb rfl)) xh ?_
     refine ze (zj (zL ?_))
     obtain rfl:=Option.some.inj hF
     refine zA rfl (zD yV zG) (zz (leV.refl _) rfl ?_)
     exact ⟨rfl,rfl⟩
/-! varve/varveref07.may -/
theorem ok14N (n:Nat):∀ {t0:(List GNode)} {deep1:Int} {res:Bool} {h:AH} , ql n t0 deep1=some res→Spec Tryz.prog 14 [.sl 3 (t0.map GNode.row),.int .i64 deep1] h (fun rr hh=>rr=.bool res∧hh=h):=by
 induction n with
 | zero=>intro t0 deep1 res h  hF;simp [ql] at hF
 | succ n ih =>
  intro t0 deep1 res h  hF
  unfold ql at hF
  refine zt Tryz.func14 rfl (by kernel_rfl) (env:=[.sl 3 (t0.map GNode.row),.int .i64 deep1,za,za,za,za,za,za,za,za,za,za,za,za,za,za,za,za,za,za,za,za,za,za,za,za,za,za,za,za,za,za,za,za,za,za,za,za,za,za,za,za,za,za,za,za,za,za,za,za,za,za,za,za,za,za,za,za,za,za,za,za,za,za,za,za,za,za,za,za,za,za,za,za,za,za,za,za,za,za,za,za,za,za,za,za,za,za,za,za,za,za,za,za,za]) (by rfl) ?_
  refine zk (zd ?_)
  refine zc rfl (zi rfl rfl (zb rfl)) yB ?_
  refine ze (zj (zk (zk (zd ?_))))
  refine zc rfl (zi rfl rfl (zb rfl)) xz ?_
  refine ze (zj (zQ ?_))
  refine yo (fun (n1:Nat) (s1:Unit)=>yO [2,3,4,6,7,8,9,10,11,12,13,14,15,16,17,18,19,20,21,22,23,24,25,26,27,28,29,30,31,32,33,34,35,36,37,38,39,40,41,42,43,44,45,46,47,48,49,50,51,52,53,54,55,56,57,58,59,60,61,62,63,64,65,66,67,68,69,70,71,72,73,74,75,76,77,78,79,80,81,82,83,84,85,86,87,88,89,90,91,92,93,94] [(5,.int .i64 (n1:Int))]) (fun s1=>h.ext [] []) hF (fun _ _=>by simp only [yO,upd,List.set_cons_succ,List.set_cons_zero];try rfl) (wk.le (by exact (.eq (.eq (.drop (.drop (.drop (.cons (leV.of_eq rfl) (.d16 (.d16 (.d16 (.d16 (.d16 (.d4 (.d4 (.drop leL.nil)))))))))))))))) ?_
  intro n1 s1 hi1 hF
  refine zk (zk (zd ?_))
  refine zc rfl (zf rfl yS (zb rfl)) xX ?_
  refine zc rfl (zf rfl yr (zb rfl)) wB ?_
  refine yb rfl (zS rfl rfl rfl rfl xC xV yc) yL fun hn30=>?_
  replace hn30:=xl hn30
  refine zc rfl (zy rfl xj yq rfl) yP ?_
  refine ze (zj ?_)
  refine yJ yA hF (fun x1 o1 hl1 hx1 hF hK1=>?_) (fun hF=>?_)
  ·refine zK (zj (zk (zQ (zk (zd ?_)))))
   refine zc rfl (zf rfl yr (zb rfl)) y5 ?_
   refine zc rfl (zf rfl yS (zb rfl)) y6 ?_
   refine zc rfl (xS rfl xC yY yT w7 (yK hx1) (GNode.row_eq _)) xg ?_
   refine zc rfl (ye rfl ty51.choose_spec.1 xd (zH (cs':=[.str x1.name,.sl 9 (x1.leaves.map GLeaf.row),.sl 3 (x1.subs.map GNode.row)]) ty51.choose_spec.2 rfl rfl) (zb rfl)) xk ?_
   refine zc rfl (y4 (n:=0) rfl ze51 rfl) xE ?_
   refine zc rfl (yg (cs':=[.str x1.name,.sl 9 (x1.leaves.map GLeaf.row),.sl 3 (x1.subs.map GNode.row)]) rfl ty51.choose_spec.1 yU xi (zb rfl) rfl rfl rfl rfl rfl) rfl ?_
   refine ze (zj (zk (zk ?_)))
   refine yI [] [] trivial mixed (by kernel_rfl) ?_
   refine zq rfl rfl (zf rfl yF (zb rfl)) xD ?_
   refine zq rfl rfl (zy rfl xB rfl rfl) xK ?_
   refine zq rfl rfl (zf rfl xJ (zb rfl)) xY ?_
   refine zB rfl rfl (fun hb=>zg rfl fo51x0 yU rfl) x7 ?_
   refine zB rfl rfl (fun hb=>zu rfl ty9 (zn x5 hb) rfl (zr rfl) (zb rfl)) wl ?_
   refine yN hF (fun v31 hv31 hF=>?_)
   refine vC rfl rfl (fun hb=>zC rfl rfl rfl (zo (zn wi hb) zw) (.cons (zb rfl) .nil)) (fun hb=>ok29 (hv31 hb)) x6 ?_
   refine zB rfl rfl (fun hb=>xR rfl (zn xN hb) rfl) wh ?_
   refine zq rfl rfl (zM rfl xZ rfl wc (z8 (fun ht=>gF ht))) wj ?_
   refine zq rfl rfl (zf rfl wb (zb rfl)) wF ?_
   refine zB rfl rfl (fun hb=>zf rfl yS (zb rfl)) wM ?_
   refine zB rfl rfl (fun hb=>zy rfl (zn wN hb) rfl rfl) wL ?_
   refine zB rfl rfl (fun hb=>zf rfl (zn wH hb) (zb rfl)) wW ?_
   refine zB rfl (z7 rfl rfl rfl) (fun hb=>zf rfl yr (zb rfl)) wV ?_
   refine zB rfl (z7 rfl rfl rfl) (fun hb=>zf rfl yS (zb rfl)) wU ?_
   refine zB rfl (z7 rfl rfl rfl) (fun hb=>zy rfl (zn w5 hb) rfl rfl) vl ?_
   refine wS hF (fun hg32 hF=>?_)
   refine zB rfl (z7 rfl rfl rfl) (fun hb=>qU default rfl xC (zn vg hb) (zn vf hb) w7 (hg32 hb) (GNode.row_eq _)) vk ?_
   refine zB rfl (z7 rfl rfl rfl) (fun hb=>zg rfl fo51x0 (zn vt hb) rfl) vb ?_
   refine zB rfl (z7 rfl rfl rfl) (fun hb=>ye rfl ty9 (zn wZ hb) (zr rfl) (zb rfl)) va ?_
   refine zB rfl (z7 rfl rfl rfl) (fun hb=>zg rfl fo51x0 yU rfl) w9 ?_
   refine zB rfl (z7 rfl rfl rfl) (fun hb=>zu rfl ty9 (zn wY hb) rfl (zr rfl) (zb rfl)) vj ?_
   refine zB rfl (z7 rfl rfl rfl) (fun hb=>zy rfl (zn ve hb) (zn wX hb) rfl) vI ?_
   refine zB rfl rfl (fun hb=>zM rfl (zn w6 hb) vM rfl (zX (fun ht=>gT2 hb ht))) vA ?_
   refine zq rfl rfl (zM rfl wE rfl vr (z8 (fun ht=>gF ht))) (sk st0) ?_
   refine zq rfl rfl (zf rfl (gk yr) (zb rfl)) (sk st1) ?_
   refine zB rfl rfl (fun hb=>zg rfl wm yU rfl) (sk xh) ?_
   refine zB rfl rfl (fun hb=>zu rfl ty49 (zn (gk yV) hb) rfl (zr rfl) (zb rfl)) (sk wo) ?_
   refine draw_glen rfl rfl (fun hb=>zS rfl rfl rfl rfl wu (zn (gk xn) hb) yc) (sk yB) ?_
   refine zB rfl rfl (fun hb=>zy rfl (zn (gk yz) hb) rfl rfl) (sk xz) ?_
   refine zB rfl rfl (fun hb=>zf rfl (zn (gk yS) hb) (zb rfl)) (sk xE) ?_
   refine zB rfl (z7 rfl rfl rfl) (fun hb=>zg rfl fo51x2 yU rfl) (sk xO) ?_
   refine zB rfl (z7 rfl rfl rfl) (fun hb=>zu rfl ty23 (zn (gk xH) hb) rfl (zr rfl) (zb rfl)) (sk xX) ?_
   refine draw_glen rfl (z7 rfl rfl rfl) (fun hb=>zS rfl rfl rfl rfl xC (zn (gk xj) hb) yc) (sk wB) ?_
   refine zB rfl (z7 rfl rfl rfl) (fun hb=>zy rfl (zn (gk xV) hb) rfl rfl) (sk yL) ?_
   refine zB rfl rfl (fun hb=>zM rfl (zn (gk yU) hb) (gk yq) rfl (zX (fun ht=>gT2 hb ht))) (sk yP) ?_
   refine zq rfl rfl (zM rfl (gk yF) rfl (gk yA) (z8 (fun ht=>gF ht))) (sk yX) ?_
   refine zq rfl rfl (zf rfl (gk yM) (zb rfl)) (sk yW) ?_
   refine zB rfl rfl (fun hb=>zg rfl fo51x2 yU rfl) (sk y5) ?_
   refine zB rfl rfl (fun hb=>zu rfl ty23 (zn (gk yY) hb) rfl (zr rfl) (zb rfl)) (sk y6) ?_
   refine zB rfl rfl (fun hb=>zf rfl yF (zb rfl)) (sk xg) ?_
   refine zB rfl rfl (fun hb=>zy rfl (zn (gk xd) hb) rfl rfl) (sk xk) ?_
   refine yN hF (fun v35 hv35 hF=>?_)
   refine vC rfl rfl (fun hb=>zC rfl rfl rfl (zo (zn (gk yT) hb) (zo (zn (gk xi) hb) zw)) (.cons (zb rfl) (.cons (zb rfl) .nil))) (fun hb=>ih (hv35 hb)) (sk xD) ?_
   refine zB rfl rfl (fun hb=>xR rfl (zn (gk xB) hb) rfl) (sk xK) ?_
   refine zq rfl rfl (zM rfl (gk yC) rfl (gk xJ) (z8 (fun ht=>gF ht))) (sk xY) ?_
   refine ym ?_
   refine zj ?_
   refine zO (gk xZ) hF (fun hc36 hF=>?_) (fun hc36 hF=>?_)
   ·refine zk (zd ?_)
    refine zc rfl (zi rfl rfl (zb rfl)) yB ?_
    refine ze (zj (zL (zx ?_)))
    refine zF ?_
    refine zx ?_
    refine yd ?_
    obtain rfl:=Option.some.inj hF
    replace hF:=hK1
    refine zF ?_
    refine zx ?_
    obtain rfl:=Option.some.inj hF
    refine zA rfl (zD yz zG) (zz (leV.refl _) rfl ?_)
    exact ⟨rfl,rfl⟩
   ·refine zK (zj (zk (zd ?_)))
    refine zc rfl (zi rfl rfl (zb rfl)) xO ?_
    refine ze (zj (zQ ?_))
    refine yo (fun (n2:Nat) (s2:Unit)=>yO [2,3,4,8,9,10,11,12,13,14,15,16,17,18,19,20,21,22,23,24,25,26,27,28,29,30,31,32,33,34,35,36,37,38,39,40,41,42,43,44,45,46,47,48,49,50,51,52,53,54,55,56,57,58,59,60,61,62,63,64,65,66,67,68,69,70,71,72,73,74,75,76,77,78,79,80,81,82,83,84,85,86,87,88,89,90,91,92,93,94] [(7,.int .i64 (n2:Int))]) (fun s2=>h.ext [.cells [.str x1.name,.sl 9 (x1.leaves.map GLeaf.row),.sl 3 (x1.subs.map GNode.row)]] []) hF (fun _ _=>by simp only [yO,upd,List.set_cons_succ,List.set_cons_zero];try rfl) (wk.le (by exact (.eq (.eq (.drop (.drop (.drop (.eq (.eq (.cons (leV.of_eq rfl) (.d16 (.d16 (.d16 (.d16 (.d16 (.d4 (.drop (.drop (.drop leL.nil))))))))))))))))))) ?_
    intro n2 s2 hi2 hF
    refine zk (zk (zd ?_))
    refine zc rfl (zf rfl xH (zb rfl)) (sk x7) ?_
    refine zc rfl (zg rfl wm yU rfl) (sk wl) ?_
    refine zc rfl (zu rfl ty49 (gk wi) rfl (zr rfl) (zb rfl)) (sk x6) ?_
    refine yb rfl (zS rfl rfl rfl rfl wu (gk xN) yc) (sk wh) fun hn49=>?_
    replace hn49:=xl hn49
    refine zc rfl (zy rfl (gk x5) (gk wc) rfl) (sk wj) ?_
    refine ze (zj ?_)
    refine yJ (gk wb) hF (fun x2 o2 hl2 hx2 hF hK2=>?_) (fun hF=>?_)
    ·refine zK (zj (zk (zQ (zk ?_))))
     refine yI [5] [] trivial mixed (by kernel_rfl) ?_
     refine zq rfl rfl (zg rfl wm yU rfl) (sk wL) ?_
     refine zq rfl rfl (zu rfl ty49 (gk wH) rfl (zr rfl) (zb rfl)) (sk wW) ?_
     refine zq rfl rfl (zf rfl xH (zb rfl)) (sk wV) ?_
     refine zq rfl rfl (yj rfl wu (gk w6) (gk vg) w7 (yK hx2)) (sk wU) ?_
     refine zq rfl rfl (ye rfl ty48.choose_spec.1 (gk w5) (zH (cs':=[.int .u8 x2.typ,.int .i64 x2.n,.int .u64 x2.time,.int .u8 x2.dot.actor.rep,.int .u32 x2.dot.actor.inc,.int .u64 x2.dot.seq,.str x2.text,.sl 5 (x2.items.map GItem.row),.sl 3 (x2.tombs.map GDot.row)]) ty48.choose_spec.2 rfl rfl) (zb rfl)) (sk vl) ?_
     refine zR hF (fun v50 hv50 hF=>?_)
     refine yu rfl rfl (fun _=>zC rfl rfl rfl (zo (gk vf) zw) (.cons (zb rfl) .nil)) (by rintro _ ⟨B2,T2,rfl,hk2⟩;exact ok30 hv50) (sk vk) ?_
     refine zq rfl rfl (xR rfl (gk vt) rfl) (sk vb) ?_
     refine zq rfl rfl (zf rfl (gk wZ) (zb rfl)) (sk va) ?_
     refine zB rfl rfl (fun hb=>zf rfl xH (zb rfl)) (sk w9) ?_
     refine zB rfl rfl (fun hb=>zy rfl (zn (gk wY) hb) rfl rfl) (sk vj) ?_
     refine zB rfl rfl (fun hb=>zf rfl (zn (gk wX) hb) (zb rfl)) (sk vI) ?_
     refine zB rfl (z7 rfl rfl rfl) (fun hb=>zg rfl wm yU rfl) (sk vA) ?_
     refine zB rfl (z7 rfl rfl rfl) (fun hb=>zu rfl ty49 (zn (gk vr) hb) rfl (zr rfl) (zb rfl)) (sk (sk st0)) ?_
     refine zB rfl (z7 rfl rfl rfl) (fun hb=>zf rfl xH (zb rfl)) (sk (sk st1)) ?_
     refine zB rfl (z7 rfl rfl rfl) (fun hb=>zy rfl (zn (gk (gk yF)) hb) rfl rfl) (sk (sk xh)) ?_
     refine wS hF (fun hg51 hF=>?_)
     refine zB rfl (z7 rfl rfl rfl) (fun hb=>xT default rfl wu (zn (gk (gk yr)) hb) (zn (gk (gk yV)) hb) w7 (hg51 hb)) (sk (sk wo)) ?_
     refine zB rfl (z7 rfl rfl rfl) (fun hb=>zg rfl wd (zn (gk (gk xn)) hb) rfl) (sk (sk yB)) ?_
     refine zB rfl (z7 rfl rfl rfl) (fun hb=>ye rfl ty5 (zn (gk (gk yz)) hb) (zr rfl) (zb rfl)) (sk (sk xz)) ?_
     refine zB rfl (z7 rfl rfl rfl) (fun hb=>zg rfl wm yU rfl) (sk (sk xE)) ?_
     refine zB rfl (z7 rfl rfl rfl) (fun hb=>zu rfl ty49 (zn (gk (gk yU)) hb) rfl (zr rfl) (zb rfl)) (sk (sk xO)) ?_
     refine zB rfl (z7 rfl rfl rfl) (fun hb=>zf rfl xH (zb rfl)) (sk (sk xX)) ?_
     refine wS hF (fun hg52 hF=>?_)
     refine zB rfl (z7 rfl rfl rfl) (fun hb=>xT default rfl wu (zn (gk (gk xH)) hb) (zn (gk (gk xj)) hb) w7 (hg52 hb)) (sk (sk wB)) ?_
     refine zB rfl (z7 rfl rfl rfl) (fun hb=>zg rfl wd (zn (gk (gk xV)) hb) rfl) (sk (sk yL)) ?_
     refine zB rfl (z7 rfl rfl rfl) (fun hb=>ye rfl ty5 (zn (gk (gk yq)) hb) (zr rfl) (zb rfl)) (sk (sk yP)) ?_
     refine zB rfl (z7 rfl rfl rfl) (fun hb=>zy rfl (zn (gk (gk yS)) hb) (zn (gk (gk yA)) hb) rfl) (sk (sk yX)) ?_
     refine zB rfl rfl (fun hb=>zM rfl (zn (gk vM) hb) (gk (gk yM)) rfl (zX (fun ht=>gT2 hb ht))) (sk (sk yW)) ?_
     refine zq rfl rfl (zM rfl (gk ve) rfl (gk (gk yC)) (z8 (fun ht=>gF ht))) (sk (sk y5)) ?_
     refine ym ?_
     refine zj ?_
     refine zO (gk (gk yY)) hF (fun hc53 hF=>?_) (fun hc53 hF=>?_)
     ·refine zk (zd ?_)
      refine zc rfl (zi rfl rfl (zb rfl)) yB ?_
      refine ze (zj (zL ?_))
      refine zF ?_
      refine zx ?_
      refine yd ?_
      obtain rfl:=Option.some.inj hF
      replace hF:=hK2
      refine zF ?_
      refine zF ?_
      refine zx ?_
      refine yd ?_
      obtain rfl:=Option.some.inj hF
      replace hF:=hK1
      refine zF ?_
      refine zx ?_
      obtain rfl:=Option.some.inj hF
      refine zA rfl (zD yz zG) (zz (leV.refl _) rfl ?_)
      exact ⟨rfl,rfl⟩
     ·refine zK (yh (zj (zd ?_)))
      refine zc rfl (zf rfl xH (zb rfl)) (sk wF) ?_
      refine zc rfl (zy rfl (gk wE) rfl rfl) (sk wM) ?_
      refine zc rfl (zi rfl (gk wN) (zb rfl)) xO ?_
      refine ze (yH ?_)
      obtain rfl:=Option.some.inj hF
      exact ⟨(),hl2,hK2,wk.le (by exact (.eq (.eq (.drop (.drop (.drop (.eq (.eq (.cons (leV.of_eq (w8 (by omega) (by omega))) (.d16 (.d16 (.d16 (.d16 (.d16 (.d4 (.drop (.drop (.drop leL.nil))))))))))))))))))⟩
    ·refine yR ?_
     refine ya ?_
     refine zV ?_
     refine zW ?_
     refine yh (zj (zd ?_))
     refine zc rfl (zf rfl yS (zb rfl)) yX ?_
     refine zc rfl (zy rfl yM rfl rfl) yW ?_
     refine zc rfl (zi rfl yC (zb rfl)) xz ?_
     refine ze (yH ?_)
     obtain rfl:=Option.some.inj hF
     exact ⟨(),hl1,hK1,wk.trans (wk.le (by exact (.eq (.eq (.drop (.drop (.drop (.cons (leV.of_eq (w8 (by omega) (by omega))) (.d16 (.d16 (.d16 (.d16 (.d16 (.d4 (.d4 (.drop leL.nil)))))))))))))))) (xI (by simp [yi,AV.low]) rfl rfl (by simp [Blk.low,yi,AV.low]))⟩
  ·refine yR ?_
   refine ya ?_
   refine zV ?_
   refine zW ?_
   refine zj (zk (zd ?_))
   refine zc rfl (zi rfl rfl (zb rfl)) yB ?_
   refine ze (zj (zL ?_))
   obtain rfl:=Option.some.inj hF
   refine zA rfl (zD yz zG) (zz (leV.refl _) rfl ?_)
   exact ⟨rfl,rfl⟩
theorem ok14 {t0:(List GNode)} {deep1:Int} {res:Bool} {h:AH}  (hF:ref07Xmay t0 deep1=some res):Spec Tryz.prog 14 [.sl 3 (t0.map GNode.row),.int .i64 deep1] h (fun rr hh=>rr=.bool res∧hh=h):=by
 obtain ⟨n,hn⟩:=anyN_is hF
 exact ok14N n  hn
/-! varve/varveref07.May -/
theorem ok5 {t0:(List GNode)} {res:Bool} {h:AH}  (hF:ref07May t0=some res):Spec Tryz.prog 5 [.sl 3 (t0.map GNode.row)] h (fun rr hh=>rr=.bool res∧hh=h):=by
 unfold ref07May at hF
 refine zt Tryz.func5 rfl (by kernel_rfl) (env:=[.sl 3 (t0.map GNode.row),za,za,za,za]) (by rfl) ?_
 refine zk (zd ?_)
 refine zc rfl (zi rfl rfl (zb rfl)) xh ?_
 refine ze (zj (zk (zd ?_)))
 refine zc rfl (zf rfl yr (zb rfl)) wo ?_
 refine zR hF (fun v1 hv1 hF=>?_)
 refine zN rfl (zC rfl rfl rfl (zo xn (zo rfl zw)) (.cons (zb rfl) (.cons (zb rfl) .nil))) (ok14 hv1) yB ?_
 refine zc rfl (zi rfl yz (zb rfl)) xh ?_
 refine ze (zj (zL ?_))
 obtain rfl:=Option.some.inj hF
 refine zA rfl (zD yV zG) (zz (leV.refl _) rfl ?_)
 exact ⟨rfl,rfl⟩
/-! slices.AppendSeq[[]varve/api.Row,varve/api.Row] -/
theorem ok70 {s0:(List GRow)} {seq1:(S:Type)→(S→GRow→Option (Bool×S))→S→Option S} {fseq1:FuncId} {aseq1 kseq1:List AV} {res:(List GRow)} {h:AH} (hseq1:∀ (S:Type) (Hy:S→AH) (nb nt:Nat),(∀ s,(Hy s).blks.length=nb)→(∀ s,(Hy s).toks.length=nt)→(∀ s,(Hy s).closed nb nt)→(∀ s,∃ L M,Hy s=h.ext L M)→∀ (y:S→GRow→Option (Bool×S)) (idy:Nat),idy < nb→(∀ s x b s' L M,y s x=some (b,s')→SpecY Tryz.prog idy [.agg [.sl 1 (x.path.map zP),.int .u8 x.leaf.typ,.int .i64 x.leaf.n,.int .u64 x.leaf.time,.int .u8 x.leaf.dot.actor.rep,.int .u32 x.leaf.dot.actor.inc,.int .u64 x.leaf.dot.seq,.str x.leaf.text,.sl 5 (x.leaf.items.map GItem.row),.sl 3 (x.leaf.tombs.map GDot.row)]] ((Hy s).ext L M) (fun rr hh=>rr=.bool b∧hh=(Hy s').ext L M))→∀ s s',seq1 S y s=some s'→Spec Tryz.prog fseq1 (aseq1++[.yld idy]++kseq1) (Hy s) (fun rr hh=>rr=.tup []∧hh=Hy s')) (hF:vV s0 seq1=some res):Spec Tryz.prog 70 [.osl none 10 (s0.map GRow.row),.fn (.func fseq1) aseq1 kseq1] h (fun rr hh=>rr=.sl 10 (res.map GRow.row)∧hh=h):=by
 unfold vV at hF
 refine yG Tryz.func70 rfl (by kernel_rfl) (env:=[.osl none 10 (s0.map GRow.row),.fn (.func fseq1) aseq1 kseq1,za,za,za,za,za,za,za,za,za,za,za]) (by rfl) (fun hlow hC=>?_)
 simp only [yi,AV.low,Bool.and_eq_true,Bool.true_and,and_true] at hlow
 have hlaseq1:∀ n m,h.blks.length≤n→h.toks.length≤m→yi n m aseq1=true:=fun n m h1 h2=>y8 h1 h2 _ (by simp [hlow])
 have hlkseq1:∀ n m,h.blks.length≤n→h.toks.length≤m→yi n m kseq1=true:=fun n m h1 h2=>y8 h1 h2 _ (by simp [hlow])
 refine zk (zd ?_)
 refine zc rfl (xw (n:=0) rfl yr (zb rfl) rfl rfl) xh ?_
 refine zc rfl (zi rfl rfl (xy el56)) yB ?_
 refine ze (zj (zk (zk (zd ?_))))
 refine zc rfl (zf rfl yF (zb rfl)) xE ?_
 refine ze (zj (zQ ?_))
 refine r_range (fun (s1:(List GRow))=>h) (fun (s1:(List GRow))=>[.cells [.osl (some (h.toks.length+0)) 10 (s1.map GRow.row)]]) (fun (s1:(List GRow))=>[(s1).length]) s0 hF (wk.trans (wk_tokB (j:=0) rfl yr rfl st0 rfl rfl) (wk.le (by exact (.drop (.drop (.eq (.drop (.drop (.drop (.eq (.d4 (.drop (.drop leL.nil))))))))))))) (fun _=>rfl) rfl rfl rfl (fun _=>rfl) rfl yU rfl (fun lp1 hlp1 r1 hr1q=>?_) (fun s1 H1 hH hF=>?_) (fun j1 s1 H1 hH hF=>?_)
 ·have hlowlp1:∀ q1 q2,(lp1 q1 q2).low (h.blks.length+2) (h.toks.length+1)=true:=by intro q1 q2;rw [hlp1];simp [Blk.low,yi,AV.low,hlaseq1,hlkseq1]
  refine Spec.mono (hseq1 _ (fam (fun (s1:(List GRow))=>h) (fun (s1:(List GRow))=>[.cells [.osl (some (h.toks.length+0)) 10 (s1.map GRow.row)]]) (fun (s1:(List GRow))=>[(s1).length]) lp1) (h.blks.length+2) (h.toks.length+1) (fun _=>by simp only [fam];rw [ext_len rfl];rfl) (fun _=>by simp only [fam];rw [ext_tlen rfl];rfl) (fun _=>closed_ext hC (Nat.le_add_right _ _) (Nat.le_add_right _ _) (by simp only [List.all_append,List.all_cons,List.all_nil,Bool.and_true,List.length_cons,List.length_nil,Nat.reduceAdd,Nat.zero_add,hlowlp1] <;> simp [Blk.low,yi,AV.low,hlaseq1,hlkseq1])) (fun _=>⟨_,_,rfl⟩) _ _ (Nat.lt_succ_self _) (y_body hlp1 (xs:=fun (x:GRow)=>[.agg [.sl 1 (x.path.map zP),.int .u8 x.leaf.typ,.int .i64 x.leaf.n,.int .u64 x.leaf.time,.int .u8 x.leaf.dot.actor.rep,.int .u32 x.leaf.dot.actor.inc,.int .u64 x.leaf.dot.seq,.str x.leaf.text,.sl 5 (x.leaf.items.map GItem.row),.sl 3 (x.leaf.tombs.map GDot.row)]]) (fun _=>rfl) (fun _=>rfl) rfl (fun _=>rfl) (fun _=>by simp only [setL,List.set_cons_succ,List.set_cons_zero];try rfl) (fun s1 x1 o1 L1 M1 H1 hH hF=>?_)) _ _ hr1q) (fun _ _ h=>h.2)
  obtain rfl:H1=((h.ext ([.cells [.osl (some (h.toks.length+0)) 10 (s1.map GRow.row)]]++[lp1 .ready none]) [(s1).length]).ext L1 M1).ext [] []:=hH
  refine zd ?_
  refine zc rfl (n_alloc (deep_len rfl rfl) (n:=0) rfl ze59 rfl) xz ?_
  refine zc rfl (n_store (deep_len rfl rfl) (cs':=[.sl 1 (x1.path.map zP),.int .u8 x1.leaf.typ,.int .i64 x1.leaf.n,.int .u64 x1.leaf.time,.int .u8 x1.leaf.dot.actor.rep,.int .u32 x1.leaf.dot.actor.inc,.int .u64 x1.leaf.dot.seq,.str x1.leaf.text,.sl 5 (x1.leaf.items.map GItem.row),.sl 3 (x1.leaf.tombs.map GDot.row)]) rfl ty59.choose_spec.1 yS xH (zb rfl) rfl rfl rfl rfl rfl) rfl ?_
  refine ze ?_
  refine q_assign rfl rfl ?_
  refine zQ (zd ?_)
  refine zc rfl (d_load rfl rfl ty56 yV rfl (zr rfl) (zb rfl)) xX ?_
  refine zc rfl (n_load (deep_len rfl rfl) rfl ty59.choose_spec.1 yS rfl (zH (cs':=[.sl 1 (x1.path.map zP),.int .u8 x1.leaf.typ,.int .i64 x1.leaf.n,.int .u64 x1.leaf.time,.int .u8 x1.leaf.dot.actor.rep,.int .u32 x1.leaf.dot.actor.inc,.int .u64 x1.leaf.dot.seq,.str x1.leaf.text,.sl 5 (x1.leaf.items.map GItem.row),.sl 3 (x1.leaf.tombs.map GDot.row)]) ty59.choose_spec.2 rfl rfl) (zb rfl)) wB ?_
  refine zc rfl (yE (es:=([x1]:List GRow).map GRow.row) rfl el56 ze59 rfl rfl (yl xV yp) (.cons (zb rfl) .nil) rfl rfl rfl) yL ?_
  refine wS hF (fun hm3 hF=>?_)
  refine zc rfl (d_appT (j:=0) (T':=[((s1++([x1]:List GRow))).length]) rfl rfl rfl rfl rfl el56 el56 xj yq (zb rfl) (zb rfl) news_osl hm3 rfl rfl) yP ?_
  refine zc rfl (d_store (A':=[.cells [.osl (some (h.toks.length+0)) 10 ((s1++([x1]:List GRow)).map GRow.row)]]++[lp1 .busy none]) (cs':=[.osl (some (h.toks.length+0)) 10 ((s1++([x1]:List GRow)).map GRow.row)]) rfl rfl ty56 yV yA (zb rfl) rfl rfl rfl rfl rfl rfl) rfl ?_
  refine ze (yh ?_)
  obtain rfl:=Option.some.inj hF
  exact q_roundN hC rfl rfl rfl rfl rfl rfl rfl rfl rfl rfl rfl (by simp only [List.all_append,List.all_cons,List.all_nil,Bool.and_true,List.length_cons,List.length_nil,Nat.reduceAdd,Nat.zero_add,hlowlp1] <;> simp [Blk.low,yi,AV.low,hlaseq1,hlkseq1])
 ·obtain rfl:H1=h.ext [.cells [.osl (some (h.toks.length+0)) 10 (s1.map GRow.row)],.dead] [(s1).length]:=hH
  refine yh (zj (zk (zd ?_)))
  refine zc rfl (zu rfl ty56 yV rfl (zr rfl) (zb rfl)) yX ?_
  refine zc rfl (zi rfl yM (zb rfl)) yB ?_
  refine ze (zj (zL ?_))
  obtain rfl:=Option.some.inj hF
  refine zA rfl (zD yz zG) (zz (leV.osl _ _ _) rfl ?_)
  exact ⟨rfl,rfl⟩
 ·obtain rfl:H1=h.ext [.cells [.osl (some (h.toks.length+0)) 10 (s1.map GRow.row)],.dead] [(s1).length]:=hH
  cases hF
/-! slices.Collect[varve/api.Row] -/
theorem ok32 {seq0:(S:Type)→(S→GRow→Option (Bool×S))→S→Option S} {fseq0:FuncId} {aseq0 kseq0:List AV} {res:(List GRow)} {h:AH} (hseq0:∀ (S:Type) (Hy:S→AH) (nb nt:Nat),(∀ s,(Hy s).blks.length=nb)→(∀ s,(Hy s).toks.length=nt)→(∀ s,(Hy s).closed nb nt)→(∀ s,∃ L M,Hy s=h.ext L M)→∀ (y:S→GRow→Option (Bool×S)) (idy:Nat),idy < nb→(∀ s x b s' L M,y s x=some (b,s')→SpecY Tryz.prog idy [.agg [.sl 1 (x.path.map zP),.int .u8 x.leaf.typ,.int .i64 x.leaf.n,.int .u64 x.leaf.time,.int .u8 x.leaf.dot.actor.rep,.int .u32 x.leaf.dot.actor.inc,.int .u64 x.leaf.dot.seq,.str x.leaf.text,.sl 5 (x.leaf.items.map GItem.row),.sl 3 (x.leaf.tombs.map GDot.row)]] ((Hy s).ext L M) (fun rr hh=>rr=.bool b∧hh=(Hy s').ext L M))→∀ s s',seq0 S y s=some s'→Spec Tryz.prog fseq0 (aseq0++[.yld idy]++kseq0) (Hy s) (fun rr hh=>rr=.tup []∧hh=Hy s')) (hF:qz seq0=some res):Spec Tryz.prog 32 [.fn (.func fseq0) aseq0 kseq0] h (fun rr hh=>rr=.sl 10 (res.map GRow.row)∧hh=h):=by
 unfold qz at hF
 refine yG Tryz.func32 rfl (by kernel_rfl) (env:=[.fn (.func fseq0) aseq0 kseq0,za,za,za,za]) (by rfl) (fun hlow hC=>?_)
 simp only [yi,AV.low,Bool.and_eq_true,Bool.true_and,and_true] at hlow
 have hlaseq0:∀ n m,h.blks.length≤n→h.toks.length≤m→yi n m aseq0=true:=fun n m h1 h2=>y8 h1 h2 _ (by simp [hlow])
 have hlkseq0:∀ n m,h.blks.length≤n→h.toks.length≤m→yi n m kseq0=true:=fun n m h1 h2=>y8 h1 h2 _ (by simp [hlow])
 refine zk (zd ?_)
 refine zc rfl (zi rfl rfl (xy el56)) xh ?_
 refine ze (zj (zk (zd ?_)))
 refine zc rfl (zf rfl yr (zb rfl)) wo ?_
 refine zR hF (fun v1 hv1 hF=>?_)
 refine zN rfl (zC rfl rfl rfl (zo rfl (zo xn zw)) (.cons (xy el56) (.cons (zb rfl) .nil))) (ok70 (fun S Hy nb nt hN hNt hC hE y idy hly hy s s' hF=>hseq0 S Hy nb nt hN hNt hC (fun s=>by obtain ⟨L,M,e⟩:=hE s;exact ⟨_,_,by rw [e,ww]⟩) y idy hly hy s s' hF) hv1) yB ?_
 refine zc rfl (zi rfl yz (zb rfl)) xh ?_
 refine ze (zj (zL ?_))
 obtain rfl:=Option.some.inj hF
 refine zA rfl (zD yV zG) (zz (leV.refl _) rfl ?_)
 exact ⟨rfl,rfl⟩
/-! varve/paths.rows -/
theorem ok33 {t0:(List GNode)} {ahead1:(List zJ)} {res:((List GNode)×(List zJ))} {h:AH}  (hF:pathsXrows t0 ahead1=some res):Spec Tryz.prog 33 [.sl 3 (t0.map GNode.row),.sl 1 (ahead1.map zP)] h (CloK h 71 [.cells [.sl 3 (res.1.map GNode.row)],.cells [.sl 1 (res.2.map zP)]]):=by
 unfold pathsXrows at hF
 refine zt Tryz.func33 rfl (by kernel_rfl) (env:=[.sl 3 (t0.map GNode.row),.sl 1 (ahead1.map zP),za,za,za,za]) (by rfl) ?_
 refine zk (zd ?_)
 refine zc rfl (xw (n:=0) rfl yr (zb rfl) rfl rfl) xh ?_
 refine zc rfl (xw (n:=1) rfl yF (zb rfl) rfl rfl) wo ?_
 refine zc rfl (zi rfl rfl (zb rfl)) yB ?_
 refine ze (zj (zk (zd ?_)))
 refine zc rfl (s_makeFunc rfl rfl rfl) xz ?_
 refine zc rfl (zi rfl yS (zb rfl)) yB ?_
 refine ze (zj (zL ?_))
 obtain rfl:=Option.some.inj hF
 refine zA rfl (zD yz zG) (fin_clo (bs:=[.cells [.sl 3 (t0.map GNode.row)],.cells [.sl 1 (ahead1.map zP)]]) (by simp [AV.low,yi]) rfl (by simp [Blk.low,yi,AV.low]) ?_)
 exact ⟨rfl,rfl⟩
/-! slices.Clone[[]string,string] -/
theorem ok72 {s0:(List zJ)} {res:(List zJ)} {h:AH}  (hF:x9 s0=some res):Spec Tryz.prog 72 [.sl 1 (s0.map zP)] h (OwnK h 1 res.length (res.map zP)):=by
 unfold x9 at hF
 refine zt Tryz.func72 rfl (by kernel_rfl) (env:=[.sl 1 (s0.map zP),za,za,za,za,za,za,za]) (by rfl) ?_
 refine zk (zd ?_)
 refine zc rfl (zi rfl rfl (xy wt)) xh ?_
 refine ze (zj (zk (zk (zd ?_))))
 refine zc rfl (zf rfl yr (zb rfl)) wo ?_
 refine ops_nilqE rfl rfl wt xn w7 rfl (fun _=>yB) hF (fun b1 hb1 hF=>?_)
 refine ze (zj ?_)
 refine zO yz hF (fun hc2 hF=>?_) (fun hc2 hF=>?_)
 ·refine zk (zd ?_)
  refine zc rfl (zi rfl rfl (xy wt)) xh ?_
  refine ze (zj (zL (zx ?_)))
  obtain rfl:=Option.some.inj hF
  refine zA rfl (zD yV zG) (fin_own0 (row:=zP) (L:=([]:List zJ)) ?_)
  exact ⟨rfl,rfl⟩
 ·refine zK (zj (zk (zd ?_)))
  refine zc rfl (yE (es:=([]:List zJ).map zP) rfl wt ze9 rfl rfl yp .nil rfl rfl rfl) xz ?_
  refine zc rfl (zf rfl yr (zb rfl)) xE ?_
  refine wS hF (fun hm3 hF=>?_)
  refine zc rfl (e_appN (m:=0) (T':=[((([]:List zJ)++s0)).length]) rfl rfl rfl rfl wt wt yS yU (zb rfl) (zb rfl) news_sl hm3 rfl rfl) xO ?_
  refine zc rfl (zi rfl xH (zb rfl)) xh ?_
  refine ze (zj (zL ?_))
  obtain rfl:=Option.some.inj hF
  refine zA rfl (zD yV zG) (fin_own ?_)
  exact ⟨rfl,rfl⟩
/-! slices.Clone[[]varve/api.Item,varve/api.Item] -/
theorem ok50 {s0:(List GItem)} {res:(List GItem)} {h:AH}  (hF:wy s0=some res):Spec Tryz.prog 50 [.sl 5 (s0.map GItem.row)] h (OwnK h 5 res.length (res.map GItem.row)):=by
 unfold wy at hF
 refine zt Tryz.func50 rfl (by kernel_rfl) (env:=[.sl 5 (s0.map GItem.row),za,za,za,za,za,za,za]) (by rfl) ?_
 refine zk (zd ?_)
 refine zc rfl (zi rfl rfl (xy qj)) xh ?_
 refine ze (zj (zk (zk (zd ?_))))
 refine zc rfl (zf rfl yr (zb rfl)) wo ?_
 refine ops_nilqE rfl rfl qj xn w7 rfl (fun _=>yB) hF (fun b1 hb1 hF=>?_)
 refine ze (zj ?_)
 refine zO yz hF (fun hc2 hF=>?_) (fun hc2 hF=>?_)
 ·refine zk (zd ?_)
  refine zc rfl (zi rfl rfl (xy qj)) xh ?_
  refine ze (zj (zL (zx ?_)))
  obtain rfl:=Option.some.inj hF
  refine zA rfl (zD yV zG) (fin_own0 (row:=GItem.row) (L:=([]:List GItem)) ?_)
  exact ⟨rfl,rfl⟩
 ·refine zK (zj (zk (zd ?_)))
  refine zc rfl (yE (es:=([]:List GItem).map GItem.row) rfl qj ze87 rfl rfl yp .nil rfl rfl rfl) xz ?_
  refine zc rfl (zf rfl yr (zb rfl)) xE ?_
  refine wS hF (fun hm3 hF=>?_)
  refine zc rfl (e_appN (m:=0) (T':=[((([]:List GItem)++s0)).length]) rfl rfl rfl rfl qj qj yS yU (zb rfl) (zb rfl) news_sl hm3 rfl rfl) xO ?_
  refine zc rfl (zi rfl xH (zb rfl)) xh ?_
  refine ze (zj (zL ?_))
  obtain rfl:=Option.some.inj hF
  refine zA rfl (zD yV zG) (fin_own ?_)
  exact ⟨rfl,rfl⟩
/-! slices.Clone[[]varve/api.Dot,varve/api.Dot] -/
theorem ok51 {s0:(List GDot)} {res:(List GDot)} {h:AH}  (hF:wQ s0=some res):Spec Tryz.prog 51 [.sl 3 (s0.map GDot.row)] h (OwnK h 3 res.length (res.map GDot.row)):=by
 unfold wQ at hF
 refine zt Tryz.func51 rfl (by kernel_rfl) (env:=[.sl 3 (s0.map GDot.row),za,za,za,za,za,za,za]) (by rfl) ?_
 refine zk (zd ?_)
 refine zc rfl (zi rfl rfl (xy el46)) xh ?_
 refine ze (zj (zk (zk (zd ?_))))
 refine zc rfl (zf rfl yr (zb rfl)) wo ?_
 refine ops_nilqE rfl rfl el46 xn w7 rfl (fun _=>yB) hF (fun b1 hb1 hF=>?_)
 refine ze (zj ?_)
 refine zO yz hF (fun hc2 hF=>?_) (fun hc2 hF=>?_)
 ·refine zk (zd ?_)
  refine zc rfl (zi rfl rfl (xy el46)) xh ?_
  refine ze (zj (zL (zx ?_)))
  obtain rfl:=Option.some.inj hF
  refine zA rfl (zD yV zG) (fin_own0 (row:=GDot.row) (L:=([]:List GDot)) ?_)
  exact ⟨rfl,rfl⟩
 ·refine zK (zj (zk (zd ?_)))
  refine zc rfl (yE (es:=([]:List GDot).map GDot.row) rfl el46 ze44 rfl rfl yp .nil rfl rfl rfl) xz ?_
  refine zc rfl (zf rfl yr (zb rfl)) xE ?_
  refine wS hF (fun hm3 hF=>?_)
  refine zc rfl (e_appN (m:=0) (T':=[((([]:List GDot)++s0)).length]) rfl rfl rfl rfl el46 el46 yS yU (zb rfl) (zb rfl) news_sl hm3 rfl rfl) xO ?_
  refine zc rfl (zi rfl xH (zb rfl)) xh ?_
  refine ze (zj (zL ?_))
  obtain rfl:=Option.some.inj hF
  refine zA rfl (zD yV zG) (fin_own ?_)
  exact ⟨rfl,rfl⟩
/-! varve/paths.own -/
theorem ok73 {l0:GLeaf} {res:GLeaf} {h:AH}  (hF:pathsXown l0=some res):Spec Tryz.prog 73 [.agg [.int .u8 l0.typ,.int .i64 l0.n,.int .u64 l0.time,.int .u8 l0.dot.actor.rep,.int .u32 l0.dot.actor.inc,.int .u64 l0.dot.seq,.str l0.text,.sl 5 (l0.items.map GItem.row),.sl 3 (l0.tombs.map GDot.row)]] h (fun rr hh=>rr=.agg [.int .u8 res.typ,.int .i64 res.n,.int .u64 res.time,.int .u8 res.dot.actor.rep,.int .u32 res.dot.actor.inc,.int .u64 res.dot.seq,.str res.text,.sl 5 (res.items.map GItem.row),.sl 3 (res.tombs.map GDot.row)]∧hh=h):=by
 unfold pathsXown at hF
 refine zt Tryz.func73 rfl (by kernel_rfl) (env:=[.agg [.int .u8 l0.typ,.int .i64 l0.n,.int .u64 l0.time,.int .u8 l0.dot.actor.rep,.int .u32 l0.dot.actor.inc,.int .u64 l0.dot.seq,.str l0.text,.sl 5 (l0.items.map GItem.row),.sl 3 (l0.tombs.map GDot.row)],za,za,za,za,za,za,za,za,za,za,za]) (by rfl) ?_
 refine zk (zd ?_)
 refine zc rfl (xw (n:=0) rfl yr (zb rfl) rfl rfl) st1 ?_
 refine zc rfl (y4 (n:=1) rfl ze48 rfl) xh ?_
 refine ze (zj (zk ?_))
 refine yI [] [] trivial mixed (by kernel_rfl) ?_
 refine zq rfl rfl (zg rfl x4 yF rfl) wo ?_
 refine zq rfl rfl (zu rfl ty45 xn rfl (zr rfl) (zb rfl)) yB ?_
 refine zR hF (fun v1 hv1 hF=>?_)
 refine vD rfl FOk.nil (by rfl) rfl (zC rfl rfl rfl (zo yz zw) (.cons (zb rfl) .nil)) (own_ext (T':=[(v1).length]) (ok50 hv1) (m:=0) rfl rfl) xz ?_
 refine zq rfl rfl (zg rfl wr yF rfl) xE ?_
 refine zq rfl rfl (zu rfl ty46 yU rfl (zr rfl) (zb rfl)) xO ?_
 refine zR hF (fun v2 hv2 hF=>?_)
 refine vD rfl FOk.nil (by rfl) rfl (zC rfl rfl rfl (zo xH zw) (.cons (zb rfl) .nil)) (own_ext (T':=[(v1).length,(v2).length]) (ok51 hv2) (m:=1) rfl rfl) xX ?_
 refine zq rfl rfl (zg rfl x4 yF rfl) wB ?_
 refine yZ rfl FOk.nil (by kernel_rfl) rfl (yg (cs':=[.int .u8 l0.typ,.int .i64 l0.n,.int .u64 l0.time,.int .u8 l0.dot.actor.rep,.int .u32 l0.dot.actor.inc,.int .u64 l0.dot.seq,.str l0.text,.osl (some (h.toks.length+0)) 5 (v1.map GItem.row),.sl 3 (l0.tombs.map GDot.row)]) rfl ty45 xV yS (zb rfl) rfl rfl rfl rfl rfl) rfl ?_
 refine zq rfl rfl (zg rfl wr yF rfl) yL ?_
 refine yZ rfl FOk.nil (by kernel_rfl) rfl (yg (cs':=[.int .u8 l0.typ,.int .i64 l0.n,.int .u64 l0.time,.int .u8 l0.dot.actor.rep,.int .u32 l0.dot.actor.inc,.int .u64 l0.dot.seq,.str l0.text,.osl (some (h.toks.length+0)) 5 (v1.map GItem.row),.osl (some (h.toks.length+1)) 3 (v2.map GDot.row)]) rfl ty46 yq xj (zb rfl) rfl rfl rfl rfl rfl) rfl ?_
 refine ym ?_
 refine zj (zk (zd ?_))
 refine zc rfl (zu rfl ty48.choose_spec.1 yF rfl (zH (cs':=[.int .u8 l0.typ,.int .i64 l0.n,.int .u64 l0.time,.int .u8 l0.dot.actor.rep,.int .u32 l0.dot.actor.inc,.int .u64 l0.dot.seq,.str l0.text,.osl (some (h.toks.length+0)) 5 (v1.map GItem.row),.osl (some (h.toks.length+1)) 3 (v2.map GDot.row)]) ty48.choose_spec.2 rfl rfl) (zb rfl)) yP ?_
 refine zc rfl (yg (cs':=[.int .u8 l0.typ,.int .i64 l0.n,.int .u64 l0.time,.int .u8 l0.dot.actor.rep,.int .u32 l0.dot.actor.inc,.int .u64 l0.dot.seq,.str l0.text,.osl (some (h.toks.length+0)) 5 (v1.map GItem.row),.osl (some (h.toks.length+1)) 3 (v2.map GDot.row)]) rfl ty48.choose_spec.1 yV yA (zb rfl) rfl rfl rfl rfl rfl) rfl ?_
 refine ze (zj (zL ?_))
 obtain rfl:=Option.some.inj hF
 refine zA rfl (rl_cell ty48.choose_spec.1 yV rfl (zH (cs':=[.int .u8 l0.typ,.int .i64 l0.n,.int .u64 l0.time,.int .u8 l0.dot.actor.rep,.int .u32 l0.dot.actor.inc,.int .u64 l0.dot.seq,.str l0.text,.osl (some (h.toks.length+0)) 5 (v1.map GItem.row),.osl (some (h.toks.length+1)) 3 (v2.map GDot.row)]) ty48.choose_spec.2 rfl rfl) (zb rfl) zG) (zz (leV.agg (.eq (.eq (.eq (.eq (.eq (.eq (.eq (.cons (leV.osl _ _ _) (.cons (leV.osl _ _ _) leL.nil))))))))) rfl) rfl ?_)
 exact ⟨rfl,rfl⟩
/-! varve/paths.rows 1 -/
theorem ok71N (n:Nat):∀ {S:Type} {Hy:S→AH} {nb nt:Nat} {yield0:S→GRow→Option (Bool×S)} {idy:Nat} {c0:(List GNode)} {i0:Nat} {c1:(List zJ)} {i1:Nat} {s0:S} {res:S} (hN:∀ s,(Hy s).blks.length=nb) (hNt:∀ s,(Hy s).toks.length=nt) (hC:∀ s,(Hy s).closed nb nt) (hly:idy < nb) (hy:∀ s x b s' L M,yield0 s x=some (b,s')→SpecY Tryz.prog idy [.agg [.sl 1 (x.path.map zP),.int .u8 x.leaf.typ,.int .i64 x.leaf.n,.int .u64 x.leaf.time,.int .u8 x.leaf.dot.actor.rep,.int .u32 x.leaf.dot.actor.inc,.int .u64 x.leaf.dot.seq,.str x.leaf.text,.sl 5 (x.leaf.items.map GItem.row),.sl 3 (x.leaf.tombs.map GDot.row)]] ((Hy s).ext L M) (fun rr hh=>rr=.bool b∧hh=(Hy s').ext L M)) (hb0:∀ s,(Hy s).blk i0=some (.cells [.sl 3 (c0.map GNode.row)])) (hb1:∀ s,(Hy s).blk i1=some (.cells [.sl 1 (c1.map zP)])),vB n S yield0 c0 c1 s0=some res→Spec Tryz.prog 71 [.yld idy,.ptr i0 0,.ptr i1 0] (Hy s0) (fun rr hh=>rr=.tup []∧hh=Hy res):=by
 induction n with
 | zero=>intro S Hy nb nt yield0 idy c0 i0 c1 i1 s0 res hN hNt hC hly hy hb0 hb1 hF;simp [vB] at hF
 | succ n ih =>
  intro S Hy nb nt yield0 idy c0 i0 c1 i1 s0 res hN hNt hC hly hy hb0 hb1 hF
  unfold vB at hF
  refine zt Tryz.func71 rfl (by kernel_rfl) (env:=[.yld idy,.ptr i0 0,.ptr i1 0,za,za,za,za,za,za,za,za,za,za,za,za,za,za,za,za,za,za,za,za,za,za,za,za,za,za,za,za,za,za,za,za,za,za,za,za,za,za,za,za,za,za,za,za,za]) (by rfl) ?_
  have hly2:∀ k,idy < nb+k:=fun k=>Nat.lt_of_lt_of_le hly (Nat.le_add_right _ _)
  have hli0:=blk_lt (hb0 s0) (hN s0)
  have hli0b:∀ k,i0 < nb+k:=fun k=>Nat.lt_of_lt_of_le hli0 (Nat.le_add_right _ _)
  have hli1:=blk_lt (hb1 s0) (hN s0)
  have hli1b:∀ k,i1 < nb+k:=fun k=>Nat.lt_of_lt_of_le hli1 (Nat.le_add_right _ _)
  refine zk (zd ?_)
  refine zc rfl (n_box (hN _) (n:=0) rfl yr (zb rfl) rfl rfl) wo ?_
  refine ze (zj (zk (zd ?_)))
  refine zc rfl (b_load rfl ty23 yF (hb0 _) (zr rfl) (zb rfl)) yL ?_
  refine yb rfl (zS rfl rfl rfl rfl xC yq yc) yP fun hn1=>?_
  replace hn1:=xl hn1
  refine zc rfl (zf rfl rfl (zb rfl)) yX ?_
  refine ze (zj (zQ ?_))
  refine yo (fun (n1:Nat) (s1:S)=>yO [0,1,4,5,6,7,8,9,13,14,15,16,17,18,19,20,21,22,23,24,25,26,27,28,29,30,31,32,33,34,35,36,37,38,39,40,41,42,43,44,45,46,47] [(12,.int .i64 (n1:Int))]) (fun s1=>(Hy s1).ext [.cells [.yld idy]] []) hF (fun _ _=>by simp only [yO,upd,List.set_cons_succ,List.set_cons_zero];try rfl) (wk.le (by exact (.drop (.drop (.eq (.eq (.d4 (.drop (.drop (.eq (.eq (.cons (leV.of_eq rfl) (.d16 (.d16 (.drop (.drop (.drop leL.nil))))))))))))))))) ?_
  intro n1 s1 hi1 hF
  refine zk (zd ?_)
  refine zc rfl (zy rfl yM yA rfl) yW ?_
  refine ze (zj (zk ?_))
  refine yJ yC hF (fun x1 o1 hl1 hx1 hF hK1=>?_) (fun hF=>?_)
  ·refine zK (zj (zk (zQ (zk (zd ?_)))))
   refine zc rfl (xS rfl xC yq yM w7 (yK hx1) (GNode.row_eq _)) y5 ?_
   refine zc rfl (ye rfl ty51.choose_spec.1 yY (zH (cs':=[.str x1.name,.sl 9 (x1.leaves.map GLeaf.row),.sl 3 (x1.subs.map GNode.row)]) ty51.choose_spec.2 rfl rfl) (zb rfl)) y6 ?_
   refine zc rfl (n_alloc (hN _) (n:=1) rfl ze51 rfl) xz ?_
   refine zc rfl (n_store (hN _) (cs':=[.str x1.name,.sl 9 (x1.leaves.map GLeaf.row),.sl 3 (x1.subs.map GNode.row)]) rfl ty51.choose_spec.1 yS yT (zb rfl) rfl rfl rfl rfl rfl) rfl ?_
   refine ze (zj (zk ?_))
   refine yI [] [] trivial mixed (by kernel_rfl) ?_
   refine zq rfl rfl (b_load rfl ty52 yV (hb1 _) (zr rfl) (zb rfl)) xg ?_
   refine zR hF (fun v37 hv37 hF=>?_)
   refine vD rfl FOk.nil (by rfl) rfl (zC rfl rfl rfl (zo xd zw) (.cons (zb rfl) .nil)) (n_own (hNt _) (T':=[(v37).length]) (ok72 hv37) (m:=0) rfl rfl) xk ?_
   refine zq rfl rfl (zg rfl fo51x0 yS rfl) xD ?_
   refine zq rfl rfl (n_load (hN _) rfl ty9 xB rfl (zr rfl) (zb rfl)) xK ?_
   refine zq rfl rfl (yE (es:=([x1.name]:List zJ).map zP) rfl wt ze9 rfl rfl (yl xJ yp) (.cons (zb rfl) .nil) rfl rfl rfl) xY ?_
   refine wS hF (fun hm38 hF=>?_)
   refine draw_okH rfl FOk.nil (by rfl) rfl (n_appT (hNt _) (j:=0) (T':=[((v37++([x1.name]:List zJ))).length]) rfl rfl rfl rfl wt wt xi xZ (zb rfl) (zb rfl) news_osl hm38 rfl rfl) x7 ?_
   refine zq rfl rfl (zi rfl x5 (zb rfl)) xE ?_
   refine ym ?_
   refine zj (zk (zk (zd ?_)))
   refine zc rfl (zg rfl wm yS rfl) wl ?_
   refine zc rfl (n_load (hN _) rfl ty49 wi rfl (zr rfl) (zb rfl)) x6 ?_
   refine yb rfl (zS rfl rfl rfl rfl wu xN yc) wh fun hn39=>?_
   replace hn39:=xl hn39
   refine zc rfl (zf rfl rfl (zb rfl)) wj ?_
   refine ze (zj (zQ ?_))
   refine yo (fun (n2:Nat) (s2:S)=>yO [0,1,4,7,8,9,13,14,15,16,17,18,19,20,21,22,26,27,28,29,30,31,32,33,34,35,36,37,38,39,40,41,42,43,44,45,46,47] [(25,.int .i64 (n2:Int))]) (fun s2=>(Hy s2).ext [.cells [.yld idy],.cells [.str x1.name,.sl 9 (x1.leaves.map GLeaf.row),.sl 3 (x1.subs.map GNode.row)]] [((v37++([x1.name]:List zJ))).length]) hF (fun _ _=>by simp only [yO,upd,List.set_cons_succ,List.set_cons_zero];try rfl) (wk.le (by exact (.drop (.drop (.eq (.eq (.drop (.eq (.eq (.drop (.drop (.drop (.eq (.eq (.eq (.d4 (.d4 (.drop (.drop (.eq (.eq (.cons (leV.of_eq rfl) (.d16 (.d4 (.drop (.drop leL.nil)))))))))))))))))))))))))) ?_
   intro n2 s2 hi2 hF
   refine zk (zd ?_)
   refine zc rfl (zy rfl wb wc rfl) wF ?_
   refine ze (zj (zk ?_))
   refine yJ wE hF (fun x2 o2 hl2 hx2 hF hK2=>?_) (fun hF=>?_)
   ·refine zK (zj (zk (zQ (zk (zd ?_)))))
    refine zc rfl (yj rfl wu xN wb w7 (yK hx2)) wM ?_
    refine zc rfl (ye rfl ty48.choose_spec.1 wN (zH (cs':=[.int .u8 x2.typ,.int .i64 x2.n,.int .u64 x2.time,.int .u8 x2.dot.actor.rep,.int .u32 x2.dot.actor.inc,.int .u64 x2.dot.seq,.str x2.text,.sl 5 (x2.items.map GItem.row),.sl 3 (x2.tombs.map GDot.row)]) ty48.choose_spec.2 rfl rfl) (zb rfl)) wL ?_
    refine zc rfl (n_alloc (hN _) (n:=2) rfl ze48 rfl) xX ?_
    refine zc rfl (n_store (hN _) (cs':=[.int .u8 x2.typ,.int .i64 x2.n,.int .u64 x2.time,.int .u8 x2.dot.actor.rep,.int .u32 x2.dot.actor.inc,.int .u64 x2.dot.seq,.str x2.text,.sl 5 (x2.items.map GItem.row),.sl 3 (x2.tombs.map GDot.row)]) rfl ty48.choose_spec.1 xj wH (zb rfl) rfl rfl rfl rfl rfl) rfl ?_
    refine ze (zj (zk ?_))
    refine yI [4] [] trivial mixed (by kernel_rfl) ?_
    refine zq rfl rfl (n_load (hN _) rfl ty113 xn rfl (zr rfl) (zb rfl)) wW ?_
    refine zq rfl rfl (zf rfl yU (zb rfl)) wV ?_
    refine zR hF (fun v51 hv51 hF=>?_)
    refine vD rfl (FOk.cons (.inr (xP trivial)) FOk.nil) (by rfl) rfl (zC rfl rfl rfl (zo vg zw) (.cons (zb rfl) .nil)) (n_own (hNt _) (T':=[((v37++([x1.name]:List zJ))).length,(v51).length]) ((ok72 hv51).le (.cons (leV.osl _ _ _) leL.nil)) (m:=1) rfl rfl) wU ?_
    refine zq rfl rfl (n_load (hN _) rfl ty48.choose_spec.1 xj rfl (zH (cs':=[.int .u8 x2.typ,.int .i64 x2.n,.int .u64 x2.time,.int .u8 x2.dot.actor.rep,.int .u32 x2.dot.actor.inc,.int .u64 x2.dot.seq,.str x2.text,.sl 5 (x2.items.map GItem.row),.sl 3 (x2.tombs.map GDot.row)]) ty48.choose_spec.2 rfl rfl) (zb rfl)) vl ?_
    refine zR hF (fun v52 hv52 hF=>?_)
    refine yu rfl rfl (fun _=>zC rfl rfl rfl (zo vf zw) (.cons (zb rfl) .nil)) (by rintro _ ⟨B2,T2,rfl,hk2⟩;exact ok73 hv52) vk ?_
    refine zq rfl rfl (qA (cs':=[.osl (some (nt+1)) 1 (v51.map zP),.int .u8 v52.typ,.int .i64 v52.n,.int .u64 v52.time,.int .u8 v52.dot.actor.rep,.int .u32 v52.dot.actor.inc,.int .u64 v52.dot.seq,.str v52.text,.sl 5 (v52.items.map GItem.row),.sl 3 (v52.tombs.map GDot.row)]) rfl su59 ze59 pl59 (yl w5 (yl vt yp)) (.cons (zb rfl) (.cons (zb rfl) .nil)) rfl rfl) vb ?_
    refine zR hF (fun v53 hv53 hF=>?_)
    refine draw_round rfl (FOk.cons (.inl (by kernel_rfl)) FOk.nil) (by kernel_rfl) rfl (s_yield rfl rfl w6 (zo wZ zw) (.cons (zb rfl) .nil)) ((hy _ _ _ _ _ _ hv53).le (.cons (leV.agg (.cons (leV.osl _ _ _) (.eq (.eq (.eq (.eq (.eq (.eq (.eq (.eq (.eq leL.nil)))))))))) rfl) leL.nil)) va ?_
    refine zq rfl rfl (xR rfl ve rfl) w9 ?_
    refine ym ?_
    refine zj ?_
    refine zO wY hF (fun hc54 hF=>?_) (fun hc54 hF=>?_)
    ·refine zL ?_
     refine zF ?_
     refine zx ?_
     refine yd ?_
     obtain rfl:=Option.some.inj hF
     replace hF:=hK2
     refine zF ?_
     refine zx ?_
     refine zF ?_
     refine zx ?_
     refine yd ?_
     obtain rfl:=Option.some.inj hF
     replace hF:=hK1
     refine zF ?_
     obtain rfl:=Option.some.inj hF
     refine q_retL0 rfl zG (fin_exts (hN _) (hNt _) (hN _) (hNt _) (hC _) (leV.refl _) rfl ?_)
     exact ⟨rfl,rfl⟩
    ·refine zK (yh (zj (zd ?_)))
     refine zc rfl (zy rfl wb rfl rfl) vj ?_
     refine zc rfl (zf rfl wX (zb rfl)) wj ?_
     refine ze (yH ?_)
     obtain rfl:=Option.some.inj hF
     exact ⟨v53.2,hl2,hK2,wk.trans (wk.le (by exact (.drop (.drop (.eq (.eq (.drop (.eq (.eq (.drop (.drop (.drop (.eq (.eq (.eq (.d4 (.d4 (.drop (.drop (.eq (.eq (.cons (leV.of_eq (w8 (by omega) (by omega))) (.d16 (.d4 (.drop (.drop leL.nil)))))))))))))))))))))))))) (wk_ext3s (hN _) (hNt _) (hN _) (hNt _) (hC _) (by simp [yi,AV.low,hly,hly2,hli0,hli0b,hli1,hli1b]) rfl rfl (by simp [Blk.low,yi,AV.low,hly,hly2,hli0,hli0b,hli1,hli1b]))⟩
   ·refine yR ?_
    refine ya ?_
    refine zV ?_
    refine zW ?_
    refine zj (zk (zd ?_))
    refine zc rfl (zg rfl fo51x2 yS rfl) vI ?_
    refine zc rfl (n_load (hN _) rfl ty23 vM rfl (zr rfl) (zb rfl)) vA ?_
    refine zc rfl (zf rfl yU (zb rfl)) (sk st0) ?_
    refine zR hF (fun v55 hv55 hF=>?_)
    refine ops_callH rfl (zC rfl rfl rfl (zo vr (zo (gk yr) zw)) (.cons (zb rfl) (.cons (zb rfl) .nil))) (clo_ext (hN _) (n:=2) (B':=[.cells [.yld idy],.cells [.str x1.name,.sl 9 (x1.leaves.map GLeaf.row),.sl 3 (x1.subs.map GNode.row)],.cells [.sl 3 (v55.1.map GNode.row)],.cells [.sl 1 (v55.2.map zP)]]) (caps:=[.ptr (nb+2) 0,.ptr (nb+3) 0]) ((ok33 hv55).le (.eq (.cons (leV.osl _ _ _) leL.nil))) rfl rfl rfl) (sk st1) ?_
    refine ze (zj (zQ ?_))
    refine r_range (fun (s3:S)=>(Hy s3)) (fun (s3:S)=>[.cells [.yld idy],.cells [.str x1.name,.sl 9 (x1.leaves.map GLeaf.row),.sl 3 (x1.subs.map GNode.row)],.cells [.sl 3 (v55.1.map GNode.row)],.cells [.sl 1 (v55.2.map zP)]]) (fun (s3:S)=>[((v37++([x1.name]:List zJ))).length]) s2 hF (wk.le (by exact (.drop (.drop (.eq (.eq (.d4 (.drop (.drop (.eq (.eq (.eq (.d16 (.d4 (.d4 (.d4 (.eq (.d4 (.drop (.drop leL.nil)))))))))))))))))))) (fun _=>(hN _)) rfl rfl rfl (fun _=>rfl) rfl (gk yF) rfl (fun lp3 hlp3 r3 hr3q=>?_) (fun s3 H1 hH hF=>?_) (fun j3 s3 H1 hH hF=>?_)
    ·have hlowlp3:∀ q1 q2,(lp3 q1 q2).low (nb+5) (nt+1)=true:=by intro q1 q2;rw [hlp3];simp [Blk.low,yi,AV.low,hly,hly2,hli0,hli0b,hli1,hli1b]
     refine Spec.mono (ih (Hy:=(fam (fun (s3:S)=>(Hy s3)) (fun (s3:S)=>[.cells [.yld idy],.cells [.str x1.name,.sl 9 (x1.leaves.map GLeaf.row),.sl 3 (x1.subs.map GNode.row)],.cells [.sl 3 (v55.1.map GNode.row)],.cells [.sl 1 (v55.2.map zP)]]) (fun (s3:S)=>[((v37++([x1.name]:List zJ))).length]) lp3)) (nb:=nb+5) (nt:=nt+1) (fun _=>by simp only [fam];rw [ext_len (hN _)];rfl) (fun _=>by simp only [fam];rw [ext_tlen (hNt _)];rfl) (fun _=>closed_ext (hC _) (Nat.le_add_right _ _) (Nat.le_add_right _ _) (by simp only [List.all_append,List.all_cons,List.all_nil,Bool.and_true,List.length_cons,List.length_nil,Nat.reduceAdd,Nat.zero_add,hlowlp3] <;> simp [Blk.low,yi,AV.low,hly,hly2,hli0,hli0b,hli1,hli1b])) (Nat.lt_succ_self _) (y_body hlp3 (xs:=fun (x:GRow)=>[.agg [.sl 1 (x.path.map zP),.int .u8 x.leaf.typ,.int .i64 x.leaf.n,.int .u64 x.leaf.time,.int .u8 x.leaf.dot.actor.rep,.int .u32 x.leaf.dot.actor.inc,.int .u64 x.leaf.dot.seq,.str x.leaf.text,.sl 5 (x.leaf.items.map GItem.row),.sl 3 (x.leaf.tombs.map GDot.row)]]) (fun _=>(hN _)) (fun _=>rfl) rfl (fun _=>rfl) (fun _=>by simp only [setL,List.set_cons_succ,List.set_cons_zero];try rfl) (fun s3 x3 o3 L3 M3 H1 hH hF=>?_)) (fun _=>by simp only [fam];exact n_blk (j:=2) (hN _) rfl) (fun _=>by simp only [fam];exact n_blk (j:=3) (hN _) rfl) hr3q) (fun _ _ h=>h.2)
     obtain rfl:H1=(((Hy s3).ext ([.cells [.yld idy],.cells [.str x1.name,.sl 9 (x1.leaves.map GLeaf.row),.sl 3 (x1.subs.map GNode.row)],.cells [.sl 3 (v55.1.map GNode.row)],.cells [.sl 1 (v55.2.map zP)]]++[lp3 .ready none]) [((v37++([x1.name]:List zJ))).length]).ext L3 M3).ext [] []:=hH
     refine zd ?_
     refine zc rfl (n_alloc (deep_len (hN _) rfl) (n:=0) rfl ze59 rfl) wB ?_
     refine zc rfl (n_store (deep_len (hN _) rfl) (cs':=[.sl 1 (x3.path.map zP),.int .u8 x3.leaf.typ,.int .i64 x3.leaf.n,.int .u64 x3.leaf.time,.int .u8 x3.leaf.dot.actor.rep,.int .u32 x3.leaf.dot.actor.inc,.int .u64 x3.leaf.dot.seq,.str x3.leaf.text,.sl 5 (x3.leaf.items.map GItem.row),.sl 3 (x3.leaf.tombs.map GDot.row)]) rfl ty59.choose_spec.1 xV (gk yV) (zb rfl) rfl rfl rfl rfl rfl) rfl ?_
     refine ze ?_
     refine q_assign (hN _) rfl ?_
     refine zQ (zk (zd ?_))
     refine zc rfl (d_load (hN _) rfl ty113 xn rfl (zr rfl) (zb rfl)) (sk wo) ?_
     refine zc rfl (n_load (deep_len (hN _) rfl) rfl ty59.choose_spec.1 xV rfl (zH (cs':=[.sl 1 (x3.path.map zP),.int .u8 x3.leaf.typ,.int .i64 x3.leaf.n,.int .u64 x3.leaf.time,.int .u8 x3.leaf.dot.actor.rep,.int .u32 x3.leaf.dot.actor.inc,.int .u64 x3.leaf.dot.seq,.str x3.leaf.text,.sl 5 (x3.leaf.items.map GItem.row),.sl 3 (x3.leaf.tombs.map GDot.row)]) ty59.choose_spec.2 rfl rfl) (zb rfl)) (sk yB) ?_
     refine zR hF (fun v64 hv64 hF=>?_)
     refine ops_round rfl (s_yield rfl rfl (gk xn) (zo (gk yz) zw) (.cons (zb rfl) .nil)) (SpecY.deep fun A B=>hy _ _ _ _ A B hv64) (sk xz) ?_
     refine zc rfl (xR rfl (gk yS) rfl) (sk xE) ?_
     refine ze (zj ?_)
     refine zO (gk yU) hF (fun hc65 hF=>?_) (fun hc65 hF=>?_)
     ·refine zL ?_
      refine zF ?_
      obtain rfl:=Option.some.inj hF
      exact q_roundR (hC _) (hN _) (hNt _) (hN _) (hNt _) rfl rfl rfl rfl rfl rfl rfl (by simp only [List.all_append,List.all_cons,List.all_nil,Bool.and_true,List.length_cons,List.length_nil,Nat.reduceAdd,Nat.zero_add,hlowlp3] <;> simp [Blk.low,yi,AV.low,hly,hly2,hli0,hli0b,hli1,hli1b])
     ·refine zK (yh ?_)
      obtain rfl:=Option.some.inj hF
      exact q_roundN (hC _) (hN _) (hNt _) (hN _) (hNt _) rfl rfl rfl rfl rfl rfl rfl (by simp only [List.all_append,List.all_cons,List.all_nil,Bool.and_true,List.length_cons,List.length_nil,Nat.reduceAdd,Nat.zero_add,hlowlp3] <;> simp [Blk.low,yi,AV.low,hly,hly2,hli0,hli0b,hli1,hli1b])
    ·obtain rfl:H1=(Hy s3).ext [.cells [.yld idy],.cells [.str x1.name,.sl 9 (x1.leaves.map GLeaf.row),.sl 3 (x1.subs.map GNode.row)],.cells [.sl 3 (v55.1.map GNode.row)],.cells [.sl 1 (v55.2.map zP)],.dead] [((v37++([x1.name]:List zJ))).length]:=hH
     refine yh (yh (zj (zd ?_)))
     refine zc rfl (zy rfl yM rfl rfl) (sk xO) ?_
     refine zc rfl (zf rfl (gk xH) (zb rfl)) yX ?_
     refine ze (yH ?_)
     obtain rfl:=Option.some.inj hF
     exact ⟨s3,hl1,hK1,wk.trans (wk.le (by exact (.drop (.drop (.eq (.eq (.d4 (.drop (.drop (.eq (.eq (.cons (leV.of_eq (w8 (by omega) (by omega))) (.d16 (.d16 (.drop (.drop (.drop leL.nil))))))))))))))))) (wk_ext3s (hN _) (hNt _) (hN _) (hNt _) (hC _) (by simp [yi,AV.low,hly,hly2,hli0,hli0b,hli1,hli1b]) rfl rfl (by simp [Blk.low,yi,AV.low,hly,hly2,hli0,hli0b,hli1,hli1b]))⟩
    ·obtain rfl:H1=(Hy s3).ext [.cells [.yld idy],.cells [.str x1.name,.sl 9 (x1.leaves.map GLeaf.row),.sl 3 (x1.subs.map GNode.row)],.cells [.sl 3 (v55.1.map GNode.row)],.cells [.sl 1 (v55.2.map zP)],.dead] [((v37++([x1.name]:List zJ))).length]:=hH
     refine jmp1 (G:=fun j=>jumpQ _ j _ _) hF (fun hF=>?_)
     refine jmp_ret ?_
     refine zF ?_
     refine zF ?_
     refine zx ?_
     refine yd ?_
     obtain rfl:=Option.some.inj hF
     replace hF:=hK1
     refine zF ?_
     obtain rfl:=Option.some.inj hF
     refine q_retL0 rfl zG (fin_exts (hN _) (hNt _) (hN _) (hNt _) (hC _) (leV.refl _) rfl ?_)
     exact ⟨rfl,rfl⟩
  ·refine yR ?_
   refine ya ?_
   refine zV ?_
   refine zW ?_
   refine q_end ?_
   obtain rfl:=Option.some.inj hF
   refine q_retL0 rfl zG (fin_exts (hN _) (hNt _) (hN _) (hNt _) (hC _) (leV.refl _) rfl ?_)
   exact ⟨rfl,rfl⟩
theorem ok71 {S:Type} {Hy:S→AH} {nb nt:Nat} {yield0:S→GRow→Option (Bool×S)} {idy:Nat} {c0:(List GNode)} {i0:Nat} {c1:(List zJ)} {i1:Nat} {s0:S} {res:S} (hN:∀ s,(Hy s).blks.length=nb) (hNt:∀ s,(Hy s).toks.length=nt) (hC:∀ s,(Hy s).closed nb nt) (hly:idy < nb) (hy:∀ s x b s' L M,yield0 s x=some (b,s')→SpecY Tryz.prog idy [.agg [.sl 1 (x.path.map zP),.int .u8 x.leaf.typ,.int .i64 x.leaf.n,.int .u64 x.leaf.time,.int .u8 x.leaf.dot.actor.rep,.int .u32 x.leaf.dot.actor.inc,.int .u64 x.leaf.dot.seq,.str x.leaf.text,.sl 5 (x.leaf.items.map GItem.row),.sl 3 (x.leaf.tombs.map GDot.row)]] ((Hy s).ext L M) (fun rr hh=>rr=.bool b∧hh=(Hy s').ext L M)) (hb0:∀ s,(Hy s).blk i0=some (.cells [.sl 3 (c0.map GNode.row)])) (hb1:∀ s,(Hy s).blk i1=some (.cells [.sl 1 (c1.map zP)])) (hF:pathsXrowsC1 S yield0 c0 c1 s0=some res):Spec Tryz.prog 71 [.yld idy,.ptr i0 0,.ptr i1 0] (Hy s0) (fun rr hh=>rr=.tup []∧hh=Hy res):=by
 obtain ⟨n,hn⟩:=anyN_is hF
 exact ok71N n hN hNt hC hly hy hb0 hb1 hn
/-! varve/op.IsName 1 -/
theorem ok91 {r0:Int} {res:Bool} {h:AH}  (hF:opIsNameC1 r0=some res):Spec Tryz.prog 91 [.int .i32 r0] h (fun rr hh=>rr=.bool res∧hh=h):=by
 unfold opIsNameC1 at hF
 refine zt Tryz.func91 rfl (by kernel_rfl) (env:=[.int .i32 r0,za,za,za,za,za,za,za,za,za,za,za,za,za,za,za,za,za,za,za,za,za,za,za,za]) (by rfl) ?_
 refine zk (zd ?_)
 refine zc rfl (zi rfl rfl (zb rfl)) xh ?_
 refine ze (zj (zk (zd ?_)))
 refine zc rfl (zf rfl yr (zb rfl)) wo ?_
 refine zc rfl (zy rfl xn rfl rfl) yB ?_
 refine zc rfl (zf rfl yz (zb rfl)) xz ?_
 refine zp rfl (fun hb=>zf rfl yr (zb rfl)) xE ?_
 refine zp rfl (fun hb=>zy rfl (zn yU hb) rfl rfl) xO ?_
 refine zc rfl (zM rfl yS rfl xH (z8 (fun ht=>gF ht))) xX ?_
 refine zc rfl (zf rfl xj (zb rfl)) wB ?_
 refine zp rfl (fun hb=>zf rfl yr (zb rfl)) yL ?_
 refine zp rfl (fun hb=>zy rfl (zn yq hb) rfl rfl) yP ?_
 refine zp rfl (fun hb=>zf rfl (zn yA hb) (zb rfl)) yX ?_
 refine zp (z7 rfl rfl rfl) (fun hb=>zf rfl yr (zb rfl)) yW ?_
 refine zp (z7 rfl rfl rfl) (fun hb=>zy rfl (zn yC hb) rfl rfl) y5 ?_
 refine zp rfl (fun hb=>zM rfl (zn yM hb) rfl yY (z8 (fun ht=>gF2 hb ht))) y6 ?_
 refine zc rfl (zM rfl xV yT rfl (zX (fun ht=>gT ht))) xg ?_
 refine zc rfl (zf rfl xd (zb rfl)) xk ?_
 refine zp rfl (fun hb=>zf rfl yr (zb rfl)) xD ?_
 refine zp rfl (fun hb=>zy rfl (zn xB hb) rfl rfl) xK ?_
 refine zp rfl (fun hb=>zf rfl (zn xJ hb) (zb rfl)) xY ?_
 refine zp (z7 rfl rfl rfl) (fun hb=>zf rfl yr (zb rfl)) x7 ?_
 refine zp (z7 rfl rfl rfl) (fun hb=>zy rfl (zn x5 hb) rfl rfl) wl ?_
 refine zp rfl (fun hb=>zM rfl (zn xZ hb) rfl wi (z8 (fun ht=>gF2 hb ht))) x6 ?_
 refine zc rfl (zM rfl xi xN rfl (zX (fun ht=>gT ht))) wh ?_
 refine zc rfl (zi rfl wc (zb rfl)) xh ?_
 refine ze (zj (zL ?_))
 obtain rfl:=Option.some.inj hF
 refine zA rfl (zD yV zG) (zz (leV.refl _) rfl ?_)
 exact ⟨rfl,rfl⟩
/-! strings.indexFunc -/
theorem ok138 {s0:zJ} {f1:(Int→Option Bool)} {ff1:FuncId} {af1 kf1:List AV} {truth2:Bool} {res:Int} {h:AH} (hf1:∀ x0 v (L:List Blk) (M:List Nat),f1 x0=some v→Spec Tryz.prog ff1 (af1++[.int .i32 x0]++kf1) (h.ext L M) (fun rr hh=>rr=.bool v∧hh=h.ext L M)) (hF:qg s0 f1 truth2=some res):Spec Tryz.prog 138 [.str s0,.fn (.func ff1) af1 kf1,.bool truth2] h (fun rr hh=>rr=.int .i64 res∧hh=h):=by
 unfold qg at hF
 refine yG Tryz.func138 rfl (by kernel_rfl) (env:=[.str s0,.fn (.func ff1) af1 kf1,.bool truth2,za,za,za,za,za,za,za,za,za,za,za,za,za,za,za,za,za,za]) (by rfl) (fun hlow hC=>?_)
 simp only [yi,AV.low,Bool.and_eq_true,Bool.true_and,and_true] at hlow
 have hlaf1:∀ n m,h.blks.length≤n→h.toks.length≤m→yi n m af1=true:=fun n m h1 h2=>y8 h1 h2 _ (by simp [hlow])
 have hlkf1:∀ n m,h.blks.length≤n→h.toks.length≤m→yi n m kf1=true:=fun n m h1 h2=>y8 h1 h2 _ (by simp [hlow])
 refine zk (zd ?_)
 refine zc rfl (zi rfl rfl (zb rfl)) xE ?_
 refine ze (zj (zk (zk (zd ?_))))
 refine zc rfl (zf rfl yr (zb rfl)) wB ?_
 refine zc rfl (e_range (n:=0) rfl ty9 xV rfl) yL ?_
 refine ze (zj (zQ ?_))
 refine r_loopWF (fun (s1:Nat)=>yO [0,3,4,5,6,7,8,9,11,12,13,14,15,16,17,18,19,20] []) (fun s1=>h.ext [.siter s0 s1] []) hF (fun _=>by simp only [yO,upd,List.set_cons_succ,List.set_cons_zero];try rfl) (wk.le (by exact (.drop (.eq (.eq (.d4 (.drop (.drop (.drop (.eq (.d4 (.d4 (.drop (.drop leL.nil)))))))))))))) ?_
 intro n1 s1 o1 hF hK1
 refine zk (zd ?_)
 refine ops_nextF rfl rfl yq rfl yP yP hF (fun hp5 hF=>?_) (fun hF=>?_)
 ·refine zc rfl (yn rfl yA rfl (zb rfl)) yX ?_
  refine ze (zj (zk ?_))
  refine r_cond yM (fun _=>?_) (fun hh=>by cases hh)
  refine zK (zj (zQ (zk (zd ?_))))
  refine zc rfl (yn rfl yA rfl (zb rfl)) yW ?_
  refine zc rfl (yn rfl yA rfl (zb rfl)) y5 ?_
  refine zc rfl (zi rfl yC (zb rfl)) xO ?_
  refine zc rfl (zi rfl yY (zb rfl)) xX ?_
  refine ze (zj (zk (zd ?_)))
  refine zc rfl (zf rfl yF (zb rfl)) y6 ?_
  refine zc rfl (zf rfl xj (zb rfl)) xg ?_
  refine zR hF (fun v6 hv6 hF=>?_)
  refine zN rfl (s_callC rfl rfl yT (zo xd zw) (.cons (zb rfl) .nil) rfl) (hf1 _ _ _ _ hv6) xk ?_
  refine zc rfl (zf rfl yV (zb rfl)) xD ?_
  refine zc rfl (zy rfl xi xB (bin_boolE ty4)) xK ?_
  refine ze (zj ?_)
  refine zO xJ hF (fun hc7 hF=>?_) (fun hc7 hF=>?_)
  ·refine zk (zd ?_)
   refine zc rfl (zf rfl xH (zb rfl)) xY ?_
   refine zc rfl (zi rfl xZ (zb rfl)) xE ?_
   refine ze (zj (zL ?_))
   refine zF ?_
   refine yd ?_
   obtain rfl:=Option.some.inj hF
   replace hF:=hK1
   refine zF ?_
   refine zx ?_
   obtain rfl:=Option.some.inj hF
   refine zA rfl (zD yU zG) (zz (leV.refl _) rfl ?_)
   exact ⟨rfl,rfl⟩
  ·refine zK (yh (yH ?_))
   obtain rfl:=Option.some.inj hF
   exact ⟨(s1+(dec s0 s1).2),hK1,wk.le (by exact (.drop (.eq (.eq (.d4 (.drop (.drop (.drop (.eq (.d4 (.d4 (.drop (.drop leL.nil)))))))))))))⟩
 ·refine zc rfl (yn rfl yA rfl (zb rfl)) yX ?_
  refine ze (zj (zk ?_))
  refine r_cond yM (fun hh=>by cases hh) (fun _=>?_)
  refine yR ?_
  refine ya ?_
  refine zV ?_
  obtain rfl:=Option.some.inj hF
  replace hF:=hK1
  refine zW ?_
  refine zj (zk (zd ?_))
  refine zc rfl (zi rfl rfl (zb rfl)) xE ?_
  refine ze (zj (zL ?_))
  obtain rfl:=Option.some.inj hF
  refine zA rfl (zD yU zG) (zz (leV.refl _) rfl ?_)
  exact ⟨rfl,rfl⟩
/-! strings.IndexFunc -/
theorem ok121 {s0:zJ} {f1:(Int→Option Bool)} {ff1:FuncId} {af1 kf1:List AV} {res:Int} {h:AH} (hf1:∀ x0 v (L:List Blk) (M:List Nat),f1 x0=some v→Spec Tryz.prog ff1 (af1++[.int .i32 x0]++kf1) (h.ext L M) (fun rr hh=>rr=.bool v∧hh=h.ext L M)) (hF:qy s0 f1=some res):Spec Tryz.prog 121 [.str s0,.fn (.func ff1) af1 kf1] h (fun rr hh=>rr=.int .i64 res∧hh=h):=by
 unfold qy at hF
 refine yG Tryz.func121 rfl (by kernel_rfl) (env:=[.str s0,.fn (.func ff1) af1 kf1,za,za,za,za,za,za]) (by rfl) (fun hlow hC=>?_)
 simp only [yi,AV.low,Bool.and_eq_true,Bool.true_and,and_true] at hlow
 have hlaf1:∀ n m,h.blks.length≤n→h.toks.length≤m→yi n m af1=true:=fun n m h1 h2=>y8 h1 h2 _ (by simp [hlow])
 have hlkf1:∀ n m,h.blks.length≤n→h.toks.length≤m→yi n m kf1=true:=fun n m h1 h2=>y8 h1 h2 _ (by simp [hlow])
 refine zk (zd ?_)
 refine zc rfl (zi rfl rfl (zb rfl)) yB ?_
 refine ze (zj (zk (zd ?_)))
 refine zc rfl (zf rfl yr (zb rfl)) xz ?_
 refine zc rfl (zf rfl yF (zb rfl)) xE ?_
 refine zR hF (fun v1 hv1 hF=>?_)
 refine zN rfl (zC rfl rfl rfl (zo yS (zo yU (zo rfl zw))) (.cons (zb rfl) (.cons (zb rfl) (.cons (zb rfl) .nil)))) (ok138 (fun x0 v L M hv=>by rw [ww];exact hf1 x0 v _ _ hv) hv1) xO ?_
 refine zc rfl (zi rfl xH (zb rfl)) yB ?_
 refine ze (zj (zL ?_))
 obtain rfl:=Option.some.inj hF
 refine zA rfl (zD yz zG) (zz (leV.refl _) rfl ?_)
 exact ⟨rfl,rfl⟩
/-! strings.ContainsFunc -/
theorem ok92 {s0:zJ} {f1:(Int→Option Bool)} {ff1:FuncId} {af1 kf1:List AV} {res:Bool} {h:AH} (hf1:∀ x0 v (L:List Blk) (M:List Nat),f1 x0=some v→Spec Tryz.prog ff1 (af1++[.int .i32 x0]++kf1) (h.ext L M) (fun rr hh=>rr=.bool v∧hh=h.ext L M)) (hF:wC s0 f1=some res):Spec Tryz.prog 92 [.str s0,.fn (.func ff1) af1 kf1] h (fun rr hh=>rr=.bool res∧hh=h):=by
 unfold wC at hF
 refine yG Tryz.func92 rfl (by kernel_rfl) (env:=[.str s0,.fn (.func ff1) af1 kf1,za,za,za,za,za,za,za]) (by rfl) (fun hlow hC=>?_)
 simp only [yi,AV.low,Bool.and_eq_true,Bool.true_and,and_true] at hlow
 have hlaf1:∀ n m,h.blks.length≤n→h.toks.length≤m→yi n m af1=true:=fun n m h1 h2=>y8 h1 h2 _ (by simp [hlow])
 have hlkf1:∀ n m,h.blks.length≤n→h.toks.length≤m→yi n m kf1=true:=fun n m h1 h2=>y8 h1 h2 _ (by simp [hlow])
 refine zk (zd ?_)
 refine zc rfl (zi rfl rfl (zb rfl)) yB ?_
 refine ze (zj (zk (zd ?_)))
 refine zc rfl (zf rfl yr (zb rfl)) xz ?_
 refine zc rfl (zf rfl yF (zb rfl)) xE ?_
 refine zR hF (fun v1 hv1 hF=>?_)
 refine zN rfl (zC rfl rfl rfl (zo yS (zo yU zw)) (.cons (zb rfl) (.cons (zb rfl) .nil))) (ok121 (fun x0 v L M hv=>by rw [ww];exact hf1 x0 v _ _ hv) hv1) xO ?_
 refine zc rfl (zy rfl xH rfl rfl) xX ?_
 refine zc rfl (zi rfl xj (zb rfl)) yB ?_
 refine ze (zj (zL ?_))
 obtain rfl:=Option.some.inj hF
 refine zA rfl (zD yz zG) (zz (leV.refl _) rfl ?_)
 exact ⟨rfl,rfl⟩
/-! varve/op.IsName -/
theorem ok68 {s0:zJ} {res:Bool} {h:AH}  (hF:opIsName s0=some res):Spec Tryz.prog 68 [.str s0] h (fun rr hh=>rr=.bool res∧hh=h):=by
 unfold opIsName at hF
 refine zt Tryz.func68 rfl (by kernel_rfl) (env:=[.str s0,za,za,za,za,za,za,za,za,za,za,za,za,za,za,za,za,za]) (by rfl) ?_
 refine zk (zd ?_)
 refine zc rfl (zi rfl rfl (zb rfl)) xh ?_
 refine ze (zj (zk (zd ?_)))
 refine zc rfl (zi rfl rfl (zb rfl)) wo ?_
 refine ze (zj (zk (zd ?_)))
 refine zc rfl (zf rfl yr (zb rfl)) yB ?_
 refine yb rfl (qa rfl rfl rfl rfl ty9 yz) xz fun hn1=>?_
 replace hn1:=xl hn1
 refine zc rfl (zy rfl yS rfl rfl) xE ?_
 refine zc rfl (zf rfl yU (zb rfl)) xO ?_
 refine zp rfl (fun hb=>zf rfl yr (zb rfl)) xX ?_
 refine xA rfl (fun hb=>qa rfl rfl rfl rfl ty9 (zn xj hb)) wB fun hn2=>?_
 refine zp rfl (fun hb=>zy rfl (zn xV hb) rfl rfl) yL ?_
 refine zc rfl (zM rfl xH yq rfl (zX (fun ht=>gT ht))) yP ?_
 refine zc rfl (zf rfl yA (zb rfl)) yX ?_
 refine zp rfl (fun hb=>zf rfl yr (zb rfl)) yW ?_
 refine zp rfl (fun hb=>zf rfl xn (zb rfl)) y5 ?_
 refine yN hF (fun v3 hv3 hF=>?_)
 refine yk rfl (fun hb=>zC rfl rfl rfl (zo (zn yC hb) (zo (zn yY hb) zw)) (.cons (zb rfl) (.cons (zb rfl) .nil))) (fun hb=>ok92 (fun _ v L M hv=>ok91  hv) (hv3 hb)) y6 ?_
 refine zp rfl (fun hb=>xR rfl (zn yT hb) rfl) xg ?_
 refine zc rfl (zM rfl yM xd rfl (zX (fun ht=>gT ht))) xk ?_
 refine zc rfl (zi rfl xi (zb rfl)) xh ?_
 refine ze (zj (zL ?_))
 obtain rfl:=Option.some.inj hF
 refine zA rfl (zD yV zG) (zz (leV.refl _) rfl ?_)
 exact ⟨rfl,rfl⟩
/-! cmp.isNaN[uint32] -/
theorem ok149 {x0:Int} {res:Bool} {h:AH}  (hF:qe x0=some res):Spec Tryz.prog 149 [.int .u32 x0] h (fun rr hh=>rr=.bool res∧hh=h):=by
 unfold qe at hF
 refine zt Tryz.func149 rfl (by kernel_rfl) (env:=[.int .u32 x0,za,za,za,za,za]) (by rfl) ?_
 refine zk (zd ?_)
 refine zc rfl (zi rfl rfl (zb rfl)) xh ?_
 refine ze (zj (zk (zd ?_)))
 refine zc rfl (zf rfl yr (zb rfl)) wo ?_
 refine zc rfl (zf rfl yr (zb rfl)) yB ?_
 refine zc rfl (zy rfl xn yz rfl) xz ?_
 refine zc rfl (zi rfl yS (zb rfl)) xh ?_
 refine ze (zj (zL ?_))
 obtain rfl:=Option.some.inj hF
 refine zA rfl (zD yV zG) (zz (leV.refl _) rfl ?_)
 exact ⟨rfl,rfl⟩
/-! cmp.Compare[uint32] -/
theorem ok146 {x0:Int} {y1:Int} {res:Int} {h:AH}  (hF:vP x0 y1=some res):Spec Tryz.prog 146 [.int .u32 x0,.int .u32 y1] h (fun rr hh=>rr=.int .i64 res∧hh=h):=by
 unfold vP at hF
 refine zt Tryz.func146 rfl (by kernel_rfl) (env:=[.int .u32 x0,.int .u32 y1,za,za,za,za,za,za,za,za,za,za,za,za,za,za,za,za,za,za]) (by rfl) ?_
 refine zk (zd ?_)
 refine zc rfl (zi rfl rfl (zb rfl)) yB ?_
 refine ze (zj (zk (zd ?_)))
 refine zc rfl (zf rfl yr (zb rfl)) xO ?_
 refine zR hF (fun v1 hv1 hF=>?_)
 refine zN rfl (zC rfl rfl rfl (zo xH zw) (.cons (zb rfl) .nil)) (ok149 hv1) xX ?_
 refine zc rfl (zi rfl xj (zb rfl)) xz ?_
 refine ze (zj (zk (zd ?_)))
 refine zc rfl (zf rfl yF (zb rfl)) wB ?_
 refine zR hF (fun v2 hv2 hF=>?_)
 refine zN rfl (zC rfl rfl rfl (zo xV zw) (.cons (zb rfl) .nil)) (ok149 hv2) yL ?_
 refine zc rfl (zi rfl yq (zb rfl)) xE ?_
 refine ze (zj (zk (zk (zd ?_))))
 refine zc rfl (zf rfl yS (zb rfl)) yP ?_
 refine ze (zj ?_)
 refine zO yA hF (fun hc3 hF=>?_) (fun hc3 hF=>?_)
 ·refine zk (zk (zd ?_))
  refine zc rfl (zf rfl yU (zb rfl)) yX ?_
  refine ze (zj ?_)
  refine zO yM hF (fun hc4 hF=>?_) (fun hc4 hF=>?_)
  ·refine zk (zd ?_)
   refine zc rfl (zi rfl rfl (zb rfl)) yB ?_
   refine ze (zj (zL (zx (zx ?_))))
   obtain rfl:=Option.some.inj hF
   refine zA rfl (zD yz zG) (zz (leV.refl _) rfl ?_)
   exact ⟨rfl,rfl⟩
  ·refine zK (zj (zk (zd ?_)))
   refine zc rfl (zi rfl rfl (zb rfl)) yB ?_
   refine ze (zj (zL (zx ?_)))
   obtain rfl:=Option.some.inj hF
   refine zA rfl (zD yz zG) (zz (leV.refl _) rfl ?_)
   exact ⟨rfl,rfl⟩
 ·refine zK (zj (zk (zk (zd ?_))))
  refine zc rfl (zf rfl yU (zb rfl)) yW ?_
  refine ze (zj ?_)
  refine zO yC hF (fun hc5 hF=>?_) (fun hc5 hF=>?_)
  ·refine zk (zd ?_)
   refine zc rfl (zi rfl rfl (zb rfl)) yB ?_
   refine ze (zj (zL (zx ?_)))
   obtain rfl:=Option.some.inj hF
   refine zA rfl (zD yz zG) (zz (leV.refl _) rfl ?_)
   exact ⟨rfl,rfl⟩
  ·refine zK (zj (zk (zk (zd ?_))))
   refine zc rfl (zf rfl yr (zb rfl)) y5 ?_
   refine zc rfl (zf rfl yF (zb rfl)) y6 ?_
   refine zc rfl (zy rfl yY yT rfl) xg ?_
   refine ze (zj ?_)
   refine zO xd hF (fun hc6 hF=>?_) (fun hc6 hF=>?_)
   ·refine zk (zd ?_)
    refine zc rfl (zi rfl rfl (zb rfl)) yB ?_
    refine ze (zj (zL (zx ?_)))
    obtain rfl:=Option.some.inj hF
    refine zA rfl (zD yz zG) (zz (leV.refl _) rfl ?_)
    exact ⟨rfl,rfl⟩
   ·refine zK (zj (zk (zk (zd ?_))))
    refine zc rfl (zf rfl yr (zb rfl)) xk ?_
    refine zc rfl (zf rfl yF (zb rfl)) xD ?_
    refine zc rfl (zy rfl xi xB rfl) xK ?_
    refine ze (zj ?_)
    refine zO xJ hF (fun hc7 hF=>?_) (fun hc7 hF=>?_)
    ·refine zk (zd ?_)
     refine zc rfl (zi rfl rfl (zb rfl)) yB ?_
     refine ze (zj (zL (zx ?_)))
     obtain rfl:=Option.some.inj hF
     refine zA rfl (zD yz zG) (zz (leV.refl _) rfl ?_)
     exact ⟨rfl,rfl⟩
    ·refine zK (zj (zk (zd ?_)))
     refine zc rfl (zi rfl rfl (zb rfl)) yB ?_
     refine ze (zj (zL ?_))
     obtain rfl:=Option.some.inj hF
     refine zA rfl (zD yz zG) (zz (leV.refl _) rfl ?_)
     exact ⟨rfl,rfl⟩
/-! cmp.isNaN[uint8] -/
theorem ok89 {x0:Int} {res:Bool} {h:AH}  (hF:qw x0=some res):Spec Tryz.prog 89 [.int .u8 x0] h (fun rr hh=>rr=.bool res∧hh=h):=by
 unfold qw at hF
 refine zt Tryz.func89 rfl (by kernel_rfl) (env:=[.int .u8 x0,za,za,za,za,za]) (by rfl) ?_
 refine zk (zd ?_)
 refine zc rfl (zi rfl rfl (zb rfl)) xh ?_
 refine ze (zj (zk (zd ?_)))
 refine zc rfl (zf rfl yr (zb rfl)) wo ?_
 refine zc rfl (zf rfl yr (zb rfl)) yB ?_
 refine zc rfl (zy rfl xn yz rfl) xz ?_
 refine zc rfl (zi rfl yS (zb rfl)) xh ?_
 refine ze (zj (zL ?_))
 obtain rfl:=Option.some.inj hF
 refine zA rfl (zD yV zG) (zz (leV.refl _) rfl ?_)
 exact ⟨rfl,rfl⟩
end Go.Vv
