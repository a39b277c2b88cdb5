/- Each function that the law reaches computes what its reading says; printed by a program. -/
import Derived.Test.YtoebhbekbkkkeaaVvMl
import Derived.Test.YtoebhbekbkkkeaaVvRb
import Derived.Test.YtoebhbekbkkkeaaVvPt
import Derived.Test.YtoebhbekbkkkeaaVvR1
import Derived.Test.YtoebhbekbkkkeaaVvNp
import Derived.Test.YtoebhbekbkkkeaaVvZ
import Derived.Test.YtoebhbekbkkkeaaVvAn
import Derived.Test.YtoebhbekbkkkeaaVvLb
import Derived.Test.YtoebhbekbkkkeaaVvLc
import Derived.Test.YtoebhbekbkkkeaaVvMr
import Derived.Test.YtoebhbekbkkkeaaVvIt
import Derived.Test.YtoebhbekbkkkeaaVvRd
import Derived.Test.YtoebhbekbkkkeaaD
import Derived.Test.YtoebhbekbkkkeaaProg
namespace Go.Vv
open Go Go.Proofs
set_option maxRecDepth 100000
set_option maxHeartbeats 1000000
set_option linter.unusedSimpArgs false
set_option linter.unusedVariables false
section
variable {v a0 a1 a2 a3 a4 a5 a6 a7 a8 a9 a10 a11 a12 a13 a14 a15 a16 a17 a18 a19 a20 a21 a22 a23 a24 a25 a26 a27 a28 a29 a30 a31 a32 a33 a34 a35 a36 a37 a38 a39:AV} {r q:List AV} {t:Nat}
theorem yl:yX (a0::r) (.tmp 0)=some a0:=rfl
theorem st0:vp (some 0) (a0::r) v=some (v::r):=rfl
theorem yw:yX (a0::a1::r) (.tmp 1)=some a1:=rfl
theorem st1:vp (some 1) (a0::a1::r) v=some (a0::v::r):=rfl
theorem yT:yX (a0::a1::a2::r) (.tmp 2)=some a2:=rfl
theorem yU:vp (some 2) (a0::a1::a2::r) v=some (a0::a1::v::r):=rfl
theorem y8:yX (a0::a1::a2::a3::r) (.tmp 3)=some a3:=rfl
theorem x5:vp (some 3) (a0::a1::a2::a3::r) v=some (a0::a1::a2::v::r):=rfl
theorem yz:yX (a0::a1::a2::a3::a4::r) (.tmp 4)=some a4:=rfl
theorem yu:vp (some 4) (a0::a1::a2::a3::a4::r) v=some (a0::a1::a2::a3::v::r):=rfl
theorem yD:yX (a0::a1::a2::a3::a4::a5::r) (.tmp 5)=some a5:=rfl
theorem xg:vp (some 5) (a0::a1::a2::a3::a4::a5::r) v=some (a0::a1::a2::a3::a4::v::r):=rfl
theorem yS:yX (a0::a1::a2::a3::a4::a5::a6::r) (.tmp 6)=some a6:=rfl
theorem xn:vp (some 6) (a0::a1::a2::a3::a4::a5::a6::r) v=some (a0::a1::a2::a3::a4::a5::v::r):=rfl
theorem xl:yX (a0::a1::a2::a3::a4::a5::a6::a7::r) (.tmp 7)=some a7:=rfl
theorem xJ:vp (some 7) (a0::a1::a2::a3::a4::a5::a6::a7::r) v=some (a0::a1::a2::a3::a4::a5::a6::v::r):=rfl
theorem xc:yX (a0::a1::a2::a3::a4::a5::a6::a7::a8::r) (.tmp 8)=some a8:=rfl
theorem xM:vp (some 8) (a0::a1::a2::a3::a4::a5::a6::a7::a8::r) v=some (a0::a1::a2::a3::a4::a5::a6::a7::v::r):=rfl
theorem xy:yX (a0::a1::a2::a3::a4::a5::a6::a7::a8::a9::r) (.tmp 9)=some a9:=rfl
theorem wv:vp (some 9) (a0::a1::a2::a3::a4::a5::a6::a7::a8::a9::r) v=some (a0::a1::a2::a3::a4::a5::a6::a7::a8::v::r):=rfl
theorem yv:yX (a0::a1::a2::a3::a4::a5::a6::a7::a8::a9::a10::r) (.tmp 10)=some a10:=rfl
theorem yF:vp (some 10) (a0::a1::a2::a3::a4::a5::a6::a7::a8::a9::a10::r) v=some (a0::a1::a2::a3::a4::a5::a6::a7::a8::a9::v::r):=rfl
theorem yA:yX (a0::a1::a2::a3::a4::a5::a6::a7::a8::a9::a10::a11::r) (.tmp 11)=some a11:=rfl
theorem yL:vp (some 11) (a0::a1::a2::a3::a4::a5::a6::a7::a8::a9::a10::a11::r) v=some (a0::a1::a2::a3::a4::a5::a6::a7::a8::a9::a10::v::r):=rfl
theorem yK:yX (a0::a1::a2::a3::a4::a5::a6::a7::a8::a9::a10::a11::a12::r) (.tmp 12)=some a12:=rfl
theorem yQ:vp (some 12) (a0::a1::a2::a3::a4::a5::a6::a7::a8::a9::a10::a11::a12::r) v=some (a0::a1::a2::a3::a4::a5::a6::a7::a8::a9::a10::a11::v::r):=rfl
theorem yN:yX (a0::a1::a2::a3::a4::a5::a6::a7::a8::a9::a10::a11::a12::a13::r) (.tmp 13)=some a13:=rfl
theorem yW:vp (some 13) (a0::a1::a2::a3::a4::a5::a6::a7::a8::a9::a10::a11::a12::a13::r) v=some (a0::a1::a2::a3::a4::a5::a6::a7::a8::a9::a10::a11::a12::v::r):=rfl
theorem y6:yX (a0::a1::a2::a3::a4::a5::a6::a7::a8::a9::a10::a11::a12::a13::a14::r) (.tmp 14)=some a14:=rfl
theorem y3:vp (some 14) (a0::a1::a2::a3::a4::a5::a6::a7::a8::a9::a10::a11::a12::a13::a14::r) v=some (a0::a1::a2::a3::a4::a5::a6::a7::a8::a9::a10::a11::a12::a13::v::r):=rfl
theorem yR:yX (a0::a1::a2::a3::a4::a5::a6::a7::a8::a9::a10::a11::a12::a13::a14::a15::r) (.tmp 15)=some a15:=rfl
theorem y2:vp (some 15) (a0::a1::a2::a3::a4::a5::a6::a7::a8::a9::a10::a11::a12::a13::a14::a15::r) v=some (a0::a1::a2::a3::a4::a5::a6::a7::a8::a9::a10::a11::a12::a13::a14::v::r):=rfl
theorem xb:yX (a0::a1::a2::a3::a4::a5::a6::a7::a8::a9::a10::a11::a12::a13::a14::a15::a16::r) (.tmp 16)=some a16:=rfl
theorem xd:vp (some 16) (a0::a1::a2::a3::a4::a5::a6::a7::a8::a9::a10::a11::a12::a13::a14::a15::a16::r) v=some (a0::a1::a2::a3::a4::a5::a6::a7::a8::a9::a10::a11::a12::a13::a14::a15::v::r):=rfl
theorem xj:yX (a0::a1::a2::a3::a4::a5::a6::a7::a8::a9::a10::a11::a12::a13::a14::a15::a16::a17::r) (.tmp 17)=some a17:=rfl
theorem xi:vp (some 17) (a0::a1::a2::a3::a4::a5::a6::a7::a8::a9::a10::a11::a12::a13::a14::a15::a16::a17::r) v=some (a0::a1::a2::a3::a4::a5::a6::a7::a8::a9::a10::a11::a12::a13::a14::a15::a16::v::r):=rfl
theorem xp:yX (a0::a1::a2::a3::a4::a5::a6::a7::a8::a9::a10::a11::a12::a13::a14::a15::a16::a17::a18::r) (.tmp 18)=some a18:=rfl
theorem xr:vp (some 18) (a0::a1::a2::a3::a4::a5::a6::a7::a8::a9::a10::a11::a12::a13::a14::a15::a16::a17::a18::r) v=some (a0::a1::a2::a3::a4::a5::a6::a7::a8::a9::a10::a11::a12::a13::a14::a15::a16::a17::v::r):=rfl
theorem xH:yX (a0::a1::a2::a3::a4::a5::a6::a7::a8::a9::a10::a11::a12::a13::a14::a15::a16::a17::a18::a19::r) (.tmp 19)=some a19:=rfl
theorem xE:vp (some 19) (a0::a1::a2::a3::a4::a5::a6::a7::a8::a9::a10::a11::a12::a13::a14::a15::a16::a17::a18::a19::r) v=some (a0::a1::a2::a3::a4::a5::a6::a7::a8::a9::a10::a11::a12::a13::a14::a15::a16::a17::a18::v::r):=rfl
theorem xO:yX (a0::a1::a2::a3::a4::a5::a6::a7::a8::a9::a10::a11::a12::a13::a14::a15::a16::a17::a18::a19::a20::r) (.tmp 20)=some a20:=rfl
theorem xR:vp (some 20) (a0::a1::a2::a3::a4::a5::a6::a7::a8::a9::a10::a11::a12::a13::a14::a15::a16::a17::a18::a19::a20::r) v=some (a0::a1::a2::a3::a4::a5::a6::a7::a8::a9::a10::a11::a12::a13::a14::a15::a16::a17::a18::a19::v::r):=rfl
theorem xV:yX (a0::a1::a2::a3::a4::a5::a6::a7::a8::a9::a10::a11::a12::a13::a14::a15::a16::a17::a18::a19::a20::a21::r) (.tmp 21)=some a21:=rfl
theorem xY:vp (some 21) (a0::a1::a2::a3::a4::a5::a6::a7::a8::a9::a10::a11::a12::a13::a14::a15::a16::a17::a18::a19::a20::a21::r) v=some (a0::a1::a2::a3::a4::a5::a6::a7::a8::a9::a10::a11::a12::a13::a14::a15::a16::a17::a18::a19::a20::v::r):=rfl
theorem x9:yX (a0::a1::a2::a3::a4::a5::a6::a7::a8::a9::a10::a11::a12::a13::a14::a15::a16::a17::a18::a19::a20::a21::a22::r) (.tmp 22)=some a22:=rfl
theorem x7:vp (some 22) (a0::a1::a2::a3::a4::a5::a6::a7::a8::a9::a10::a11::a12::a13::a14::a15::a16::a17::a18::a19::a20::a21::a22::r) v=some (a0::a1::a2::a3::a4::a5::a6::a7::a8::a9::a10::a11::a12::a13::a14::a15::a16::a17::a18::a19::a20::a21::v::r):=rfl
theorem xB:yX (a0::a1::a2::a3::a4::a5::a6::a7::a8::a9::a10::a11::a12::a13::a14::a15::a16::a17::a18::a19::a20::a21::a22::a23::r) (.tmp 23)=some a23:=rfl
theorem xQ:vp (some 23) (a0::a1::a2::a3::a4::a5::a6::a7::a8::a9::a10::a11::a12::a13::a14::a15::a16::a17::a18::a19::a20::a21::a22::a23::r) v=some (a0::a1::a2::a3::a4::a5::a6::a7::a8::a9::a10::a11::a12::a13::a14::a15::a16::a17::a18::a19::a20::a21::a22::v::r):=rfl
theorem wg:yX (a0::a1::a2::a3::a4::a5::a6::a7::a8::a9::a10::a11::a12::a13::a14::a15::a16::a17::a18::a19::a20::a21::a22::a23::a24::r) (.tmp 24)=some a24:=rfl
theorem wc:vp (some 24) (a0::a1::a2::a3::a4::a5::a6::a7::a8::a9::a10::a11::a12::a13::a14::a15::a16::a17::a18::a19::a20::a21::a22::a23::a24::r) v=some (a0::a1::a2::a3::a4::a5::a6::a7::a8::a9::a10::a11::a12::a13::a14::a15::a16::a17::a18::a19::a20::a21::a22::a23::v::r):=rfl
theorem x4:yX (a0::a1::a2::a3::a4::a5::a6::a7::a8::a9::a10::a11::a12::a13::a14::a15::a16::a17::a18::a19::a20::a21::a22::a23::a24::a25::r) (.tmp 25)=some a25:=rfl
theorem wb:vp (some 25) (a0::a1::a2::a3::a4::a5::a6::a7::a8::a9::a10::a11::a12::a13::a14::a15::a16::a17::a18::a19::a20::a21::a22::a23::a24::a25::r) v=some (a0::a1::a2::a3::a4::a5::a6::a7::a8::a9::a10::a11::a12::a13::a14::a15::a16::a17::a18::a19::a20::a21::a22::a23::a24::v::r):=rfl
theorem wF:yX (a0::a1::a2::a3::a4::a5::a6::a7::a8::a9::a10::a11::a12::a13::a14::a15::a16::a17::a18::a19::a20::a21::a22::a23::a24::a25::a26::r) (.tmp 26)=some a26:=rfl
theorem wJ:vp (some 26) (a0::a1::a2::a3::a4::a5::a6::a7::a8::a9::a10::a11::a12::a13::a14::a15::a16::a17::a18::a19::a20::a21::a22::a23::a24::a25::a26::r) v=some (a0::a1::a2::a3::a4::a5::a6::a7::a8::a9::a10::a11::a12::a13::a14::a15::a16::a17::a18::a19::a20::a21::a22::a23::a24::a25::v::r):=rfl
theorem wU:yX (a0::a1::a2::a3::a4::a5::a6::a7::a8::a9::a10::a11::a12::a13::a14::a15::a16::a17::a18::a19::a20::a21::a22::a23::a24::a25::a26::a27::r) (.tmp 27)=some a27:=rfl
theorem wR:vp (some 27) (a0::a1::a2::a3::a4::a5::a6::a7::a8::a9::a10::a11::a12::a13::a14::a15::a16::a17::a18::a19::a20::a21::a22::a23::a24::a25::a26::a27::r) v=some (a0::a1::a2::a3::a4::a5::a6::a7::a8::a9::a10::a11::a12::a13::a14::a15::a16::a17::a18::a19::a20::a21::a22::a23::a24::a25::a26::v::r):=rfl
theorem w6:yX (a0::a1::a2::a3::a4::a5::a6::a7::a8::a9::a10::a11::a12::a13::a14::a15::a16::a17::a18::a19::a20::a21::a22::a23::a24::a25::a26::a27::a28::r) (.tmp 28)=some a28:=rfl
theorem wZ:vp (some 28) (a0::a1::a2::a3::a4::a5::a6::a7::a8::a9::a10::a11::a12::a13::a14::a15::a16::a17::a18::a19::a20::a21::a22::a23::a24::a25::a26::a27::a28::r) v=some (a0::a1::a2::a3::a4::a5::a6::a7::a8::a9::a10::a11::a12::a13::a14::a15::a16::a17::a18::a19::a20::a21::a22::a23::a24::a25::a26::a27::v::r):=rfl
theorem vo:yX (a0::a1::a2::a3::a4::a5::a6::a7::a8::a9::a10::a11::a12::a13::a14::a15::a16::a17::a18::a19::a20::a21::a22::a23::a24::a25::a26::a27::a28::a29::r) (.tmp 29)=some a29:=rfl
theorem vf:vp (some 29) (a0::a1::a2::a3::a4::a5::a6::a7::a8::a9::a10::a11::a12::a13::a14::a15::a16::a17::a18::a19::a20::a21::a22::a23::a24::a25::a26::a27::a28::a29::r) v=some (a0::a1::a2::a3::a4::a5::a6::a7::a8::a9::a10::a11::a12::a13::a14::a15::a16::a17::a18::a19::a20::a21::a22::a23::a24::a25::a26::a27::a28::v::r):=rfl
theorem vn:yX (a0::a1::a2::a3::a4::a5::a6::a7::a8::a9::a10::a11::a12::a13::a14::a15::a16::a17::a18::a19::a20::a21::a22::a23::a24::a25::a26::a27::a28::a29::a30::r) (.tmp 30)=some a30:=rfl
theorem ve:vp (some 30) (a0::a1::a2::a3::a4::a5::a6::a7::a8::a9::a10::a11::a12::a13::a14::a15::a16::a17::a18::a19::a20::a21::a22::a23::a24::a25::a26::a27::a28::a29::a30::r) v=some (a0::a1::a2::a3::a4::a5::a6::a7::a8::a9::a10::a11::a12::a13::a14::a15::a16::a17::a18::a19::a20::a21::a22::a23::a24::a25::a26::a27::a28::a29::v::r):=rfl
theorem vm:yX (a0::a1::a2::a3::a4::a5::a6::a7::a8::a9::a10::a11::a12::a13::a14::a15::a16::a17::a18::a19::a20::a21::a22::a23::a24::a25::a26::a27::a28::a29::a30::a31::r) (.tmp 31)=some a31:=rfl
theorem vd:vp (some 31) (a0::a1::a2::a3::a4::a5::a6::a7::a8::a9::a10::a11::a12::a13::a14::a15::a16::a17::a18::a19::a20::a21::a22::a23::a24::a25::a26::a27::a28::a29::a30::a31::r) v=some (a0::a1::a2::a3::a4::a5::a6::a7::a8::a9::a10::a11::a12::a13::a14::a15::a16::a17::a18::a19::a20::a21::a22::a23::a24::a25::a26::a27::a28::a29::a30::v::r):=rfl
theorem w5:yX (a0::a1::a2::a3::a4::a5::a6::a7::a8::a9::a10::a11::a12::a13::a14::a15::a16::a17::a18::a19::a20::a21::a22::a23::a24::a25::a26::a27::a28::a29::a30::a31::a32::r) (.tmp 32)=some a32:=rfl
theorem vc:vp (some 32) (a0::a1::a2::a3::a4::a5::a6::a7::a8::a9::a10::a11::a12::a13::a14::a15::a16::a17::a18::a19::a20::a21::a22::a23::a24::a25::a26::a27::a28::a29::a30::a31::a32::r) v=some (a0::a1::a2::a3::a4::a5::a6::a7::a8::a9::a10::a11::a12::a13::a14::a15::a16::a17::a18::a19::a20::a21::a22::a23::a24::a25::a26::a27::a28::a29::a30::a31::v::r):=rfl
theorem vA:yX (a0::a1::a2::a3::a4::a5::a6::a7::a8::a9::a10::a11::a12::a13::a14::a15::a16::a17::a18::a19::a20::a21::a22::a23::a24::a25::a26::a27::a28::a29::a30::a31::a32::a33::r) (.tmp 33)=some a33:=rfl
theorem vu:vp (some 33) (a0::a1::a2::a3::a4::a5::a6::a7::a8::a9::a10::a11::a12::a13::a14::a15::a16::a17::a18::a19::a20::a21::a22::a23::a24::a25::a26::a27::a28::a29::a30::a31::a32::a33::r) v=some (a0::a1::a2::a3::a4::a5::a6::a7::a8::a9::a10::a11::a12::a13::a14::a15::a16::a17::a18::a19::a20::a21::a22::a23::a24::a25::a26::a27::a28::a29::a30::a31::a32::v::r):=rfl
theorem vl:yX (a0::a1::a2::a3::a4::a5::a6::a7::a8::a9::a10::a11::a12::a13::a14::a15::a16::a17::a18::a19::a20::a21::a22::a23::a24::a25::a26::a27::a28::a29::a30::a31::a32::a33::a34::r) (.tmp 34)=some a34:=rfl
theorem vt:vp (some 34) (a0::a1::a2::a3::a4::a5::a6::a7::a8::a9::a10::a11::a12::a13::a14::a15::a16::a17::a18::a19::a20::a21::a22::a23::a24::a25::a26::a27::a28::a29::a30::a31::a32::a33::a34::r) v=some (a0::a1::a2::a3::a4::a5::a6::a7::a8::a9::a10::a11::a12::a13::a14::a15::a16::a17::a18::a19::a20::a21::a22::a23::a24::a25::a26::a27::a28::a29::a30::a31::a32::a33::v::r):=rfl
theorem vk:yX (a0::a1::a2::a3::a4::a5::a6::a7::a8::a9::a10::a11::a12::a13::a14::a15::a16::a17::a18::a19::a20::a21::a22::a23::a24::a25::a26::a27::a28::a29::a30::a31::a32::a33::a34::a35::r) (.tmp 35)=some a35:=rfl
theorem vb:vp (some 35) (a0::a1::a2::a3::a4::a5::a6::a7::a8::a9::a10::a11::a12::a13::a14::a15::a16::a17::a18::a19::a20::a21::a22::a23::a24::a25::a26::a27::a28::a29::a30::a31::a32::a33::a34::a35::r) v=some (a0::a1::a2::a3::a4::a5::a6::a7::a8::a9::a10::a11::a12::a13::a14::a15::a16::a17::a18::a19::a20::a21::a22::a23::a24::a25::a26::a27::a28::a29::a30::a31::a32::a33::a34::v::r):=rfl
theorem wN:yX (a0::a1::a2::a3::a4::a5::a6::a7::a8::a9::a10::a11::a12::a13::a14::a15::a16::a17::a18::a19::a20::a21::a22::a23::a24::a25::a26::a27::a28::a29::a30::a31::a32::a33::a34::a35::a36::r) (.tmp 36)=some a36:=rfl
theorem wQ:vp (some 36) (a0::a1::a2::a3::a4::a5::a6::a7::a8::a9::a10::a11::a12::a13::a14::a15::a16::a17::a18::a19::a20::a21::a22::a23::a24::a25::a26::a27::a28::a29::a30::a31::a32::a33::a34::a35::a36::r) v=some (a0::a1::a2::a3::a4::a5::a6::a7::a8::a9::a10::a11::a12::a13::a14::a15::a16::a17::a18::a19::a20::a21::a22::a23::a24::a25::a26::a27::a28::a29::a30::a31::a32::a33::a34::a35::v::r):=rfl
theorem vj:yX (a0::a1::a2::a3::a4::a5::a6::a7::a8::a9::a10::a11::a12::a13::a14::a15::a16::a17::a18::a19::a20::a21::a22::a23::a24::a25::a26::a27::a28::a29::a30::a31::a32::a33::a34::a35::a36::a37::r) (.tmp 37)=some a37:=rfl
theorem va:vp (some 37) (a0::a1::a2::a3::a4::a5::a6::a7::a8::a9::a10::a11::a12::a13::a14::a15::a16::a17::a18::a19::a20::a21::a22::a23::a24::a25::a26::a27::a28::a29::a30::a31::a32::a33::a34::a35::a36::a37::r) v=some (a0::a1::a2::a3::a4::a5::a6::a7::a8::a9::a10::a11::a12::a13::a14::a15::a16::a17::a18::a19::a20::a21::a22::a23::a24::a25::a26::a27::a28::a29::a30::a31::a32::a33::a34::a35::a36::v::r):=rfl
theorem vz:yX (a0::a1::a2::a3::a4::a5::a6::a7::a8::a9::a10::a11::a12::a13::a14::a15::a16::a17::a18::a19::a20::a21::a22::a23::a24::a25::a26::a27::a28::a29::a30::a31::a32::a33::a34::a35::a36::a37::a38::r) (.tmp 38)=some a38:=rfl
theorem vE:vp (some 38) (a0::a1::a2::a3::a4::a5::a6::a7::a8::a9::a10::a11::a12::a13::a14::a15::a16::a17::a18::a19::a20::a21::a22::a23::a24::a25::a26::a27::a28::a29::a30::a31::a32::a33::a34::a35::a36::a37::a38::r) v=some (a0::a1::a2::a3::a4::a5::a6::a7::a8::a9::a10::a11::a12::a13::a14::a15::a16::a17::a18::a19::a20::a21::a22::a23::a24::a25::a26::a27::a28::a29::a30::a31::a32::a33::a34::a35::a36::a37::v::r):=rfl
theorem vF:yX (a0::a1::a2::a3::a4::a5::a6::a7::a8::a9::a10::a11::a12::a13::a14::a15::a16::a17::a18::a19::a20::a21::a22::a23::a24::a25::a26::a27::a28::a29::a30::a31::a32::a33::a34::a35::a36::a37::a38::a39::r) (.tmp 39)=some a39:=rfl
theorem vJ:vp (some 39) (a0::a1::a2::a3::a4::a5::a6::a7::a8::a9::a10::a11::a12::a13::a14::a15::a16::a17::a18::a19::a20::a21::a22::a23::a24::a25::a26::a27::a28::a29::a30::a31::a32::a33::a34::a35::a36::a37::a38::a39::r) v=some (a0::a1::a2::a3::a4::a5::a6::a7::a8::a9::a10::a11::a12::a13::a14::a15::a16::a17::a18::a19::a20::a21::a22::a23::a24::a25::a26::a27::a28::a29::a30::a31::a32::a33::a34::a35::a36::a37::a38::v::r):=rfl
theorem gk (h:yX r (.tmp t)=some v):yX (a0::a1::a2::a3::a4::a5::a6::a7::a8::a9::a10::a11::a12::a13::a14::a15::a16::a17::a18::a19::a20::a21::a22::a23::a24::a25::a26::a27::a28::a29::a30::a31::a32::a33::a34::a35::a36::a37::a38::a39::r) (.tmp (t+40))=some v:=h
theorem sk (h:vp (some t) r v=some q):vp (some (t+40)) (a0::a1::a2::a3::a4::a5::a6::a7::a8::a9::a10::a11::a12::a13::a14::a15::a16::a17::a18::a19::a20::a21::a22::a23::a24::a25::a26::a27::a28::a29::a30::a31::a32::a33::a34::a35::a36::a37::a38::a39::r) v=some (a0::a1::a2::a3::a4::a5::a6::a7::a8::a9::a10::a11::a12::a13::a14::a15::a16::a17::a18::a19::a20::a21::a22::a23::a24::a25::a26::a27::a28::a29::a30::a31::a32::a33::a34::a35::a36::a37::a38::a39::q):=congrArg (fun x=>some (a0::a1::a2::a3::a4::a5::a6::a7::a8::a9::a10::a11::a12::a13::a14::a15::a16::a17::a18::a19::a20::a21::a22::a23::a24::a25::a26::a27::a28::a29::a30::a31::a32::a33::a34::a35::a36::a37::a38::a39::x)) (Option.some.inj h)
end

def GActor.row (x:GActor):List AV:=[.int .u8 x.rep,.int .u32 x.inc]
def GDot.row (x:GDot):List AV:=[.int .u8 x.actor.rep,.int .u32 x.actor.inc,.int .u64 x.seq]
def GItem.row (x:GItem):List AV:=[.int .u64 x.time,.int .u8 x.dot.actor.rep,.int .u32 x.dot.actor.inc,.int .u64 x.dot.seq,.str x.text]
def GLeaf.row (x:GLeaf):List AV:=[.int .u8 x.typ,.int .i64 x.n,.int .u64 x.time,.int .u8 x.dot.actor.rep,.int .u32 x.dot.actor.inc,.int .u64 x.dot.seq,.str x.text,.sl 5 (x.items.map GItem.row),.sl 3 (x.tombs.map GDot.row)]
mutual
def GNode.row:GNode→List AV
  | ⟨name,leaves,subs⟩=>[.str name,.sl 9 (leaves.map GLeaf.row),.sl 3 (GNode.rows subs)]
def GNode.rows:List GNode→List (List AV)
  | []=>[]
  | x::r=>x.row::GNode.rows r
end
theorem GNode.rows_eq (l:List GNode):GNode.rows l=l.map GNode.row:=by
  induction l with
  | nil=>rfl
  | cons x r ih=>simp only [GNode.rows,List.map_cons,ih]
theorem GNode.row_eq (x:GNode):x.row=[.str x.name,.sl 9 (x.leaves.map GLeaf.row),.sl 3 (x.subs.map GNode.row)]:=by
  cases x;simp only [GNode.row,GNode.rows_eq]
def GVarveref07Row.row (x:GVarveref07Row):List AV:=[.sl 1 (x.path.map zI),.int .u8 x.l.typ,.int .i64 x.l.n,.int .u64 x.l.time,.int .u8 x.l.dot.actor.rep,.int .u32 x.l.dot.actor.inc,.int .u64 x.l.dot.seq,.str x.l.text,.sl 5 (x.l.items.map GItem.row),.sl 3 (x.l.tombs.map GDot.row)]
def GRow.row (x:GRow):List AV:=[.sl 1 (x.path.map zI),.int .u8 x.leaf.typ,.int .i64 x.leaf.n,.int .u64 x.leaf.time,.int .u8 x.leaf.dot.actor.rep,.int .u32 x.leaf.dot.actor.inc,.int .u64 x.leaf.dot.seq,.str x.leaf.text,.sl 5 (x.leaf.items.map GItem.row),.sl 3 (x.leaf.tombs.map GDot.row)]
def GRow.rowN (x:GRow):List AV:=[.nsl 1 (x.path.map zI),.int .u8 x.leaf.typ,.int .i64 x.leaf.n,.int .u64 x.leaf.time,.int .u8 x.leaf.dot.actor.rep,.int .u32 x.leaf.dot.actor.inc,.int .u64 x.leaf.dot.seq,.str x.leaf.text,.nsl 5 (x.leaf.items.map GItem.row),.nsl 3 (x.leaf.tombs.map GDot.row)]
theorem GRow.rowN_le (x:GRow):leGR AnyG (x.rowN) (x.row):=.cons rfl (leG.nslM (fun _=>leGR.refl rfl)) (.cons rfl leG.refl (.cons rfl leG.refl (.cons rfl leG.refl (.cons rfl leG.refl (.cons rfl leG.refl (.cons rfl leG.refl (.cons rfl leG.refl (.cons rfl (leG.nslM (fun _=>leGR.refl rfl)) (.cons rfl (leG.nslM (fun _=>leGR.refl rfl)) .nil)))))))))
def GRow.rowG (x:GRow):List AV:=[.gsl 1 (x.path).length,.int .u8 x.leaf.typ,.int .i64 x.leaf.n,.int .u64 x.leaf.time,.int .u8 x.leaf.dot.actor.rep,.int .u32 x.leaf.dot.actor.inc,.int .u64 x.leaf.dot.seq,.str x.leaf.text,.gsl 5 (x.leaf.items).length,.gsl 3 (x.leaf.tombs).length]
theorem GRow.rowN_ct (x:GRow):ctR (x.rowN) (x.rowG):=.cons rfl (.nsl (by decide) (by simp)) (.cons rfl (.plain rfl) (.cons rfl (.plain rfl) (.cons rfl (.plain rfl) (.cons rfl (.plain rfl) (.cons rfl (.plain rfl) (.cons rfl (.plain rfl) (.cons rfl (.plain rfl) (.cons rfl (.nsl (by decide) (by simp)) (.cons rfl (.nsl (by decide) (by simp)) .nil)))))))))
def GLeaf.rowB (x:GLeaf):List AV:=[.int .u8 x.typ,.int .i64 x.n,.int .u64 x.time,.int .u8 x.dot.actor.rep,.int .u32 x.dot.actor.inc,.int .u64 x.dot.seq,.str x.text,.bsl 5 (x.items.map GItem.row),.bsl 3 (x.tombs.map GDot.row)]
theorem GLeaf.rowB_le (x:GLeaf):leGR AnyG (x.rowB) (x.row):=.cons rfl leG.refl (.cons rfl leG.refl (.cons rfl leG.refl (.cons rfl leG.refl (.cons rfl leG.refl (.cons rfl leG.refl (.cons rfl leG.refl (.cons rfl (leG.bslM (fun _=>leGR.refl rfl)) (.cons rfl (leG.bslM (fun _=>leGR.refl rfl)) .nil))))))))
theorem GLeaf.rowB_old (x:GLeaf):leGR OldG (x.row) (x.rowB):=.cons rfl leG.refl (.cons rfl leG.refl (.cons rfl leG.refl (.cons rfl leG.refl (.cons rfl leG.refl (.cons rfl leG.refl (.cons rfl leG.refl (.cons rfl (leG.oldM (by decide) (fun _=>leGR.refl rfl)) (.cons rfl (leG.oldM (by decide) (fun _=>leGR.refl rfl)) .nil))))))))
theorem GLeaf.rowB_ct (x:GLeaf):ctR (x.rowB) (x.rowB):=.cons rfl (.plain rfl) (.cons rfl (.plain rfl) (.cons rfl (.plain rfl) (.cons rfl (.plain rfl) (.cons rfl (.plain rfl) (.cons rfl (.plain rfl) (.cons rfl (.plain rfl) (.cons rfl (.bslM (fun _=>.plain rfl rfl)) (.cons rfl (.bslM (fun _=>.plain rfl rfl)) .nil))))))))
mutual
def GNode.rowB:GNode→List AV
  | ⟨name,leaves,subs⟩=>[.str name,.bsl 9 (leaves.map GLeaf.rowB),.bsl 3 (GNode.rowsB subs)]
def GNode.rowsB:List GNode→List (List AV)
  | []=>[]
  | x::r=>x.rowB::GNode.rowsB r
end
mutual
theorem GNode.rowB_le:∀ x:GNode,leGR AnyG (x.rowB) (x.row)
  | ⟨name,leaves,subs⟩=>by simp only [GNode.rowB,GNode.row];exact .cons rfl leG.refl (.cons rfl (leG.bslM GLeaf.rowB_le) (.cons rfl (leG.bsl (GNode.rowB_les subs)) .nil))
theorem GNode.rowB_les:∀ l:List GNode,leGE AnyG (GNode.rowsB l) (GNode.rows l)
  | []=>.nil
  | x::r=>.cons (GNode.rowB_le x) (GNode.rowB_les r)
end
mutual
theorem GNode.rowB_old:∀ x:GNode,leGR OldG (x.row) (x.rowB)
  | ⟨name,leaves,subs⟩=>by simp only [GNode.row,GNode.rowB];exact .cons rfl leG.refl (.cons rfl (leG.oldM (by decide) GLeaf.rowB_old) (.cons rfl (leG.old (by decide) (GNode.rowB_olds subs)) .nil))
theorem GNode.rowB_olds:∀ l:List GNode,leGE OldG (GNode.rows l) (GNode.rowsB l)
  | []=>.nil
  | x::r=>.cons (GNode.rowB_old x) (GNode.rowB_olds r)
end
mutual
theorem GNode.rowB_ct:∀ x:GNode,ctR (x.rowB) (x.rowB)
  | ⟨name,leaves,subs⟩=>by simp only [GNode.rowB,GNode.rowB];exact .cons rfl (.plain rfl) (.cons rfl (.bslM GLeaf.rowB_ct) (.cons rfl (.bsl (GNode.rowB_cts subs)) .nil))
theorem GNode.rowB_cts:∀ l:List GNode,ctE (GNode.rowsB l) (GNode.rowsB l)
  | []=>.nil
  | x::r=>.cons (GNode.rowB_ct x) (GNode.rowB_cts r)
end
theorem yZ:El Try.prog 23 64 3:=mkEl Try.underlying23 (by kernel_rfl)
theorem mixed:Try.prog.follows .mixedOrders=true:=by kernel_rfl
theorem vX:Fo Try.prog 64 0 0 9 1:=mkFo (by kernel_rfl) (by kernel_rfl)
theorem qa:Ty Try.prog 9 .string 1:=mkTy Try.underlying9 (by kernel_rfl)
theorem qE:Fo Try.prog 64 2 2 23 1:=mkFo (by kernel_rfl) (by kernel_rfl)
theorem ty23:Ty Try.prog 23 (.slice 64) 1:=mkTy Try.underlying23 (by kernel_rfl)
theorem xh:Fo Try.prog 64 1 1 62 1:=mkFo (by kernel_rfl) (by kernel_rfl)
theorem qb:Ty Try.prog 62 (.slice 45) 1:=mkTy Try.underlying62 (by kernel_rfl)
theorem wh:El Try.prog 62 45 9:=mkEl Try.underlying62 (by kernel_rfl)
theorem ty45:∃ d,Ty Try.prog 45 d 9∧yM d=true:=⟨_,mkTy Try.underlying45 (by kernel_rfl),by kernel_rfl⟩
theorem ze45:w8 Try.prog 45=some [.int .u8 0,.int .i64 0,.int .u64 0,.int .u8 0,.int .u32 0,.int .u64 0,.str [],.osl none 5 [],.osl none 3 []]:=by kernel_rfl
theorem fo45x4:Fo Try.prog 45 4 6 9 1:=mkFo (by kernel_rfl) (by kernel_rfl)
theorem wx:Fo Try.prog 45 6 8 43 1:=mkFo (by kernel_rfl) (by kernel_rfl)
theorem ty43:Ty Try.prog 43 (.slice 41) 1:=mkTy Try.underlying43 (by kernel_rfl)
theorem vY:El Try.prog 43 41 3:=mkEl Try.underlying43 (by kernel_rfl)
theorem xC:Fo Try.prog 45 5 7 42 1:=mkFo (by kernel_rfl) (by kernel_rfl)
theorem qL:Ty Try.prog 42 (.slice 49) 1:=mkTy Try.underlying42 (by kernel_rfl)
theorem wO:El Try.prog 42 49 5:=mkEl Try.underlying42 (by kernel_rfl)
theorem fo49x2:Fo Try.prog 49 2 4 9 1:=mkFo (by kernel_rfl) (by kernel_rfl)
theorem el52:El Try.prog 52 24 1:=mkEl Try.underlying52 (by kernel_rfl)
theorem ty24:Ty Try.prog 24 (.slice 9) 1:=mkTy Try.underlying24 (by kernel_rfl)
theorem yG:El Try.prog 24 9 1:=mkEl Try.underlying24 (by kernel_rfl)
theorem ty4:Ty Try.prog 4 .bool 1:=mkTy Try.underlying4 (by kernel_rfl)
theorem ze9:w8 Try.prog 9=some [.str []]:=by kernel_rfl
theorem el123:El Try.prog 123 3 1:=mkEl Try.underlying123 (by kernel_rfl)
theorem ty3:Ty Try.prog 3 (.int .i64) 1:=mkTy Try.underlying3 (by kernel_rfl)
theorem fo39x0:Fo Try.prog 39 0 0 5 1:=mkFo (by kernel_rfl) (by kernel_rfl)
theorem ty5:Ty Try.prog 5 (.int .u8) 1:=mkTy Try.underlying5 (by kernel_rfl)
theorem fo39x1:Fo Try.prog 39 1 1 37 1:=mkFo (by kernel_rfl) (by kernel_rfl)
theorem ty37:Ty Try.prog 37 (.int .u32) 1:=mkTy Try.underlying37 (by kernel_rfl)
theorem ze3:w8 Try.prog 3=some [.int .i64 0]:=by kernel_rfl
theorem fo41x0:Fo Try.prog 41 0 0 39 2:=mkFo (by kernel_rfl) (by kernel_rfl)
theorem ty39:∃ d,Ty Try.prog 39 d 2∧yM d=true:=⟨_,mkTy Try.underlying39 (by kernel_rfl),by kernel_rfl⟩
theorem fo41x1:Fo Try.prog 41 1 2 36 1:=mkFo (by kernel_rfl) (by kernel_rfl)
theorem qx:Ty Try.prog 36 (.int .u64) 1:=mkTy Try.underlying36 (by kernel_rfl)
theorem fo49x1:Fo Try.prog 49 1 1 41 3:=mkFo (by kernel_rfl) (by kernel_rfl)
theorem ty41:∃ d,Ty Try.prog 41 d 3∧yM d=true:=⟨_,mkTy Try.underlying41 (by kernel_rfl),by kernel_rfl⟩
theorem pk41:PK Try.prog 41 [.i,.i,.i]:=mkPK (by kernel_rfl) (by kernel_rfl) (by kernel_rfl)
theorem ty49:∃ d,Ty Try.prog 49 d 5∧yM d=true:=⟨_,mkTy Try.underlying49 (by kernel_rfl),by kernel_rfl⟩
theorem ze41:w8 Try.prog 41=some [.int .u8 0,.int .u32 0,.int .u64 0]:=by kernel_rfl
theorem pk49:PK Try.prog 49 [.i,.i,.i,.i,.s]:=mkPK (by kernel_rfl) (by kernel_rfl) (by kernel_rfl)
theorem wy:Fo Try.prog 45 0 0 5 1:=mkFo (by kernel_rfl) (by kernel_rfl)
theorem fo45x1:Fo Try.prog 45 1 1 2 1:=mkFo (by kernel_rfl) (by kernel_rfl)
theorem ty2:Ty Try.prog 2 (.int .i64) 1:=mkTy Try.underlying2 (by kernel_rfl)
theorem fo45x2:Fo Try.prog 45 2 2 36 1:=mkFo (by kernel_rfl) (by kernel_rfl)
theorem fo45x3:Fo Try.prog 45 3 3 41 3:=mkFo (by kernel_rfl) (by kernel_rfl)
theorem ze49:w8 Try.prog 49=some [.int .u64 0,.int .u8 0,.int .u32 0,.int .u64 0,.str []]:=by kernel_rfl
noncomputable def sf41:Array Field:=match Try.prog.underlying 41 with | some (.struct fs)=>fs | _=>#[]
theorem su41:Try.prog.underlying 41=some (.struct sf41):=by kernel_rfl
theorem kq41:KQ Try.prog 41 (fun x=>AV.agg (GDot.row x)) GDot.eqb:=.struct su41 pk41 (fun _ _=>rfl) (fun a=>by simp [GDot.eqb])
theorem az3:aZeroM Try.prog 3=some ((AV.int .i64) (0:Int)):=by kernel_rfl
theorem fo49x0:Fo Try.prog 49 0 0 36 1:=mkFo (by kernel_rfl) (by kernel_rfl)
noncomputable def sf45:Array Field:=match Try.prog.underlying 45 with | some (.struct fs)=>fs | _=>#[]
theorem su45:Try.prog.underlying 45=some (.struct sf45):=by kernel_rfl
theorem pl45:placesL Try.prog sf45=some [(0,1),(1,1),(2,1),(3,3),(6,1),(7,1),(8,1)]:=by kernel_rfl
theorem pl41:placesL Try.prog sf41=some [(0,2),(2,1)]:=by kernel_rfl
theorem ty64:∃ d,Ty Try.prog 64 d 3∧yM d=true:=⟨_,mkTy Try.underlying64 (by kernel_rfl),by kernel_rfl⟩
theorem ze64:w8 Try.prog 64=some [.str [],.osl none 9 [],.osl none 3 []]:=by kernel_rfl
noncomputable def sf64:Array Field:=match Try.prog.underlying 64 with | some (.struct fs)=>fs | _=>#[]
theorem su64:Try.prog.underlying 64=some (.struct sf64):=by kernel_rfl
theorem pl64:placesL Try.prog sf64=some [(0,1),(1,1),(2,1)]:=by kernel_rfl
theorem el66:El Try.prog 66 69 10:=mkEl Try.underlying66 (by kernel_rfl)
noncomputable def sf69:Array Field:=match Try.prog.underlying 69 with | some (.struct fs)=>fs | _=>#[]
theorem su69:Try.prog.underlying 69=some (.struct sf69):=by kernel_rfl
theorem ze69:w8 Try.prog 69=some [.osl none 1 [],.int .u8 0,.int .i64 0,.int .u64 0,.int .u8 0,.int .u32 0,.int .u64 0,.str [],.osl none 5 [],.osl none 3 []]:=by kernel_rfl
theorem pl69:placesL Try.prog sf69=some [(0,1),(1,9)]:=by kernel_rfl
theorem w7:El Try.prog 32 47 10:=mkEl Try.underlying32 (by kernel_rfl)
theorem fo69x0:Fo Try.prog 69 0 0 24 1:=mkFo (by kernel_rfl) (by kernel_rfl)
theorem fo69x1:Fo Try.prog 69 1 1 45 9:=mkFo (by kernel_rfl) (by kernel_rfl)
noncomputable def sf47:Array Field:=match Try.prog.underlying 47 with | some (.struct fs)=>fs | _=>#[]
theorem su47:Try.prog.underlying 47=some (.struct sf47):=by kernel_rfl
theorem ze47:w8 Try.prog 47=some [.osl none 1 [],.int .u8 0,.int .i64 0,.int .u64 0,.int .u8 0,.int .u32 0,.int .u64 0,.str [],.osl none 5 [],.osl none 3 []]:=by kernel_rfl
theorem pl47:placesL Try.prog sf47=some [(0,1),(1,9)]:=by kernel_rfl
theorem fo47x0:Fo Try.prog 47 0 0 24 1:=mkFo (by kernel_rfl) (by kernel_rfl)
theorem fo47x1:Fo Try.prog 47 1 1 45 9:=mkFo (by kernel_rfl) (by kernel_rfl)
theorem ty47:∃ d,Ty Try.prog 47 d 10∧yM d=true:=⟨_,mkTy Try.underlying47 (by kernel_rfl),by kernel_rfl⟩
theorem ty32:Ty Try.prog 32 (.slice 47) 1:=mkTy Try.underlying32 (by kernel_rfl)
theorem ty80:Ty Try.prog 80 (.func #[47] #[4] false) 1:=mkTy Try.underlying80 (by kernel_rfl)
theorem ze24:w8 Try.prog 24=some [.osl none 1 []]:=by kernel_rfl
theorem ok14N (n:Nat):∀ {t0:(List GNode)} {deep1:Int} {res:Int} {h:AH} , xT n t0 deep1=some res→Spec Try.prog 14 [.sl 3 (t0.map GNode.row),.int .i64 deep1] h (fun rr hh=>rr=.int .i64 res∧hh=h):=by
 induction n with
 | zero=>intro t0 deep1 res h  hF;simp [xT] at hF
 | succ n ih =>
  intro t0 deep1 res h  hF
  unfold xT at hF
  refine zu Try.func14 rfl (by kernel_rfl) (env:=[.sl 3 (t0.map GNode.row),.int .i64 deep1,za,za,za,za,za,za,za,za,za,za,za,za,za,za,za,za,za,za,za,za,za,za,za,za,za,za,za,za,za,za,za,za,za,za,za,za,za,za,za,za,za,za,za,za,za,za,za,za,za,za,za,za,za,za,za,za,za,za,za,za,za,za,za,za,za,za,za,za,za,za,za,za,za,za,za,za,za,za,za,za,za,za]) (by rfl) ?_
  refine zk (zd ?_)
  refine zc rfl (zg rfl rfl (zb rfl)) yu ?_
  refine ze (zi (zk (zd ?_)))
  refine zc rfl (zg rfl rfl (zb rfl)) xg ?_
  refine ze (zi (zk (zk (zd ?_))))
  refine zc rfl (zg rfl rfl (zb rfl)) xn ?_
  refine ze (zi (zJ ?_))
  refine r_loopWF (fun (s1:Int×Int)=>yr [2,3,4,7,8,9,10,11,12,13,14,15,16,17,18,19,20,21,22,23,24,25,26,27,28,29,30,31,32,33,34,35,36,37,38,39,40,41,42,43,44,45,46,47,48,49,50,51,52,53,54,55,56,57,58,59,60,61,62,63,64,65,66,67,68,69,70,71,72,73,74,75,76,77,78,79,80,81,82,83] [(5,.int .i64 s1.1),(6,.int .i64 s1.2)]) (fun s1=>h.ext [] []) hF (fun _=>by simp only [yr,qN,List.set_cons_succ,List.set_cons_zero];try rfl) (wk.le (by exact (.eq (.eq (.drop (.drop (.drop (.cons (leV.of_eq rfl) (.cons (leV.of_eq rfl) (.d16 (.d16 (.d16 (.d16 (.d4 (.d4 (.d4 (.drop leL.nil))))))))))))))))) ?_
  intro n1 s1 o1 hF hK1
  refine zk (zk (zd ?_))
  refine zc rfl (zf rfl yS (zb rfl)) yF ?_
  refine zc rfl (zf rfl yl (zb rfl)) yL ?_
  refine zZ rfl (zO rfl rfl rfl rfl yZ yA ya) yQ fun hn66=>?_
  replace hn66:=y9 hn66
  refine zc rfl (zy rfl yv yK rfl) yW ?_
  refine zc rfl (zf rfl yN (zb rfl)) y3 ?_
  refine zq rfl (fun hb=>zf rfl yw (zb rfl)) y2 ?_
  refine zq rfl (fun hb=>zy rfl (zn yR hb) rfl rfl) xd ?_
  refine zc rfl (zM rfl y6 xb rfl (zV (fun ht=>gT ht))) xi ?_
  refine ze (zi ?_)
  refine zL xj hF (fun hc67 hF=>?_) (fun hc67 hF=>?_)
  ·refine zG (zi (zk (zJ (zk ?_))))
   refine yk [16] [] trivial mixed (by kernel_rfl) ?_
   refine zo rfl rfl (zf rfl yD (zb rfl)) xR ?_
   refine zo rfl rfl (zy rfl xO rfl rfl) xY ?_
   refine zo rfl rfl (zf rfl yl (zb rfl)) x7 ?_
   refine zo rfl rfl (zf rfl yS (zb rfl)) xQ ?_
   refine zU hF (fun y68 hy68 hF=>?_)
   refine zo rfl rfl (xa rfl yZ x9 xB xZ hy68 (GNode.row_eq _)) wc ?_
   refine zo rfl rfl (zj rfl vX wg rfl) wb ?_
   refine zo rfl rfl (zX rfl qa x4 (zt rfl) (zb rfl)) wJ ?_
   refine draw_len rfl rfl (vx rfl rfl rfl rfl qa wF) wR ?_
   refine zo rfl rfl (zy rfl xV wU rfl) wZ ?_
   refine zo rfl rfl (zf rfl yl (zb rfl)) vf ?_
   refine zo rfl rfl (zf rfl yS (zb rfl)) ve ?_
   refine zU hF (fun y70 hy70 hF=>?_)
   refine zo rfl rfl (xa rfl yZ vo vn xZ hy70 (GNode.row_eq _)) vd ?_
   refine zo rfl rfl (zj rfl qE vm rfl) vc ?_
   refine zo rfl rfl (zX rfl ty23 w5 (zt rfl) (zb rfl)) vu ?_
   refine zo rfl rfl (zf rfl yw (zb rfl)) vt ?_
   refine zo rfl rfl (zy rfl vl rfl rfl) vb ?_
   refine zU hF (fun v71 hv71 hF=>?_)
   refine yC rfl rfl (fun _=>zF rfl rfl rfl (zp vA (zp vk zx)) (.cons (zb rfl) (.cons (zb rfl) .nil))) (by rintro _ ⟨B2,T2,rfl,hk2⟩;exact ih hv71) wQ ?_
   refine zo rfl rfl (zy rfl w6 wN rfl) va ?_
   refine zo rfl rfl (zg rfl vj (zb rfl)) xg ?_
   refine yh ?_
   refine zi (zk (zd ?_))
   refine zc rfl (zg rfl rfl (zb rfl)) xJ ?_
   refine ze (zi (zJ ?_))
   refine r_loopWF (fun (s2:Int×Int)=>yr [2,3,4,8,9,10,11,12,13,14,15,16,17,18,19,20,21,22,23,24,25,26,27,28,29,30,31,32,33,34,35,36,37,38,39,40,41,42,43,44,45,46,47,48,49,50,51,52,53,54,55,56,57,58,59,60,61,62,63,64,65,66,67,68,69,70,71,72,73,74,75,76,77,78,79,80,81,82,83] [(5,.int .i64 s2.1),(7,.int .i64 s2.2)]) (fun s2=>h.ext [] []) hF (fun _=>by simp only [yr,qN,List.set_cons_succ,List.set_cons_zero];try rfl) (wk.le (by exact (.eq (.eq (.drop (.drop (.drop (.cons (leV.of_eq rfl) (.eq (.cons (leV.of_eq rfl) (.d16 (.d16 (.d16 (.d16 (.d4 (.d4 (.d4 leL.nil))))))))))))))))) ?_
   intro n2 s2 o2 hF hK2
   refine zk (zk (zd ?_))
   refine zc rfl (zf rfl xl (zb rfl)) vE ?_
   refine zc rfl (zf rfl yl (zb rfl)) vJ ?_
   refine zc rfl (zf rfl yS (zb rfl)) (sk st0) ?_
   refine zU hF (fun y102 hy102 hF=>?_)
   refine zc rfl (xa rfl yZ vF (gk yl) xZ hy102 (GNode.row_eq _)) (sk st1) ?_
   refine zc rfl (zj rfl xh (gk yw) rfl) (sk yU) ?_
   refine zc rfl (zX rfl qb (gk yT) (zt rfl) (zb rfl)) (sk x5) ?_
   refine zZ rfl (zO rfl rfl rfl rfl wh (gk y8) ya) (sk yu) fun hn103=>?_
   replace hn103:=y9 hn103
   refine zc rfl (zy rfl vz (gk yz) rfl) (sk xg) ?_
   refine ze (zi ?_)
   refine zL (gk yD) hF (fun hc104 hF=>?_) (fun hc104 hF=>?_)
   ·refine zG (zi (zk (zJ (zk (zd ?_)))))
    refine zc rfl (zf rfl yl (zb rfl)) (sk xM) ?_
    refine zc rfl (zf rfl yS (zb rfl)) (sk wv) ?_
    refine zU hF (fun y105 hy105 hF=>?_)
    refine zc rfl (xa rfl yZ (gk xc) (gk xy) xZ hy105 (GNode.row_eq _)) (sk yF) ?_
    refine zc rfl (zj rfl xh (gk yv) rfl) (sk yL) ?_
    refine zc rfl (zX rfl qb (gk yA) (zt rfl) (zb rfl)) (sk yQ) ?_
    refine zc rfl (zf rfl xl (zb rfl)) (sk yW) ?_
    refine zU hF (fun y106 hy106 hF=>?_)
    refine zc rfl (yg rfl wh (gk yK) (gk yN) xZ hy106) (sk y3) ?_
    refine zc rfl (zX rfl ty45.choose_spec.1 (gk y6) (zK (cs':=[.int .u8 y106.typ,.int .i64 y106.n,.int .u64 y106.time,.int .u8 y106.dot.actor.rep,.int .u32 y106.dot.actor.inc,.int .u64 y106.dot.seq,.str y106.text,.sl 5 (y106.items.map GItem.row),.sl 3 (y106.tombs.map GDot.row)]) ty45.choose_spec.2 rfl rfl) (zb rfl)) (sk y2) ?_
    refine zc rfl (wt (n:=0) rfl ze45 rfl) xM ?_
    refine zc rfl (yP (cs':=[.int .u8 y106.typ,.int .i64 y106.n,.int .u64 y106.time,.int .u8 y106.dot.actor.rep,.int .u32 y106.dot.actor.inc,.int .u64 y106.dot.seq,.str y106.text,.sl 5 (y106.items.map GItem.row),.sl 3 (y106.tombs.map GDot.row)]) rfl ty45.choose_spec.1 xc (gk yR) (zb rfl) rfl rfl rfl rfl rfl) rfl ?_
    refine ze (zi (zk (zd ?_)))
    refine zc rfl (zf rfl yD (zb rfl)) (sk xd) ?_
    refine zc rfl (zy rfl (gk xb) rfl rfl) (sk xi) ?_
    refine zc rfl (zj rfl fo45x4 xc rfl) (sk xr) ?_
    refine zc rfl (zA rfl qa (gk xp) rfl (zt rfl) (zb rfl)) (sk xE) ?_
    refine zZ rfl (vx rfl rfl rfl rfl qa (gk xH)) (sk xR) fun hn107=>?_
    replace hn107:=y9 hn107
    refine zc rfl (zy rfl (gk xj) (gk xO) rfl) (sk xY) ?_
    refine zc rfl (zj rfl wx xc rfl) (sk x7) ?_
    refine zc rfl (zA rfl ty43 (gk x9) rfl (zt rfl) (zb rfl)) (sk xQ) ?_
    refine zZ rfl (zO rfl rfl rfl rfl vY (gk xB) ya) (sk wc) fun hn108=>?_
    replace hn108:=y9 hn108
    refine zc rfl (zy rfl (gk xV) (gk wg) rfl) (sk wb) ?_
    refine zc rfl (zg rfl (gk x4) (zb rfl)) xg ?_
    refine ze (zi (zk (zd ?_)))
    refine zc rfl (zg rfl rfl (zb rfl)) wv ?_
    refine ze (zi (zJ ?_))
    refine yi (fun (n3:Nat) (s3:Int)=>yr [2,3,4,10,11,12,13,14,15,16,17,18,19,20,21,22,23,24,25,26,27,28,29,30,31,32,33,34,35,36,37,38,39,40,41,42,43,44,45,46,47,48,49,50,51,52,53,54,55,56,57,58,59,60,61,62,63,64,65,66,67,68,69,70,71,72,73,74,75,76,77,78,79,80,81,82,83] [(5,.int .i64 s3),(9,.int .i64 (n3:Int))]) (fun s3=>h.ext [.cells [.int .u8 y106.typ,.int .i64 y106.n,.int .u64 y106.time,.int .u8 y106.dot.actor.rep,.int .u32 y106.dot.actor.inc,.int .u64 y106.dot.seq,.str y106.text,.sl 5 (y106.items.map GItem.row),.sl 3 (y106.tombs.map GDot.row)]] []) hF (fun _ _=>by simp only [yr,qN,List.set_cons_succ,List.set_cons_zero];try rfl) (wk.le (by exact (.eq (.eq (.drop (.drop (.drop (.cons (leV.of_eq rfl) (.eq (.eq (.eq (.cons (leV.of_eq rfl) (.d16 (.d16 (.d16 (.d16 (.d4 (.d4 (.drop (.drop leL.nil)))))))))))))))))))) ?_
    intro n3 s3 hi3 hF
    refine zk (zk (zd ?_))
    refine zc rfl (zf rfl xy (zb rfl)) (sk wJ) ?_
    refine zc rfl (zj rfl xC xc rfl) (sk wR) ?_
    refine zc rfl (zA rfl qL (gk wU) rfl (zt rfl) (zb rfl)) (sk wZ) ?_
    refine zZ rfl (zO rfl rfl rfl rfl wO (gk w6) ya) (sk vf) fun hn125=>?_
    replace hn125:=y9 hn125
    refine zc rfl (zy rfl (gk wF) (gk vo) rfl) (sk ve) ?_
    refine ze (zi ?_)
    refine yo (gk vn) hF (fun x3 o3 hl3 hx3 hF hK3=>?_) (fun hF=>?_)
    ·refine zG (zi (zk (zJ (zd ?_))))
     refine zc rfl (zf rfl yD (zb rfl)) (sk vu) ?_
     refine zc rfl (zy rfl (gk vA) rfl rfl) (sk vt) ?_
     refine zc rfl (zj rfl xC xc rfl) (sk vb) ?_
     refine zc rfl (zA rfl qL (gk vk) rfl (zt rfl) (zb rfl)) (sk wQ) ?_
     refine zc rfl (zf rfl xy (zb rfl)) (sk va) ?_
     refine zc rfl (yg rfl wO (gk wN) (gk vj) xZ (yn hx3)) (sk vE) ?_
     refine zc rfl (zj rfl fo49x2 (gk vz) rfl) (sk vJ) ?_
     refine zc rfl (zX rfl qa (gk vF) (zt rfl) (zb rfl)) (sk (sk st0)) ?_
     refine zZ rfl (vx rfl rfl rfl rfl qa (gk (gk yl))) (sk (sk st1)) fun hn126=>?_
     replace hn126:=y9 hn126
     refine zc rfl (zy rfl (gk vl) (gk (gk yw)) rfl) (sk (sk yU)) ?_
     refine zc rfl (zg rfl (gk (gk yT)) (zb rfl)) xg ?_
     refine ze (yc (zi (zd ?_)))
     refine zc rfl (zf rfl xy (zb rfl)) (sk vd) ?_
     refine zc rfl (zy rfl (gk vm) rfl rfl) (sk vc) ?_
     refine zc rfl (zg rfl (gk w5) (zb rfl)) wv ?_
     refine ze (yp ?_)
     obtain rfl:=Option.some.inj hF
     exact ⟨(IntKind.wrap .i64 ((IntKind.wrap .i64 (s3+(1:Int)))+((x3.text).length:Int))),hl3,hK3,wk.le (by exact (.eq (.eq (.drop (.drop (.drop (.cons (leV.of_eq rfl) (.eq (.eq (.eq (.cons (leV.of_eq (wn (by omega) (by omega))) (.d16 (.d16 (.d16 (.d16 (.d4 (.d4 (.drop (.drop leL.nil)))))))))))))))))))⟩
    ·refine yx ?_
     refine zW ?_
     refine zP ?_
     refine zQ ?_
     refine yc (zi (zd ?_))
     refine zc rfl (zf rfl xl (zb rfl)) (sk xn) ?_
     refine zc rfl (zy rfl (gk yS) rfl rfl) (sk xJ) ?_
     refine zc rfl (zg rfl (gk xl) (zb rfl)) xJ ?_
     refine ze (yp ?_)
     obtain rfl:=Option.some.inj hF
     exact ⟨(s3,(IntKind.wrap .i64 (s2.2+(1:Int)))),hK2,wk.trans (wk.le (by exact (.eq (.eq (.drop (.drop (.drop (.cons (leV.of_eq rfl) (.eq (.cons (leV.of_eq rfl) (.d16 (.d16 (.d16 (.d16 (.d4 (.d4 (.d4 leL.nil))))))))))))))))) (vG (by simp [yj,AV.low]) rfl rfl (by simp [Blk.low,yj,AV.low]))⟩
   ·refine yx ?_
    refine zW ?_
    refine zP ?_
    obtain rfl:=Option.some.inj hF
    replace hF:=hK2
    refine zQ ?_
    refine yc (zi (zd ?_))
    refine zc rfl (zf rfl yS (zb rfl)) xr ?_
    refine zc rfl (zy rfl xp rfl rfl) xE ?_
    refine zc rfl (zg rfl xH (zb rfl)) xn ?_
    refine ze (yp ?_)
    obtain rfl:=Option.some.inj hF
    exact ⟨(s2.1,(IntKind.wrap .i64 (s1.2+(1:Int)))),hK1,wk.le (by exact (.eq (.eq (.drop (.drop (.drop (.cons (leV.of_eq rfl) (.cons (leV.of_eq rfl) (.d16 (.d16 (.d16 (.d16 (.d4 (.d4 (.d4 (.drop leL.nil))))))))))))))))⟩
  ·refine yx ?_
   refine zW ?_
   refine zP ?_
   obtain rfl:=Option.some.inj hF
   replace hF:=hK1
   refine zQ ?_
   refine zi (zk (zd ?_))
   refine zc rfl (zf rfl yD (zb rfl)) (sk (sk x5)) ?_
   refine zc rfl (zg rfl (gk (gk y8)) (zb rfl)) yu ?_
   refine ze (zi (zH ?_))
   obtain rfl:=Option.some.inj hF
   refine zz rfl (zD yz zE) (zB (leV.refl _) rfl ?_)
   exact ⟨rfl,rfl⟩
theorem ok14 {t0:(List GNode)} {deep1:Int} {res:Int} {h:AH}  (hF:ref07Xsize t0 deep1=some res):Spec Try.prog 14 [.sl 3 (t0.map GNode.row),.int .i64 deep1] h (fun rr hh=>rr=.int .i64 res∧hh=h):=by
 obtain ⟨n,hn⟩:=q9 hF
 exact ok14N n  hn
theorem ok4 {t0:(List GNode)} {res:Bool} {h:AH}  (hF:ref07Great t0=some res):Spec Try.prog 4 [.sl 3 (t0.map GNode.row)] h (fun rr hh=>rr=.bool res∧hh=h):=by
 unfold ref07Great at hF
 refine zu Try.func4 rfl (by kernel_rfl) (env:=[.sl 3 (t0.map GNode.row),za,za,za,za,za]) (by rfl) ?_
 refine zk (zd ?_)
 refine zc rfl (zg rfl rfl (zb rfl)) yU ?_
 refine ze (zi (zk (zd ?_)))
 refine zc rfl (zf rfl yl (zb rfl)) x5 ?_
 refine zU hF (fun v1 hv1 hF=>?_)
 refine zN rfl (zF rfl rfl rfl (zp y8 (zp rfl zx)) (.cons (zb rfl) (.cons (zb rfl) .nil))) (ok14 hv1) yu ?_
 refine zc rfl (zy rfl yz rfl rfl) xg ?_
 refine zc rfl (zg rfl yD (zb rfl)) yU ?_
 refine ze (zi (zH ?_))
 obtain rfl:=Option.some.inj hF
 refine zz rfl (zD yT zE) (zB (leV.refl _) rfl ?_)
 exact ⟨rfl,rfl⟩
theorem ok5 {l0:(List (List zR))} {res:Bool} {h:AH}  (hF:law30Xgreat l0=some res):Spec Try.prog 5 [.sl 1 (l0.map (fun l=>[AV.sl 1 (l.map zI)]))] h (fun rr hh=>rr=.bool res∧hh=h):=by
 unfold law30Xgreat at hF
 refine zu Try.func5 rfl (by kernel_rfl) (env:=[.sl 1 (l0.map (fun l=>[AV.sl 1 (l.map zI)])),za,za,za,za,za,za,za,za,za,za,za,za,za,za,za,za,za,za,za,za,za,za,za,za,za,za]) (by rfl) ?_
 refine zk (zd ?_)
 refine zc rfl (zg rfl rfl (zb rfl)) yU ?_
 refine ze (zi (zk (zk (zd ?_))))
 refine zc rfl (zf rfl yl (zb rfl)) xJ ?_
 refine zZ rfl (zO rfl rfl rfl rfl el52 xl ya) xM fun hn1=>?_
 replace hn1:=y9 hn1
 refine zc rfl (zf rfl rfl (zb rfl)) wv ?_
 refine ze (zi (zJ ?_))
 refine yi (fun (n1:Nat) (s1:Unit)=>yr [0,1,2,3,4,5,6,10,11,12,13,14,15,16,17,18,19,20,21,22,23,24,25,26] [(9,.int .i64 (n1:Int))]) (fun s1=>h.ext [] []) hF (fun _ _=>by simp only [yr,qN,List.set_cons_succ,List.set_cons_zero];try rfl) (wk.le (by exact (.d4 (.drop (.drop (.drop (.eq (.eq (.cons (leV.of_eq rfl) (.d16 (.drop leL.nil))))))))))) ?_
 intro n1 s1 hi1 hF
 refine zk (zd ?_)
 refine zc rfl (zy rfl xy xc rfl) yF ?_
 refine ze (zi (zk ?_))
 refine yo yv hF (fun x1 o1 hl1 hx1 hF hK1=>?_) (fun hF=>?_)
 ·refine zG (zi (zk (zJ (zk (zd ?_)))))
  refine zc rfl (yg rfl el52 xl xy xZ (yn hx1)) yL ?_
  refine zc rfl (zX rfl ty24 yA (zt rfl) (zb rfl)) yQ ?_
  refine zc rfl (zg rfl yK (zb rfl)) yu ?_
  refine ze (zi (zk (zk (zd ?_))))
  refine zc rfl (zf rfl yz (zb rfl)) yW ?_
  refine zZ rfl (zO rfl rfl rfl rfl yG yN ya) y3 fun hn16=>?_
  replace hn16:=y9 hn16
  refine zc rfl (zf rfl rfl (zb rfl)) y2 ?_
  refine ze (zi (zJ ?_))
  refine yi (fun (n2:Nat) (s2:Unit)=>yr [0,1,2,3,5,6,10,11,12,16,17,18,19,20,21,22,23,24,25,26] [(15,.int .i64 (n2:Int))]) (fun s2=>h.ext [] []) hF (fun _ _=>by simp only [yr,qN,List.set_cons_succ,List.set_cons_zero];try rfl) (wk.le (by exact (.d4 (.eq (.drop (.drop (.eq (.eq (.eq (.drop (.drop (.drop (.eq (.eq (.cons (leV.of_eq rfl) (.d4 (.d4 (.drop (.drop (.drop leL.nil)))))))))))))))))))) ?_
  intro n2 s2 hi2 hF
  refine zk (zd ?_)
  refine zc rfl (zy rfl yR y6 rfl) xd ?_
  refine ze (zi (zk ?_))
  refine yo xb hF (fun x2 o2 hl2 hx2 hF hK2=>?_) (fun hF=>?_)
  ·refine zG (zi (zk (zJ (zk (zd ?_)))))
   refine zc rfl (yg rfl yG yN yR xZ (yn hx2)) xi ?_
   refine zc rfl (zX rfl qa xj (zt rfl) (zb rfl)) xr ?_
   refine zc rfl (zg rfl xp (zb rfl)) xn ?_
   refine ze (zi (zk (zd ?_)))
   refine zc rfl (zf rfl yS (zb rfl)) xE ?_
   refine zZ rfl (vx rfl rfl rfl rfl qa xH) xR fun hn22=>?_
   replace hn22:=y9 hn22
   refine zc rfl (zy rfl xO rfl rfl) xY ?_
   refine ze (zi ?_)
   refine zL xV hF (fun hc23 hF=>?_) (fun hc23 hF=>?_)
   ·refine zk (zd ?_)
    refine zc rfl (zg rfl rfl (zb rfl)) yU ?_
    refine ze (zi (zH ?_))
    refine zC ?_
    refine zw ?_
    refine yb ?_
    obtain rfl:=Option.some.inj hF
    replace hF:=hK2
    refine zC ?_
    refine zw ?_
    refine zC ?_
    refine zw ?_
    refine yb ?_
    obtain rfl:=Option.some.inj hF
    replace hF:=hK1
    refine zC ?_
    refine zw ?_
    obtain rfl:=Option.some.inj hF
    refine zz rfl (zD yT zE) (zB (leV.refl _) rfl ?_)
    exact ⟨rfl,rfl⟩
   ·refine zG (yc (zi (zd ?_)))
    refine zc rfl (zy rfl yR rfl rfl) x7 ?_
    refine zc rfl (zf rfl x9 (zb rfl)) y2 ?_
    refine ze (yp ?_)
    obtain rfl:=Option.some.inj hF
    exact ⟨(),hl2,hK2,wk.le (by exact (.d4 (.eq (.drop (.drop (.eq (.eq (.eq (.drop (.drop (.drop (.eq (.eq (.cons (leV.of_eq (wn (by omega) (by omega))) (.d4 (.d4 (.drop (.drop (.drop leL.nil)))))))))))))))))))⟩
  ·refine yx ?_
   refine zW ?_
   refine zP ?_
   refine zQ ?_
   refine zi (zk (zd ?_))
   refine zc rfl (zf rfl yz (zb rfl)) xQ ?_
   refine zZ rfl (zO rfl rfl rfl rfl yG xB ya) wc fun hn24=>?_
   replace hn24:=y9 hn24
   refine zc rfl (zy rfl wg rfl rfl) wb ?_
   refine ze (zi ?_)
   refine zL x4 hF (fun hc25 hF=>?_) (fun hc25 hF=>?_)
   ·refine zk (zd ?_)
    refine zc rfl (zg rfl rfl (zb rfl)) yU ?_
    refine ze (zi (zH ?_))
    refine zC ?_
    refine zw ?_
    refine yb ?_
    obtain rfl:=Option.some.inj hF
    replace hF:=hK1
    refine zC ?_
    refine zw ?_
    obtain rfl:=Option.some.inj hF
    refine zz rfl (zD yT zE) (zB (leV.refl _) rfl ?_)
    exact ⟨rfl,rfl⟩
   ·refine zG (yc (zi (zd ?_)))
    refine zc rfl (zy rfl xy rfl rfl) wJ ?_
    refine zc rfl (zf rfl wF (zb rfl)) wv ?_
    refine ze (yp ?_)
    obtain rfl:=Option.some.inj hF
    exact ⟨(),hl1,hK1,wk.le (by exact (.d4 (.drop (.drop (.drop (.eq (.eq (.cons (leV.of_eq (wn (by omega) (by omega))) (.d16 (.drop leL.nil))))))))))⟩
 ·refine yx ?_
  refine zW ?_
  refine zP ?_
  refine zQ ?_
  refine zi (zk (zd ?_))
  refine zc rfl (zg rfl rfl (zb rfl)) yU ?_
  refine ze (zi (zH ?_))
  obtain rfl:=Option.some.inj hF
  refine zz rfl (zD yT zE) (zB (leV.refl _) rfl ?_)
  exact ⟨rfl,rfl⟩
def joinTryRen:Go.Shelf.Ren :=
  { f:=fun x=>match x with
      | 156=>33
      | 165=>48
      | 166=>49
      | 169=>50
      | 240=>58
      | 241=>59
      | 276=>72
      | 277=>73
      | n=>n
    t:=fun x=>match x with
      | 0=>0
      | 3=>3
      | 4=>4
      | 9=>9
      | 20=>20
      | 31=>24
      | 37=>82
      | 70=>81
      | 72=>84
      | 75=>87
      | 76=>88
      | 127=>97
      | 164=>106
      | 5=>5
      | 80=>90
      | n=>n
    g:=fun n=>n }
theorem joinTryLays:Go.Proofs.Lays.n156 Try.prog joinTryRen where
  mixed:=mixed
  f156:=Try.func33.trans (by kernel_rfl)
  f165:=Try.func48.trans (by kernel_rfl)
  f166:=Try.func49.trans (by kernel_rfl)
  f169:=Try.func50.trans (by kernel_rfl)
  f240:=Try.func58.trans (by kernel_rfl)
  f241:=Try.func59.trans (by kernel_rfl)
  f276:=Try.func72.trans (by kernel_rfl)
  f277:=Try.func73.trans (by kernel_rfl)
  t0:=Try.underlying0
  a0:=Try.isAgg0
  z0:=Try.sizeOf0
  v0:=Try.zeroValue0
  t3:=Try.underlying3
  a3:=Try.isAgg3
  z3:=Try.sizeOf3
  v3:=Try.zeroValue3
  t4:=Try.underlying4
  a4:=Try.isAgg4
  z4:=Try.sizeOf4
  v4:=Try.zeroValue4
  t9:=Try.underlying9
  a9:=Try.isAgg9
  z9:=Try.sizeOf9
  v9:=Try.zeroValue9
  t20:=Try.underlying20
  a20:=Try.isAgg20
  z20:=Try.sizeOf20
  v20:=Try.zeroValue20
  t31:=Try.underlying24
  a31:=Try.isAgg24
  z31:=Try.sizeOf24
  v31:=Try.zeroValue24
  t37:=Try.underlying82
  a37:=Try.isAgg82
  z37:=Try.sizeOf82
  v37:=Try.zeroValue82
  t70:=Try.underlying81
  a70:=Try.isAgg81
  z70:=Try.sizeOf81
  v70:=Try.zeroValue81
  t72:=Try.underlying84
  a72:=Try.isAgg84
  z72:=Try.sizeOf84
  v72:=Try.zeroValue84
  t75:=Try.underlying87
  a75:=Try.isAgg87
  z75:=Try.sizeOf87
  v75:=Try.zeroValue87
  t76:=Try.underlying88
  a76:=Try.isAgg88
  z76:=Try.sizeOf88
  v76:=Try.zeroValue88
  t127:=Try.underlying97
  a127:=Try.isAgg97
  z127:=Try.sizeOf97
  v127:=Try.zeroValue97
  t164:=Try.underlying106
  a164:=Try.isAgg106
  z164:=Try.sizeOf106
  v164:=Try.zeroValue106
theorem joinTryExtra:Go.Proofs.Builder.Extra Try.prog joinTryRen where
  sizeBuilder:=by kernel_rfl
  liesBuilder:=by kernel_rfl
  t5:=Try.underlying5
  a5:=Try.isAgg5
  z5:=Try.sizeOf5
  v5:=Try.zeroValue5
  infoByte:=by kernel_rfl
  cellsByte:=by kernel_rfl
  sizeByte:=by kernel_rfl
  neB5:=by decide
theorem ok33 {p0:List zR} {p1:zR} {res:zR} {h:AH} (hF:stringsJoin p0 p1=some res):Spec Try.prog 33 [.sl 1 (p0.map zI),.str p1] h (fun rr hh=>rr=.str res∧hh=h) :=
 spec_join joinTryLays joinTryExtra hF
theorem ok52 {r0:Int} {res:Bool} {h:AH}  (hF:qS r0=some res):Spec Try.prog 52 [.int .i32 r0] h (fun rr hh=>rr=.bool res∧hh=h):=by
 unfold qS at hF
 refine zu Try.func52 rfl (by kernel_rfl) (env:=[.int .i32 r0,za,za,za,za,za,za,za,za,za,za,za,za,za,za,za,za,za,za,za,za,za,za,za,za]) (by rfl) ?_
 refine zk (zd ?_)
 refine zc rfl (zg rfl rfl (zb rfl)) yU ?_
 refine ze (zi (zk (zd ?_)))
 refine zc rfl (zf rfl yl (zb rfl)) x5 ?_
 refine zc rfl (zy rfl y8 rfl rfl) yu ?_
 refine zc rfl (zf rfl yz (zb rfl)) xg ?_
 refine zq rfl (fun hb=>zf rfl yl (zb rfl)) xn ?_
 refine zq rfl (fun hb=>zy rfl (zn yS hb) rfl rfl) xJ ?_
 refine zc rfl (zM rfl yD rfl xl (yd (fun ht=>gF ht))) xM ?_
 refine zc rfl (zf rfl xc (zb rfl)) wv ?_
 refine zq rfl (fun hb=>zf rfl yl (zb rfl)) yF ?_
 refine zq rfl (fun hb=>zy rfl (zn yv hb) rfl rfl) yL ?_
 refine zq rfl (fun hb=>zf rfl (zn yA hb) (zb rfl)) yQ ?_
 refine zq (z7 rfl rfl rfl) (fun hb=>zf rfl yl (zb rfl)) yW ?_
 refine zq (z7 rfl rfl rfl) (fun hb=>zy rfl (zn yN hb) rfl rfl) y3 ?_
 refine zq rfl (fun hb=>zM rfl (zn yK hb) rfl y6 (yd (fun ht=>gF2 hb ht))) y2 ?_
 refine zc rfl (zM rfl xy yR rfl (zV (fun ht=>gT ht))) xd ?_
 refine zc rfl (zf rfl xb (zb rfl)) xi ?_
 refine zq rfl (fun hb=>zf rfl yl (zb rfl)) xr ?_
 refine zq rfl (fun hb=>zy rfl (zn xp hb) rfl rfl) xE ?_
 refine zq rfl (fun hb=>zf rfl (zn xH hb) (zb rfl)) xR ?_
 refine zq (z7 rfl rfl rfl) (fun hb=>zf rfl yl (zb rfl)) xY ?_
 refine zq (z7 rfl rfl rfl) (fun hb=>zy rfl (zn xV hb) rfl rfl) x7 ?_
 refine zq rfl (fun hb=>zM rfl (zn xO hb) rfl x9 (yd (fun ht=>gF2 hb ht))) xQ ?_
 refine zc rfl (zM rfl xj xB rfl (zV (fun ht=>gT ht))) wc ?_
 refine zc rfl (zg rfl wg (zb rfl)) yU ?_
 refine ze (zi (zH ?_))
 obtain rfl:=Option.some.inj hF
 refine zz rfl (zD yT zE) (zB (leV.refl _) rfl ?_)
 exact ⟨rfl,rfl⟩
theorem ok81 {s0:zR} {f1:(Int→Option Bool)} {ff1:FuncId} {af1 kf1:List AV} {truth2:Bool} {res:Int} {h:AH} (hf1:∀ x0 v (L:List Blk) (M:List Nat),f1 x0=some v→Spec Try.prog ff1 (af1++[.int .i32 x0]++kf1) (h.ext L M) (fun rr hh=>rr=.bool v∧hh=h.ext L M)) (hF:vH s0 f1 truth2=some res):Spec Try.prog 81 [.str s0,.fn (.func ff1) af1 kf1,.bool truth2] h (fun rr hh=>rr=.int .i64 res∧hh=h):=by
 unfold vH at hF
 refine yy Try.func81 rfl (by kernel_rfl) (env:=[.str s0,.fn (.func ff1) af1 kf1,.bool truth2,za,za,za,za,za,za,za,za,za,za,za,za,za,za,za,za,za,za]) (by rfl) (fun hlow hC=>?_)
 simp only [yj,AV.low,Bool.and_eq_true,Bool.true_and,and_true] at hlow
 have hlaf1:∀ n m,h.blks.length≤n→h.toks.length≤m→yj n m af1=true:=fun n m h1 h2=>yY h1 h2 _ (by simp [hlow])
 have hlkf1:∀ n m,h.blks.length≤n→h.toks.length≤m→yj n m kf1=true:=fun n m h1 h2=>yY h1 h2 _ (by simp [hlow])
 refine zk (zd ?_)
 refine zc rfl (zg rfl rfl (zb rfl)) xn ?_
 refine ze (zi (zk (zk (zd ?_))))
 refine zc rfl (zf rfl yl (zb rfl)) wv ?_
 refine zc rfl (e_range (n:=0) rfl qa xy rfl) yF ?_
 refine ze (zi (zJ ?_))
 refine r_loopWF (fun (s1:Nat)=>yr [0,3,4,5,6,7,8,9,11,12,13,14,15,16,17,18,19,20] []) (fun s1=>h.ext [.siter s0 s1] []) hF (fun _=>by simp only [yr,qN,List.set_cons_succ,List.set_cons_zero];try rfl) (wk.le (by exact (.drop (.eq (.eq (.d4 (.drop (.drop (.drop (.eq (.d4 (.d4 (.drop (.drop leL.nil)))))))))))))) ?_
 intro n1 s1 o1 hF hK1
 refine zk (zd ?_)
 refine ops_nextF rfl rfl yv rfl yL yL hF (fun hp5 hF=>?_) (fun hF=>?_)
 ·refine zc rfl (xk rfl yA rfl (zb rfl)) yQ ?_
  refine ze (zi (zk ?_))
  refine r_cond yK (fun _=>?_) (fun hh=>by cases hh)
  refine zG (zi (zJ (zk (zd ?_))))
  refine zc rfl (xk rfl yA rfl (zb rfl)) yW ?_
  refine zc rfl (xk rfl yA rfl (zb rfl)) y3 ?_
  refine zc rfl (zg rfl yN (zb rfl)) xJ ?_
  refine zc rfl (zg rfl y6 (zb rfl)) xM ?_
  refine ze (zi (zk (zd ?_)))
  refine zc rfl (zf rfl yw (zb rfl)) y2 ?_
  refine zc rfl (zf rfl xc (zb rfl)) xd ?_
  refine zU hF (fun v6 hv6 hF=>?_)
  refine zN rfl (s_callC rfl rfl yR (zp xb zx) (.cons (zb rfl) .nil) rfl) (hf1 _ _ _ _ hv6) xi ?_
  refine zc rfl (zf rfl yT (zb rfl)) xr ?_
  refine zc rfl (zy rfl xj xp (bin_boolE ty4)) xE ?_
  refine ze (zi ?_)
  refine zL xH hF (fun hc7 hF=>?_) (fun hc7 hF=>?_)
  ·refine zk (zd ?_)
   refine zc rfl (zf rfl xl (zb rfl)) xR ?_
   refine zc rfl (zg rfl xO (zb rfl)) xn ?_
   refine ze (zi (zH ?_))
   refine zC ?_
   refine yb ?_
   obtain rfl:=Option.some.inj hF
   replace hF:=hK1
   refine zC ?_
   refine zw ?_
   obtain rfl:=Option.some.inj hF
   refine zz rfl (zD yS zE) (zB (leV.refl _) rfl ?_)
   exact ⟨rfl,rfl⟩
  ·refine zG (yc (yp ?_))
   obtain rfl:=Option.some.inj hF
   exact ⟨(s1+(dec s0 s1).2),hK1,wk.le (by exact (.drop (.eq (.eq (.d4 (.drop (.drop (.drop (.eq (.d4 (.d4 (.drop (.drop leL.nil)))))))))))))⟩
 ·refine zc rfl (xk rfl yA rfl (zb rfl)) yQ ?_
  refine ze (zi (zk ?_))
  refine r_cond yK (fun hh=>by cases hh) (fun _=>?_)
  refine yx ?_
  refine zW ?_
  refine zP ?_
  obtain rfl:=Option.some.inj hF
  replace hF:=hK1
  refine zQ ?_
  refine zi (zk (zd ?_))
  refine zc rfl (zg rfl rfl (zb rfl)) xn ?_
  refine ze (zi (zH ?_))
  obtain rfl:=Option.some.inj hF
  refine zz rfl (zD yS zE) (zB (leV.refl _) rfl ?_)
  exact ⟨rfl,rfl⟩
theorem ok66 {s0:zR} {f1:(Int→Option Bool)} {ff1:FuncId} {af1 kf1:List AV} {res:Int} {h:AH} (hf1:∀ x0 v (L:List Blk) (M:List Nat),f1 x0=some v→Spec Try.prog ff1 (af1++[.int .i32 x0]++kf1) (h.ext L M) (fun rr hh=>rr=.bool v∧hh=h.ext L M)) (hF:vU s0 f1=some res):Spec Try.prog 66 [.str s0,.fn (.func ff1) af1 kf1] h (fun rr hh=>rr=.int .i64 res∧hh=h):=by
 unfold vU at hF
 refine yy Try.func66 rfl (by kernel_rfl) (env:=[.str s0,.fn (.func ff1) af1 kf1,za,za,za,za,za,za]) (by rfl) (fun hlow hC=>?_)
 simp only [yj,AV.low,Bool.and_eq_true,Bool.true_and,and_true] at hlow
 have hlaf1:∀ n m,h.blks.length≤n→h.toks.length≤m→yj n m af1=true:=fun n m h1 h2=>yY h1 h2 _ (by simp [hlow])
 have hlkf1:∀ n m,h.blks.length≤n→h.toks.length≤m→yj n m kf1=true:=fun n m h1 h2=>yY h1 h2 _ (by simp [hlow])
 refine zk (zd ?_)
 refine zc rfl (zg rfl rfl (zb rfl)) yu ?_
 refine ze (zi (zk (zd ?_)))
 refine zc rfl (zf rfl yl (zb rfl)) xg ?_
 refine zc rfl (zf rfl yw (zb rfl)) xn ?_
 refine zU hF (fun v1 hv1 hF=>?_)
 refine zN rfl (zF rfl rfl rfl (zp yD (zp yS (zp rfl zx))) (.cons (zb rfl) (.cons (zb rfl) (.cons (zb rfl) .nil)))) (ok81 (fun x0 v L M hv=>by rw [wG];exact hf1 x0 v _ _ hv) hv1) xJ ?_
 refine zc rfl (zg rfl xl (zb rfl)) yu ?_
 refine ze (zi (zH ?_))
 obtain rfl:=Option.some.inj hF
 refine zz rfl (zD yz zE) (zB (leV.refl _) rfl ?_)
 exact ⟨rfl,rfl⟩
theorem ok53 {s0:zR} {f1:(Int→Option Bool)} {ff1:FuncId} {af1 kf1:List AV} {res:Bool} {h:AH} (hf1:∀ x0 v (L:List Blk) (M:List Nat),f1 x0=some v→Spec Try.prog ff1 (af1++[.int .i32 x0]++kf1) (h.ext L M) (fun rr hh=>rr=.bool v∧hh=h.ext L M)) (hF:wa s0 f1=some res):Spec Try.prog 53 [.str s0,.fn (.func ff1) af1 kf1] h (fun rr hh=>rr=.bool res∧hh=h):=by
 unfold wa at hF
 refine yy Try.func53 rfl (by kernel_rfl) (env:=[.str s0,.fn (.func ff1) af1 kf1,za,za,za,za,za,za,za]) (by rfl) (fun hlow hC=>?_)
 simp only [yj,AV.low,Bool.and_eq_true,Bool.true_and,and_true] at hlow
 have hlaf1:∀ n m,h.blks.length≤n→h.toks.length≤m→yj n m af1=true:=fun n m h1 h2=>yY h1 h2 _ (by simp [hlow])
 have hlkf1:∀ n m,h.blks.length≤n→h.toks.length≤m→yj n m kf1=true:=fun n m h1 h2=>yY h1 h2 _ (by simp [hlow])
 refine zk (zd ?_)
 refine zc rfl (zg rfl rfl (zb rfl)) yu ?_
 refine ze (zi (zk (zd ?_)))
 refine zc rfl (zf rfl yl (zb rfl)) xg ?_
 refine zc rfl (zf rfl yw (zb rfl)) xn ?_
 refine zU hF (fun v1 hv1 hF=>?_)
 refine zN rfl (zF rfl rfl rfl (zp yD (zp yS zx)) (.cons (zb rfl) (.cons (zb rfl) .nil))) (ok66 (fun x0 v L M hv=>by rw [wG];exact hf1 x0 v _ _ hv) hv1) xJ ?_
 refine zc rfl (zy rfl xl rfl rfl) xM ?_
 refine zc rfl (zg rfl xc (zb rfl)) yu ?_
 refine ze (zi (zH ?_))
 obtain rfl:=Option.some.inj hF
 refine zz rfl (zD yz zE) (zB (leV.refl _) rfl ?_)
 exact ⟨rfl,rfl⟩
theorem ok36 {s0:zR} {res:Bool} {h:AH}  (hF:opIsName s0=some res):Spec Try.prog 36 [.str s0] h (fun rr hh=>rr=.bool res∧hh=h):=by
 unfold opIsName at hF
 refine zu Try.func36 rfl (by kernel_rfl) (env:=[.str s0,za,za,za,za,za,za,za,za,za,za,za,za,za,za,za,za,za]) (by rfl) ?_
 refine zk (zd ?_)
 refine zc rfl (zg rfl rfl (zb rfl)) yU ?_
 refine ze (zi (zk (zd ?_)))
 refine zc rfl (zg rfl rfl (zb rfl)) x5 ?_
 refine ze (zi (zk (zd ?_)))
 refine zc rfl (zf rfl yl (zb rfl)) yu ?_
 refine zZ rfl (vx rfl rfl rfl rfl qa yz) xg fun hn1=>?_
 replace hn1:=y9 hn1
 refine zc rfl (zy rfl yD rfl rfl) xn ?_
 refine zc rfl (zf rfl yS (zb rfl)) xJ ?_
 refine zq rfl (fun hb=>zf rfl yl (zb rfl)) xM ?_
 refine xU rfl (fun hb=>vx rfl rfl rfl rfl qa (zn xc hb)) wv fun hn2=>?_
 refine zq rfl (fun hb=>zy rfl (zn xy hb) rfl rfl) yF ?_
 refine zc rfl (zM rfl xl yv rfl (zV (fun ht=>gT ht))) yL ?_
 refine zc rfl (zf rfl yA (zb rfl)) yQ ?_
 refine zq rfl (fun hb=>zf rfl yl (zb rfl)) yW ?_
 refine zq rfl (fun hb=>zf rfl y8 (zb rfl)) y3 ?_
 refine yO hF (fun v3 hv3 hF=>?_)
 refine ym rfl (fun hb=>zF rfl rfl rfl (zp (zn yN hb) (zp (zn y6 hb) zx)) (.cons (zb rfl) (.cons (zb rfl) .nil))) (fun hb=>ok53 (fun _ v L M hv=>ok52  hv) (hv3 hb)) y2 ?_
 refine zq rfl (fun hb=>xF rfl (zn yR hb) rfl) xd ?_
 refine zc rfl (zM rfl yK xb rfl (zV (fun ht=>gT ht))) xi ?_
 refine zc rfl (zg rfl xj (zb rfl)) yU ?_
 refine ze (zi (zH ?_))
 obtain rfl:=Option.some.inj hF
 refine zz rfl (zD yT zE) (zB (leV.refl _) rfl ?_)
 exact ⟨rfl,rfl⟩
theorem ok35 {s0:zR} {res:Bool} {h:AH}  (hF:vI s0=some res):Spec Try.prog 35 [.str s0] h (fun rr hh=>rr=.bool res∧hh=h):=by
 unfold vI at hF
 refine zu Try.func35 rfl (by kernel_rfl) (env:=[.str s0,za,za,za,za,za,za,za,za,za]) (by rfl) ?_
 refine zk (zd ?_)
 refine zc rfl (zg rfl rfl (zb rfl)) yU ?_
 refine ze (zi (zk (zd ?_)))
 refine zc rfl (zf rfl yl (zb rfl)) x5 ?_
 refine zc rfl (zy rfl y8 rfl rfl) yu ?_
 refine zc rfl (zf rfl yz (zb rfl)) xg ?_
 refine zq rfl (fun hb=>zf rfl yl (zb rfl)) xn ?_
 refine yO hF (fun v1 hv1 hF=>?_)
 refine ym rfl (fun hb=>zF rfl rfl rfl (zp (zn yS hb) zx) (.cons (zb rfl) .nil)) (fun hb=>ok36 (hv1 hb)) xJ ?_
 refine zq rfl (fun hb=>xF rfl (zn xl hb) rfl) xM ?_
 refine zc rfl (zM rfl yD xc rfl (zV (fun ht=>gT ht))) wv ?_
 refine zc rfl (zg rfl xy (zb rfl)) yU ?_
 refine ze (zi (zH ?_))
 obtain rfl:=Option.some.inj hF
 refine zz rfl (zD yT zE) (zB (leV.refl _) rfl ?_)
 exact ⟨rfl,rfl⟩
theorem ok54 {s0:(List zR)} {f1:(zR→Option Bool)} {ff1:FuncId} {af1 kf1:List AV} {res:Int} {h:AH} (hf1:∀ x0 v (L:List Blk) (M:List Nat),f1 x0=some v→Spec Try.prog ff1 (af1++[.str x0]++kf1) (h.ext L M) (fun rr hh=>rr=.bool v∧hh=h.ext L M)) (hF:wr s0 f1=some res):Spec Try.prog 54 [.sl 1 (s0.map zI),.fn (.func ff1) af1 kf1] h (fun rr hh=>rr=.int .i64 res∧hh=h):=by
 unfold wr at hF
 refine yy Try.func54 rfl (by kernel_rfl) (env:=[.sl 1 (s0.map zI),.fn (.func ff1) af1 kf1,za,za,za,za,za,za,za,za,za,za,za,za,za,za,za,za,za]) (by rfl) (fun hlow hC=>?_)
 simp only [yj,AV.low,Bool.and_eq_true,Bool.true_and,and_true] at hlow
 have hlaf1:∀ n m,h.blks.length≤n→h.toks.length≤m→yj n m af1=true:=fun n m h1 h2=>yY h1 h2 _ (by simp [hlow])
 have hlkf1:∀ n m,h.blks.length≤n→h.toks.length≤m→yj n m kf1=true:=fun n m h1 h2=>yY h1 h2 _ (by simp [hlow])
 refine zk (zd ?_)
 refine zc rfl (zg rfl rfl (zb rfl)) yu ?_
 refine ze (zi (zk (zk (zd ?_))))
 refine zc rfl (zf rfl yl (zb rfl)) xn ?_
 refine zZ rfl (zO rfl rfl rfl rfl yG yS ya) xJ fun hn1=>?_
 replace hn1:=y9 hn1
 refine zc rfl (zf rfl rfl (zb rfl)) xM ?_
 refine ze (zi (zJ ?_))
 refine yi (fun (n1:Nat) (s1:Unit)=>yr [2,3,4,5,6,9,10,11,12,13,14,15,16,17,18] [(8,.int .i64 (n1:Int))]) (fun s1=>h.ext [] []) hF (fun _ _=>by simp only [yr,qN,List.set_cons_succ,List.set_cons_zero];try rfl) (wk.le (by exact (.eq (.eq (.d4 (.drop (.eq (.cons (leV.of_eq rfl) (.d4 (.d4 (.drop (.drop leL.nil)))))))))))) ?_
 intro n1 s1 hi1 hF
 refine zk (zd ?_)
 refine zc rfl (zy rfl xc xl rfl) wv ?_
 refine ze (zi (zk ?_))
 refine yo xy hF (fun x1 o1 hl1 hx1 hF hK1=>?_) (fun hF=>?_)
 ·refine zG (zi (zk (zJ (zk (zd ?_)))))
  refine zc rfl (zf rfl xc (zb rfl)) yF ?_
  refine zc rfl (zg rfl yv (zb rfl)) xg ?_
  refine ze (zi (zk (zd ?_)))
  refine zc rfl (zf rfl yw (zb rfl)) yL ?_
  refine zc rfl (zf rfl yl (zb rfl)) yQ ?_
  refine zc rfl (zf rfl yD (zb rfl)) yW ?_
  refine zc rfl (yg rfl yG yK yN xZ (yn hx1)) y3 ?_
  refine zc rfl (zX rfl qa y6 (zt rfl) (zb rfl)) y2 ?_
  refine zU hF (fun v7 hv7 hF=>?_)
  refine zN rfl (s_callC rfl rfl yA (zp yR zx) (.cons (zb rfl) .nil) rfl) (hf1 _ _ _ _ hv7) xd ?_
  refine ze (zi ?_)
  refine zL xb hF (fun hc8 hF=>?_) (fun hc8 hF=>?_)
  ·refine zk (zd ?_)
   refine zc rfl (zf rfl yD (zb rfl)) xi ?_
   refine zc rfl (zg rfl xj (zb rfl)) yu ?_
   refine ze (zi (zH ?_))
   refine zC ?_
   refine zw ?_
   refine yb ?_
   obtain rfl:=Option.some.inj hF
   replace hF:=hK1
   refine zC ?_
   refine zw ?_
   obtain rfl:=Option.some.inj hF
   refine zz rfl (zD yz zE) (zB (leV.refl _) rfl ?_)
   exact ⟨rfl,rfl⟩
  ·refine zG (yc (zi (zd ?_)))
   refine zc rfl (zy rfl xc rfl rfl) xr ?_
   refine zc rfl (zf rfl xp (zb rfl)) xM ?_
   refine ze (yp ?_)
   obtain rfl:=Option.some.inj hF
   exact ⟨(),hl1,hK1,wk.le (by exact (.eq (.eq (.d4 (.drop (.eq (.cons (leV.of_eq (wn (by omega) (by omega))) (.d4 (.d4 (.drop (.drop leL.nil)))))))))))⟩
 ·refine yx ?_
  refine zW ?_
  refine zP ?_
  refine zQ ?_
  refine zi (zk (zd ?_))
  refine zc rfl (zg rfl rfl (zb rfl)) yu ?_
  refine ze (zi (zH ?_))
  obtain rfl:=Option.some.inj hF
  refine zz rfl (zD yz zE) (zB (leV.refl _) rfl ?_)
  exact ⟨rfl,rfl⟩
theorem ok37 {s0:(List zR)} {f1:(zR→Option Bool)} {ff1:FuncId} {af1 kf1:List AV} {res:Bool} {h:AH} (hf1:∀ x0 v (L:List Blk) (M:List Nat),f1 x0=some v→Spec Try.prog ff1 (af1++[.str x0]++kf1) (h.ext L M) (fun rr hh=>rr=.bool v∧hh=h.ext L M)) (hF:y5 s0 f1=some res):Spec Try.prog 37 [.sl 1 (s0.map zI),.fn (.func ff1) af1 kf1] h (fun rr hh=>rr=.bool res∧hh=h):=by
 unfold y5 at hF
 refine yy Try.func37 rfl (by kernel_rfl) (env:=[.sl 1 (s0.map zI),.fn (.func ff1) af1 kf1,za,za,za,za,za,za,za]) (by rfl) (fun hlow hC=>?_)
 simp only [yj,AV.low,Bool.and_eq_true,Bool.true_and,and_true] at hlow
 have hlaf1:∀ n m,h.blks.length≤n→h.toks.length≤m→yj n m af1=true:=fun n m h1 h2=>yY h1 h2 _ (by simp [hlow])
 have hlkf1:∀ n m,h.blks.length≤n→h.toks.length≤m→yj n m kf1=true:=fun n m h1 h2=>yY h1 h2 _ (by simp [hlow])
 refine zk (zd ?_)
 refine zc rfl (zg rfl rfl (zb rfl)) yu ?_
 refine ze (zi (zk (zd ?_)))
 refine zc rfl (zf rfl yl (zb rfl)) xg ?_
 refine zc rfl (zf rfl yw (zb rfl)) xn ?_
 refine zU hF (fun v1 hv1 hF=>?_)
 refine zN rfl (zF rfl rfl rfl (zp yD (zp yS zx)) (.cons (zb rfl) (.cons (zb rfl) .nil))) (ok54 (fun x0 v L M hv=>by rw [wG];exact hf1 x0 v _ _ hv) hv1) xJ ?_
 refine zc rfl (zy rfl xl rfl rfl) xM ?_
 refine zc rfl (zg rfl xc (zb rfl)) yu ?_
 refine ze (zi (zH ?_))
 obtain rfl:=Option.some.inj hF
 refine zz rfl (zD yz zE) (zB (leV.refl _) rfl ?_)
 exact ⟨rfl,rfl⟩
theorem ok31 {p0:(List zR)} {res:((List zR)×Bool)} {h:AH}  (hF:qp p0=some res):Spec Try.prog 31 [.sl 1 (p0.map zI)] h (fun rr hh=>rr=.tup [.sl 1 (res.1.map zI),.bool res.2]∧hh=h):=by
 unfold qp at hF
 refine zu Try.func31 rfl (by kernel_rfl) (env:=[.sl 1 (p0.map zI),za,za,za,za,za,za,za,za,za,za,za,za,za,za,za,za,za,za,za,za,za]) (by rfl) ?_
 refine zk (zd ?_)
 refine zc rfl (zg rfl rfl (yE yG)) yU ?_
 refine zc rfl (zg rfl rfl (zb rfl)) x5 ?_
 refine ze (zi (zk (zk (zd ?_))))
 refine zc rfl (zf rfl yl (zb rfl)) xg ?_
 refine zZ rfl (zO rfl rfl rfl rfl yG yD ya) xn fun hn1=>?_
 replace hn1:=y9 hn1
 refine zc rfl (zg rfl yS (zb rfl)) yu ?_
 refine ze (zi (zk (zd ?_)))
 refine zc rfl (zf rfl yz (zb rfl)) xJ ?_
 refine zc rfl (zy rfl xl rfl rfl) xM ?_
 refine zc rfl (zf rfl xc (zb rfl)) wv ?_
 refine zq rfl (fun hb=>zf rfl yl (zb rfl)) yF ?_
 refine zq rfl (fun hb=>zf rfl yz (zb rfl)) yL ?_
 refine zq rfl (fun hb=>zy rfl (zn yA hb) rfl rfl) yQ ?_
 refine xe hF (fun hg2 hF=>?_)
 refine zq rfl (fun hb=>yH default rfl yG (zn yv hb) (zn yK hb) xZ (hg2 hb)) yW ?_
 refine zq rfl (fun hb=>zX rfl qa (zn yN hb) (zt rfl) (zb rfl)) y3 ?_
 refine zq rfl (fun hb=>zy rfl (zn y6 hb) rfl rfl) y2 ?_
 refine zc rfl (zM rfl xy yR rfl (zV (fun ht=>gT ht))) xd ?_
 refine ze (zi ?_)
 refine zL xb hF (fun hc3 hF=>?_) (fun hc3 hF=>?_)
 ·refine zk (zd ?_)
  refine zc rfl (zf rfl yl (zb rfl)) xi ?_
  refine zc rfl (zf rfl yz (zb rfl)) xr ?_
  refine zc rfl (zy rfl xp rfl rfl) xE ?_
  refine zU hF (fun m4 hm4 hF=>?_)
  refine zc rfl (qy rfl yG xj (.inl rfl) .none (.some xH) hm4) xR ?_
  refine zc rfl (zg rfl xO (zb rfl)) yU ?_
  refine zc rfl (zg rfl rfl (zb rfl)) x5 ?_
  refine ze (zi (zH (zw ?_)))
  obtain rfl:=Option.some.inj hF
  refine q_retL rfl (zD yT (zD y8 zE)) (zB (leV.refl _) rfl ?_)
  exact ⟨rfl,rfl⟩
 ·refine zG (zi (zk (zd ?_)))
  refine zc rfl (zf rfl yl (zb rfl)) xY ?_
  refine zc rfl (zg rfl xV (zb rfl)) yU ?_
  refine zc rfl (zg rfl rfl (zb rfl)) x5 ?_
  refine ze (zi (zH ?_))
  obtain rfl:=Option.some.inj hF
  refine q_retL rfl (zD yT (zD y8 zE)) (zB (leV.refl _) rfl ?_)
  exact ⟨rfl,rfl⟩
theorem ok18 {p0:(List zR)} {res:Bool} {h:AH}  (hF:xz p0=some res):Spec Try.prog 18 [.sl 1 (p0.map zI)] h (fun rr hh=>rr=.bool res∧hh=h):=by
 unfold xz at hF
 refine zu Try.func18 rfl (by kernel_rfl) (env:=[.sl 1 (p0.map zI),za,za,za,za,za,za,za,za,za,za,za,za,za,za,za,za,za,za,za,za,za,za,za,za,za,za,za]) (by rfl) ?_
 refine zk (zd ?_)
 refine zc rfl (zg rfl rfl (zb rfl)) yU ?_
 refine ze (zi (zk (zd ?_)))
 refine zc rfl (zf rfl yl (zb rfl)) xJ ?_
 refine zU hF (fun v1 hv1 hF=>?_)
 refine zN rfl (zF rfl rfl rfl (zp xl zx) (.cons (zb rfl) .nil)) (ok31 hv1) xM ?_
 refine zc rfl (zf rfl xc (zb rfl)) xn ?_
 refine zc rfl (xk rfl yS rfl (zb rfl)) wv ?_
 refine zc rfl (xk rfl yS rfl (zb rfl)) yF ?_
 refine zc rfl (zg rfl xy (zb rfl)) x5 ?_
 refine zc rfl (zg rfl yv (zb rfl)) yu ?_
 refine ze (zi (zk (zd ?_)))
 refine zc rfl (zg rfl rfl (zb rfl)) xg ?_
 refine ze (zi (zk (zd ?_)))
 refine zc rfl (zf rfl y8 (zb rfl)) yL ?_
 refine zZ rfl (zO rfl rfl rfl rfl yG yA ya) yQ fun hn2=>?_
 replace hn2:=y9 hn2
 refine zc rfl (zy rfl yK rfl rfl) yW ?_
 refine zc rfl (zf rfl yN (zb rfl)) y3 ?_
 refine zq rfl (fun hb=>zf rfl yz (zb rfl)) y2 ?_
 refine zc rfl (zM rfl y6 rfl yR (yd (fun ht=>gF ht))) xd ?_
 refine zc rfl (zf rfl xb (zb rfl)) xi ?_
 refine zq rfl (fun hb=>zf rfl y8 (zb rfl)) xr ?_
 refine xU rfl (fun hb=>zO rfl rfl rfl rfl yG (zn xp hb) ya) xE fun hn3=>?_
 refine zq rfl (fun hb=>zy rfl (zn xH hb) rfl rfl) xR ?_
 refine zc rfl (zM rfl xj xO rfl (zV (fun ht=>gT ht))) xY ?_
 refine zc rfl (zf rfl xV (zb rfl)) x7 ?_
 refine zq rfl (fun hb=>zf rfl y8 (zb rfl)) xQ ?_
 refine zq rfl (fun hb=>zf rfl yD (zb rfl)) wc ?_
 refine yO hF (fun v4 hv4 hF=>?_)
 refine ym rfl (fun hb=>zF rfl rfl rfl (zp (zn xB hb) (zp (zn wg hb) zx)) (.cons (zb rfl) (.cons (zb rfl) .nil))) (fun hb=>ok37 (fun _ v L M hv=>ok35  hv) (hv4 hb)) wb ?_
 refine zq rfl (fun hb=>xF rfl (zn x4 hb) rfl) wJ ?_
 refine zc rfl (zM rfl x9 wF rfl (zV (fun ht=>gT ht))) wR ?_
 refine zc rfl (zg rfl wU (zb rfl)) yU ?_
 refine ze (zi (zH ?_))
 obtain rfl:=Option.some.inj hF
 refine zz rfl (zD yT zE) (zB (leV.refl _) rfl ?_)
 exact ⟨rfl,rfl⟩
theorem ok16 {p0:(List zR)} {res:zR} {h:AH}  (hF:pathsText p0=some res):Spec Try.prog 16 [.sl 1 (p0.map zI)] h (fun rr hh=>rr=.str res∧hh=h):=by
 unfold pathsText at hF
 refine zu Try.func16 rfl (by kernel_rfl) (env:=[.sl 1 (p0.map zI),za,za,za,za,za,za,za]) (by rfl) ?_
 refine zk (zd ?_)
 refine zc rfl (zg rfl rfl (zb rfl)) yU ?_
 refine ze (zi (zk (zk (zd ?_))))
 refine zc rfl (zf rfl yl (zb rfl)) x5 ?_
 refine zU hF (fun v1 hv1 hF=>?_)
 refine zN rfl (zF rfl rfl rfl (zp y8 zx) (.cons (zb rfl) .nil)) (ok18 hv1) yu ?_
 refine zc rfl (xF rfl yz rfl) xg ?_
 refine ze (zi ?_)
 refine zL yD hF (fun hc2 hF=>?_) (fun hc2 hF=>?_)
 ·refine zk (zd ?_)
  refine zc rfl (zg rfl rfl (zb rfl)) yU ?_
  refine ze (zi (zH (zw ?_)))
  obtain rfl:=Option.some.inj hF
  refine zz rfl (zD yT zE) (zB (leV.refl _) rfl ?_)
  exact ⟨rfl,rfl⟩
 ·refine zG (zi (zk (zd ?_)))
  refine zc rfl (zf rfl yl (zb rfl)) xn ?_
  refine zU hF (fun v3 hv3 hF=>?_)
  refine zN rfl (zF rfl rfl rfl (zp yS (zp rfl zx)) (.cons (zb rfl) (.cons (zb rfl) .nil))) (ok33 hv3) xJ ?_
  refine zc rfl (zg rfl xl (zb rfl)) yU ?_
  refine ze (zi (zH ?_))
  obtain rfl:=Option.some.inj hF
  refine zz rfl (zD yT zE) (zB (leV.refl _) rfl ?_)
  exact ⟨rfl,rfl⟩
theorem ok47 {s0:zR} {res:Bool} {h:AH}  (hF:opMayPathC1 s0=some res):Spec Try.prog 47 [.str s0] h (fun rr hh=>rr=.bool res∧hh=h):=by
 unfold opMayPathC1 at hF
 refine zu Try.func47 rfl (by kernel_rfl) (env:=[.str s0,za,za,za,za,za]) (by rfl) ?_
 refine zk (zd ?_)
 refine zc rfl (zg rfl rfl (zb rfl)) yU ?_
 refine ze (zi (zk (zd ?_)))
 refine zc rfl (zf rfl yl (zb rfl)) x5 ?_
 refine zU hF (fun v1 hv1 hF=>?_)
 refine zN rfl (zF rfl rfl rfl (zp y8 zx) (.cons (zb rfl) .nil)) (ok36 hv1) yu ?_
 refine zc rfl (xF rfl yz rfl) xg ?_
 refine zc rfl (zg rfl yD (zb rfl)) yU ?_
 refine ze (zi (zH ?_))
 obtain rfl:=Option.some.inj hF
 refine zz rfl (zD yT zE) (zB (leV.refl _) rfl ?_)
 exact ⟨rfl,rfl⟩
theorem ok32 {p0:(List zR)} {res:Bool} {h:AH}  (hF:opMayPath p0=some res):Spec Try.prog 32 [.sl 1 (p0.map zI)] h (fun rr hh=>rr=.bool res∧hh=h):=by
 unfold opMayPath at hF
 refine zu Try.func32 rfl (by kernel_rfl) (env:=[.sl 1 (p0.map zI),za,za,za,za,za,za,za,za,za,za,za,za,za,za,za]) (by rfl) ?_
 refine zk (zd ?_)
 refine zc rfl (zg rfl rfl (zb rfl)) yU ?_
 refine ze (zi (zk (zd ?_)))
 refine zc rfl (zf rfl yl (zb rfl)) x5 ?_
 refine zZ rfl (zO rfl rfl rfl rfl yG y8 ya) yu fun hn1=>?_
 replace hn1:=y9 hn1
 refine zc rfl (zy rfl yz rfl rfl) xg ?_
 refine zc rfl (zf rfl yD (zb rfl)) xn ?_
 refine zq rfl (fun hb=>zf rfl yl (zb rfl)) xJ ?_
 refine xU rfl (fun hb=>zO rfl rfl rfl rfl yG (zn xl hb) ya) xM fun hn2=>?_
 refine zq rfl (fun hb=>zy rfl (zn xc hb) rfl rfl) wv ?_
 refine zc rfl (zM rfl yS xy rfl (zV (fun ht=>gT ht))) yF ?_
 refine zc rfl (zf rfl yv (zb rfl)) yL ?_
 refine zq rfl (fun hb=>zf rfl yl (zb rfl)) yQ ?_
 refine yO hF (fun v3 hv3 hF=>?_)
 refine ym rfl (fun hb=>zF rfl rfl rfl (zp (zn yK hb) (zp rfl zx)) (.cons (zb rfl) (.cons (zb rfl) .nil))) (fun hb=>ok37 (fun _ v L M hv=>ok47  hv) (hv3 hb)) yW ?_
 refine zq rfl (fun hb=>xF rfl (zn yN hb) rfl) y3 ?_
 refine zc rfl (zM rfl yA y6 rfl (zV (fun ht=>gT ht))) y2 ?_
 refine zc rfl (zg rfl yR (zb rfl)) yU ?_
 refine ze (zi (zH ?_))
 obtain rfl:=Option.some.inj hF
 refine zz rfl (zD yT zE) (zB (leV.refl _) rfl ?_)
 exact ⟨rfl,rfl⟩
theorem ok15 {p0:(List zR)} {path1:(List zR)} {res:Bool} {h:AH}  (hF:wL p0 path1=some res):Spec Try.prog 15 [.sl 1 (p0.map zI),.sl 1 (path1.map zI)] h (fun rr hh=>rr=.bool res∧hh=h):=by
 unfold wL at hF
 refine zu Try.func15 rfl (by kernel_rfl) (env:=[.sl 1 (p0.map zI),.sl 1 (path1.map zI),za,za,za,za,za,za,za,za,za,za,za,za,za,za,za,za,za,za,za,za,za,za,za,za,za,za,za,za,za,za,za,za,za,za,za,za,za,za,za,za,za,za,za,za,za,za,za,za,za,za,za,za,za,za,za,za]) (by rfl) ?_
 refine zk (zd ?_)
 refine zc rfl (zg rfl rfl (zb rfl)) yu ?_
 refine ze (zi (zk (zd ?_)))
 refine zc rfl (zf rfl yl (zb rfl)) yF ?_
 refine zU hF (fun v1 hv1 hF=>?_)
 refine zN rfl (zF rfl rfl rfl (zp yv zx) (.cons (zb rfl) .nil)) (ok31 hv1) yL ?_
 refine zc rfl (zf rfl yA (zb rfl)) wv ?_
 refine zc rfl (xk rfl xy rfl (zb rfl)) yQ ?_
 refine zc rfl (xk rfl xy rfl (zb rfl)) yW ?_
 refine zc rfl (zg rfl yK (zb rfl)) xg ?_
 refine zc rfl (zg rfl yN (zb rfl)) xn ?_
 refine ze (zi (zk (zk (zd ?_))))
 refine zc rfl (zf rfl yl (zb rfl)) y3 ?_
 refine zU hF (fun v2 hv2 hF=>?_)
 refine zN rfl (zF rfl rfl rfl (zp y6 zx) (.cons (zb rfl) .nil)) (ok18 hv2) y2 ?_
 refine zc rfl (xF rfl yR rfl) xd ?_
 refine zc rfl (zf rfl xb (zb rfl)) xi ?_
 refine zq rfl (fun hb=>zf rfl yw (zb rfl)) xr ?_
 refine yO hF (fun v3 hv3 hF=>?_)
 refine ym rfl (fun hb=>zF rfl rfl rfl (zp (zn xp hb) zx) (.cons (zb rfl) .nil)) (fun hb=>ok32 (hv3 hb)) xE ?_
 refine zq rfl (fun hb=>xF rfl (zn xH hb) rfl) xR ?_
 refine zc rfl (zM rfl xj rfl xO (yd (fun ht=>gF ht))) xY ?_
 refine zc rfl (zf rfl xV (zb rfl)) x7 ?_
 refine zq rfl (fun hb=>zf rfl yw (zb rfl)) xQ ?_
 refine xU rfl (fun hb=>zO rfl rfl rfl rfl yG (zn xB hb) ya) wc fun hn4=>?_
 refine zq rfl (fun hb=>zf rfl yD (zb rfl)) wb ?_
 refine xU rfl (fun hb=>zO rfl rfl rfl rfl yG (zn x4 hb) ya) wJ fun hn5=>?_
 refine zq rfl (fun hb=>zy rfl (zn wg hb) (zn wF hb) rfl) wR ?_
 refine zc rfl (zM rfl x9 rfl wU (yd (fun ht=>gF ht))) wZ ?_
 refine zc rfl (zf rfl w6 (zb rfl)) vf ?_
 refine zq rfl (fun hb=>zf rfl yw (zb rfl)) ve ?_
 refine xU rfl (fun hb=>zO rfl rfl rfl rfl yG (zn vn hb) ya) vd fun hn6=>?_
 refine zq rfl (fun hb=>zf rfl yD (zb rfl)) vc ?_
 refine xU rfl (fun hb=>zO rfl rfl rfl rfl yG (zn w5 hb) ya) vu fun hn7=>?_
 refine zq rfl (fun hb=>zy rfl (zn vm hb) (zn vA hb) rfl) vt ?_
 refine zq rfl (fun hb=>zf rfl (zn vl hb) (zb rfl)) vb ?_
 refine zq (z7 rfl rfl rfl) (fun hb=>zf rfl yS (zb rfl)) wQ ?_
 refine zq (z7 rfl rfl rfl) (fun hb=>xF rfl (zn wN hb) rfl) va ?_
 refine zq rfl (fun hb=>zM rfl (zn vk hb) vj rfl (zV (fun ht=>gT2 hb ht))) vE ?_
 refine zc rfl (zM rfl vo rfl vz (yd (fun ht=>gF ht))) vJ ?_
 refine ze (zi ?_)
 refine zL vF hF (fun hc8 hF=>?_) (fun hc8 hF=>?_)
 ·refine zk (zd ?_)
  refine zc rfl (zg rfl rfl (zb rfl)) yu ?_
  refine ze (zi (zH (zw ?_)))
  obtain rfl:=Option.some.inj hF
  refine zz rfl (zD yz zE) (zB (leV.refl _) rfl ?_)
  exact ⟨rfl,rfl⟩
 ·refine zG (zi (zk (zk (zd ?_))))
  refine zc rfl (zf rfl yD (zb rfl)) (sk st0) ?_
  refine zZ rfl (zO rfl rfl rfl rfl yG (gk yl) ya) (sk st1) fun hn9=>?_
  replace hn9:=y9 hn9
  refine zc rfl (zf rfl rfl (zb rfl)) (sk yU) ?_
  refine ze (zi (zJ ?_))
  refine yi (fun (n1:Nat) (s1:Unit)=>yr [0,2,3,4,5,6,7,8,9,10,11,12,13,14,15,16,17,18,19,20,21,22,23,24,25,26,27,28,29,30,31,32,33,34,35,36,37,38,39,43,44,45,46,47,48,49,50,51,52,53,54,55,56,57] [(42,.int .i64 (n1:Int))]) (fun s1=>h.ext [] []) hF (fun _ _=>by simp only [yr,qN,List.set_cons_succ,List.set_cons_zero];try rfl) (wk.le (by exact (.drop (.eq (.d16 (.d16 (.d4 (.drop (.drop (.eq (.eq (.cons (leV.of_eq rfl) (.d4 (.d4 (.d4 (.drop (.drop (.drop leL.nil)))))))))))))))))) ?_
  intro n1 s1 hi1 hF
  refine zk (zd ?_)
  refine zc rfl (zy rfl (gk yT) (gk yw) rfl) (sk x5) ?_
  refine ze (zi (zk ?_))
  refine yo (gk y8) hF (fun x1 o1 hl1 hx1 hF hK1=>?_) (fun hF=>?_)
  ·refine zG (zi (zk (zJ (zk (zd ?_)))))
   refine zc rfl (zf rfl (gk yT) (zb rfl)) (sk yu) ?_
   refine zc rfl (yg rfl yG (gk yl) (gk yT) xZ (yn hx1)) (sk xg) ?_
   refine zc rfl (zX rfl qa (gk yD) (zt rfl) (zb rfl)) (sk xn) ?_
   refine zc rfl (zg rfl (gk yz) (zb rfl)) xJ ?_
   refine zc rfl (zg rfl (gk yS) (zb rfl)) xM ?_
   refine ze (zi (zk (zd ?_)))
   refine zc rfl (zf rfl xc (zb rfl)) (sk xJ) ?_
   refine zc rfl (zy rfl (gk xl) rfl rfl) (sk xM) ?_
   refine zc rfl (zf rfl (gk xc) (zb rfl)) (sk wv) ?_
   refine zq rfl (fun hb=>zf rfl xc (zb rfl)) (sk yF) ?_
   refine zq rfl (fun hb=>zf rfl yw (zb rfl)) (sk yL) ?_
   refine zq rfl (fun hb=>zf rfl xl (zb rfl)) (sk yQ) ?_
   refine xe hF (fun hg15 hF=>?_)
   refine zq rfl (fun hb=>yH default rfl yG (zn (gk yA) hb) (zn (gk yK) hb) xZ (hg15 hb)) (sk yW) ?_
   refine zq rfl (fun hb=>zX rfl qa (zn (gk yN) hb) (zt rfl) (zb rfl)) (sk y3) ?_
   refine zq rfl (fun hb=>zy rfl (zn (gk yv) hb) (zn (gk y6) hb) rfl) (sk y2) ?_
   refine zc rfl (zM rfl (gk xy) (gk yR) rfl (zV (fun ht=>gT ht))) (sk xd) ?_
   refine ze (zi ?_)
   refine zL (gk xb) hF (fun hc16 hF=>?_) (fun hc16 hF=>?_)
   ·refine zk (zd ?_)
    refine zc rfl (zg rfl rfl (zb rfl)) yu ?_
    refine ze (zi (zH ?_))
    refine zC ?_
    refine zw ?_
    refine yb ?_
    obtain rfl:=Option.some.inj hF
    replace hF:=hK1
    refine zC ?_
    refine zw ?_
    obtain rfl:=Option.some.inj hF
    refine zz rfl (zD yz zE) (zB (leV.refl _) rfl ?_)
    exact ⟨rfl,rfl⟩
   ·refine zG (yc (zi (zd ?_)))
    refine zc rfl (zy rfl (gk yT) rfl rfl) (sk xi) ?_
    refine zc rfl (zf rfl (gk xj) (zb rfl)) (sk yU) ?_
    refine ze (yp ?_)
    obtain rfl:=Option.some.inj hF
    exact ⟨(),hl1,hK1,wk.le (by exact (.drop (.eq (.d16 (.d16 (.d4 (.drop (.drop (.eq (.eq (.cons (leV.of_eq (wn (by omega) (by omega))) (.d4 (.d4 (.d4 (.drop (.drop (.drop leL.nil)))))))))))))))))⟩
  ·refine yx ?_
   refine zW ?_
   refine zP ?_
   refine zQ ?_
   refine zi (zk (zd ?_))
   refine zc rfl (zg rfl rfl (zb rfl)) yu ?_
   refine ze (zi (zH ?_))
   obtain rfl:=Option.some.inj hF
   refine zz rfl (zD yz zE) (zB (leV.refl _) rfl ?_)
   exact ⟨rfl,rfl⟩
theorem ok6  {res:Bool} {h:AH}  (hF:qu  = some res):Spec Try.prog 6 [] h (fun rr hh=>rr=.bool res∧hh=h):=by
 unfold qu at hF
 refine zu Try.func6 rfl (by kernel_rfl) (env:=[za,za,za,za,za,za,za,za,za,za,za,za,za,za,za,za,za,za,za,za,za,za,za,za,za,za,za,za,za]) (by rfl) ?_
 refine zk (zd ?_)
 refine zc rfl (zg rfl rfl (zb rfl)) st0 ?_
 refine ze (zi (zk (zd ?_)))
 refine zc rfl (z8 (es:=([([97]:zR),([98]:zR)]:List zR).map zI) rfl yG ze9 rfl rfl (zY rfl (zY rfl ye)) (.cons (zb rfl) (.cons (zb rfl) .nil)) rfl rfl rfl) yU ?_
 refine zc rfl (zg rfl yT (zb rfl)) st1 ?_
 refine ze (zi (zk (zd ?_)))
 refine zc rfl (z8 (es:=([([97]:zR),([42]:zR)]:List zR).map zI) rfl yG ze9 rfl rfl (zY rfl (zY rfl ye)) (.cons (zb rfl) (.cons (zb rfl) .nil)) rfl rfl rfl) x5 ?_
 refine zc rfl (zf rfl yw (zb rfl)) yu ?_
 refine zU hF (fun v1 hv1 hF=>?_)
 refine zN rfl (zF rfl rfl rfl (zp y8 (zp yz zx)) (.cons (zb rfl) (.cons (zb rfl) .nil))) ((ok15 hv1).le (.cons (leV.osl _ _ _) (.cons (leV.osl _ _ _) leL.nil))) xg ?_
 refine zc rfl (zf rfl yD (zb rfl)) xn ?_
 refine zq rfl (fun hb=>z8 (es:=([([97]:zR),([42]:zR)]:List zR).map zI) rfl yG ze9 rfl rfl (zY rfl (zY rfl ye)) (.cons (zb rfl) (.cons (zb rfl) .nil)) rfl rfl rfl) xJ ?_
 refine zq rfl (fun hb=>zf rfl yw (zb rfl)) xM ?_
 refine xe hF (fun hg3 hF=>?_)
 refine zq rfl (fun hb=>qy rfl yG (zn xc hb) (.inr ⟨_,rfl,.inl rfl⟩) .none (.some rfl) (slc_of (hg3 hb))) wv ?_
 refine yO hF (fun v4 hv4 hF=>?_)
 refine ym rfl (fun hb=>zF rfl rfl rfl (zp (zn xl hb) (zp (zn xy hb) zx)) (.cons (zb rfl) (.cons (zb rfl) .nil))) (fun hb=>(ok15 (hv4 hb)).le (.cons (leV.osl _ _ _) (.eq leL.nil))) yF ?_
 refine zq rfl (fun hb=>xF rfl (zn yv hb) rfl) yL ?_
 refine zc rfl (zM rfl yS yA rfl (zV (fun ht=>gT ht))) yQ ?_
 refine zc rfl (zf rfl yK (zb rfl)) yW ?_
 refine zq rfl (fun hb=>z8 (es:=([([97]:zR),([42,42]:zR)]:List zR).map zI) rfl yG ze9 rfl rfl (zY rfl (zY rfl ye)) (.cons (zb rfl) (.cons (zb rfl) .nil)) rfl rfl rfl) y3 ?_
 refine zq rfl (fun hb=>zf rfl yw (zb rfl)) y2 ?_
 refine xe hF (fun hg6 hF=>?_)
 refine zq rfl (fun hb=>qy rfl yG (zn yR hb) (.inr ⟨_,rfl,.inl rfl⟩) .none (.some rfl) (slc_of (hg6 hb))) xd ?_
 refine yO hF (fun v7 hv7 hF=>?_)
 refine ym rfl (fun hb=>zF rfl rfl rfl (zp (zn y6 hb) (zp (zn xb hb) zx)) (.cons (zb rfl) (.cons (zb rfl) .nil))) (fun hb=>(ok15 (hv7 hb)).le (.cons (leV.osl _ _ _) (.eq leL.nil))) xi ?_
 refine zc rfl (zM rfl yN xj rfl (zV (fun ht=>gT ht))) xr ?_
 refine zc rfl (zf rfl xp (zb rfl)) xE ?_
 refine zq rfl (fun hb=>z8 (es:=([([42,42]:zR)]:List zR).map zI) rfl yG ze9 rfl rfl (zY rfl ye) (.cons (zb rfl) .nil) rfl rfl rfl) xR ?_
 refine zq rfl (fun hb=>zf rfl yw (zb rfl)) xY ?_
 refine yO hF (fun v8 hv8 hF=>?_)
 refine ym rfl (fun hb=>zF rfl rfl rfl (zp (zn xO hb) (zp (zn xV hb) zx)) (.cons (zb rfl) (.cons (zb rfl) .nil))) (fun hb=>(ok15 (hv8 hb)).le (.cons (leV.osl _ _ _) (.cons (leV.osl _ _ _) leL.nil))) x7 ?_
 refine zc rfl (zM rfl xH x9 rfl (zV (fun ht=>gT ht))) xQ ?_
 refine zc rfl (zf rfl xB (zb rfl)) wc ?_
 refine zq rfl (fun hb=>z8 (es:=([([97]:zR),([42]:zR)]:List zR).map zI) rfl yG ze9 rfl rfl (zY rfl (zY rfl ye)) (.cons (zb rfl) (.cons (zb rfl) .nil)) rfl rfl rfl) wb ?_
 refine yO hF (fun v9 hv9 hF=>?_)
 refine ym rfl (fun hb=>zF rfl rfl rfl (zp (zn x4 hb) zx) (.cons (zb rfl) .nil)) (fun hb=>(ok16 (hv9 hb)).le (.cons (leV.osl _ _ _) leL.nil)) wJ ?_
 refine zq rfl (fun hb=>zy rfl (zn wF hb) rfl rfl) wR ?_
 refine zc rfl (zM rfl wg wU rfl (zV (fun ht=>gT ht))) wZ ?_
 refine zc rfl (zg rfl w6 (zb rfl)) st0 ?_
 refine ze (zi (zH ?_))
 obtain rfl:=Option.some.inj hF
 refine zz rfl (zD yl zE) (zB (leV.refl _) rfl ?_)
 exact ⟨rfl,rfl⟩
theorem ok84 {vals0:(List Int)} {res:Int} {h:AH}  (hF:cmpOrInt vals0=some res):Spec Try.prog 84 [.sl 1 (vals0.map (intRow .i64))] h (fun rr hh=>rr=.int .i64 res∧hh=h):=by
 unfold cmpOrInt at hF
 refine zu Try.func84 rfl (by kernel_rfl) (env:=[.sl 1 (vals0.map (intRow .i64)),za,za,za,za,za,za,za,za,za,za,za,za,za,za,za,za,za]) (by rfl) ?_
 refine zk (zd ?_)
 refine zc rfl (zg rfl rfl (zb rfl)) yU ?_
 refine ze (zi (zk (zd ?_)))
 refine zc rfl (zg rfl rfl (zb rfl)) x5 ?_
 refine ze (zi (zk (zk (zd ?_))))
 refine zc rfl (zf rfl yl (zb rfl)) xn ?_
 refine zZ rfl (zO rfl rfl rfl rfl el123 yS ya) xJ fun hn1=>?_
 replace hn1:=y9 hn1
 refine zc rfl (zf rfl rfl (zb rfl)) xM ?_
 refine ze (zi (zJ ?_))
 refine yi (fun (n1:Nat) (s1:Unit)=>yr [0,1,2,4,5,9,10,11,12,13,14,15,16,17] [(8,.int .i64 (n1:Int))]) (fun s1=>h.ext [] []) hF (fun _ _=>by simp only [yr,qN,List.set_cons_succ,List.set_cons_zero];try rfl) (wk.le (by exact (.drop (.drop (.drop (.eq (.drop (.drop (.eq (.eq (.cons (leV.of_eq rfl) (.d4 (.d4 (.drop leL.nil)))))))))))))) ?_
 intro n1 s1 hi1 hF
 refine zk (zd ?_)
 refine zc rfl (zy rfl xc xl rfl) wv ?_
 refine ze (zi (zk ?_))
 refine yo xy hF (fun x1 o1 hl1 hx1 hF hK1=>?_) (fun hF=>?_)
 ·refine zG (zi (zk (zJ (zk (zd ?_)))))
  refine zc rfl (yg rfl el123 yS xc xZ (yn hx1)) yF ?_
  refine zc rfl (zX rfl ty3 yv (zt rfl) (zb rfl)) yL ?_
  refine zc rfl (zg rfl yA (zb rfl)) xg ?_
  refine ze (zi (zk (zd ?_)))
  refine zc rfl (zf rfl yD (zb rfl)) yQ ?_
  refine zc rfl (zf rfl y8 (zb rfl)) yW ?_
  refine zc rfl (zy rfl yK yN rfl) y3 ?_
  refine ze (zi ?_)
  refine zL y6 hF (fun hc6 hF=>?_) (fun hc6 hF=>?_)
  ·refine zk (zd ?_)
   refine zc rfl (zf rfl yD (zb rfl)) y2 ?_
   refine zc rfl (zg rfl yR (zb rfl)) yU ?_
   refine ze (zi (zH ?_))
   refine zC ?_
   refine zw ?_
   refine yb ?_
   obtain rfl:=Option.some.inj hF
   replace hF:=hK1
   refine zC ?_
   refine zw ?_
   obtain rfl:=Option.some.inj hF
   refine zz rfl (zD yT zE) (zB (leV.refl _) rfl ?_)
   exact ⟨rfl,rfl⟩
  ·refine zG (yc (zi (zd ?_)))
   refine zc rfl (zy rfl xc rfl rfl) xd ?_
   refine zc rfl (zf rfl xb (zb rfl)) xM ?_
   refine ze (yp ?_)
   obtain rfl:=Option.some.inj hF
   exact ⟨(),hl1,hK1,wk.le (by exact (.drop (.drop (.drop (.eq (.drop (.drop (.eq (.eq (.cons (leV.of_eq (wn (by omega) (by omega))) (.d4 (.d4 (.drop leL.nil)))))))))))))⟩
 ·refine yx ?_
  refine zW ?_
  refine zP ?_
  refine zQ ?_
  refine zi (zk (zd ?_))
  refine zc rfl (zf rfl y8 (zb rfl)) xi ?_
  refine zc rfl (zg rfl xj (zb rfl)) yU ?_
  refine ze (zi (zH ?_))
  obtain rfl:=Option.some.inj hF
  refine zz rfl (zD yT zE) (zB (leV.refl _) rfl ?_)
  exact ⟨rfl,rfl⟩
theorem ok93 {x0:Int} {res:Bool} {h:AH}  (hF:vS x0=some res):Spec Try.prog 93 [.int .u8 x0] h (fun rr hh=>rr=.bool res∧hh=h):=by
 unfold vS at hF
 refine zu Try.func93 rfl (by kernel_rfl) (env:=[.int .u8 x0,za,za,za,za,za]) (by rfl) ?_
 refine zk (zd ?_)
 refine zc rfl (zg rfl rfl (zb rfl)) yU ?_
 refine ze (zi (zk (zd ?_)))
 refine zc rfl (zf rfl yl (zb rfl)) x5 ?_
 refine zc rfl (zf rfl yl (zb rfl)) yu ?_
 refine zc rfl (zy rfl y8 yz rfl) xg ?_
 refine zc rfl (zg rfl yD (zb rfl)) yU ?_
 refine ze (zi (zH ?_))
 obtain rfl:=Option.some.inj hF
 refine zz rfl (zD yT zE) (zB (leV.refl _) rfl ?_)
 exact ⟨rfl,rfl⟩
theorem ok89 {x0:Int} {y1:Int} {res:Int} {h:AH}  (hF:vD x0 y1=some res):Spec Try.prog 89 [.int .u8 x0,.int .u8 y1] h (fun rr hh=>rr=.int .i64 res∧hh=h):=by
 unfold vD at hF
 refine zu Try.func89 rfl (by kernel_rfl) (env:=[.int .u8 x0,.int .u8 y1,za,za,za,za,za,za,za,za,za,za,za,za,za,za,za,za,za,za]) (by rfl) ?_
 refine zk (zd ?_)
 refine zc rfl (zg rfl rfl (zb rfl)) yu ?_
 refine ze (zi (zk (zd ?_)))
 refine zc rfl (zf rfl yl (zb rfl)) xJ ?_
 refine zU hF (fun v1 hv1 hF=>?_)
 refine zN rfl (zF rfl rfl rfl (zp xl zx) (.cons (zb rfl) .nil)) (ok93 hv1) xM ?_
 refine zc rfl (zg rfl xc (zb rfl)) xg ?_
 refine ze (zi (zk (zd ?_)))
 refine zc rfl (zf rfl yw (zb rfl)) wv ?_
 refine zU hF (fun v2 hv2 hF=>?_)
 refine zN rfl (zF rfl rfl rfl (zp xy zx) (.cons (zb rfl) .nil)) (ok93 hv2) yF ?_
 refine zc rfl (zg rfl yv (zb rfl)) xn ?_
 refine ze (zi (zk (zk (zd ?_))))
 refine zc rfl (zf rfl yD (zb rfl)) yL ?_
 refine ze (zi ?_)
 refine zL yA hF (fun hc3 hF=>?_) (fun hc3 hF=>?_)
 ·refine zk (zk (zd ?_))
  refine zc rfl (zf rfl yS (zb rfl)) yQ ?_
  refine ze (zi ?_)
  refine zL yK hF (fun hc4 hF=>?_) (fun hc4 hF=>?_)
  ·refine zk (zd ?_)
   refine zc rfl (zg rfl rfl (zb rfl)) yu ?_
   refine ze (zi (zH (zw (zw ?_))))
   obtain rfl:=Option.some.inj hF
   refine zz rfl (zD yz zE) (zB (leV.refl _) rfl ?_)
   exact ⟨rfl,rfl⟩
  ·refine zG (zi (zk (zd ?_)))
   refine zc rfl (zg rfl rfl (zb rfl)) yu ?_
   refine ze (zi (zH (zw ?_)))
   obtain rfl:=Option.some.inj hF
   refine zz rfl (zD yz zE) (zB (leV.refl _) rfl ?_)
   exact ⟨rfl,rfl⟩
 ·refine zG (zi (zk (zk (zd ?_))))
  refine zc rfl (zf rfl yS (zb rfl)) yW ?_
  refine ze (zi ?_)
  refine zL yN hF (fun hc5 hF=>?_) (fun hc5 hF=>?_)
  ·refine zk (zd ?_)
   refine zc rfl (zg rfl rfl (zb rfl)) yu ?_
   refine ze (zi (zH (zw ?_)))
   obtain rfl:=Option.some.inj hF
   refine zz rfl (zD yz zE) (zB (leV.refl _) rfl ?_)
   exact ⟨rfl,rfl⟩
  ·refine zG (zi (zk (zk (zd ?_))))
   refine zc rfl (zf rfl yl (zb rfl)) y3 ?_
   refine zc rfl (zf rfl yw (zb rfl)) y2 ?_
   refine zc rfl (zy rfl y6 yR rfl) xd ?_
   refine ze (zi ?_)
   refine zL xb hF (fun hc6 hF=>?_) (fun hc6 hF=>?_)
   ·refine zk (zd ?_)
    refine zc rfl (zg rfl rfl (zb rfl)) yu ?_
    refine ze (zi (zH (zw ?_)))
    obtain rfl:=Option.some.inj hF
    refine zz rfl (zD yz zE) (zB (leV.refl _) rfl ?_)
    exact ⟨rfl,rfl⟩
   ·refine zG (zi (zk (zk (zd ?_))))
    refine zc rfl (zf rfl yl (zb rfl)) xi ?_
    refine zc rfl (zf rfl yw (zb rfl)) xr ?_
    refine zc rfl (zy rfl xj xp rfl) xE ?_
    refine ze (zi ?_)
    refine zL xH hF (fun hc7 hF=>?_) (fun hc7 hF=>?_)
    ·refine zk (zd ?_)
     refine zc rfl (zg rfl rfl (zb rfl)) yu ?_
     refine ze (zi (zH (zw ?_)))
     obtain rfl:=Option.some.inj hF
     refine zz rfl (zD yz zE) (zB (leV.refl _) rfl ?_)
     exact ⟨rfl,rfl⟩
    ·refine zG (zi (zk (zd ?_)))
     refine zc rfl (zg rfl rfl (zb rfl)) yu ?_
     refine ze (zi (zH ?_))
     obtain rfl:=Option.some.inj hF
     refine zz rfl (zD yz zE) (zB (leV.refl _) rfl ?_)
     exact ⟨rfl,rfl⟩
theorem ok94 {x0:Int} {res:Bool} {h:AH}  (hF:vC x0=some res):Spec Try.prog 94 [.int .u32 x0] h (fun rr hh=>rr=.bool res∧hh=h):=by
 unfold vC at hF
 refine zu Try.func94 rfl (by kernel_rfl) (env:=[.int .u32 x0,za,za,za,za,za]) (by rfl) ?_
 refine zk (zd ?_)
 refine zc rfl (zg rfl rfl (zb rfl)) yU ?_
 refine ze (zi (zk (zd ?_)))
 refine zc rfl (zf rfl yl (zb rfl)) x5 ?_
 refine zc rfl (zf rfl yl (zb rfl)) yu ?_
 refine zc rfl (zy rfl y8 yz rfl) xg ?_
 refine zc rfl (zg rfl yD (zb rfl)) yU ?_
 refine ze (zi (zH ?_))
 obtain rfl:=Option.some.inj hF
 refine zz rfl (zD yT zE) (zB (leV.refl _) rfl ?_)
 exact ⟨rfl,rfl⟩
theorem ok90 {x0:Int} {y1:Int} {res:Int} {h:AH}  (hF:wV x0 y1=some res):Spec Try.prog 90 [.int .u32 x0,.int .u32 y1] h (fun rr hh=>rr=.int .i64 res∧hh=h):=by
 unfold wV at hF
 refine zu Try.func90 rfl (by kernel_rfl) (env:=[.int .u32 x0,.int .u32 y1,za,za,za,za,za,za,za,za,za,za,za,za,za,za,za,za,za,za]) (by rfl) ?_
 refine zk (zd ?_)
 refine zc rfl (zg rfl rfl (zb rfl)) yu ?_
 refine ze (zi (zk (zd ?_)))
 refine zc rfl (zf rfl yl (zb rfl)) xJ ?_
 refine zU hF (fun v1 hv1 hF=>?_)
 refine zN rfl (zF rfl rfl rfl (zp xl zx) (.cons (zb rfl) .nil)) (ok94 hv1) xM ?_
 refine zc rfl (zg rfl xc (zb rfl)) xg ?_
 refine ze (zi (zk (zd ?_)))
 refine zc rfl (zf rfl yw (zb rfl)) wv ?_
 refine zU hF (fun v2 hv2 hF=>?_)
 refine zN rfl (zF rfl rfl rfl (zp xy zx) (.cons (zb rfl) .nil)) (ok94 hv2) yF ?_
 refine zc rfl (zg rfl yv (zb rfl)) xn ?_
 refine ze (zi (zk (zk (zd ?_))))
 refine zc rfl (zf rfl yD (zb rfl)) yL ?_
 refine ze (zi ?_)
 refine zL yA hF (fun hc3 hF=>?_) (fun hc3 hF=>?_)
 ·refine zk (zk (zd ?_))
  refine zc rfl (zf rfl yS (zb rfl)) yQ ?_
  refine ze (zi ?_)
  refine zL yK hF (fun hc4 hF=>?_) (fun hc4 hF=>?_)
  ·refine zk (zd ?_)
   refine zc rfl (zg rfl rfl (zb rfl)) yu ?_
   refine ze (zi (zH (zw (zw ?_))))
   obtain rfl:=Option.some.inj hF
   refine zz rfl (zD yz zE) (zB (leV.refl _) rfl ?_)
   exact ⟨rfl,rfl⟩
  ·refine zG (zi (zk (zd ?_)))
   refine zc rfl (zg rfl rfl (zb rfl)) yu ?_
   refine ze (zi (zH (zw ?_)))
   obtain rfl:=Option.some.inj hF
   refine zz rfl (zD yz zE) (zB (leV.refl _) rfl ?_)
   exact ⟨rfl,rfl⟩
 ·refine zG (zi (zk (zk (zd ?_))))
  refine zc rfl (zf rfl yS (zb rfl)) yW ?_
  refine ze (zi ?_)
  refine zL yN hF (fun hc5 hF=>?_) (fun hc5 hF=>?_)
  ·refine zk (zd ?_)
   refine zc rfl (zg rfl rfl (zb rfl)) yu ?_
   refine ze (zi (zH (zw ?_)))
   obtain rfl:=Option.some.inj hF
   refine zz rfl (zD yz zE) (zB (leV.refl _) rfl ?_)
   exact ⟨rfl,rfl⟩
  ·refine zG (zi (zk (zk (zd ?_))))
   refine zc rfl (zf rfl yl (zb rfl)) y3 ?_
   refine zc rfl (zf rfl yw (zb rfl)) y2 ?_
   refine zc rfl (zy rfl y6 yR rfl) xd ?_
   refine ze (zi ?_)
   refine zL xb hF (fun hc6 hF=>?_) (fun hc6 hF=>?_)
   ·refine zk (zd ?_)
    refine zc rfl (zg rfl rfl (zb rfl)) yu ?_
    refine ze (zi (zH (zw ?_)))
    obtain rfl:=Option.some.inj hF
    refine zz rfl (zD yz zE) (zB (leV.refl _) rfl ?_)
    exact ⟨rfl,rfl⟩
   ·refine zG (zi (zk (zk (zd ?_))))
    refine zc rfl (zf rfl yl (zb rfl)) xi ?_
    refine zc rfl (zf rfl yw (zb rfl)) xr ?_
    refine zc rfl (zy rfl xj xp rfl) xE ?_
    refine ze (zi ?_)
    refine zL xH hF (fun hc7 hF=>?_) (fun hc7 hF=>?_)
    ·refine zk (zd ?_)
     refine zc rfl (zg rfl rfl (zb rfl)) yu ?_
     refine ze (zi (zH (zw ?_)))
     obtain rfl:=Option.some.inj hF
     refine zz rfl (zD yz zE) (zB (leV.refl _) rfl ?_)
     exact ⟨rfl,rfl⟩
    ·refine zG (zi (zk (zd ?_)))
     refine zc rfl (zg rfl rfl (zb rfl)) yu ?_
     refine ze (zi (zH ?_))
     obtain rfl:=Option.some.inj hF
     refine zz rfl (zD yz zE) (zB (leV.refl _) rfl ?_)
     exact ⟨rfl,rfl⟩
theorem ok85 {a0:GActor} {b1:GActor} {res:Int} {h:AH}  (hF:dotXcompare a0 b1=some res):Spec Try.prog 85 [.agg [.int .u8 a0.rep,.int .u32 a0.inc],.agg [.int .u8 b1.rep,.int .u32 b1.inc]] h (fun rr hh=>rr=.int .i64 res∧hh=h):=by
 unfold dotXcompare at hF
 refine zu Try.func85 rfl (by kernel_rfl) (env:=[.agg [.int .u8 a0.rep,.int .u32 a0.inc],.agg [.int .u8 b1.rep,.int .u32 b1.inc],za,za,za,za,za,za,za,za,za,za,za,za,za,za,za]) (by rfl) ?_
 refine zk (zd ?_)
 refine zc rfl (xI (n:=0) rfl yl (zb rfl) rfl rfl) yU ?_
 refine zc rfl (xI (n:=1) rfl yw (zb rfl) rfl rfl) x5 ?_
 refine zc rfl (zg rfl rfl (zb rfl)) yu ?_
 refine ze (zi (zk ?_))
 refine yk [4,9,11] [] trivial mixed (by kernel_rfl) ?_
 refine zo rfl rfl (zj rfl fo39x0 yT rfl) xg ?_
 refine zo rfl rfl (zA rfl ty5 yD rfl (zt rfl) (zb rfl)) xn ?_
 refine zo rfl rfl (zj rfl fo39x0 y8 rfl) xJ ?_
 refine zo rfl rfl (zA rfl ty5 xl rfl (zt rfl) (zb rfl)) xM ?_
 refine zU hF (fun v1 hv1 hF=>?_)
 refine yC rfl rfl (fun _=>zF rfl rfl rfl (zp yS (zp xc zx)) (.cons (zb rfl) (.cons (zb rfl) .nil))) (by rintro _ ⟨B2,T2,rfl,hk2⟩;exact ok89 hv1) wv ?_
 refine zo rfl rfl (zj rfl fo39x1 yT rfl) yF ?_
 refine zo rfl rfl (zA rfl ty37 yv rfl (zt rfl) (zb rfl)) yL ?_
 refine zo rfl rfl (zj rfl fo39x1 y8 rfl) yQ ?_
 refine zo rfl rfl (zA rfl ty37 yK rfl (zt rfl) (zb rfl)) yW ?_
 refine zU hF (fun v2 hv2 hF=>?_)
 refine yC rfl rfl (fun _=>zF rfl rfl rfl (zp yA (zp yN zx)) (.cons (zb rfl) (.cons (zb rfl) .nil))) (by rintro _ ⟨B2,T2,rfl,hk2⟩;exact ok90 hv2) y3 ?_
 refine zo rfl rfl (z8 (es:=([v1,v2]:List Int).map (intRow .i64)) rfl el123 ze3 rfl rfl (zY xy (zY y6 ye)) (.cons (zb rfl) (.cons (zb rfl) .nil)) rfl rfl rfl) y2 ?_
 refine zU hF (fun v3 hv3 hF=>?_)
 refine yC rfl rfl (fun _=>zF rfl rfl rfl (zp yR zx) (.cons (zb rfl) .nil)) (by rintro _ ⟨B2,T2,rfl,hk2⟩;exact (ok84 hv3).le (.cons (leV.osl _ _ _) leL.nil)) xd ?_
 refine zo rfl rfl (zg rfl xb (zb rfl)) yu ?_
 refine yh ?_
 refine zi (zH ?_)
 obtain rfl:=Option.some.inj hF
 refine zz rfl (zD yz zE) (zB (leV.refl _) rfl ?_)
 exact ⟨rfl,rfl⟩
theorem ok91 {x0:Int} {res:Bool} {h:AH}  (hF:vB x0=some res):Spec Try.prog 91 [.int .u64 x0] h (fun rr hh=>rr=.bool res∧hh=h):=by
 unfold vB at hF
 refine zu Try.func91 rfl (by kernel_rfl) (env:=[.int .u64 x0,za,za,za,za,za]) (by rfl) ?_
 refine zk (zd ?_)
 refine zc rfl (zg rfl rfl (zb rfl)) yU ?_
 refine ze (zi (zk (zd ?_)))
 refine zc rfl (zf rfl yl (zb rfl)) x5 ?_
 refine zc rfl (zf rfl yl (zb rfl)) yu ?_
 refine zc rfl (zy rfl y8 yz rfl) xg ?_
 refine zc rfl (zg rfl yD (zb rfl)) yU ?_
 refine ze (zi (zH ?_))
 obtain rfl:=Option.some.inj hF
 refine zz rfl (zD yT zE) (zB (leV.refl _) rfl ?_)
 exact ⟨rfl,rfl⟩
theorem ok86 {x0:Int} {y1:Int} {res:Int} {h:AH}  (hF:wm x0 y1=some res):Spec Try.prog 86 [.int .u64 x0,.int .u64 y1] h (fun rr hh=>rr=.int .i64 res∧hh=h):=by
 unfold wm at hF
 refine zu Try.func86 rfl (by kernel_rfl) (env:=[.int .u64 x0,.int .u64 y1,za,za,za,za,za,za,za,za,za,za,za,za,za,za,za,za,za,za]) (by rfl) ?_
 refine zk (zd ?_)
 refine zc rfl (zg rfl rfl (zb rfl)) yu ?_
 refine ze (zi (zk (zd ?_)))
 refine zc rfl (zf rfl yl (zb rfl)) xJ ?_
 refine zU hF (fun v1 hv1 hF=>?_)
 refine zN rfl (zF rfl rfl rfl (zp xl zx) (.cons (zb rfl) .nil)) (ok91 hv1) xM ?_
 refine zc rfl (zg rfl xc (zb rfl)) xg ?_
 refine ze (zi (zk (zd ?_)))
 refine zc rfl (zf rfl yw (zb rfl)) wv ?_
 refine zU hF (fun v2 hv2 hF=>?_)
 refine zN rfl (zF rfl rfl rfl (zp xy zx) (.cons (zb rfl) .nil)) (ok91 hv2) yF ?_
 refine zc rfl (zg rfl yv (zb rfl)) xn ?_
 refine ze (zi (zk (zk (zd ?_))))
 refine zc rfl (zf rfl yD (zb rfl)) yL ?_
 refine ze (zi ?_)
 refine zL yA hF (fun hc3 hF=>?_) (fun hc3 hF=>?_)
 ·refine zk (zk (zd ?_))
  refine zc rfl (zf rfl yS (zb rfl)) yQ ?_
  refine ze (zi ?_)
  refine zL yK hF (fun hc4 hF=>?_) (fun hc4 hF=>?_)
  ·refine zk (zd ?_)
   refine zc rfl (zg rfl rfl (zb rfl)) yu ?_
   refine ze (zi (zH (zw (zw ?_))))
   obtain rfl:=Option.some.inj hF
   refine zz rfl (zD yz zE) (zB (leV.refl _) rfl ?_)
   exact ⟨rfl,rfl⟩
  ·refine zG (zi (zk (zd ?_)))
   refine zc rfl (zg rfl rfl (zb rfl)) yu ?_
   refine ze (zi (zH (zw ?_)))
   obtain rfl:=Option.some.inj hF
   refine zz rfl (zD yz zE) (zB (leV.refl _) rfl ?_)
   exact ⟨rfl,rfl⟩
 ·refine zG (zi (zk (zk (zd ?_))))
  refine zc rfl (zf rfl yS (zb rfl)) yW ?_
  refine ze (zi ?_)
  refine zL yN hF (fun hc5 hF=>?_) (fun hc5 hF=>?_)
  ·refine zk (zd ?_)
   refine zc rfl (zg rfl rfl (zb rfl)) yu ?_
   refine ze (zi (zH (zw ?_)))
   obtain rfl:=Option.some.inj hF
   refine zz rfl (zD yz zE) (zB (leV.refl _) rfl ?_)
   exact ⟨rfl,rfl⟩
  ·refine zG (zi (zk (zk (zd ?_))))
   refine zc rfl (zf rfl yl (zb rfl)) y3 ?_
   refine zc rfl (zf rfl yw (zb rfl)) y2 ?_
   refine zc rfl (zy rfl y6 yR rfl) xd ?_
   refine ze (zi ?_)
   refine zL xb hF (fun hc6 hF=>?_) (fun hc6 hF=>?_)
   ·refine zk (zd ?_)
    refine zc rfl (zg rfl rfl (zb rfl)) yu ?_
    refine ze (zi (zH (zw ?_)))
    obtain rfl:=Option.some.inj hF
    refine zz rfl (zD yz zE) (zB (leV.refl _) rfl ?_)
    exact ⟨rfl,rfl⟩
   ·refine zG (zi (zk (zk (zd ?_))))
    refine zc rfl (zf rfl yl (zb rfl)) xi ?_
    refine zc rfl (zf rfl yw (zb rfl)) xr ?_
    refine zc rfl (zy rfl xj xp rfl) xE ?_
    refine ze (zi ?_)
    refine zL xH hF (fun hc7 hF=>?_) (fun hc7 hF=>?_)
    ·refine zk (zd ?_)
     refine zc rfl (zg rfl rfl (zb rfl)) yu ?_
     refine ze (zi (zH (zw ?_)))
     obtain rfl:=Option.some.inj hF
     refine zz rfl (zD yz zE) (zB (leV.refl _) rfl ?_)
     exact ⟨rfl,rfl⟩
    ·refine zG (zi (zk (zd ?_)))
     refine zc rfl (zg rfl rfl (zb rfl)) yu ?_
     refine ze (zi (zH ?_))
     obtain rfl:=Option.some.inj hF
     refine zz rfl (zD yz zE) (zB (leV.refl _) rfl ?_)
     exact ⟨rfl,rfl⟩
theorem ok77 {a0:GDot} {b1:GDot} {res:Int} {h:AH}  (hF:qZ a0 b1=some res):Spec Try.prog 77 [.agg [.int .u8 a0.actor.rep,.int .u32 a0.actor.inc,.int .u64 a0.seq],.agg [.int .u8 b1.actor.rep,.int .u32 b1.actor.inc,.int .u64 b1.seq]] h (fun rr hh=>rr=.int .i64 res∧hh=h):=by
 unfold qZ at hF
 refine zu Try.func77 rfl (by kernel_rfl) (env:=[.agg [.int .u8 a0.actor.rep,.int .u32 a0.actor.inc,.int .u64 a0.seq],.agg [.int .u8 b1.actor.rep,.int .u32 b1.actor.inc,.int .u64 b1.seq],za,za,za,za,za,za,za,za,za,za,za,za,za,za,za]) (by rfl) ?_
 refine zk (zd ?_)
 refine zc rfl (xI (n:=0) rfl yl (zb rfl) rfl rfl) yU ?_
 refine zc rfl (xI (n:=1) rfl yw (zb rfl) rfl rfl) x5 ?_
 refine zc rfl (zg rfl rfl (zb rfl)) yu ?_
 refine ze (zi (zk ?_))
 refine yk [4,9,11] [] trivial mixed (by kernel_rfl) ?_
 refine zo rfl rfl (zj rfl fo41x0 yT rfl) xg ?_
 refine zo rfl rfl (zA rfl ty39.choose_spec.1 yD rfl (zK (cs':=[.int .u8 a0.actor.rep,.int .u32 a0.actor.inc]) ty39.choose_spec.2 rfl rfl) (zb rfl)) xn ?_
 refine zo rfl rfl (zj rfl fo41x0 y8 rfl) xJ ?_
 refine zo rfl rfl (zA rfl ty39.choose_spec.1 xl rfl (zK (cs':=[.int .u8 b1.actor.rep,.int .u32 b1.actor.inc]) ty39.choose_spec.2 rfl rfl) (zb rfl)) xM ?_
 refine zU hF (fun v1 hv1 hF=>?_)
 refine yC rfl rfl (fun _=>zF rfl rfl rfl (zp yS (zp xc zx)) (.cons (zb rfl) (.cons (zb rfl) .nil))) (by rintro _ ⟨B2,T2,rfl,hk2⟩;exact ok85 hv1) wv ?_
 refine zo rfl rfl (zj rfl fo41x1 yT rfl) yF ?_
 refine zo rfl rfl (zA rfl qx yv rfl (zt rfl) (zb rfl)) yL ?_
 refine zo rfl rfl (zj rfl fo41x1 y8 rfl) yQ ?_
 refine zo rfl rfl (zA rfl qx yK rfl (zt rfl) (zb rfl)) yW ?_
 refine zU hF (fun v2 hv2 hF=>?_)
 refine yC rfl rfl (fun _=>zF rfl rfl rfl (zp yA (zp yN zx)) (.cons (zb rfl) (.cons (zb rfl) .nil))) (by rintro _ ⟨B2,T2,rfl,hk2⟩;exact ok86 hv2) y3 ?_
 refine zo rfl rfl (z8 (es:=([v1,v2]:List Int).map (intRow .i64)) rfl el123 ze3 rfl rfl (zY xy (zY y6 ye)) (.cons (zb rfl) (.cons (zb rfl) .nil)) rfl rfl rfl) y2 ?_
 refine zU hF (fun v3 hv3 hF=>?_)
 refine yC rfl rfl (fun _=>zF rfl rfl rfl (zp yR zx) (.cons (zb rfl) .nil)) (by rintro _ ⟨B2,T2,rfl,hk2⟩;exact (ok84 hv3).le (.cons (leV.osl _ _ _) leL.nil)) xd ?_
 refine zo rfl rfl (zg rfl xb (zb rfl)) yu ?_
 refine yh ?_
 refine zi (zH ?_)
 obtain rfl:=Option.some.inj hF
 refine zz rfl (zD yz zE) (zB (leV.refl _) rfl ?_)
 exact ⟨rfl,rfl⟩
theorem ok74 {a0:GActor} {res:Bool} {h:AH}  (hF:dotMayActor a0=some res):Spec Try.prog 74 [.agg [.int .u8 a0.rep,.int .u32 a0.inc]] h (fun rr hh=>rr=.bool res∧hh=h):=by
 unfold dotMayActor at hF
 refine zu Try.func74 rfl (by kernel_rfl) (env:=[.agg [.int .u8 a0.rep,.int .u32 a0.inc],za,za,za,za,za,za,za,za,za,za,za,za,za,za,za]) (by rfl) ?_
 refine zk (zd ?_)
 refine zc rfl (xI (n:=0) rfl yl (zb rfl) rfl rfl) st1 ?_
 refine zc rfl (zg rfl rfl (zb rfl)) yU ?_
 refine ze (zi (zk (zd ?_)))
 refine zc rfl (zj rfl fo39x0 yw rfl) x5 ?_
 refine zc rfl (zA rfl ty5 y8 rfl (zt rfl) (zb rfl)) yu ?_
 refine zc rfl (zy rfl yz rfl rfl) xg ?_
 refine zc rfl (zf rfl yD (zb rfl)) xn ?_
 refine zq rfl (fun hb=>zj rfl fo39x1 yw rfl) xJ ?_
 refine zq rfl (fun hb=>zA rfl ty37 (zn xl hb) rfl (zt rfl) (zb rfl)) xM ?_
 refine zq rfl (fun hb=>zy rfl (zn xc hb) rfl rfl) wv ?_
 refine zc rfl (zM rfl yS xy rfl (zV (fun ht=>gT ht))) yF ?_
 refine zc rfl (zf rfl yv (zb rfl)) yL ?_
 refine zq rfl (fun hb=>zj rfl fo39x1 yw rfl) yQ ?_
 refine zq rfl (fun hb=>zA rfl ty37 (zn yK hb) rfl (zt rfl) (zb rfl)) yW ?_
 refine zq rfl (fun hb=>zy rfl (zn yN hb) rfl rfl) y3 ?_
 refine zc rfl (zM rfl yA y6 rfl (zV (fun ht=>gT ht))) y2 ?_
 refine zc rfl (zg rfl yR (zb rfl)) yU ?_
 refine ze (zi (zH ?_))
 obtain rfl:=Option.some.inj hF
 refine zz rfl (zD yT zE) (zB (leV.refl _) rfl ?_)
 exact ⟨rfl,rfl⟩
theorem ok61 {d0:GDot} {res:Bool} {h:AH}  (hF:dotMay d0=some res):Spec Try.prog 61 [.agg [.int .u8 d0.actor.rep,.int .u32 d0.actor.inc,.int .u64 d0.seq]] h (fun rr hh=>rr=.bool res∧hh=h):=by
 unfold dotMay at hF
 refine zu Try.func61 rfl (by kernel_rfl) (env:=[.agg [.int .u8 d0.actor.rep,.int .u32 d0.actor.inc,.int .u64 d0.seq],za,za,za,za,za,za,za,za,za,za,za,za,za,za,za]) (by rfl) ?_
 refine zk (zd ?_)
 refine zc rfl (xI (n:=0) rfl yl (zb rfl) rfl rfl) st1 ?_
 refine zc rfl (zg rfl rfl (zb rfl)) yU ?_
 refine ze (zi (zk (zd ?_)))
 refine zc rfl (zj rfl fo41x0 yw rfl) x5 ?_
 refine zc rfl (zA rfl ty39.choose_spec.1 y8 rfl (zK (cs':=[.int .u8 d0.actor.rep,.int .u32 d0.actor.inc]) ty39.choose_spec.2 rfl rfl) (zb rfl)) yu ?_
 refine zU hF (fun v1 hv1 hF=>?_)
 refine zN rfl (zF rfl rfl rfl (zp yz zx) (.cons (zb rfl) .nil)) (ok74 hv1) xg ?_
 refine zc rfl (zf rfl yD (zb rfl)) xn ?_
 refine zq rfl (fun hb=>zj rfl fo41x1 yw rfl) xJ ?_
 refine zq rfl (fun hb=>zA rfl qx (zn xl hb) rfl (zt rfl) (zb rfl)) xM ?_
 refine zq rfl (fun hb=>zy rfl (zn xc hb) rfl rfl) wv ?_
 refine zc rfl (zM rfl yS xy rfl (zV (fun ht=>gT ht))) yF ?_
 refine zc rfl (zf rfl yv (zb rfl)) yL ?_
 refine zq rfl (fun hb=>zj rfl fo41x1 yw rfl) yQ ?_
 refine zq rfl (fun hb=>zA rfl qx (zn yK hb) rfl (zt rfl) (zb rfl)) yW ?_
 refine zq rfl (fun hb=>zy rfl (zn yN hb) rfl rfl) y3 ?_
 refine zc rfl (zM rfl yA y6 rfl (zV (fun ht=>gT ht))) y2 ?_
 refine zc rfl (zg rfl yR (zb rfl)) yU ?_
 refine ze (zi (zH ?_))
 obtain rfl:=Option.some.inj hF
 refine zz rfl (zD yT zE) (zB (leV.refl _) rfl ?_)
 exact ⟨rfl,rfl⟩
theorem ok88 {x0:GItem} {c0:GDot} {i0:Nat} {res:Bool} {h:AH} (hb0:h.blk i0=some (.cells [.int .u8 c0.actor.rep,.int .u32 c0.actor.inc,.int .u64 c0.seq])) (hF:leafXhasC1 x0 c0=some res):Spec Try.prog 88 [.agg [.int .u64 x0.time,.int .u8 x0.dot.actor.rep,.int .u32 x0.dot.actor.inc,.int .u64 x0.dot.seq,.str x0.text],.ptr i0 0] h (fun rr hh=>rr=.bool res∧hh=h):=by
 unfold leafXhasC1 at hF
 refine zu Try.func88 rfl (by kernel_rfl) (env:=[.agg [.int .u64 x0.time,.int .u8 x0.dot.actor.rep,.int .u32 x0.dot.actor.inc,.int .u64 x0.dot.seq,.str x0.text],.ptr i0 0,za,za,za,za,za,za]) (by rfl) ?_
 refine zk (zd ?_)
 refine zc rfl (xI (n:=0) rfl yl (zb rfl) rfl rfl) yU ?_
 refine zc rfl (zg rfl rfl (zb rfl)) x5 ?_
 refine ze (zi (zk (zd ?_)))
 refine zc rfl (zj rfl fo49x1 yT rfl) yu ?_
 refine zc rfl (zA rfl ty41.choose_spec.1 yz rfl (zK (cs':=[.int .u8 x0.dot.actor.rep,.int .u32 x0.dot.actor.inc,.int .u64 x0.dot.seq]) ty41.choose_spec.2 rfl rfl) (zb rfl)) xg ?_
 refine zc rfl (b_load rfl ty41.choose_spec.1 yw hb0 (zK (cs':=[.int .u8 c0.actor.rep,.int .u32 c0.actor.inc,.int .u64 c0.seq]) ty41.choose_spec.2 rfl rfl) (zb rfl)) xn ?_
 refine zc rfl (zy rfl yD yS (bin_eq pk41 rfl)) xJ ?_
 refine zc rfl (zg rfl xl (zb rfl)) x5 ?_
 refine ze (zi (zH ?_))
 obtain rfl:=Option.some.inj hF
 refine zz rfl (zD y8 zE) (zB (leV.refl _) rfl ?_)
 exact ⟨rfl,rfl⟩
theorem ok92 {s0:(List GItem)} {f1:(GItem→Option Bool)} {ff1:FuncId} {af1 kf1:List AV} {res:Int} {h:AH} (hf1:∀ x0 v (L:List Blk) (M:List Nat),f1 x0=some v→Spec Try.prog ff1 (af1++[.agg [.int .u64 x0.time,.int .u8 x0.dot.actor.rep,.int .u32 x0.dot.actor.inc,.int .u64 x0.dot.seq,.str x0.text]]++kf1) (h.ext L M) (fun rr hh=>rr=.bool v∧hh=h.ext L M)) (hF:wP s0 f1=some res):Spec Try.prog 92 [.sl 5 (s0.map GItem.row),.fn (.func ff1) af1 kf1] h (fun rr hh=>rr=.int .i64 res∧hh=h):=by
 unfold wP at hF
 refine yy Try.func92 rfl (by kernel_rfl) (env:=[.sl 5 (s0.map GItem.row),.fn (.func ff1) af1 kf1,za,za,za,za,za,za,za,za,za,za,za,za,za,za,za,za,za]) (by rfl) (fun hlow hC=>?_)
 simp only [yj,AV.low,Bool.and_eq_true,Bool.true_and,and_true] at hlow
 have hlaf1:∀ n m,h.blks.length≤n→h.toks.length≤m→yj n m af1=true:=fun n m h1 h2=>yY h1 h2 _ (by simp [hlow])
 have hlkf1:∀ n m,h.blks.length≤n→h.toks.length≤m→yj n m kf1=true:=fun n m h1 h2=>yY h1 h2 _ (by simp [hlow])
 refine zk (zd ?_)
 refine zc rfl (zg rfl rfl (zb rfl)) yu ?_
 refine ze (zi (zk (zk (zd ?_))))
 refine zc rfl (zf rfl yl (zb rfl)) xn ?_
 refine zZ rfl (zO rfl rfl rfl rfl wO yS ya) xJ fun hn1=>?_
 replace hn1:=y9 hn1
 refine zc rfl (zf rfl rfl (zb rfl)) xM ?_
 refine ze (zi (zJ ?_))
 refine yi (fun (n1:Nat) (s1:Unit)=>yr [2,3,4,5,6,9,10,11,12,13,14,15,16,17,18] [(8,.int .i64 (n1:Int))]) (fun s1=>h.ext [] []) hF (fun _ _=>by simp only [yr,qN,List.set_cons_succ,List.set_cons_zero];try rfl) (wk.le (by exact (.eq (.eq (.d4 (.drop (.eq (.cons (leV.of_eq rfl) (.d4 (.d4 (.drop (.drop leL.nil)))))))))))) ?_
 intro n1 s1 hi1 hF
 refine zk (zd ?_)
 refine zc rfl (zy rfl xc xl rfl) wv ?_
 refine ze (zi (zk ?_))
 refine yo xy hF (fun x1 o1 hl1 hx1 hF hK1=>?_) (fun hF=>?_)
 ·refine zG (zi (zk (zJ (zk (zd ?_)))))
  refine zc rfl (zf rfl xc (zb rfl)) yF ?_
  refine zc rfl (zg rfl yv (zb rfl)) xg ?_
  refine ze (zi (zk (zd ?_)))
  refine zc rfl (zf rfl yw (zb rfl)) yL ?_
  refine zc rfl (zf rfl yl (zb rfl)) yQ ?_
  refine zc rfl (zf rfl yD (zb rfl)) yW ?_
  refine zc rfl (yg rfl wO yK yN xZ (yn hx1)) y3 ?_
  refine zc rfl (zX rfl ty49.choose_spec.1 y6 (zK (cs':=[.int .u64 x1.time,.int .u8 x1.dot.actor.rep,.int .u32 x1.dot.actor.inc,.int .u64 x1.dot.seq,.str x1.text]) ty49.choose_spec.2 rfl rfl) (zb rfl)) y2 ?_
  refine zU hF (fun v7 hv7 hF=>?_)
  refine zN rfl (s_callC rfl rfl yA (zp yR zx) (.cons (zb rfl) .nil) rfl) (hf1 _ _ _ _ hv7) xd ?_
  refine ze (zi ?_)
  refine zL xb hF (fun hc8 hF=>?_) (fun hc8 hF=>?_)
  ·refine zk (zd ?_)
   refine zc rfl (zf rfl yD (zb rfl)) xi ?_
   refine zc rfl (zg rfl xj (zb rfl)) yu ?_
   refine ze (zi (zH ?_))
   refine zC ?_
   refine zw ?_
   refine yb ?_
   obtain rfl:=Option.some.inj hF
   replace hF:=hK1
   refine zC ?_
   refine zw ?_
   obtain rfl:=Option.some.inj hF
   refine zz rfl (zD yz zE) (zB (leV.refl _) rfl ?_)
   exact ⟨rfl,rfl⟩
  ·refine zG (yc (zi (zd ?_)))
   refine zc rfl (zy rfl xc rfl rfl) xr ?_
   refine zc rfl (zf rfl xp (zb rfl)) xM ?_
   refine ze (yp ?_)
   obtain rfl:=Option.some.inj hF
   exact ⟨(),hl1,hK1,wk.le (by exact (.eq (.eq (.d4 (.drop (.eq (.cons (leV.of_eq (wn (by omega) (by omega))) (.d4 (.d4 (.drop (.drop leL.nil)))))))))))⟩
 ·refine yx ?_
  refine zW ?_
  refine zP ?_
  refine zQ ?_
  refine zi (zk (zd ?_))
  refine zc rfl (zg rfl rfl (zb rfl)) yu ?_
  refine ze (zi (zH ?_))
  obtain rfl:=Option.some.inj hF
  refine zz rfl (zD yz zE) (zB (leV.refl _) rfl ?_)
  exact ⟨rfl,rfl⟩
theorem ok87 {s0:(List GItem)} {f1:(GItem→Option Bool)} {ff1:FuncId} {af1 kf1:List AV} {res:Bool} {h:AH} (hf1:∀ x0 v (L:List Blk) (M:List Nat),f1 x0=some v→Spec Try.prog ff1 (af1++[.agg [.int .u64 x0.time,.int .u8 x0.dot.actor.rep,.int .u32 x0.dot.actor.inc,.int .u64 x0.dot.seq,.str x0.text]]++kf1) (h.ext L M) (fun rr hh=>rr=.bool v∧hh=h.ext L M)) (hF:xu s0 f1=some res):Spec Try.prog 87 [.sl 5 (s0.map GItem.row),.fn (.func ff1) af1 kf1] h (fun rr hh=>rr=.bool res∧hh=h):=by
 unfold xu at hF
 refine yy Try.func87 rfl (by kernel_rfl) (env:=[.sl 5 (s0.map GItem.row),.fn (.func ff1) af1 kf1,za,za,za,za,za,za,za]) (by rfl) (fun hlow hC=>?_)
 simp only [yj,AV.low,Bool.and_eq_true,Bool.true_and,and_true] at hlow
 have hlaf1:∀ n m,h.blks.length≤n→h.toks.length≤m→yj n m af1=true:=fun n m h1 h2=>yY h1 h2 _ (by simp [hlow])
 have hlkf1:∀ n m,h.blks.length≤n→h.toks.length≤m→yj n m kf1=true:=fun n m h1 h2=>yY h1 h2 _ (by simp [hlow])
 refine zk (zd ?_)
 refine zc rfl (zg rfl rfl (zb rfl)) yu ?_
 refine ze (zi (zk (zd ?_)))
 refine zc rfl (zf rfl yl (zb rfl)) xg ?_
 refine zc rfl (zf rfl yw (zb rfl)) xn ?_
 refine zU hF (fun v1 hv1 hF=>?_)
 refine zN rfl (zF rfl rfl rfl (zp yD (zp yS zx)) (.cons (zb rfl) (.cons (zb rfl) .nil))) (ok92 (fun x0 v L M hv=>by rw [wG];exact hf1 x0 v _ _ hv) hv1) xJ ?_
 refine zc rfl (zy rfl xl rfl rfl) xM ?_
 refine zc rfl (zg rfl xc (zb rfl)) yu ?_
 refine ze (zi (zH ?_))
 obtain rfl:=Option.some.inj hF
 refine zz rfl (zD yz zE) (zB (leV.refl _) rfl ?_)
 exact ⟨rfl,rfl⟩
theorem ok78 {l0:(List GItem)} {d1:GDot} {res:Bool} {h:AH}  (hF:leafXhas l0 d1=some res):Spec Try.prog 78 [.sl 5 (l0.map GItem.row),.agg [.int .u8 d1.actor.rep,.int .u32 d1.actor.inc,.int .u64 d1.seq]] h (fun rr hh=>rr=.bool res∧hh=h):=by
 unfold leafXhas at hF
 refine zu Try.func78 rfl (by kernel_rfl) (env:=[.sl 5 (l0.map GItem.row),.agg [.int .u8 d1.actor.rep,.int .u32 d1.actor.inc,.int .u64 d1.seq],za,za,za,za,za,za]) (by rfl) ?_
 refine zk (zd ?_)
 refine zc rfl (xI (n:=0) rfl yw (zb rfl) rfl rfl) x5 ?_
 refine zc rfl (zg rfl rfl (zb rfl)) yu ?_
 refine ze (zi (zk (zd ?_)))
 refine zc rfl (zf rfl yl (zb rfl)) xg ?_
 refine zc rfl (s_makeFunc rfl rfl rfl) xn ?_
 refine zU hF (fun v1 hv1 hF=>?_)
 refine zN rfl (zF rfl rfl rfl (zp yD (zp yS zx)) (.cons (zb rfl) (.cons (zb rfl) .nil))) (ok87 (fun _ v L M hv=>ok88 (blk_ext2 (j:=0) rfl) hv) hv1) xJ ?_
 refine zc rfl (zg rfl xl (zb rfl)) yu ?_
 refine ze (zi (zH ?_))
 obtain rfl:=Option.some.inj hF
 refine zz rfl (zD yz zE) (zB (leV.refl _) rfl ?_)
 exact ⟨rfl,rfl⟩
theorem ok64 {l0:GLeaf} {res:Bool} {h:AH}  (hF:leafXtombs l0=some res):Spec Try.prog 64 [.agg [.int .u8 l0.typ,.int .i64 l0.n,.int .u64 l0.time,.int .u8 l0.dot.actor.rep,.int .u32 l0.dot.actor.inc,.int .u64 l0.dot.seq,.str l0.text,.sl 5 (l0.items.map GItem.row),.sl 3 (l0.tombs.map GDot.row)]] h (fun rr hh=>rr=.bool res∧hh=h):=by
 unfold leafXtombs at hF
 refine zu Try.func64 rfl (by kernel_rfl) (env:=[.agg [.int .u8 l0.typ,.int .i64 l0.n,.int .u64 l0.time,.int .u8 l0.dot.actor.rep,.int .u32 l0.dot.actor.inc,.int .u64 l0.dot.seq,.str l0.text,.sl 5 (l0.items.map GItem.row),.sl 3 (l0.tombs.map GDot.row)],za,za,za,za,za,za,za,za,za,za,za,za,za,za,za,za,za,za,za,za,za,za,za,za,za,za,za,za,za,za,za,za,za,za,za,za,za]) (by rfl) ?_
 refine zk (zd ?_)
 refine zc rfl (xI (n:=0) rfl yl (zb rfl) rfl rfl) st1 ?_
 refine zc rfl (zg rfl rfl (zb rfl)) yU ?_
 refine ze (zi (zk (zk (zd ?_))))
 refine zc rfl (zj rfl wx yw rfl) xg ?_
 refine zc rfl (zA rfl ty43 yD rfl (zt rfl) (zb rfl)) xn ?_
 refine zZ rfl (zO rfl rfl rfl rfl vY yS ya) xJ fun hn1=>?_
 replace hn1:=y9 hn1
 refine zc rfl (zf rfl rfl (zb rfl)) xM ?_
 refine ze (zi (zJ ?_))
 refine yi (fun (n1:Nat) (s1:Unit)=>yr [0,2,3,4,5,9,10,11,12,13,14,15,16,17,18,19,20,21,22,23,24,25,26,27,28,29,30,31,32,33,34,35,36,37] [(8,.int .i64 (n1:Int))]) (fun s1=>h.ext [.cells [.int .u8 l0.typ,.int .i64 l0.n,.int .u64 l0.time,.int .u8 l0.dot.actor.rep,.int .u32 l0.dot.actor.inc,.int .u64 l0.dot.seq,.str l0.text,.sl 5 (l0.items.map GItem.row),.sl 3 (l0.tombs.map GDot.row)]] []) hF (fun _ _=>by simp only [yr,qN,List.set_cons_succ,List.set_cons_zero];try rfl) (wk.le (by exact (.drop (.eq (.d4 (.eq (.eq (.cons (leV.of_eq rfl) (.d16 (.d4 (.d4 (.d4 (.drop leL.nil))))))))))))) ?_
 intro n1 s1 hi1 hF
 refine zk (zd ?_)
 refine zc rfl (zy rfl xc xl rfl) wv ?_
 refine ze (zi (zk ?_))
 refine yo xy hF (fun x1 o1 hl1 hx1 hF hK1=>?_) (fun hF=>?_)
 ·refine zG (zi (zk (zJ (zk (zd ?_)))))
  refine zc rfl (zf rfl xc (zb rfl)) yF ?_
  refine zc rfl (yg rfl vY yS xc xZ (yn hx1)) yL ?_
  refine zc rfl (zX rfl ty41.choose_spec.1 yA (zK (cs':=[.int .u8 x1.actor.rep,.int .u32 x1.actor.inc,.int .u64 x1.seq]) ty41.choose_spec.2 rfl rfl) (zb rfl)) yQ ?_
  refine zc rfl (wt (n:=1) rfl ze41 rfl) yu ?_
  refine zc rfl (zg rfl yv (zb rfl)) x5 ?_
  refine zc rfl (yP (cs':=[.int .u8 x1.actor.rep,.int .u32 x1.actor.inc,.int .u64 x1.seq]) rfl ty41.choose_spec.1 yz yK (zb rfl) rfl rfl rfl rfl rfl) rfl ?_
  refine ze (zi (zk ?_))
  refine yk [1] [] trivial mixed (by kernel_rfl) ?_
  refine zo rfl rfl (zA rfl ty41.choose_spec.1 yz rfl (zK (cs':=[.int .u8 x1.actor.rep,.int .u32 x1.actor.inc,.int .u64 x1.seq]) ty41.choose_spec.2 rfl rfl) (zb rfl)) yW ?_
  refine zU hF (fun v19 hv19 hF=>?_)
  refine yC rfl rfl (fun _=>zF rfl rfl rfl (zp yN zx) (.cons (zb rfl) .nil)) (by rintro _ ⟨B2,T2,rfl,hk2⟩;exact ok61 hv19) y3 ?_
  refine zo rfl rfl (xF rfl y6 rfl) y2 ?_
  refine zo rfl rfl (zf rfl yR (zb rfl)) xd ?_
  refine zr rfl rfl (fun hb=>zf rfl y8 (zb rfl)) xi ?_
  refine zr rfl rfl (fun hb=>zy rfl (zn xj hb) rfl rfl) xr ?_
  refine zr rfl rfl (fun hb=>zf rfl (zn xp hb) (zb rfl)) xE ?_
  refine zr rfl (z7 rfl rfl rfl) (fun hb=>zj rfl wx yw rfl) xR ?_
  refine zr rfl (z7 rfl rfl rfl) (fun hb=>zA rfl ty43 (zn xO hb) rfl (zt rfl) (zb rfl)) xY ?_
  refine zr rfl (z7 rfl rfl rfl) (fun hb=>zf rfl y8 (zb rfl)) x7 ?_
  refine zr rfl (z7 rfl rfl rfl) (fun hb=>zy rfl (zn x9 hb) rfl rfl) xQ ?_
  refine xe hF (fun hg20 hF=>?_)
  refine zr rfl (z7 rfl rfl rfl) (fun hb=>yH default rfl vY (zn xV hb) (zn xB hb) xZ (hg20 hb)) wc ?_
  refine zr rfl (z7 rfl rfl rfl) (fun hb=>zX rfl ty41.choose_spec.1 (zn wg hb) (zK (cs':=[.int .u8 (((l0.tombs).getD (IntKind.wrap .i64 ((n1:Int) - (1:Int))).toNat default).actor.rep),.int .u32 (((l0.tombs).getD (IntKind.wrap .i64 ((n1:Int) - (1:Int))).toNat default).actor.inc),.int .u64 (((l0.tombs).getD (IntKind.wrap .i64 ((n1:Int) - (1:Int))).toNat default).seq)]) ty41.choose_spec.2 rfl rfl) (zb rfl)) wb ?_
  refine zr rfl (z7 rfl rfl rfl) (fun hb=>zA rfl ty41.choose_spec.1 yz rfl (zK (cs':=[.int .u8 x1.actor.rep,.int .u32 x1.actor.inc,.int .u64 x1.seq]) ty41.choose_spec.2 rfl rfl) (zb rfl)) wJ ?_
  refine yO hF (fun v21 hv21 hF=>?_)
  refine wp rfl (z7 rfl rfl rfl) (fun hb=>zF rfl rfl rfl (zp (zn x4 hb) (zp (zn wF hb) zx)) (.cons (zb rfl) (.cons (zb rfl) .nil))) (fun hb=>ok77 (hv21 hb)) wR ?_
  refine zr rfl (z7 rfl rfl rfl) (fun hb=>zy rfl (zn wU hb) rfl rfl) wZ ?_
  refine zr rfl rfl (fun hb=>zM rfl (zn xH hb) w6 rfl (zV (fun ht=>gT2 hb ht))) vf ?_
  refine zo rfl rfl (zM rfl xb rfl vo (yd (fun ht=>gF ht))) ve ?_
  refine zo rfl rfl (zf rfl vn (zb rfl)) vd ?_
  refine zr rfl rfl (fun hb=>zj rfl xC yw rfl) vc ?_
  refine zr rfl rfl (fun hb=>zA rfl qL (zn w5 hb) rfl (zt rfl) (zb rfl)) vu ?_
  refine zr rfl rfl (fun hb=>zA rfl ty41.choose_spec.1 yz rfl (zK (cs':=[.int .u8 x1.actor.rep,.int .u32 x1.actor.inc,.int .u64 x1.seq]) ty41.choose_spec.2 rfl rfl) (zb rfl)) vt ?_
  refine yO hF (fun v22 hv22 hF=>?_)
  refine wp rfl rfl (fun hb=>zF rfl rfl rfl (zp (zn vA hb) (zp (zn vl hb) zx)) (.cons (zb rfl) (.cons (zb rfl) .nil))) (fun hb=>ok78 (hv22 hb)) vb ?_
  refine zo rfl rfl (zM rfl vm rfl vk (yd (fun ht=>gF ht))) wQ ?_
  refine yh ?_
  refine zi ?_
  refine zL wN hF (fun hc23 hF=>?_) (fun hc23 hF=>?_)
  ·refine zk (zd ?_)
   refine zc rfl (zg rfl rfl (zb rfl)) yU ?_
   refine ze (zi (zH ?_))
   refine zC ?_
   refine zw ?_
   refine yb ?_
   obtain rfl:=Option.some.inj hF
   replace hF:=hK1
   refine zC ?_
   refine zw ?_
   obtain rfl:=Option.some.inj hF
   refine zz rfl (zD yT zE) (zB (leV.refl _) rfl ?_)
   exact ⟨rfl,rfl⟩
  ·refine zG (yc (zi (zd ?_)))
   refine zc rfl (zy rfl xc rfl rfl) va ?_
   refine zc rfl (zf rfl vj (zb rfl)) xM ?_
   refine ze (yp ?_)
   obtain rfl:=Option.some.inj hF
   exact ⟨(),hl1,hK1,wk.trans (wk.le (by exact (.drop (.eq (.d4 (.eq (.eq (.cons (leV.of_eq (wn (by omega) (by omega))) (.d16 (.d4 (.d4 (.d4 (.drop leL.nil))))))))))))) (vG (by simp [yj,AV.low]) rfl rfl (by simp [Blk.low,yj,AV.low]))⟩
 ·refine yx ?_
  refine zW ?_
  refine zP ?_
  refine zQ ?_
  refine zi (zk (zd ?_))
  refine zc rfl (zg rfl rfl (zb rfl)) yU ?_
  refine ze (zi (zH ?_))
  obtain rfl:=Option.some.inj hF
  refine zz rfl (zD yT zE) (zB (leV.refl _) rfl ?_)
  exact ⟨rfl,rfl⟩
theorem ok80 {s10:(List GDot)} {s21:(List GDot)} {res:Bool} {h:AH}  (hF:vK s10 s21=some res):Spec Try.prog 80 [.sl 3 (s10.map GDot.row),.sl 3 (s21.map GDot.row)] h (fun rr hh=>rr=.bool res∧hh=h):=by
 unfold vK at hF
 refine zu Try.func80 rfl (by kernel_rfl) (env:=[.sl 3 (s10.map GDot.row),.sl 3 (s21.map GDot.row),za,za,za,za,za,za,za,za,za,za,za,za,za,za,za,za,za,za,za,za,za,za,za,za]) (by rfl) ?_
 refine zk (zd ?_)
 refine zc rfl (zg rfl rfl (zb rfl)) yu ?_
 refine ze (zi (zk (zk (zd ?_))))
 refine zc rfl (zf rfl yl (zb rfl)) xn ?_
 refine zZ rfl (zO rfl rfl rfl rfl vY yS ya) xJ fun hn1=>?_
 replace hn1:=y9 hn1
 refine zc rfl (zf rfl yw (zb rfl)) xM ?_
 refine zZ rfl (zO rfl rfl rfl rfl vY xc ya) wv fun hn2=>?_
 replace hn2:=y9 hn2
 refine zc rfl (zy rfl xl xy rfl) yF ?_
 refine ze (zi ?_)
 refine zL yv hF (fun hc3 hF=>?_) (fun hc3 hF=>?_)
 ·refine zk (zd ?_)
  refine zc rfl (zg rfl rfl (zb rfl)) yu ?_
  refine ze (zi (zH (zw ?_)))
  obtain rfl:=Option.some.inj hF
  refine zz rfl (zD yz zE) (zB (leV.refl _) rfl ?_)
  exact ⟨rfl,rfl⟩
 ·refine zG (zi (zk (zk (zd ?_))))
  refine zc rfl (zf rfl yl (zb rfl)) yL ?_
  refine zZ rfl (zO rfl rfl rfl rfl vY yA ya) yQ fun hn4=>?_
  replace hn4:=y9 hn4
  refine zc rfl (zf rfl rfl (zb rfl)) yW ?_
  refine ze (zi (zJ ?_))
  refine yi (fun (n1:Nat) (s1:Unit)=>yr [2,3,4,5,6,7,8,9,10,11,14,15,16,17,18,19,20,21,22,23,24,25] [(13,.int .i64 (n1:Int))]) (fun s1=>h.ext [] []) hF (fun _ _=>by simp only [yr,qN,List.set_cons_succ,List.set_cons_zero];try rfl) (wk.le (by exact (.eq (.eq (.d4 (.d4 (.drop (.drop (.eq (.cons (leV.of_eq rfl) (.d4 (.d4 (.d4 leL.nil))))))))))))) ?_
  intro n1 s1 hi1 hF
  refine zk (zd ?_)
  refine zc rfl (zy rfl yN yK rfl) y3 ?_
  refine ze (zi (zk ?_))
  refine yo y6 hF (fun x1 o1 hl1 hx1 hF hK1=>?_) (fun hF=>?_)
  ·refine zG (zi (zk (zJ (zk (zd ?_)))))
   refine zc rfl (zf rfl yN (zb rfl)) y2 ?_
   refine zc rfl (zg rfl yR (zb rfl)) xg ?_
   refine ze (zi (zk ?_))
   refine yk [] [] trivial mixed (by kernel_rfl) ?_
   refine zo rfl rfl (zf rfl yl (zb rfl)) xd ?_
   refine zo rfl rfl (zf rfl yD (zb rfl)) xi ?_
   refine zo rfl rfl (yg rfl vY xb xj xZ (yn hx1)) xr ?_
   refine zo rfl rfl (zX rfl ty41.choose_spec.1 xp (zK (cs':=[.int .u8 x1.actor.rep,.int .u32 x1.actor.inc,.int .u64 x1.seq]) ty41.choose_spec.2 rfl rfl) (zb rfl)) xE ?_
   refine zo rfl rfl (zf rfl yw (zb rfl)) xR ?_
   refine zo rfl rfl (zf rfl yD (zb rfl)) xY ?_
   refine zU hF (fun y10 hy10 hF=>?_)
   refine zo rfl rfl (yg rfl vY xO xV xZ hy10) x7 ?_
   refine zo rfl rfl (zX rfl ty41.choose_spec.1 x9 (zK (cs':=[.int .u8 y10.actor.rep,.int .u32 y10.actor.inc,.int .u64 y10.seq]) ty41.choose_spec.2 rfl rfl) (zb rfl)) xQ ?_
   refine zo rfl rfl (zy rfl xH xB (bin_ne pk41 rfl)) wc ?_
   refine yh ?_
   refine zi ?_
   refine zL wg hF (fun hc11 hF=>?_) (fun hc11 hF=>?_)
   ·refine zk (zd ?_)
    refine zc rfl (zg rfl rfl (zb rfl)) yu ?_
    refine ze (zi (zH ?_))
    refine zC ?_
    refine zw ?_
    refine yb ?_
    obtain rfl:=Option.some.inj hF
    replace hF:=hK1
    refine zC ?_
    refine zw ?_
    obtain rfl:=Option.some.inj hF
    refine zz rfl (zD yz zE) (zB (leV.refl _) rfl ?_)
    exact ⟨rfl,rfl⟩
   ·refine zG (yc (zi (zd ?_)))
    refine zc rfl (zy rfl yN rfl rfl) wb ?_
    refine zc rfl (zf rfl x4 (zb rfl)) yW ?_
    refine ze (yp ?_)
    obtain rfl:=Option.some.inj hF
    exact ⟨(),hl1,hK1,wk.le (by exact (.eq (.eq (.d4 (.d4 (.drop (.drop (.eq (.cons (leV.of_eq (wn (by omega) (by omega))) (.d4 (.d4 (.d4 leL.nil))))))))))))⟩
  ·refine yx ?_
   refine zW ?_
   refine zP ?_
   refine zQ ?_
   refine zi (zk (zd ?_))
   refine zc rfl (zg rfl rfl (zb rfl)) yu ?_
   refine ze (zi (zH ?_))
   obtain rfl:=Option.some.inj hF
   refine zz rfl (zD yz zE) (zB (leV.refl _) rfl ?_)
   exact ⟨rfl,rfl⟩
theorem ok79 {s10:(List GItem)} {s21:(List GItem)} {res:Bool} {h:AH}  (hF:vw s10 s21=some res):Spec Try.prog 79 [.sl 5 (s10.map GItem.row),.sl 5 (s21.map GItem.row)] h (fun rr hh=>rr=.bool res∧hh=h):=by
 unfold vw at hF
 refine zu Try.func79 rfl (by kernel_rfl) (env:=[.sl 5 (s10.map GItem.row),.sl 5 (s21.map GItem.row),za,za,za,za,za,za,za,za,za,za,za,za,za,za,za,za,za,za,za,za,za,za,za,za]) (by rfl) ?_
 refine zk (zd ?_)
 refine zc rfl (zg rfl rfl (zb rfl)) yu ?_
 refine ze (zi (zk (zk (zd ?_))))
 refine zc rfl (zf rfl yl (zb rfl)) xn ?_
 refine zZ rfl (zO rfl rfl rfl rfl wO yS ya) xJ fun hn1=>?_
 replace hn1:=y9 hn1
 refine zc rfl (zf rfl yw (zb rfl)) xM ?_
 refine zZ rfl (zO rfl rfl rfl rfl wO xc ya) wv fun hn2=>?_
 replace hn2:=y9 hn2
 refine zc rfl (zy rfl xl xy rfl) yF ?_
 refine ze (zi ?_)
 refine zL yv hF (fun hc3 hF=>?_) (fun hc3 hF=>?_)
 ·refine zk (zd ?_)
  refine zc rfl (zg rfl rfl (zb rfl)) yu ?_
  refine ze (zi (zH (zw ?_)))
  obtain rfl:=Option.some.inj hF
  refine zz rfl (zD yz zE) (zB (leV.refl _) rfl ?_)
  exact ⟨rfl,rfl⟩
 ·refine zG (zi (zk (zk (zd ?_))))
  refine zc rfl (zf rfl yl (zb rfl)) yL ?_
  refine zZ rfl (zO rfl rfl rfl rfl wO yA ya) yQ fun hn4=>?_
  replace hn4:=y9 hn4
  refine zc rfl (zf rfl rfl (zb rfl)) yW ?_
  refine ze (zi (zJ ?_))
  refine yi (fun (n1:Nat) (s1:Unit)=>yr [2,3,4,5,6,7,8,9,10,11,14,15,16,17,18,19,20,21,22,23,24,25] [(13,.int .i64 (n1:Int))]) (fun s1=>h.ext [] []) hF (fun _ _=>by simp only [yr,qN,List.set_cons_succ,List.set_cons_zero];try rfl) (wk.le (by exact (.eq (.eq (.d4 (.d4 (.drop (.drop (.eq (.cons (leV.of_eq rfl) (.d4 (.d4 (.d4 leL.nil))))))))))))) ?_
  intro n1 s1 hi1 hF
  refine zk (zd ?_)
  refine zc rfl (zy rfl yN yK rfl) y3 ?_
  refine ze (zi (zk ?_))
  refine yo y6 hF (fun x1 o1 hl1 hx1 hF hK1=>?_) (fun hF=>?_)
  ·refine zG (zi (zk (zJ (zk (zd ?_)))))
   refine zc rfl (zf rfl yN (zb rfl)) y2 ?_
   refine zc rfl (zg rfl yR (zb rfl)) xg ?_
   refine ze (zi (zk ?_))
   refine yk [] [] trivial mixed (by kernel_rfl) ?_
   refine zo rfl rfl (zf rfl yl (zb rfl)) xd ?_
   refine zo rfl rfl (zf rfl yD (zb rfl)) xi ?_
   refine zo rfl rfl (yg rfl wO xb xj xZ (yn hx1)) xr ?_
   refine zo rfl rfl (zX rfl ty49.choose_spec.1 xp (zK (cs':=[.int .u64 x1.time,.int .u8 x1.dot.actor.rep,.int .u32 x1.dot.actor.inc,.int .u64 x1.dot.seq,.str x1.text]) ty49.choose_spec.2 rfl rfl) (zb rfl)) xE ?_
   refine zo rfl rfl (zf rfl yw (zb rfl)) xR ?_
   refine zo rfl rfl (zf rfl yD (zb rfl)) xY ?_
   refine zU hF (fun y10 hy10 hF=>?_)
   refine zo rfl rfl (yg rfl wO xO xV xZ hy10) x7 ?_
   refine zo rfl rfl (zX rfl ty49.choose_spec.1 x9 (zK (cs':=[.int .u64 y10.time,.int .u8 y10.dot.actor.rep,.int .u32 y10.dot.actor.inc,.int .u64 y10.dot.seq,.str y10.text]) ty49.choose_spec.2 rfl rfl) (zb rfl)) xQ ?_
   refine zo rfl rfl (zy rfl xH xB (bin_ne pk49 rfl)) wc ?_
   refine yh ?_
   refine zi ?_
   refine zL wg hF (fun hc11 hF=>?_) (fun hc11 hF=>?_)
   ·refine zk (zd ?_)
    refine zc rfl (zg rfl rfl (zb rfl)) yu ?_
    refine ze (zi (zH ?_))
    refine zC ?_
    refine zw ?_
    refine yb ?_
    obtain rfl:=Option.some.inj hF
    replace hF:=hK1
    refine zC ?_
    refine zw ?_
    obtain rfl:=Option.some.inj hF
    refine zz rfl (zD yz zE) (zB (leV.refl _) rfl ?_)
    exact ⟨rfl,rfl⟩
   ·refine zG (yc (zi (zd ?_)))
    refine zc rfl (zy rfl yN rfl rfl) wb ?_
    refine zc rfl (zf rfl x4 (zb rfl)) yW ?_
    refine ze (yp ?_)
    obtain rfl:=Option.some.inj hF
    exact ⟨(),hl1,hK1,wk.le (by exact (.eq (.eq (.d4 (.d4 (.drop (.drop (.eq (.cons (leV.of_eq (wn (by omega) (by omega))) (.d4 (.d4 (.d4 leL.nil))))))))))))⟩
  ·refine yx ?_
   refine zW ?_
   refine zP ?_
   refine zQ ?_
   refine zi (zk (zd ?_))
   refine zc rfl (zg rfl rfl (zb rfl)) yu ?_
   refine ze (zi (zH ?_))
   obtain rfl:=Option.some.inj hF
   refine zz rfl (zD yz zE) (zB (leV.refl _) rfl ?_)
   exact ⟨rfl,rfl⟩
theorem ok65 {a0:GLeaf} {b1:GLeaf} {res:Bool} {h:AH}  (hF:leafSame a0 b1=some res):Spec Try.prog 65 [.agg [.int .u8 a0.typ,.int .i64 a0.n,.int .u64 a0.time,.int .u8 a0.dot.actor.rep,.int .u32 a0.dot.actor.inc,.int .u64 a0.dot.seq,.str a0.text,.sl 5 (a0.items.map GItem.row),.sl 3 (a0.tombs.map GDot.row)],.agg [.int .u8 b1.typ,.int .i64 b1.n,.int .u64 b1.time,.int .u8 b1.dot.actor.rep,.int .u32 b1.dot.actor.inc,.int .u64 b1.dot.seq,.str b1.text,.sl 5 (b1.items.map GItem.row),.sl 3 (b1.tombs.map GDot.row)]] h (fun rr hh=>rr=.bool res∧hh=h):=by
 unfold leafSame at hF
 refine zu Try.func65 rfl (by kernel_rfl) (env:=[.agg [.int .u8 a0.typ,.int .i64 a0.n,.int .u64 a0.time,.int .u8 a0.dot.actor.rep,.int .u32 a0.dot.actor.inc,.int .u64 a0.dot.seq,.str a0.text,.sl 5 (a0.items.map GItem.row),.sl 3 (a0.tombs.map GDot.row)],.agg [.int .u8 b1.typ,.int .i64 b1.n,.int .u64 b1.time,.int .u8 b1.dot.actor.rep,.int .u32 b1.dot.actor.inc,.int .u64 b1.dot.seq,.str b1.text,.sl 5 (b1.items.map GItem.row),.sl 3 (b1.tombs.map GDot.row)],za,za,za,za,za,za,za,za,za,za,za,za,za,za,za,za,za,za,za,za,za,za,za,za,za,za,za,za,za,za,za,za,za,za,za,za,za,za,za,za,za,za,za,za,za,za,za,za,za,za]) (by rfl) ?_
 refine zk (zd ?_)
 refine zc rfl (xI (n:=0) rfl yl (zb rfl) rfl rfl) yU ?_
 refine zc rfl (xI (n:=1) rfl yw (zb rfl) rfl rfl) x5 ?_
 refine zc rfl (zg rfl rfl (zb rfl)) yu ?_
 refine ze (zi (zk (zd ?_)))
 refine zc rfl (zj rfl wy yT rfl) xg ?_
 refine zc rfl (zA rfl ty5 yD rfl (zt rfl) (zb rfl)) xn ?_
 refine zc rfl (zj rfl wy y8 rfl) xJ ?_
 refine zc rfl (zA rfl ty5 xl rfl (zt rfl) (zb rfl)) xM ?_
 refine zc rfl (zy rfl yS xc rfl) wv ?_
 refine zc rfl (zf rfl xy (zb rfl)) yF ?_
 refine zq rfl (fun hb=>zj rfl fo45x1 yT rfl) yL ?_
 refine zq rfl (fun hb=>zA rfl ty2 (zn yA hb) rfl (zt rfl) (zb rfl)) yQ ?_
 refine zq rfl (fun hb=>zj rfl fo45x1 y8 rfl) yW ?_
 refine zq rfl (fun hb=>zA rfl ty2 (zn yN hb) rfl (zt rfl) (zb rfl)) y3 ?_
 refine zq rfl (fun hb=>zy rfl (zn yK hb) (zn y6 hb) rfl) y2 ?_
 refine zc rfl (zM rfl yv yR rfl (zV (fun ht=>gT ht))) xd ?_
 refine zc rfl (zf rfl xb (zb rfl)) xi ?_
 refine zq rfl (fun hb=>zj rfl fo45x2 yT rfl) xr ?_
 refine zq rfl (fun hb=>zA rfl qx (zn xp hb) rfl (zt rfl) (zb rfl)) xE ?_
 refine zq rfl (fun hb=>zj rfl fo45x2 y8 rfl) xR ?_
 refine zq rfl (fun hb=>zA rfl qx (zn xO hb) rfl (zt rfl) (zb rfl)) xY ?_
 refine zq rfl (fun hb=>zy rfl (zn xH hb) (zn xV hb) rfl) x7 ?_
 refine zc rfl (zM rfl xj x9 rfl (zV (fun ht=>gT ht))) xQ ?_
 refine zc rfl (zf rfl xB (zb rfl)) wc ?_
 refine zq rfl (fun hb=>zj rfl fo45x3 yT rfl) wb ?_
 refine zq rfl (fun hb=>zA rfl ty41.choose_spec.1 (zn x4 hb) rfl (zK (cs':=[.int .u8 a0.dot.actor.rep,.int .u32 a0.dot.actor.inc,.int .u64 a0.dot.seq]) ty41.choose_spec.2 rfl rfl) (zb rfl)) wJ ?_
 refine zq rfl (fun hb=>zj rfl fo45x3 y8 rfl) wR ?_
 refine zq rfl (fun hb=>zA rfl ty41.choose_spec.1 (zn wU hb) rfl (zK (cs':=[.int .u8 b1.dot.actor.rep,.int .u32 b1.dot.actor.inc,.int .u64 b1.dot.seq]) ty41.choose_spec.2 rfl rfl) (zb rfl)) wZ ?_
 refine zq rfl (fun hb=>zy rfl (zn wF hb) (zn w6 hb) (bin_eq pk41 rfl)) vf ?_
 refine zc rfl (zM rfl wg vo rfl (zV (fun ht=>gT ht))) ve ?_
 refine zc rfl (zf rfl vn (zb rfl)) vd ?_
 refine zq rfl (fun hb=>zj rfl fo45x4 yT rfl) vc ?_
 refine zq rfl (fun hb=>zA rfl qa (zn w5 hb) rfl (zt rfl) (zb rfl)) vu ?_
 refine zq rfl (fun hb=>zj rfl fo45x4 y8 rfl) vt ?_
 refine zq rfl (fun hb=>zA rfl qa (zn vl hb) rfl (zt rfl) (zb rfl)) vb ?_
 refine zq rfl (fun hb=>zy rfl (zn vA hb) (zn vk hb) rfl) wQ ?_
 refine zc rfl (zM rfl vm wN rfl (zV (fun ht=>gT ht))) va ?_
 refine zc rfl (zf rfl vj (zb rfl)) vE ?_
 refine zq rfl (fun hb=>zj rfl xC yT rfl) vJ ?_
 refine zq rfl (fun hb=>zA rfl qL (zn vF hb) rfl (zt rfl) (zb rfl)) (sk st0) ?_
 refine zq rfl (fun hb=>zj rfl xC y8 rfl) (sk st1) ?_
 refine zq rfl (fun hb=>zA rfl qL (zn (gk yw) hb) rfl (zt rfl) (zb rfl)) (sk yU) ?_
 refine yO hF (fun v1 hv1 hF=>?_)
 refine ym rfl (fun hb=>zF rfl rfl rfl (zp (zn (gk yl) hb) (zp (zn (gk yT) hb) zx)) (.cons (zb rfl) (.cons (zb rfl) .nil))) (fun hb=>ok79 (hv1 hb)) (sk x5) ?_
 refine zc rfl (zM rfl vz (gk y8) rfl (zV (fun ht=>gT ht))) (sk yu) ?_
 refine zc rfl (zf rfl (gk yz) (zb rfl)) (sk xg) ?_
 refine zq rfl (fun hb=>zj rfl wx yT rfl) (sk xn) ?_
 refine zq rfl (fun hb=>zA rfl ty43 (zn (gk yS) hb) rfl (zt rfl) (zb rfl)) (sk xJ) ?_
 refine zq rfl (fun hb=>zj rfl wx y8 rfl) (sk xM) ?_
 refine zq rfl (fun hb=>zA rfl ty43 (zn (gk xc) hb) rfl (zt rfl) (zb rfl)) (sk wv) ?_
 refine yO hF (fun v2 hv2 hF=>?_)
 refine ym rfl (fun hb=>zF rfl rfl rfl (zp (zn (gk xl) hb) (zp (zn (gk xy) hb) zx)) (.cons (zb rfl) (.cons (zb rfl) .nil))) (fun hb=>ok80 (hv2 hb)) (sk yF) ?_
 refine zc rfl (zM rfl (gk yD) (gk yv) rfl (zV (fun ht=>gT ht))) (sk yL) ?_
 refine zc rfl (zg rfl (gk yA) (zb rfl)) yu ?_
 refine ze (zi (zH ?_))
 obtain rfl:=Option.some.inj hF
 refine zz rfl (zD yz zE) (zB (leV.refl _) rfl ?_)
 exact ⟨rfl,rfl⟩
theorem ok60 {n0:Int} {res:Bool} {h:AH}  (hF:leafXisTime n0=some res):Spec Try.prog 60 [.int .u64 n0] h (fun rr hh=>rr=.bool res∧hh=h):=by
 unfold leafXisTime at hF
 refine zu Try.func60 rfl (by kernel_rfl) (env:=[.int .u64 n0,za,za,za,za,za,za,za,za]) (by rfl) ?_
 refine zk (zd ?_)
 refine zc rfl (zg rfl rfl (zb rfl)) yU ?_
 refine ze (zi (zk (zd ?_)))
 refine zc rfl (zf rfl yl (zb rfl)) x5 ?_
 refine zc rfl (zy rfl y8 rfl rfl) yu ?_
 refine zc rfl (zf rfl yz (zb rfl)) xg ?_
 refine zq rfl (fun hb=>zf rfl yl (zb rfl)) xn ?_
 refine zq rfl (fun hb=>zy rfl (zn yS hb) rfl rfl) xJ ?_
 refine zc rfl (zM rfl yD xl rfl (zV (fun ht=>gT ht))) xM ?_
 refine zc rfl (zg rfl xc (zb rfl)) yU ?_
 refine ze (zi (zH ?_))
 obtain rfl:=Option.some.inj hF
 refine zz rfl (zD yT zE) (zB (leV.refl _) rfl ?_)
 exact ⟨rfl,rfl⟩
theorem ok62 {s0:zR} {res:Bool} {h:AH}  (hF:qt s0=some res):Spec Try.prog 62 [.str s0] h (fun rr hh=>rr=.bool res∧hh=h):=by
 unfold qt at hF
 refine zu Try.func62 rfl (by kernel_rfl) (env:=[.str s0,za,za,za,za,za]) (by rfl) ?_
 refine zk (zd ?_)
 refine zc rfl (zg rfl rfl (zb rfl)) yU ?_
 refine ze (zi (zk (zd ?_)))
 refine zc rfl (zf rfl yl (zb rfl)) x5 ?_
 refine zZ rfl (vx rfl rfl rfl rfl qa y8) yu fun hn1=>?_
 replace hn1:=y9 hn1
 refine zc rfl (zy rfl yz rfl rfl) xg ?_
 refine zc rfl (zg rfl yD (zb rfl)) yU ?_
 refine ze (zi (zH ?_))
 obtain rfl:=Option.some.inj hF
 refine zz rfl (zD yT zE) (zB (leV.refl _) rfl ?_)
 exact ⟨rfl,rfl⟩
theorem ok83 {a0:Int} {d1:GDot} {b2:Int} {o3:GDot} {res:Int} {h:AH}  (hF:leafXcompare a0 d1 b2 o3=some res):Spec Try.prog 83 [.int .u64 a0,.agg [.int .u8 d1.actor.rep,.int .u32 d1.actor.inc,.int .u64 d1.seq],.int .u64 b2,.agg [.int .u8 o3.actor.rep,.int .u32 o3.actor.inc,.int .u64 o3.seq]] h (fun rr hh=>rr=.int .i64 res∧hh=h):=by
 unfold leafXcompare at hF
 refine zu Try.func83 rfl (by kernel_rfl) (env:=[.int .u64 a0,.agg [.int .u8 d1.actor.rep,.int .u32 d1.actor.inc,.int .u64 d1.seq],.int .u64 b2,.agg [.int .u8 o3.actor.rep,.int .u32 o3.actor.inc,.int .u64 o3.seq],za,za,za,za,za,za,za,za,za,za,za,za,za]) (by rfl) ?_
 refine zk (zd ?_)
 refine zc rfl (xI (n:=0) rfl yw (zb rfl) rfl rfl) xg ?_
 refine zc rfl (xI (n:=1) rfl y8 (zb rfl) rfl rfl) xJ ?_
 refine zc rfl (zg rfl rfl (zb rfl)) xM ?_
 refine ze (zi (zk ?_))
 refine yk [2,5,7] [] trivial mixed (by kernel_rfl) ?_
 refine zo rfl rfl (zf rfl yl (zb rfl)) wv ?_
 refine zo rfl rfl (zf rfl yT (zb rfl)) yF ?_
 refine zU hF (fun v1 hv1 hF=>?_)
 refine yC rfl rfl (fun _=>zF rfl rfl rfl (zp xy (zp yv zx)) (.cons (zb rfl) (.cons (zb rfl) .nil))) (by rintro _ ⟨B2,T2,rfl,hk2⟩;exact ok86 hv1) yL ?_
 refine zo rfl rfl (zA rfl ty41.choose_spec.1 yD rfl (zK (cs':=[.int .u8 d1.actor.rep,.int .u32 d1.actor.inc,.int .u64 d1.seq]) ty41.choose_spec.2 rfl rfl) (zb rfl)) yQ ?_
 refine zo rfl rfl (zA rfl ty41.choose_spec.1 xl rfl (zK (cs':=[.int .u8 o3.actor.rep,.int .u32 o3.actor.inc,.int .u64 o3.seq]) ty41.choose_spec.2 rfl rfl) (zb rfl)) yW ?_
 refine zU hF (fun v2 hv2 hF=>?_)
 refine yC rfl rfl (fun _=>zF rfl rfl rfl (zp yK (zp yN zx)) (.cons (zb rfl) (.cons (zb rfl) .nil))) (by rintro _ ⟨B2,T2,rfl,hk2⟩;exact ok77 hv2) y3 ?_
 refine zo rfl rfl (z8 (es:=([v1,v2]:List Int).map (intRow .i64)) rfl el123 ze3 rfl rfl (zY yA (zY y6 ye)) (.cons (zb rfl) (.cons (zb rfl) .nil)) rfl rfl rfl) y2 ?_
 refine zU hF (fun v3 hv3 hF=>?_)
 refine yC rfl rfl (fun _=>zF rfl rfl rfl (zp yR zx) (.cons (zb rfl) .nil)) (by rintro _ ⟨B2,T2,rfl,hk2⟩;exact (ok84 hv3).le (.cons (leV.osl _ _ _) leL.nil)) xd ?_
 refine zo rfl rfl (zg rfl xb (zb rfl)) xM ?_
 refine yh ?_
 refine zi (zH ?_)
 obtain rfl:=Option.some.inj hF
 refine zz rfl (zD xc zE) (zB (leV.refl _) rfl ?_)
 exact ⟨rfl,rfl⟩
theorem ok75 {time0:Int} {d1:GDot} {other2:Int} {o3:GDot} {res:Bool} {h:AH}  (hF:leafAhead time0 d1 other2 o3=some res):Spec Try.prog 75 [.int .u64 time0,.agg [.int .u8 d1.actor.rep,.int .u32 d1.actor.inc,.int .u64 d1.seq],.int .u64 other2,.agg [.int .u8 o3.actor.rep,.int .u32 o3.actor.inc,.int .u64 o3.seq]] h (fun rr hh=>rr=.bool res∧hh=h):=by
 unfold leafAhead at hF
 refine zu Try.func75 rfl (by kernel_rfl) (env:=[.int .u64 time0,.agg [.int .u8 d1.actor.rep,.int .u32 d1.actor.inc,.int .u64 d1.seq],.int .u64 other2,.agg [.int .u8 o3.actor.rep,.int .u32 o3.actor.inc,.int .u64 o3.seq],za,za,za,za,za,za,za,za,za,za,za]) (by rfl) ?_
 refine zk (zd ?_)
 refine zc rfl (xI (n:=0) rfl yw (zb rfl) rfl rfl) xg ?_
 refine zc rfl (xI (n:=1) rfl y8 (zb rfl) rfl rfl) xJ ?_
 refine zc rfl (zg rfl rfl (zb rfl)) xM ?_
 refine ze (zi (zk (zd ?_)))
 refine zc rfl (zf rfl yl (zb rfl)) wv ?_
 refine zc rfl (zA rfl ty41.choose_spec.1 yD rfl (zK (cs':=[.int .u8 d1.actor.rep,.int .u32 d1.actor.inc,.int .u64 d1.seq]) ty41.choose_spec.2 rfl rfl) (zb rfl)) yF ?_
 refine zc rfl (zf rfl yT (zb rfl)) yL ?_
 refine zc rfl (zA rfl ty41.choose_spec.1 xl rfl (zK (cs':=[.int .u8 o3.actor.rep,.int .u32 o3.actor.inc,.int .u64 o3.seq]) ty41.choose_spec.2 rfl rfl) (zb rfl)) yQ ?_
 refine zU hF (fun v1 hv1 hF=>?_)
 refine zN rfl (zF rfl rfl rfl (zp xy (zp yv (zp yA (zp yK zx)))) (.cons (zb rfl) (.cons (zb rfl) (.cons (zb rfl) (.cons (zb rfl) .nil))))) (ok83 hv1) yW ?_
 refine zc rfl (zy rfl yN rfl rfl) y3 ?_
 refine zc rfl (zg rfl y6 (zb rfl)) xM ?_
 refine ze (zi (zH ?_))
 obtain rfl:=Option.some.inj hF
 refine zz rfl (zD xc zE) (zB (leV.refl _) rfl ?_)
 exact ⟨rfl,rfl⟩
theorem ok76 {l0:(List GItem)} {res:Bool} {h:AH}  (hF:leafXtwice l0=some res):Spec Try.prog 76 [.sl 5 (l0.map GItem.row)] h (fun rr hh=>rr=.bool res∧hh=h):=by
 unfold leafXtwice at hF
 refine zu Try.func76 rfl (by kernel_rfl) (env:=[.sl 5 (l0.map GItem.row),za,za,za,za,za,za,za,za,za,za,za,za,za,za,za,za,za,za,za,za,za,za,za,za,za]) (by rfl) ?_
 refine zk (zd ?_)
 refine zc rfl (zg rfl rfl (zb rfl)) yU ?_
 refine ze (zi (zk (zd ?_)))
 refine zc rfl (e_makeMap (n:=0) rfl rfl) xn ?_
 refine zc rfl (zg rfl yS (zb rfl)) x5 ?_
 refine ze (zi (zk (zk (zd ?_))))
 refine zc rfl (zf rfl yl (zb rfl)) xJ ?_
 refine zZ rfl (zO rfl rfl rfl rfl wO xl ya) xM fun hn1=>?_
 replace hn1:=y9 hn1
 refine zc rfl (zf rfl rfl (zb rfl)) wv ?_
 refine ze (zi (zJ ?_))
 refine yi (fun (n1:Nat) (s1:List (GDot×Int))=>yr [1,2,4,5,6,10,11,12,13,14,15,16,17,18,19,20,21,22,23,24,25] [(9,.int .i64 (n1:Int))]) (fun s1=>h.ext [.mapo (s1.map (mrow (fun x=>AV.agg (GDot.row x)) (AV.int .i64))) 0] []) hF (fun _ _=>by simp only [yr,qN,List.set_cons_succ,List.set_cons_zero];try rfl) (wk.le (by exact (.eq (.drop (.drop (.eq (.drop (.drop (.drop (.eq (.eq (.cons (leV.of_eq rfl) (.d16 leL.nil))))))))))))) ?_
 intro n1 s1 hi1 hF
 refine zk (zd ?_)
 refine zc rfl (zy rfl xy xc rfl) yF ?_
 refine ze (zi (zk ?_))
 refine yo yv hF (fun x1 o1 hl1 hx1 hF hK1=>?_) (fun hF=>?_)
 ·refine zG (zi (zk (zJ (zk (zd ?_)))))
  refine zc rfl (yg rfl wO xl xy xZ (yn hx1)) yL ?_
  refine zc rfl (zX rfl ty49.choose_spec.1 yA (zK (cs':=[.int .u64 x1.time,.int .u8 x1.dot.actor.rep,.int .u32 x1.dot.actor.inc,.int .u64 x1.dot.seq,.str x1.text]) ty49.choose_spec.2 rfl rfl) (zb rfl)) yQ ?_
  refine zc rfl (wt (n:=1) rfl ze49 rfl) xg ?_
  refine zc rfl (yP (cs':=[.int .u64 x1.time,.int .u8 x1.dot.actor.rep,.int .u32 x1.dot.actor.inc,.int .u64 x1.dot.seq,.str x1.text]) rfl ty49.choose_spec.1 yD yK (zb rfl) rfl rfl rfl rfl rfl) rfl ?_
  refine ze (zi ?_)
  refine r_drawnF [3] (fun _=>MapE h 0 (s1.map (mrow (fun x=>AV.agg (GDot.row x)) (AV.int .i64))) ((ment GDot.eqb (0:Int) s1 x1.dot).map (mrow (fun x=>AV.agg (GDot.row x)) (AV.int .i64)))) (fun _=>⟨_,_,rfl,.inl rfl⟩) mixed (by kernel_rfl) ?_
  refine zo rfl rfl (zf rfl y8 (zb rfl)) yW ?_
  refine zo rfl rfl (zj rfl fo49x1 yD rfl) y3 ?_
  refine zo rfl rfl (zA rfl ty41.choose_spec.1 y6 rfl (zK (cs':=[.int .u8 x1.dot.actor.rep,.int .u32 x1.dot.actor.inc,.int .u64 x1.dot.seq]) ty41.choose_spec.2 rfl rfl) (zb rfl)) y2 ?_
  refine draw_okN rfl rfl (e_lookupF (m:=s1) (k:=x1.dot) (d:=(0:Int)) (j:=0) (kv:=(fun x=>AV.agg (GDot.row x))) (vv:=(AV.int .i64)) rfl Try.underlying117 kq41 az3 yN yR) xd ?_
  refine zo rfl rfl (zy rfl xb rfl rfl) xi ?_
  refine xX rfl (FOk.all ⟨_,_,rfl,.inr rfl⟩) (by kernel_rfl) rfl (e_entry (m:=s1) (k:=x1.dot) (d:=(0:Int)) (j:=0) (kv:=(fun x=>AV.agg (GDot.row x))) (vv:=(AV.int .i64)) rfl Try.underlying117 kq41 az3 yN rfl yR rfl) xr ?_
  refine zo rfl rfl (xk rfl xp rfl (zb rfl)) xE ?_
  refine xX rfl (FOk.skip (by kernel_rfl)) (by kernel_rfl) rfl (e_entryStore (m:=s1) (k:=x1.dot) (d:=(0:Int)) (v:=(IntKind.wrap .i64 ((wM GDot.eqb (0:Int) s1 x1.dot)+(1:Int)))) (j:=0) (eq:=GDot.eqb) (kv:=(fun x=>AV.agg (GDot.row x))) (vv:=(AV.int .i64)) rfl yN rfl xH rfl xj rfl rfl) rfl ?_
  refine yh ?_
  refine yc (zi (zd ?_))
  refine zc rfl (zy rfl xy rfl rfl) xR ?_
  refine zc rfl (zf rfl xO (zb rfl)) wv ?_
  refine ze (yp ?_)
  obtain rfl:=Option.some.inj hF
  exact ⟨(mput GDot.eqb s1 x1.dot (IntKind.wrap .i64 ((wM GDot.eqb (0:Int) s1 x1.dot)+(1:Int)))),hl1,hK1,wk.trans (wk.le (by exact (.eq (.drop (.drop (.eq (.drop (.drop (.drop (.eq (.eq (.cons (leV.of_eq (wn (by omega) (by omega))) (.d16 leL.nil))))))))))))) (vG (by simp [yj,AV.low]) rfl rfl (by simp [Blk.low,yj,AV.low,GDot.row,mrow]))⟩
 ·refine yx ?_
  refine zW ?_
  refine zP ?_
  refine zQ ?_
  refine zi (zk (zd ?_))
  refine zc rfl (zf rfl y8 (zb rfl)) xY ?_
  refine ops_mlen (m:=s1) (j:=0) (kv:=(fun x=>AV.agg (GDot.row x))) (vv:=(AV.int .i64)) rfl rfl rfl rfl rfl Try.underlying117 xV rfl x7 ?_
  refine zc rfl (zf rfl yl (zb rfl)) xQ ?_
  refine zZ rfl (zO rfl rfl rfl rfl wO xB ya) wc fun hn7=>?_
  replace hn7:=y9 hn7
  refine zc rfl (zy rfl x9 wg rfl) wb ?_
  refine zc rfl (zg rfl x4 (zb rfl)) yU ?_
  refine ze (zi (zH ?_))
  obtain rfl:=Option.some.inj hF
  refine zz rfl (zD yT zE) (zB (leV.refl _) rfl ?_)
  exact ⟨rfl,rfl⟩
theorem ok63 {l0:(List GItem)} {timed1:Bool} {res:Bool} {h:AH}  (hF:qU l0 timed1=some res):Spec Try.prog 63 [.sl 5 (l0.map GItem.row),.bool timed1] h (fun rr hh=>rr=.bool res∧hh=h):=by
 unfold qU at hF
 refine zu Try.func63 rfl (by kernel_rfl) (env:=[.sl 5 (l0.map GItem.row),.bool timed1,za,za,za,za,za,za,za,za,za,za,za,za,za,za,za,za,za,za,za,za,za,za,za,za,za,za,za,za,za,za,za,za,za,za,za,za,za,za,za,za,za,za,za,za,za,za,za,za,za,za,za,za,za,za,za,za,za,za,za,za,za,za,za,za]) (by rfl) ?_
 refine zk (zd ?_)
 refine zc rfl (zg rfl rfl (zb rfl)) yu ?_
 refine ze (zi (zk (zk (zd ?_))))
 refine zc rfl (zf rfl yl (zb rfl)) xJ ?_
 refine zZ rfl (zO rfl rfl rfl rfl wO xl ya) xM fun hn1=>?_
 replace hn1:=y9 hn1
 refine zc rfl (zf rfl rfl (zb rfl)) wv ?_
 refine ze (zi (zJ ?_))
 refine yi (fun (n1:Nat) (s1:Unit)=>yr [2,3,4,5,6,10,11,12,13,14,15,16,17,18,19,20,21,22,23,24,25,26,27,28,29,30,31,32,33,34,35,36,37,38,39,40,41,42,43,44,45,46,47,48,49,50,51,52,53,54,55,56,57,58,59,60,61,62,63,64,65] [(9,.int .i64 (n1:Int))]) (fun s1=>h.ext [] []) hF (fun _ _=>by simp only [yr,qN,List.set_cons_succ,List.set_cons_zero];try rfl) (wk.le (by exact (.eq (.eq (.d4 (.drop (.eq (.eq (.cons (leV.of_eq rfl) (.d16 (.d16 (.d16 (.d4 (.d4 leL.nil)))))))))))))) ?_
 intro n1 s1 hi1 hF
 refine zk (zd ?_)
 refine zc rfl (zy rfl xy xc rfl) yF ?_
 refine ze (zi (zk ?_))
 refine yo yv hF (fun x1 o1 hl1 hx1 hF hK1=>?_) (fun hF=>?_)
 ·refine zG (zi (zk (zJ (zk (zd ?_)))))
  refine zc rfl (zf rfl xy (zb rfl)) yL ?_
  refine zc rfl (yg rfl wO xl xy xZ (yn hx1)) yQ ?_
  refine zc rfl (zX rfl ty49.choose_spec.1 yK (zK (cs':=[.int .u64 x1.time,.int .u8 x1.dot.actor.rep,.int .u32 x1.dot.actor.inc,.int .u64 x1.dot.seq,.str x1.text]) ty49.choose_spec.2 rfl rfl) (zb rfl)) yW ?_
  refine zc rfl (wt (n:=0) rfl ze49 rfl) xn ?_
  refine zc rfl (zg rfl yA (zb rfl)) xg ?_
  refine zc rfl (yP (cs':=[.int .u64 x1.time,.int .u8 x1.dot.actor.rep,.int .u32 x1.dot.actor.inc,.int .u64 x1.dot.seq,.str x1.text]) rfl ty49.choose_spec.1 yS yN (zb rfl) rfl rfl rfl rfl rfl) rfl ?_
  refine ze (zi (zk (zk (zd ?_))))
  refine zc rfl (zj rfl fo49x1 yS rfl) y3 ?_
  refine zc rfl (zA rfl ty41.choose_spec.1 y6 rfl (zK (cs':=[.int .u8 x1.dot.actor.rep,.int .u32 x1.dot.actor.inc,.int .u64 x1.dot.seq]) ty41.choose_spec.2 rfl rfl) (zb rfl)) y2 ?_
  refine zU hF (fun v13 hv13 hF=>?_)
  refine zN rfl (zF rfl rfl rfl (zp yR zx) (.cons (zb rfl) .nil)) (ok61 hv13) xd ?_
  refine zc rfl (xF rfl xb rfl) xi ?_
  refine zc rfl (zf rfl xj (zb rfl)) xr ?_
  refine zq rfl (fun hb=>zj rfl fo49x2 yS rfl) xE ?_
  refine zq rfl (fun hb=>zA rfl qa (zn xH hb) rfl (zt rfl) (zb rfl)) xR ?_
  refine yO hF (fun v14 hv14 hF=>?_)
  refine ym rfl (fun hb=>zF rfl rfl rfl (zp (zn xO hb) zx) (.cons (zb rfl) .nil)) (fun hb=>ok62 (hv14 hb)) xY ?_
  refine zq rfl (fun hb=>xF rfl (zn xV hb) rfl) x7 ?_
  refine zc rfl (zM rfl xp rfl x9 (yd (fun ht=>gF ht))) xQ ?_
  refine zc rfl (zf rfl xB (zb rfl)) wc ?_
  refine zq rfl (fun hb=>zf rfl yw (zb rfl)) wb ?_
  refine zq rfl (fun hb=>zj rfl fo49x0 yS rfl) wJ ?_
  refine zq rfl (fun hb=>zA rfl qx (zn wF hb) rfl (zt rfl) (zb rfl)) wR ?_
  refine yO hF (fun v15 hv15 hF=>?_)
  refine ym rfl (fun hb=>zF rfl rfl rfl (zp (zn wU hb) zx) (.cons (zb rfl) .nil)) (fun hb=>ok60 (hv15 hb)) wZ ?_
  refine zq rfl (fun hb=>zy rfl (zn x4 hb) (zn w6 hb) (bin_boolN ty4)) vf ?_
  refine zc rfl (zM rfl wg rfl vo (yd (fun ht=>gF ht))) ve ?_
  refine zc rfl (zf rfl vn (zb rfl)) vd ?_
  refine zq rfl (fun hb=>zf rfl yw (zb rfl)) vc ?_
  refine zq rfl (fun hb=>xF rfl (zn w5 hb) rfl) vu ?_
  refine zq rfl (fun hb=>zf rfl (zn vA hb) (zb rfl)) vt ?_
  refine zq (z7 rfl rfl rfl) (fun hb=>zj rfl fo49x0 yS rfl) vb ?_
  refine zq (z7 rfl rfl rfl) (fun hb=>zA rfl qx (zn vk hb) rfl (zt rfl) (zb rfl)) wQ ?_
  refine zq (z7 rfl rfl rfl) (fun hb=>zy rfl (zn wN hb) rfl rfl) va ?_
  refine zq rfl (fun hb=>zM rfl (zn vl hb) vj rfl (zV (fun ht=>gT2 hb ht))) vE ?_
  refine zc rfl (zM rfl vm rfl vz (yd (fun ht=>gF ht))) vJ ?_
  refine ze (zi ?_)
  refine zL vF hF (fun hc16 hF=>?_) (fun hc16 hF=>?_)
  ·refine zk (zd ?_)
   refine zc rfl (zg rfl rfl (zb rfl)) yu ?_
   refine ze (zi (zH (zw ?_)))
   refine zC ?_
   refine zw ?_
   refine yb ?_
   obtain rfl:=Option.some.inj hF
   replace hF:=hK1
   refine zC ?_
   refine zw ?_
   obtain rfl:=Option.some.inj hF
   refine zz rfl (zD yz zE) (zB (leV.refl _) rfl ?_)
   exact ⟨rfl,rfl⟩
  ·refine zG (zi (zk ?_))
   refine yk [] [] trivial mixed (by kernel_rfl) ?_
   refine zo rfl rfl (zf rfl yD (zb rfl)) (sk st0) ?_
   refine zo rfl rfl (zy rfl (gk yl) rfl rfl) (sk st1) ?_
   refine zo rfl rfl (zf rfl (gk yw) (zb rfl)) (sk yU) ?_
   refine zr rfl rfl (fun hb=>zf rfl yl (zb rfl)) (sk x5) ?_
   refine zr rfl rfl (fun hb=>zf rfl yD (zb rfl)) (sk yu) ?_
   refine zr rfl rfl (fun hb=>zy rfl (zn (gk yz) hb) rfl rfl) (sk xg) ?_
   refine xe hF (fun hg17 hF=>?_)
   refine zr rfl rfl (fun hb=>yH default rfl wO (zn (gk y8) hb) (zn (gk yD) hb) xZ (hg17 hb)) (sk xn) ?_
   refine zr rfl rfl (fun hb=>zj rfl fo49x0 (zn (gk yS) hb) rfl) (sk xJ) ?_
   refine zr rfl rfl (fun hb=>zX rfl qx (zn (gk xl) hb) (zt rfl) (zb rfl)) (sk xM) ?_
   refine zr rfl rfl (fun hb=>zf rfl yl (zb rfl)) (sk wv) ?_
   refine zr rfl rfl (fun hb=>zf rfl yD (zb rfl)) (sk yF) ?_
   refine zr rfl rfl (fun hb=>zy rfl (zn (gk yv) hb) rfl rfl) (sk yL) ?_
   refine xe hF (fun hg18 hF=>?_)
   refine zr rfl rfl (fun hb=>yH default rfl wO (zn (gk xy) hb) (zn (gk yA) hb) xZ (hg18 hb)) (sk yQ) ?_
   refine zr rfl rfl (fun hb=>zj rfl fo49x1 (zn (gk yK) hb) rfl) (sk yW) ?_
   refine zr rfl rfl (fun hb=>zX rfl ty41.choose_spec.1 (zn (gk yN) hb) (zK (cs':=[.int .u8 (((l0).getD (IntKind.wrap .i64 ((n1:Int) - (1:Int))).toNat default).dot.actor.rep),.int .u32 (((l0).getD (IntKind.wrap .i64 ((n1:Int) - (1:Int))).toNat default).dot.actor.inc),.int .u64 (((l0).getD (IntKind.wrap .i64 ((n1:Int) - (1:Int))).toNat default).dot.seq)]) ty41.choose_spec.2 rfl rfl) (zb rfl)) (sk y3) ?_
   refine zr rfl rfl (fun hb=>zj rfl fo49x0 yS rfl) (sk y2) ?_
   refine zr rfl rfl (fun hb=>zA rfl qx (zn (gk yR) hb) rfl (zt rfl) (zb rfl)) (sk xd) ?_
   refine zr rfl rfl (fun hb=>zj rfl fo49x1 yS rfl) (sk xi) ?_
   refine zr rfl rfl (fun hb=>zA rfl ty41.choose_spec.1 (zn (gk xj) hb) rfl (zK (cs':=[.int .u8 x1.dot.actor.rep,.int .u32 x1.dot.actor.inc,.int .u64 x1.dot.seq]) ty41.choose_spec.2 rfl rfl) (zb rfl)) (sk xr) ?_
   refine yO hF (fun v19 hv19 hF=>?_)
   refine wp rfl rfl (fun hb=>zF rfl rfl rfl (zp (zn (gk xc) hb) (zp (zn (gk y6) hb) (zp (zn (gk xb) hb) (zp (zn (gk xp) hb) zx)))) (.cons (zb rfl) (.cons (zb rfl) (.cons (zb rfl) (.cons (zb rfl) .nil))))) (fun hb=>ok75 (hv19 hb)) (sk xE) ?_
   refine zr rfl rfl (fun hb=>xF rfl (zn (gk xH) hb) rfl) (sk xR) ?_
   refine zo rfl rfl (zM rfl (gk yT) (gk xO) rfl (zV (fun ht=>gT ht))) (sk xY) ?_
   refine yh ?_
   refine zi ?_
   refine zL (gk xV) hF (fun hc20 hF=>?_) (fun hc20 hF=>?_)
   ·refine zk (zd ?_)
    refine zc rfl (zg rfl rfl (zb rfl)) yu ?_
    refine ze (zi (zH ?_))
    refine zC ?_
    refine zw ?_
    refine yb ?_
    obtain rfl:=Option.some.inj hF
    replace hF:=hK1
    refine zC ?_
    refine zw ?_
    obtain rfl:=Option.some.inj hF
    refine zz rfl (zD yz zE) (zB (leV.refl _) rfl ?_)
    exact ⟨rfl,rfl⟩
   ·refine zG (yc (zi (zd ?_)))
    refine zc rfl (zy rfl xy rfl rfl) (sk x7) ?_
    refine zc rfl (zf rfl (gk x9) (zb rfl)) wv ?_
    refine ze (yp ?_)
    obtain rfl:=Option.some.inj hF
    exact ⟨(),hl1,hK1,wk.trans (wk.le (by exact (.eq (.eq (.d4 (.drop (.eq (.eq (.cons (leV.of_eq (wn (by omega) (by omega))) (.d16 (.d16 (.d16 (.d4 (.d4 leL.nil)))))))))))))) (vG (by simp [yj,AV.low]) rfl rfl (by simp [Blk.low,yj,AV.low]))⟩
 ·refine yx ?_
  refine zW ?_
  refine zP ?_
  refine zQ ?_
  refine zi (zk (zd ?_))
  refine zc rfl (zf rfl yl (zb rfl)) (sk xQ) ?_
  refine zU hF (fun v21 hv21 hF=>?_)
  refine zN rfl (zF rfl rfl rfl (zp (gk xB) zx) (.cons (zb rfl) .nil)) (ok76 hv21) (sk wc) ?_
  refine zc rfl (xF rfl (gk wg) rfl) (sk wb) ?_
  refine zc rfl (zg rfl (gk x4) (zb rfl)) yu ?_
  refine ze (zi (zH ?_))
  obtain rfl:=Option.some.inj hF
  refine zz rfl (zD yz zE) (zB (leV.refl _) rfl ?_)
  exact ⟨rfl,rfl⟩
theorem ok51 {l0:GLeaf} {res:Bool} {h:AH}  (hF:leafMay l0=some res):Spec Try.prog 51 [.agg [.int .u8 l0.typ,.int .i64 l0.n,.int .u64 l0.time,.int .u8 l0.dot.actor.rep,.int .u32 l0.dot.actor.inc,.int .u64 l0.dot.seq,.str l0.text,.sl 5 (l0.items.map GItem.row),.sl 3 (l0.tombs.map GDot.row)]] h (fun rr hh=>rr=.bool res∧hh=h):=by
 unfold leafMay at hF
 refine zu Try.func51 rfl (by kernel_rfl) (env:=[.agg [.int .u8 l0.typ,.int .i64 l0.n,.int .u64 l0.time,.int .u8 l0.dot.actor.rep,.int .u32 l0.dot.actor.inc,.int .u64 l0.dot.seq,.str l0.text,.sl 5 (l0.items.map GItem.row),.sl 3 (l0.tombs.map GDot.row)],za,za,za,za,za,za,za,za,za,za,za,za,za,za,za,za,za,za,za,za,za,za,za,za,za,za,za,za,za,za,za,za,za,za,za,za,za,za,za,za,za,za,za,za,za,za,za,za,za,za,za,za,za,za,za,za,za,za,za,za,za,za,za,za,za,za,za,za,za,za,za,za,za,za,za,za,za,za,za,za,za,za,za,za,za,za,za,za]) (by rfl) ?_
 refine zk (zd ?_)
 refine zc rfl (xI (n:=0) rfl yl (zb rfl) rfl rfl) st1 ?_
 refine zc rfl (zg rfl rfl (zb rfl)) yU ?_
 refine ze (zi (zk (zd ?_)))
 refine zc rfl (zj rfl wy yw rfl) yu ?_
 refine zc rfl (zA rfl ty5 yz rfl (zt rfl) (zb rfl)) xg ?_
 refine zc rfl (s_build (cs':=[.int .u8 l0.typ,.int .i64 (0:Int),.int .u64 (0:Int),.int .u8 (0:Int),.int .u32 (0:Int),.int .u64 (0:Int),.str ([]:zR),.osl none 5 (([]:List GItem).map GItem.row),.osl none 3 (([]:List GDot).map GDot.row)]) rfl su45 ze45 pl45 (zY yD ye) (.cons (zb rfl) .nil) rfl rfl) xn ?_
 refine zc rfl (wt (n:=1) rfl ze45 rfl) x5 ?_
 refine zc rfl (yP (cs':=[.int .u8 l0.typ,.int .i64 (0:Int),.int .u64 (0:Int),.int .u8 (0:Int),.int .u32 (0:Int),.int .u64 (0:Int),.str ([]:zR),.osl none 5 (([]:List GItem).map GItem.row),.osl none 3 (([]:List GDot).map GDot.row)]) rfl ty45.choose_spec.1 y8 yS (zb rfl) rfl rfl rfl rfl rfl) rfl ?_
 refine ze (zi (zk (zk (zd ?_))))
 refine zc rfl (zj rfl wy yw rfl) xJ ?_
 refine zc rfl (zA rfl ty5 xl rfl (zt rfl) (zb rfl)) xM ?_
 refine ze (zi (zJ (zk (zd ?_))))
 refine zc rfl (zy rfl xc rfl rfl) yF ?_
 refine zc rfl (zg rfl yv (zb rfl)) wv ?_
 refine ze (zi ?_)
 refine zL xy hF (fun hc1 hF=>?_) (fun hc1 hF=>?_)
 ·refine zd ?_
  refine zc rfl (zj rfl fo45x1 yw rfl) yL ?_
  refine zc rfl (zA rfl ty2 yA rfl (zt rfl) (zb rfl)) yQ ?_
  refine zc rfl (zj rfl fo45x1 y8 rfl) yW ?_
  refine zc rfl (yP (cs':=[.int .u8 l0.typ,.int .i64 l0.n,.int .u64 (0:Int),.int .u8 (0:Int),.int .u32 (0:Int),.int .u64 (0:Int),.str ([]:zR),.osl none 5 (([]:List GItem).map GItem.row),.osl none 3 (([]:List GDot).map GDot.row)]) rfl ty2 yN yK (zb rfl) rfl rfl rfl rfl rfl) rfl ?_
  refine ze (yc (zi (zk (zd ?_))))
  refine zc rfl (zA rfl ty45.choose_spec.1 yw rfl (zK (cs':=[.int .u8 l0.typ,.int .i64 l0.n,.int .u64 l0.time,.int .u8 l0.dot.actor.rep,.int .u32 l0.dot.actor.inc,.int .u64 l0.dot.seq,.str l0.text,.sl 5 (l0.items.map GItem.row),.sl 3 (l0.tombs.map GDot.row)]) ty45.choose_spec.2 rfl rfl) (zb rfl)) (sk (sk xn)) ?_
  refine zc rfl (zA rfl ty45.choose_spec.1 y8 rfl (zK (cs':=[.int .u8 l0.typ,.int .i64 l0.n,.int .u64 (0:Int),.int .u8 (0:Int),.int .u32 (0:Int),.int .u64 (0:Int),.str ([]:zR),.osl none 5 (([]:List GItem).map GItem.row),.osl none 3 (([]:List GDot).map GDot.row)]) ty45.choose_spec.2 rfl rfl) (zb rfl)) (sk (sk xJ)) ?_
  refine zU hF (fun v2 hv2 hF=>?_)
  refine zN rfl (zF rfl rfl rfl (zp (gk (gk yS)) (zp (gk (gk xl)) zx)) (.cons (zb rfl) (.cons (zb rfl) .nil))) ((ok65 hv2).le (.eq (.cons (leV.agg (.eq (.eq (.eq (.eq (.eq (.eq (.eq (.cons (leV.osl _ _ _) (.cons (leV.osl _ _ _) leL.nil))))))))) rfl) leL.nil))) (sk (sk xM)) ?_
  refine zc rfl (zg rfl (gk (gk xc)) (zb rfl)) yU ?_
  refine ze (zi (zH ?_))
  obtain rfl:=Option.some.inj hF
  refine zz rfl (zD yT zE) (zB (leV.refl _) rfl ?_)
  exact ⟨rfl,rfl⟩
 ·refine zk (zd ?_)
  refine zc rfl (zy rfl xc rfl rfl) y2 ?_
  refine zc rfl (zg rfl yR (zb rfl)) y3 ?_
  refine ze (zi ?_)
  refine zL y6 hF (fun hc3 hF=>?_) (fun hc3 hF=>?_)
  ·refine zk ?_
   refine yk [3,5] [(3,[(0,.cells [.int .u8 l0.typ,.int .i64 l0.n,.int .u64 l0.time,.int .u8 l0.dot.actor.rep,.int .u32 l0.dot.actor.inc,.int .u64 l0.dot.seq,.str l0.text,.sl 5 (l0.items.map GItem.row),.sl 3 (l0.tombs.map GDot.row)])]),(5,[(0,.cells [.int .u8 l0.typ,.int .i64 l0.n,.int .u64 l0.time,.int .u8 l0.dot.actor.rep,.int .u32 l0.dot.actor.inc,.int .u64 l0.dot.seq,.str l0.text,.sl 5 (l0.items.map GItem.row),.sl 3 (l0.tombs.map GDot.row)])])] ⟨⟨rfl,trivial⟩,⟨rfl,trivial⟩,trivial⟩ mixed (by kernel_rfl) ?_
   refine zo rfl rfl (zj rfl fo45x2 yw rfl) xd ?_
   refine zo rfl rfl (zA rfl qx xb rfl (zt rfl) (zb rfl)) xi ?_
   refine zo rfl rfl (zj rfl fo45x3 yw rfl) xr ?_
   refine draw_okN rfl rfl (by rintro _ ⟨B2,T2,rfl,hk2⟩;exact zA rfl ty41.choose_spec.1 xp (keeps1 hk2) (zK (cs':=[.int .u8 l0.dot.actor.rep,.int .u32 l0.dot.actor.inc,.int .u64 l0.dot.seq]) ty41.choose_spec.2 rfl rfl) (zb rfl)) xE ?_
   refine zo rfl rfl (zj rfl fo45x4 yw rfl) xR ?_
   refine draw_okN rfl rfl (by rintro _ ⟨B2,T2,rfl,hk2⟩;exact zA rfl qa xO (keeps1 hk2) (zt rfl) (zb rfl)) xY ?_
   refine zo rfl rfl (zj rfl fo45x2 y8 rfl) x7 ?_
   refine xX rfl (FOk.cons (.inr (qD ⟨rfl,trivial⟩)) (FOk.cons (.inr (qD ⟨rfl,trivial⟩)) FOk.nil)) (by kernel_rfl) rfl (yP (cs':=[.int .u8 l0.typ,.int .i64 (0:Int),.int .u64 l0.time,.int .u8 (0:Int),.int .u32 (0:Int),.int .u64 (0:Int),.str ([]:zR),.osl none 5 (([]:List GItem).map GItem.row),.osl none 3 (([]:List GDot).map GDot.row)]) rfl qx x9 xj (zb rfl) rfl rfl rfl rfl rfl) rfl ?_
   refine zo rfl rfl (zj rfl fo45x3 y8 rfl) xQ ?_
   refine xX rfl (FOk.cons (.inr (qD ⟨rfl,trivial⟩)) (FOk.cons (.inr (qD ⟨rfl,trivial⟩)) FOk.nil)) (by kernel_rfl) rfl (yP (cs':=[.int .u8 l0.typ,.int .i64 (0:Int),.int .u64 l0.time,.int .u8 l0.dot.actor.rep,.int .u32 l0.dot.actor.inc,.int .u64 l0.dot.seq,.str ([]:zR),.osl none 5 (([]:List GItem).map GItem.row),.osl none 3 (([]:List GDot).map GDot.row)]) rfl ty41.choose_spec.1 xB xH (zb rfl) rfl rfl rfl rfl rfl) rfl ?_
   refine zo rfl rfl (zj rfl fo45x4 y8 rfl) wc ?_
   refine xX rfl (FOk.cons (.inr (qD ⟨rfl,trivial⟩)) (FOk.cons (.inr (qD ⟨rfl,trivial⟩)) FOk.nil)) (by kernel_rfl) rfl (yP (cs':=[.int .u8 l0.typ,.int .i64 (0:Int),.int .u64 l0.time,.int .u8 l0.dot.actor.rep,.int .u32 l0.dot.actor.inc,.int .u64 l0.dot.seq,.str l0.text,.osl none 5 (([]:List GItem).map GItem.row),.osl none 3 (([]:List GDot).map GDot.row)]) rfl qa wg xV (zb rfl) rfl rfl rfl rfl rfl) rfl ?_
   refine yh ?_
   refine zi (zk (zd ?_))
   refine zc rfl (zj rfl fo45x2 yw rfl) wb ?_
   refine zc rfl (zA rfl qx x4 rfl (zt rfl) (zb rfl)) wJ ?_
   refine zc rfl (zy rfl wF rfl rfl) wR ?_
   refine zc rfl (zf rfl wU (zb rfl)) wZ ?_
   refine zq rfl (fun hb=>zj rfl fo45x2 yw rfl) vf ?_
   refine zq rfl (fun hb=>zA rfl qx (zn vo hb) rfl (zt rfl) (zb rfl)) ve ?_
   refine yO hF (fun v4 hv4 hF=>?_)
   refine ym rfl (fun hb=>zF rfl rfl rfl (zp (zn vn hb) zx) (.cons (zb rfl) .nil)) (fun hb=>ok60 (hv4 hb)) vd ?_
   refine zq rfl (fun hb=>zf rfl (zn vm hb) (zb rfl)) vc ?_
   refine zq (z7 rfl rfl rfl) (fun hb=>zj rfl fo45x3 yw rfl) vu ?_
   refine zq (z7 rfl rfl rfl) (fun hb=>zA rfl ty41.choose_spec.1 (zn vA hb) rfl (zK (cs':=[.int .u8 l0.dot.actor.rep,.int .u32 l0.dot.actor.inc,.int .u64 l0.dot.seq]) ty41.choose_spec.2 rfl rfl) (zb rfl)) vt ?_
   refine yO hF (fun v5 hv5 hF=>?_)
   refine ym (z7 rfl rfl rfl) (fun hb=>zF rfl rfl rfl (zp (zn vl hb) zx) (.cons (zb rfl) .nil)) (fun hb=>ok61 (hv5 hb)) vb ?_
   refine zq rfl (fun hb=>zM rfl (zn w5 hb) vk rfl (zV (fun ht=>gT2 hb ht))) wQ ?_
   refine zq rfl (fun hb=>zf rfl (zn wN hb) (zb rfl)) va ?_
   refine zq (z7 rfl rfl rfl) (fun hb=>zj rfl fo45x4 yw rfl) vE ?_
   refine zq (z7 rfl rfl rfl) (fun hb=>zA rfl qa (zn vz hb) rfl (zt rfl) (zb rfl)) vJ ?_
   refine yO hF (fun v6 hv6 hF=>?_)
   refine ym (z7 rfl rfl rfl) (fun hb=>zF rfl rfl rfl (zp (zn vF hb) zx) (.cons (zb rfl) .nil)) (fun hb=>ok62 (hv6 hb)) (sk st0) ?_
   refine zq rfl (fun hb=>zM rfl (zn vj hb) (gk yl) rfl (zV (fun ht=>gT2 hb ht))) (sk st1) ?_
   refine zq rfl (fun hb=>xF rfl (zn (gk yw) hb) rfl) (sk yU) ?_
   refine zc rfl (zM rfl w6 (gk yT) rfl (zV (fun ht=>gT ht))) (sk x5) ?_
   refine zc rfl (zf rfl (gk y8) (zb rfl)) (sk yu) ?_
   refine zq rfl (fun hb=>zj rfl fo45x2 yw rfl) (sk xg) ?_
   refine zq rfl (fun hb=>zA rfl qx (zn (gk yD) hb) rfl (zt rfl) (zb rfl)) (sk xn) ?_
   refine zq rfl (fun hb=>zy rfl (zn (gk yS) hb) rfl rfl) (sk xJ) ?_
   refine zq rfl (fun hb=>zf rfl (zn (gk xl) hb) (zb rfl)) (sk xM) ?_
   refine zq (z7 rfl rfl rfl) (fun hb=>zj rfl fo45x3 yw rfl) (sk wv) ?_
   refine zq (z7 rfl rfl rfl) (fun hb=>zA rfl ty41.choose_spec.1 (zn (gk xy) hb) rfl (zK (cs':=[.int .u8 l0.dot.actor.rep,.int .u32 l0.dot.actor.inc,.int .u64 l0.dot.seq]) ty41.choose_spec.2 rfl rfl) (zb rfl)) (sk yF) ?_
   refine zq (z7 rfl rfl rfl) (fun hb=>s_build (cs':=[.int .u8 (0:Int),.int .u32 (0:Int),.int .u64 (0:Int)]) rfl su41 ze41 pl41 ye .nil rfl rfl) (sk yL) ?_
   refine zq (z7 rfl rfl rfl) (fun hb=>zy rfl (zn (gk yv) hb) (zn (gk yA) hb) (bin_ne pk41 rfl)) (sk yQ) ?_
   refine zq (z7 rfl rfl rfl) (fun hb=>zf rfl (zn (gk yK) hb) (zb rfl)) (sk yW) ?_
   refine zq (z7 rfl rfl rfl) (fun hb=>zj rfl fo45x4 yw rfl) (sk y3) ?_
   refine zq (z7 rfl rfl rfl) (fun hb=>zA rfl qa (zn (gk y6) hb) rfl (zt rfl) (zb rfl)) (sk y2) ?_
   refine zq (z7 rfl rfl rfl) (fun hb=>zy rfl (zn (gk yR) hb) rfl rfl) (sk xd) ?_
   refine zq (z7 rfl rfl rfl) (fun hb=>zM rfl (zn (gk yN) hb) rfl (gk xb) (yd (fun ht=>gF2 hb ht))) (sk xi) ?_
   refine zq rfl (fun hb=>zM rfl (zn (gk xc) hb) (gk xj) rfl (zV (fun ht=>gT2 hb ht))) (sk xr) ?_
   refine zc rfl (zM rfl (gk yz) rfl (gk xp) (yd (fun ht=>gF ht))) (sk xE) ?_
   refine ze (zi ?_)
   refine zL (gk xH) hF (fun hc7 hF=>?_) (fun hc7 hF=>?_)
   ·refine zk (zd ?_)
    refine zc rfl (zg rfl rfl (zb rfl)) yU ?_
    refine ze (zi (zH ?_))
    refine zC ?_
    refine zw ?_
    obtain rfl:=Option.some.inj hF
    refine zz rfl (zD yT zE) (zB (leV.refl _) rfl ?_)
    exact ⟨rfl,rfl⟩
   ·refine zG (yc (zi (zk (zd ?_))))
    refine zc rfl (zA rfl ty45.choose_spec.1 yw rfl (zK (cs':=[.int .u8 l0.typ,.int .i64 l0.n,.int .u64 l0.time,.int .u8 l0.dot.actor.rep,.int .u32 l0.dot.actor.inc,.int .u64 l0.dot.seq,.str l0.text,.sl 5 (l0.items.map GItem.row),.sl 3 (l0.tombs.map GDot.row)]) ty45.choose_spec.2 rfl rfl) (zb rfl)) (sk (sk xn)) ?_
    refine zc rfl (zA rfl ty45.choose_spec.1 y8 rfl (zK (cs':=[.int .u8 l0.typ,.int .i64 (0:Int),.int .u64 l0.time,.int .u8 l0.dot.actor.rep,.int .u32 l0.dot.actor.inc,.int .u64 l0.dot.seq,.str l0.text,.osl none 5 (([]:List GItem).map GItem.row),.osl none 3 (([]:List GDot).map GDot.row)]) ty45.choose_spec.2 rfl rfl) (zb rfl)) (sk (sk xJ)) ?_
    refine zU hF (fun v8 hv8 hF=>?_)
    refine zN rfl (zF rfl rfl rfl (zp (gk (gk yS)) (zp (gk (gk xl)) zx)) (.cons (zb rfl) (.cons (zb rfl) .nil))) ((ok65 hv8).le (.eq (.cons (leV.agg (.eq (.eq (.eq (.eq (.eq (.eq (.eq (.cons (leV.osl _ _ _) (.cons (leV.osl _ _ _) leL.nil))))))))) rfl) leL.nil))) (sk (sk xM)) ?_
    refine zc rfl (zg rfl (gk (gk xc)) (zb rfl)) yU ?_
    refine ze (zi (zH ?_))
    obtain rfl:=Option.some.inj hF
    refine zz rfl (zD yT zE) (zB (leV.refl _) rfl ?_)
    exact ⟨rfl,rfl⟩
  ·refine zk (zd ?_)
   refine zc rfl (zy rfl xc rfl rfl) (sk xY) ?_
   refine zc rfl (zg rfl (gk xV) (zb rfl)) (sk xR) ?_
   refine ze (zi ?_)
   refine zL (gk xO) hF (fun hc9 hF=>?_) (fun hc9 hF=>?_)
   ·refine zk ?_
    refine yk [3] [(3,[(0,.cells [.int .u8 l0.typ,.int .i64 l0.n,.int .u64 l0.time,.int .u8 l0.dot.actor.rep,.int .u32 l0.dot.actor.inc,.int .u64 l0.dot.seq,.str l0.text,.sl 5 (l0.items.map GItem.row),.sl 3 (l0.tombs.map GDot.row)])])] ⟨⟨rfl,trivial⟩,trivial⟩ mixed (by kernel_rfl) ?_
    refine zo rfl rfl (zj rfl xC yw rfl) (sk x7) ?_
    refine zo rfl rfl (zA rfl qL (gk x9) rfl (zt rfl) (zb rfl)) (sk xQ) ?_
    refine zo rfl rfl (zj rfl wx yw rfl) (sk wc) ?_
    refine draw_okN rfl rfl (by rintro _ ⟨B2,T2,rfl,hk2⟩;exact zA rfl ty43 (gk wg) (keeps1 hk2) (zt rfl) (zb rfl)) (sk wb) ?_
    refine zo rfl rfl (zj rfl xC y8 rfl) (sk wJ) ?_
    refine xX rfl (FOk.cons (.inr (qD ⟨rfl,trivial⟩)) FOk.nil) (by kernel_rfl) rfl (yP (cs':=[.int .u8 l0.typ,.int .i64 (0:Int),.int .u64 (0:Int),.int .u8 (0:Int),.int .u32 (0:Int),.int .u64 (0:Int),.str ([]:zR),.sl 5 (l0.items.map GItem.row),.osl none 3 (([]:List GDot).map GDot.row)]) rfl qL (gk wF) (gk xB) (zb rfl) rfl rfl rfl rfl rfl) rfl ?_
    refine zo rfl rfl (zj rfl wx y8 rfl) (sk wR) ?_
    refine xX rfl (FOk.cons (.inr (qD ⟨rfl,trivial⟩)) FOk.nil) (by kernel_rfl) rfl (yP (cs':=[.int .u8 l0.typ,.int .i64 (0:Int),.int .u64 (0:Int),.int .u8 (0:Int),.int .u32 (0:Int),.int .u64 (0:Int),.str ([]:zR),.sl 5 (l0.items.map GItem.row),.sl 3 (l0.tombs.map GDot.row)]) rfl ty43 (gk wU) (gk x4) (zb rfl) rfl rfl rfl rfl rfl) rfl ?_
    refine yh ?_
    refine zi (zk (zd ?_))
    refine zc rfl (zj rfl xC yw rfl) (sk wZ) ?_
    refine zc rfl (zA rfl qL (gk w6) rfl (zt rfl) (zb rfl)) (sk vf) ?_
    refine zU hF (fun v10 hv10 hF=>?_)
    refine zN rfl (zF rfl rfl rfl (zp (gk vo) (zp rfl zx)) (.cons (zb rfl) (.cons (zb rfl) .nil))) (ok63 hv10) (sk ve) ?_
    refine zc rfl (xF rfl (gk vn) rfl) (sk vd) ?_
    refine zc rfl (zf rfl (gk vm) (zb rfl)) (sk vc) ?_
    refine zq rfl (fun hb=>zA rfl ty45.choose_spec.1 yw rfl (zK (cs':=[.int .u8 l0.typ,.int .i64 l0.n,.int .u64 l0.time,.int .u8 l0.dot.actor.rep,.int .u32 l0.dot.actor.inc,.int .u64 l0.dot.seq,.str l0.text,.sl 5 (l0.items.map GItem.row),.sl 3 (l0.tombs.map GDot.row)]) ty45.choose_spec.2 rfl rfl) (zb rfl)) (sk vu) ?_
    refine yO hF (fun v11 hv11 hF=>?_)
    refine ym rfl (fun hb=>zF rfl rfl rfl (zp (zn (gk vA) hb) zx) (.cons (zb rfl) .nil)) (fun hb=>ok64 (hv11 hb)) (sk vt) ?_
    refine zq rfl (fun hb=>xF rfl (zn (gk vl) hb) rfl) (sk vb) ?_
    refine zc rfl (zM rfl (gk w5) rfl (gk vk) (yd (fun ht=>gF ht))) (sk wQ) ?_
    refine ze (zi ?_)
    refine zL (gk wN) hF (fun hc12 hF=>?_) (fun hc12 hF=>?_)
    ·refine zk (zd ?_)
     refine zc rfl (zg rfl rfl (zb rfl)) yU ?_
     refine ze (zi (zH ?_))
     refine zC ?_
     refine zw ?_
     obtain rfl:=Option.some.inj hF
     refine zz rfl (zD yT zE) (zB (leV.refl _) rfl ?_)
     exact ⟨rfl,rfl⟩
    ·refine zG (yc (zi (zk (zd ?_))))
     refine zc rfl (zA rfl ty45.choose_spec.1 yw rfl (zK (cs':=[.int .u8 l0.typ,.int .i64 l0.n,.int .u64 l0.time,.int .u8 l0.dot.actor.rep,.int .u32 l0.dot.actor.inc,.int .u64 l0.dot.seq,.str l0.text,.sl 5 (l0.items.map GItem.row),.sl 3 (l0.tombs.map GDot.row)]) ty45.choose_spec.2 rfl rfl) (zb rfl)) (sk (sk xn)) ?_
     refine zc rfl (zA rfl ty45.choose_spec.1 y8 rfl (zK (cs':=[.int .u8 l0.typ,.int .i64 (0:Int),.int .u64 (0:Int),.int .u8 (0:Int),.int .u32 (0:Int),.int .u64 (0:Int),.str ([]:zR),.sl 5 (l0.items.map GItem.row),.sl 3 (l0.tombs.map GDot.row)]) ty45.choose_spec.2 rfl rfl) (zb rfl)) (sk (sk xJ)) ?_
     refine zU hF (fun v13 hv13 hF=>?_)
     refine zN rfl (zF rfl rfl rfl (zp (gk (gk yS)) (zp (gk (gk xl)) zx)) (.cons (zb rfl) (.cons (zb rfl) .nil))) (ok65 hv13) (sk (sk xM)) ?_
     refine zc rfl (zg rfl (gk (gk xc)) (zb rfl)) yU ?_
     refine ze (zi (zH ?_))
     obtain rfl:=Option.some.inj hF
     refine zz rfl (zD yT zE) (zB (leV.refl _) rfl ?_)
     exact ⟨rfl,rfl⟩
   ·refine zk (zd ?_)
    refine zc rfl (zy rfl xc rfl rfl) (sk vE) ?_
    refine zc rfl (zg rfl (gk vz) (zb rfl)) (sk va) ?_
    refine ze (zi ?_)
    refine zL (gk vj) hF (fun hc14 hF=>?_) (fun hc14 hF=>?_)
    ·refine zk (zd ?_)
     refine zc rfl (zj rfl xC yw rfl) (sk vJ) ?_
     refine zc rfl (zA rfl qL (gk vF) rfl (zt rfl) (zb rfl)) (sk (sk st0)) ?_
     refine zc rfl (zj rfl xC y8 rfl) (sk (sk st1)) ?_
     refine zc rfl (yP (cs':=[.int .u8 l0.typ,.int .i64 (0:Int),.int .u64 (0:Int),.int .u8 (0:Int),.int .u32 (0:Int),.int .u64 (0:Int),.str ([]:zR),.sl 5 (l0.items.map GItem.row),.osl none 3 (([]:List GDot).map GDot.row)]) rfl qL (gk (gk yw)) (gk (gk yl)) (zb rfl) rfl rfl rfl rfl rfl) rfl ?_
     refine ze (zi (zk (zd ?_)))
     refine zc rfl (zj rfl xC yw rfl) (sk (sk yU)) ?_
     refine zc rfl (zA rfl qL (gk (gk yT)) rfl (zt rfl) (zb rfl)) (sk (sk x5)) ?_
     refine zU hF (fun v15 hv15 hF=>?_)
     refine zN rfl (zF rfl rfl rfl (zp (gk (gk y8)) (zp rfl zx)) (.cons (zb rfl) (.cons (zb rfl) .nil))) (ok63 hv15) (sk (sk yu)) ?_
     refine zc rfl (xF rfl (gk (gk yz)) rfl) (sk (sk xg)) ?_
     refine ze (zi ?_)
     refine zL (gk (gk yD)) hF (fun hc16 hF=>?_) (fun hc16 hF=>?_)
     ·refine zk (zd ?_)
      refine zc rfl (zg rfl rfl (zb rfl)) yU ?_
      refine ze (zi (zH ?_))
      refine zC ?_
      refine zw ?_
      obtain rfl:=Option.some.inj hF
      refine zz rfl (zD yT zE) (zB (leV.refl _) rfl ?_)
      exact ⟨rfl,rfl⟩
     ·refine zG (yc (zi (zk (zd ?_))))
      refine zc rfl (zA rfl ty45.choose_spec.1 yw rfl (zK (cs':=[.int .u8 l0.typ,.int .i64 l0.n,.int .u64 l0.time,.int .u8 l0.dot.actor.rep,.int .u32 l0.dot.actor.inc,.int .u64 l0.dot.seq,.str l0.text,.sl 5 (l0.items.map GItem.row),.sl 3 (l0.tombs.map GDot.row)]) ty45.choose_spec.2 rfl rfl) (zb rfl)) (sk (sk xn)) ?_
      refine zc rfl (zA rfl ty45.choose_spec.1 y8 rfl (zK (cs':=[.int .u8 l0.typ,.int .i64 (0:Int),.int .u64 (0:Int),.int .u8 (0:Int),.int .u32 (0:Int),.int .u64 (0:Int),.str ([]:zR),.sl 5 (l0.items.map GItem.row),.osl none 3 (([]:List GDot).map GDot.row)]) ty45.choose_spec.2 rfl rfl) (zb rfl)) (sk (sk xJ)) ?_
      refine zU hF (fun v17 hv17 hF=>?_)
      refine zN rfl (zF rfl rfl rfl (zp (gk (gk yS)) (zp (gk (gk xl)) zx)) (.cons (zb rfl) (.cons (zb rfl) .nil))) ((ok65 hv17).le (.eq (.cons (leV.agg (.eq (.eq (.eq (.eq (.eq (.eq (.eq (.eq (.cons (leV.osl _ _ _) leL.nil))))))))) rfl) leL.nil))) (sk (sk xM)) ?_
      refine zc rfl (zg rfl (gk (gk xc)) (zb rfl)) yU ?_
      refine ze (zi (zH ?_))
      obtain rfl:=Option.some.inj hF
      refine zz rfl (zD yT zE) (zB (leV.refl _) rfl ?_)
      exact ⟨rfl,rfl⟩
    ·refine zk (zd ?_)
     refine zc rfl (zg rfl rfl (zb rfl)) yU ?_
     refine ze (zi (zH ?_))
     refine zC ?_
     refine zw ?_
     obtain rfl:=Option.some.inj hF
     refine zz rfl (zD yT zE) (zB (leV.refl _) rfl ?_)
     exact ⟨rfl,rfl⟩
end Go.Vv
