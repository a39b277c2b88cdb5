/- Each function that the law reaches computes what its reading says; printed by a program. -/
import Derived.Test.YtbaclapbinkedaaVvMl
import Derived.Test.YtbaclapbinkedaaVvRb
import Derived.Test.YtbaclapbinkedaaVvPt
import Derived.Test.YtbaclapbinkedaaVvTk
import Derived.Test.YtbaclapbinkedaaVvR1
import Derived.Test.YtbaclapbinkedaaVvNp
import Derived.Test.YtbaclapbinkedaaVvZ
import Derived.Test.YtbaclapbinkedaaVvAn
import Derived.Test.YtbaclapbinkedaaVvLb
import Derived.Test.YtbaclapbinkedaaVvLc
import Derived.Test.YtbaclapbinkedaaVvMr
import Derived.Test.YtbaclapbinkedaaVvIt
import Derived.Test.YtbaclapbinkedaaVvRd
import Derived.Test.YtbaclapbinkedaaD
import Derived.Test.YtbaclapbinkedaaProg
namespace Go.Vv
open Go Go.Proofs
set_option maxRecDepth 100000
set_option maxHeartbeats 1000000
set_option linter.unusedSimpArgs false
set_option linter.unusedVariables false
section
variable {v a0 a1 a2 a3 a4 a5 a6 a7 a8 a9 a10 a11 a12 a13 a14 a15 a16 a17 a18 a19 a20 a21 a22 a23 a24 a25 a26 a27 a28 a29 a30 a31 a32 a33 a34 a35 a36 a37 a38 a39:AV} {r q:List AV} {t:Nat}
theorem yd:yZ (a0::r) (.tmp 0)=some a0:=rfl
theorem st0:vl (some 0) (a0::r) v=some (v::r):=rfl
theorem yo:yZ (a0::a1::r) (.tmp 1)=some a1:=rfl
theorem st1:vl (some 1) (a0::a1::r) v=some (a0::v::r):=rfl
theorem yQ:yZ (a0::a1::a2::r) (.tmp 2)=some a2:=rfl
theorem xj:vl (some 2) (a0::a1::a2::r) v=some (a0::a1::v::r):=rfl
theorem yY:yZ (a0::a1::a2::a3::r) (.tmp 3)=some a3:=rfl
theorem wA:vl (some 3) (a0::a1::a2::a3::r) v=some (a0::a1::a2::v::r):=rfl
theorem yG:yZ (a0::a1::a2::a3::a4::r) (.tmp 4)=some a4:=rfl
theorem yK:vl (some 4) (a0::a1::a2::a3::a4::r) v=some (a0::a1::a2::a3::v::r):=rfl
theorem yX:yZ (a0::a1::a2::a3::a4::a5::r) (.tmp 5)=some a5:=rfl
theorem xI:vl (some 5) (a0::a1::a2::a3::a4::a5::r) v=some (a0::a1::a2::a3::a4::v::r):=rfl
theorem y5:yZ (a0::a1::a2::a3::a4::a5::a6::r) (.tmp 6)=some a6:=rfl
theorem xT:vl (some 6) (a0::a1::a2::a3::a4::a5::a6::r) v=some (a0::a1::a2::a3::a4::a5::v::r):=rfl
theorem xE:yZ (a0::a1::a2::a3::a4::a5::a6::a7::r) (.tmp 7)=some a7:=rfl
theorem x9:vl (some 7) (a0::a1::a2::a3::a4::a5::a6::a7::r) v=some (a0::a1::a2::a3::a4::a5::a6::v::r):=rfl
theorem xu:yZ (a0::a1::a2::a3::a4::a5::a6::a7::a8::r) (.tmp 8)=some a8:=rfl
theorem xS:vl (some 8) (a0::a1::a2::a3::a4::a5::a6::a7::a8::r) v=some (a0::a1::a2::a3::a4::a5::a6::a7::v::r):=rfl
theorem x4:yZ (a0::a1::a2::a3::a4::a5::a6::a7::a8::a9::r) (.tmp 9)=some a9:=rfl
theorem wE:vl (some 9) (a0::a1::a2::a3::a4::a5::a6::a7::a8::a9::r) v=some (a0::a1::a2::a3::a4::a5::a6::a7::a8::v::r):=rfl
theorem yl:yZ (a0::a1::a2::a3::a4::a5::a6::a7::a8::a9::a10::r) (.tmp 10)=some a10:=rfl
theorem yC:vl (some 10) (a0::a1::a2::a3::a4::a5::a6::a7::a8::a9::a10::r) v=some (a0::a1::a2::a3::a4::a5::a6::a7::a8::a9::v::r):=rfl
theorem yh:yZ (a0::a1::a2::a3::a4::a5::a6::a7::a8::a9::a10::a11::r) (.tmp 11)=some a11:=rfl
theorem yz:vl (some 11) (a0::a1::a2::a3::a4::a5::a6::a7::a8::a9::a10::a11::r) v=some (a0::a1::a2::a3::a4::a5::a6::a7::a8::a9::a10::v::r):=rfl
theorem yJ:yZ (a0::a1::a2::a3::a4::a5::a6::a7::a8::a9::a10::a11::a12::r) (.tmp 12)=some a12:=rfl
theorem yL:vl (some 12) (a0::a1::a2::a3::a4::a5::a6::a7::a8::a9::a10::a11::a12::r) v=some (a0::a1::a2::a3::a4::a5::a6::a7::a8::a9::a10::a11::v::r):=rfl
theorem yE:yZ (a0::a1::a2::a3::a4::a5::a6::a7::a8::a9::a10::a11::a12::a13::r) (.tmp 13)=some a13:=rfl
theorem yO:vl (some 13) (a0::a1::a2::a3::a4::a5::a6::a7::a8::a9::a10::a11::a12::a13::r) v=some (a0::a1::a2::a3::a4::a5::a6::a7::a8::a9::a10::a11::a12::v::r):=rfl
theorem yP:yZ (a0::a1::a2::a3::a4::a5::a6::a7::a8::a9::a10::a11::a12::a13::a14::r) (.tmp 14)=some a14:=rfl
theorem yS:vl (some 14) (a0::a1::a2::a3::a4::a5::a6::a7::a8::a9::a10::a11::a12::a13::a14::r) v=some (a0::a1::a2::a3::a4::a5::a6::a7::a8::a9::a10::a11::a12::a13::v::r):=rfl
theorem yU:yZ (a0::a1::a2::a3::a4::a5::a6::a7::a8::a9::a10::a11::a12::a13::a14::a15::r) (.tmp 15)=some a15:=rfl
theorem yW:vl (some 15) (a0::a1::a2::a3::a4::a5::a6::a7::a8::a9::a10::a11::a12::a13::a14::a15::r) v=some (a0::a1::a2::a3::a4::a5::a6::a7::a8::a9::a10::a11::a12::a13::a14::v::r):=rfl
theorem yR:yZ (a0::a1::a2::a3::a4::a5::a6::a7::a8::a9::a10::a11::a12::a13::a14::a15::a16::r) (.tmp 16)=some a16:=rfl
theorem xa:vl (some 16) (a0::a1::a2::a3::a4::a5::a6::a7::a8::a9::a10::a11::a12::a13::a14::a15::a16::r) v=some (a0::a1::a2::a3::a4::a5::a6::a7::a8::a9::a10::a11::a12::a13::a14::a15::v::r):=rfl
theorem xb:yZ (a0::a1::a2::a3::a4::a5::a6::a7::a8::a9::a10::a11::a12::a13::a14::a15::a16::a17::r) (.tmp 17)=some a17:=rfl
theorem xd:vl (some 17) (a0::a1::a2::a3::a4::a5::a6::a7::a8::a9::a10::a11::a12::a13::a14::a15::a16::a17::r) v=some (a0::a1::a2::a3::a4::a5::a6::a7::a8::a9::a10::a11::a12::a13::a14::a15::a16::v::r):=rfl
theorem yD:yZ (a0::a1::a2::a3::a4::a5::a6::a7::a8::a9::a10::a11::a12::a13::a14::a15::a16::a17::a18::r) (.tmp 18)=some a18:=rfl
theorem xq:vl (some 18) (a0::a1::a2::a3::a4::a5::a6::a7::a8::a9::a10::a11::a12::a13::a14::a15::a16::a17::a18::r) v=some (a0::a1::a2::a3::a4::a5::a6::a7::a8::a9::a10::a11::a12::a13::a14::a15::a16::a17::v::r):=rfl
theorem xz:yZ (a0::a1::a2::a3::a4::a5::a6::a7::a8::a9::a10::a11::a12::a13::a14::a15::a16::a17::a18::a19::r) (.tmp 19)=some a19:=rfl
theorem xr:vl (some 19) (a0::a1::a2::a3::a4::a5::a6::a7::a8::a9::a10::a11::a12::a13::a14::a15::a16::a17::a18::a19::r) v=some (a0::a1::a2::a3::a4::a5::a6::a7::a8::a9::a10::a11::a12::a13::a14::a15::a16::a17::a18::v::r):=rfl
theorem xi:yZ (a0::a1::a2::a3::a4::a5::a6::a7::a8::a9::a10::a11::a12::a13::a14::a15::a16::a17::a18::a19::a20::r) (.tmp 20)=some a20:=rfl
theorem xV:vl (some 20) (a0::a1::a2::a3::a4::a5::a6::a7::a8::a9::a10::a11::a12::a13::a14::a15::a16::a17::a18::a19::a20::r) v=some (a0::a1::a2::a3::a4::a5::a6::a7::a8::a9::a10::a11::a12::a13::a14::a15::a16::a17::a18::a19::v::r):=rfl
theorem xY:yZ (a0::a1::a2::a3::a4::a5::a6::a7::a8::a9::a10::a11::a12::a13::a14::a15::a16::a17::a18::a19::a20::a21::r) (.tmp 21)=some a21:=rfl
theorem xU:vl (some 21) (a0::a1::a2::a3::a4::a5::a6::a7::a8::a9::a10::a11::a12::a13::a14::a15::a16::a17::a18::a19::a20::a21::r) v=some (a0::a1::a2::a3::a4::a5::a6::a7::a8::a9::a10::a11::a12::a13::a14::a15::a16::a17::a18::a19::a20::v::r):=rfl
theorem wb:yZ (a0::a1::a2::a3::a4::a5::a6::a7::a8::a9::a10::a11::a12::a13::a14::a15::a16::a17::a18::a19::a20::a21::a22::r) (.tmp 22)=some a22:=rfl
theorem wa:vl (some 22) (a0::a1::a2::a3::a4::a5::a6::a7::a8::a9::a10::a11::a12::a13::a14::a15::a16::a17::a18::a19::a20::a21::a22::r) v=some (a0::a1::a2::a3::a4::a5::a6::a7::a8::a9::a10::a11::a12::a13::a14::a15::a16::a17::a18::a19::a20::a21::v::r):=rfl
theorem xH:yZ (a0::a1::a2::a3::a4::a5::a6::a7::a8::a9::a10::a11::a12::a13::a14::a15::a16::a17::a18::a19::a20::a21::a22::a23::r) (.tmp 23)=some a23:=rfl
theorem wh:vl (some 23) (a0::a1::a2::a3::a4::a5::a6::a7::a8::a9::a10::a11::a12::a13::a14::a15::a16::a17::a18::a19::a20::a21::a22::a23::r) v=some (a0::a1::a2::a3::a4::a5::a6::a7::a8::a9::a10::a11::a12::a13::a14::a15::a16::a17::a18::a19::a20::a21::a22::v::r):=rfl
theorem xg:yZ (a0::a1::a2::a3::a4::a5::a6::a7::a8::a9::a10::a11::a12::a13::a14::a15::a16::a17::a18::a19::a20::a21::a22::a23::a24::r) (.tmp 24)=some a24:=rfl
theorem wu:vl (some 24) (a0::a1::a2::a3::a4::a5::a6::a7::a8::a9::a10::a11::a12::a13::a14::a15::a16::a17::a18::a19::a20::a21::a22::a23::a24::r) v=some (a0::a1::a2::a3::a4::a5::a6::a7::a8::a9::a10::a11::a12::a13::a14::a15::a16::a17::a18::a19::a20::a21::a22::a23::v::r):=rfl
theorem ww:yZ (a0::a1::a2::a3::a4::a5::a6::a7::a8::a9::a10::a11::a12::a13::a14::a15::a16::a17::a18::a19::a20::a21::a22::a23::a24::a25::r) (.tmp 25)=some a25:=rfl
theorem wB:vl (some 25) (a0::a1::a2::a3::a4::a5::a6::a7::a8::a9::a10::a11::a12::a13::a14::a15::a16::a17::a18::a19::a20::a21::a22::a23::a24::a25::r) v=some (a0::a1::a2::a3::a4::a5::a6::a7::a8::a9::a10::a11::a12::a13::a14::a15::a16::a17::a18::a19::a20::a21::a22::a23::a24::v::r):=rfl
theorem vg:yZ (a0::a1::a2::a3::a4::a5::a6::a7::a8::a9::a10::a11::a12::a13::a14::a15::a16::a17::a18::a19::a20::a21::a22::a23::a24::a25::a26::r) (.tmp 26)=some a26:=rfl
theorem va:vl (some 26) (a0::a1::a2::a3::a4::a5::a6::a7::a8::a9::a10::a11::a12::a13::a14::a15::a16::a17::a18::a19::a20::a21::a22::a23::a24::a25::a26::r) v=some (a0::a1::a2::a3::a4::a5::a6::a7::a8::a9::a10::a11::a12::a13::a14::a15::a16::a17::a18::a19::a20::a21::a22::a23::a24::a25::v::r):=rfl
theorem wX:yZ (a0::a1::a2::a3::a4::a5::a6::a7::a8::a9::a10::a11::a12::a13::a14::a15::a16::a17::a18::a19::a20::a21::a22::a23::a24::a25::a26::a27::r) (.tmp 27)=some a27:=rfl
theorem wV:vl (some 27) (a0::a1::a2::a3::a4::a5::a6::a7::a8::a9::a10::a11::a12::a13::a14::a15::a16::a17::a18::a19::a20::a21::a22::a23::a24::a25::a26::a27::r) v=some (a0::a1::a2::a3::a4::a5::a6::a7::a8::a9::a10::a11::a12::a13::a14::a15::a16::a17::a18::a19::a20::a21::a22::a23::a24::a25::a26::v::r):=rfl
theorem vo:yZ (a0::a1::a2::a3::a4::a5::a6::a7::a8::a9::a10::a11::a12::a13::a14::a15::a16::a17::a18::a19::a20::a21::a22::a23::a24::a25::a26::a27::a28::r) (.tmp 28)=some a28:=rfl
theorem vm:vl (some 28) (a0::a1::a2::a3::a4::a5::a6::a7::a8::a9::a10::a11::a12::a13::a14::a15::a16::a17::a18::a19::a20::a21::a22::a23::a24::a25::a26::a27::a28::r) v=some (a0::a1::a2::a3::a4::a5::a6::a7::a8::a9::a10::a11::a12::a13::a14::a15::a16::a17::a18::a19::a20::a21::a22::a23::a24::a25::a26::a27::v::r):=rfl
theorem vy:yZ (a0::a1::a2::a3::a4::a5::a6::a7::a8::a9::a10::a11::a12::a13::a14::a15::a16::a17::a18::a19::a20::a21::a22::a23::a24::a25::a26::a27::a28::a29::r) (.tmp 29)=some a29:=rfl
theorem vu:vl (some 29) (a0::a1::a2::a3::a4::a5::a6::a7::a8::a9::a10::a11::a12::a13::a14::a15::a16::a17::a18::a19::a20::a21::a22::a23::a24::a25::a26::a27::a28::a29::r) v=some (a0::a1::a2::a3::a4::a5::a6::a7::a8::a9::a10::a11::a12::a13::a14::a15::a16::a17::a18::a19::a20::a21::a22::a23::a24::a25::a26::a27::a28::v::r):=rfl
theorem vn:yZ (a0::a1::a2::a3::a4::a5::a6::a7::a8::a9::a10::a11::a12::a13::a14::a15::a16::a17::a18::a19::a20::a21::a22::a23::a24::a25::a26::a27::a28::a29::a30::r) (.tmp 30)=some a30:=rfl
theorem vt:vl (some 30) (a0::a1::a2::a3::a4::a5::a6::a7::a8::a9::a10::a11::a12::a13::a14::a15::a16::a17::a18::a19::a20::a21::a22::a23::a24::a25::a26::a27::a28::a29::a30::r) v=some (a0::a1::a2::a3::a4::a5::a6::a7::a8::a9::a10::a11::a12::a13::a14::a15::a16::a17::a18::a19::a20::a21::a22::a23::a24::a25::a26::a27::a28::a29::v::r):=rfl
theorem vU:yZ (a0::a1::a2::a3::a4::a5::a6::a7::a8::a9::a10::a11::a12::a13::a14::a15::a16::a17::a18::a19::a20::a21::a22::a23::a24::a25::a26::a27::a28::a29::a30::a31::r) (.tmp 31)=some a31:=rfl
theorem vr:vl (some 31) (a0::a1::a2::a3::a4::a5::a6::a7::a8::a9::a10::a11::a12::a13::a14::a15::a16::a17::a18::a19::a20::a21::a22::a23::a24::a25::a26::a27::a28::a29::a30::a31::r) v=some (a0::a1::a2::a3::a4::a5::a6::a7::a8::a9::a10::a11::a12::a13::a14::a15::a16::a17::a18::a19::a20::a21::a22::a23::a24::a25::a26::a27::a28::a29::a30::v::r):=rfl
theorem wM:yZ (a0::a1::a2::a3::a4::a5::a6::a7::a8::a9::a10::a11::a12::a13::a14::a15::a16::a17::a18::a19::a20::a21::a22::a23::a24::a25::a26::a27::a28::a29::a30::a31::a32::r) (.tmp 32)=some a32:=rfl
theorem wU:vl (some 32) (a0::a1::a2::a3::a4::a5::a6::a7::a8::a9::a10::a11::a12::a13::a14::a15::a16::a17::a18::a19::a20::a21::a22::a23::a24::a25::a26::a27::a28::a29::a30::a31::a32::r) v=some (a0::a1::a2::a3::a4::a5::a6::a7::a8::a9::a10::a11::a12::a13::a14::a15::a16::a17::a18::a19::a20::a21::a22::a23::a24::a25::a26::a27::a28::a29::a30::a31::v::r):=rfl
theorem wW:yZ (a0::a1::a2::a3::a4::a5::a6::a7::a8::a9::a10::a11::a12::a13::a14::a15::a16::a17::a18::a19::a20::a21::a22::a23::a24::a25::a26::a27::a28::a29::a30::a31::a32::a33::r) (.tmp 33)=some a33:=rfl
theorem w9:vl (some 33) (a0::a1::a2::a3::a4::a5::a6::a7::a8::a9::a10::a11::a12::a13::a14::a15::a16::a17::a18::a19::a20::a21::a22::a23::a24::a25::a26::a27::a28::a29::a30::a31::a32::a33::r) v=some (a0::a1::a2::a3::a4::a5::a6::a7::a8::a9::a10::a11::a12::a13::a14::a15::a16::a17::a18::a19::a20::a21::a22::a23::a24::a25::a26::a27::a28::a29::a30::a31::a32::v::r):=rfl
theorem wL:yZ (a0::a1::a2::a3::a4::a5::a6::a7::a8::a9::a10::a11::a12::a13::a14::a15::a16::a17::a18::a19::a20::a21::a22::a23::a24::a25::a26::a27::a28::a29::a30::a31::a32::a33::a34::r) (.tmp 34)=some a34:=rfl
theorem wT:vl (some 34) (a0::a1::a2::a3::a4::a5::a6::a7::a8::a9::a10::a11::a12::a13::a14::a15::a16::a17::a18::a19::a20::a21::a22::a23::a24::a25::a26::a27::a28::a29::a30::a31::a32::a33::a34::r) v=some (a0::a1::a2::a3::a4::a5::a6::a7::a8::a9::a10::a11::a12::a13::a14::a15::a16::a17::a18::a19::a20::a21::a22::a23::a24::a25::a26::a27::a28::a29::a30::a31::a32::a33::v::r):=rfl
theorem wP:yZ (a0::a1::a2::a3::a4::a5::a6::a7::a8::a9::a10::a11::a12::a13::a14::a15::a16::a17::a18::a19::a20::a21::a22::a23::a24::a25::a26::a27::a28::a29::a30::a31::a32::a33::a34::a35::r) (.tmp 35)=some a35:=rfl
theorem wS:vl (some 35) (a0::a1::a2::a3::a4::a5::a6::a7::a8::a9::a10::a11::a12::a13::a14::a15::a16::a17::a18::a19::a20::a21::a22::a23::a24::a25::a26::a27::a28::a29::a30::a31::a32::a33::a34::a35::r) v=some (a0::a1::a2::a3::a4::a5::a6::a7::a8::a9::a10::a11::a12::a13::a14::a15::a16::a17::a18::a19::a20::a21::a22::a23::a24::a25::a26::a27::a28::a29::a30::a31::a32::a33::a34::v::r):=rfl
theorem vf:yZ (a0::a1::a2::a3::a4::a5::a6::a7::a8::a9::a10::a11::a12::a13::a14::a15::a16::a17::a18::a19::a20::a21::a22::a23::a24::a25::a26::a27::a28::a29::a30::a31::a32::a33::a34::a35::a36::r) (.tmp 36)=some a36:=rfl
theorem w8:vl (some 36) (a0::a1::a2::a3::a4::a5::a6::a7::a8::a9::a10::a11::a12::a13::a14::a15::a16::a17::a18::a19::a20::a21::a22::a23::a24::a25::a26::a27::a28::a29::a30::a31::a32::a33::a34::a35::a36::r) v=some (a0::a1::a2::a3::a4::a5::a6::a7::a8::a9::a10::a11::a12::a13::a14::a15::a16::a17::a18::a19::a20::a21::a22::a23::a24::a25::a26::a27::a28::a29::a30::a31::a32::a33::a34::a35::v::r):=rfl
theorem ve:yZ (a0::a1::a2::a3::a4::a5::a6::a7::a8::a9::a10::a11::a12::a13::a14::a15::a16::a17::a18::a19::a20::a21::a22::a23::a24::a25::a26::a27::a28::a29::a30::a31::a32::a33::a34::a35::a36::a37::r) (.tmp 37)=some a37:=rfl
theorem wZ:vl (some 37) (a0::a1::a2::a3::a4::a5::a6::a7::a8::a9::a10::a11::a12::a13::a14::a15::a16::a17::a18::a19::a20::a21::a22::a23::a24::a25::a26::a27::a28::a29::a30::a31::a32::a33::a34::a35::a36::a37::r) v=some (a0::a1::a2::a3::a4::a5::a6::a7::a8::a9::a10::a11::a12::a13::a14::a15::a16::a17::a18::a19::a20::a21::a22::a23::a24::a25::a26::a27::a28::a29::a30::a31::a32::a33::a34::a35::a36::v::r):=rfl
theorem vJ:yZ (a0::a1::a2::a3::a4::a5::a6::a7::a8::a9::a10::a11::a12::a13::a14::a15::a16::a17::a18::a19::a20::a21::a22::a23::a24::a25::a26::a27::a28::a29::a30::a31::a32::a33::a34::a35::a36::a37::a38::r) (.tmp 38)=some a38:=rfl
theorem vD:vl (some 38) (a0::a1::a2::a3::a4::a5::a6::a7::a8::a9::a10::a11::a12::a13::a14::a15::a16::a17::a18::a19::a20::a21::a22::a23::a24::a25::a26::a27::a28::a29::a30::a31::a32::a33::a34::a35::a36::a37::a38::r) v=some (a0::a1::a2::a3::a4::a5::a6::a7::a8::a9::a10::a11::a12::a13::a14::a15::a16::a17::a18::a19::a20::a21::a22::a23::a24::a25::a26::a27::a28::a29::a30::a31::a32::a33::a34::a35::a36::a37::v::r):=rfl
theorem vI:yZ (a0::a1::a2::a3::a4::a5::a6::a7::a8::a9::a10::a11::a12::a13::a14::a15::a16::a17::a18::a19::a20::a21::a22::a23::a24::a25::a26::a27::a28::a29::a30::a31::a32::a33::a34::a35::a36::a37::a38::a39::r) (.tmp 39)=some a39:=rfl
theorem vC:vl (some 39) (a0::a1::a2::a3::a4::a5::a6::a7::a8::a9::a10::a11::a12::a13::a14::a15::a16::a17::a18::a19::a20::a21::a22::a23::a24::a25::a26::a27::a28::a29::a30::a31::a32::a33::a34::a35::a36::a37::a38::a39::r) v=some (a0::a1::a2::a3::a4::a5::a6::a7::a8::a9::a10::a11::a12::a13::a14::a15::a16::a17::a18::a19::a20::a21::a22::a23::a24::a25::a26::a27::a28::a29::a30::a31::a32::a33::a34::a35::a36::a37::a38::v::r):=rfl
theorem gk (h:yZ r (.tmp t)=some v):yZ (a0::a1::a2::a3::a4::a5::a6::a7::a8::a9::a10::a11::a12::a13::a14::a15::a16::a17::a18::a19::a20::a21::a22::a23::a24::a25::a26::a27::a28::a29::a30::a31::a32::a33::a34::a35::a36::a37::a38::a39::r) (.tmp (t+40))=some v:=h
theorem sk (h:vl (some t) r v=some q):vl (some (t+40)) (a0::a1::a2::a3::a4::a5::a6::a7::a8::a9::a10::a11::a12::a13::a14::a15::a16::a17::a18::a19::a20::a21::a22::a23::a24::a25::a26::a27::a28::a29::a30::a31::a32::a33::a34::a35::a36::a37::a38::a39::r) v=some (a0::a1::a2::a3::a4::a5::a6::a7::a8::a9::a10::a11::a12::a13::a14::a15::a16::a17::a18::a19::a20::a21::a22::a23::a24::a25::a26::a27::a28::a29::a30::a31::a32::a33::a34::a35::a36::a37::a38::a39::q):=congrArg (fun x=>some (a0::a1::a2::a3::a4::a5::a6::a7::a8::a9::a10::a11::a12::a13::a14::a15::a16::a17::a18::a19::a20::a21::a22::a23::a24::a25::a26::a27::a28::a29::a30::a31::a32::a33::a34::a35::a36::a37::a38::a39::x)) (Option.some.inj h)
end

def GActor.row (x:GActor):List AV:=[.int .u8 x.rep,.int .u32 x.inc]
def GDot.row (x:GDot):List AV:=[.int .u8 x.actor.rep,.int .u32 x.actor.inc,.int .u64 x.seq]
def GItem.row (x:GItem):List AV:=[.int .u64 x.time,.int .u8 x.dot.actor.rep,.int .u32 x.dot.actor.inc,.int .u64 x.dot.seq,.str x.text]
def GLeaf.row (x:GLeaf):List AV:=[.int .u8 x.typ,.int .i64 x.n,.int .u64 x.time,.int .u8 x.dot.actor.rep,.int .u32 x.dot.actor.inc,.int .u64 x.dot.seq,.str x.text,.sl 5 (x.items.map GItem.row),.sl 3 (x.tombs.map GDot.row)]
mutual
def GNode.row:GNode→List AV
  | ⟨name,leaves,subs⟩=>[.str name,.sl 9 (leaves.map GLeaf.row),.sl 3 (GNode.rows subs)]
def GNode.rows:List GNode→List (List AV)
  | []=>[]
  | x::r=>x.row::GNode.rows r
end
theorem GNode.rows_eq (l:List GNode):GNode.rows l=l.map GNode.row:=by
  induction l with
  | nil=>rfl
  | cons x r ih=>simp only [GNode.rows,List.map_cons,ih]
theorem GNode.row_eq (x:GNode):x.row=[.str x.name,.sl 9 (x.leaves.map GLeaf.row),.sl 3 (x.subs.map GNode.row)]:=by
  cases x;simp only [GNode.row,GNode.rows_eq]
def GQuota.row (x:GQuota):List AV:=[.str x.name,.int .i64 x.leaves,.int .i64 x.items,.int .i64 x.tombs,.int .i64 x.bytes]
def GOp.row (x:GOp):List AV:=[.int .u8 x.kind,.sl 1 (x.path.map zR),.int .i64 x.n,.str x.text,.sl 3 (x.dots.map GDot.row)]
def GRow.row (x:GRow):List AV:=[.sl 1 (x.path.map zR),.int .u8 x.leaf.typ,.int .i64 x.leaf.n,.int .u64 x.leaf.time,.int .u8 x.leaf.dot.actor.rep,.int .u32 x.leaf.dot.actor.inc,.int .u64 x.leaf.dot.seq,.str x.leaf.text,.sl 5 (x.leaf.items.map GItem.row),.sl 3 (x.leaf.tombs.map GDot.row)]
def GVarveref07Row.row (x:GVarveref07Row):List AV:=[.sl 1 (x.path.map zR),.int .u8 x.l.typ,.int .i64 x.l.n,.int .u64 x.l.time,.int .u8 x.l.dot.actor.rep,.int .u32 x.l.dot.actor.inc,.int .u64 x.l.dot.seq,.str x.l.text,.sl 5 (x.l.items.map GItem.row),.sl 3 (x.l.tombs.map GDot.row)]
theorem qA:El Try.prog 23 41 3:=mkEl Try.underlying23 (by kernel_rfl)
theorem xF:Try.prog.follows .mixedOrders=true:=by kernel_rfl
theorem fo41x0:Fo Try.prog 41 0 0 9 1:=qV (by kernel_rfl) (by kernel_rfl)
theorem ty9:Ty Try.prog 9 .string 1:=mkTy Try.underlying9 (by kernel_rfl)
theorem fo41x2:Fo Try.prog 41 2 2 23 1:=qV (by kernel_rfl) (by kernel_rfl)
theorem ty23:Ty Try.prog 23 (.slice 41) 1:=mkTy Try.underlying23 (by kernel_rfl)
theorem qz:Fo Try.prog 41 1 1 39 1:=qV (by kernel_rfl) (by kernel_rfl)
theorem ty39:Ty Try.prog 39 (.slice 59) 1:=mkTy Try.underlying39 (by kernel_rfl)
theorem el39:El Try.prog 39 59 9:=mkEl Try.underlying39 (by kernel_rfl)
theorem ty59:∃ d,Ty Try.prog 59 d 9∧yI d=true:=⟨_,mkTy Try.underlying59 (by kernel_rfl),by kernel_rfl⟩
theorem ze59:wy Try.prog 59=some [.int .u8 0,.int .i64 0,.int .u64 0,.int .u8 0,.int .u32 0,.int .u64 0,.str [],.osl none 5 [],.osl none 3 []]:=by kernel_rfl
theorem fo59x4:Fo Try.prog 59 4 6 9 1:=qV (by kernel_rfl) (by kernel_rfl)
theorem vh:Fo Try.prog 59 6 8 26 1:=qV (by kernel_rfl) (by kernel_rfl)
theorem ty26:Ty Try.prog 26 (.slice 53) 1:=mkTy Try.underlying26 (by kernel_rfl)
theorem qK:El Try.prog 26 53 3:=mkEl Try.underlying26 (by kernel_rfl)
theorem wq:Fo Try.prog 59 5 7 57 1:=qV (by kernel_rfl) (by kernel_rfl)
theorem ty57:Ty Try.prog 57 (.slice 56) 1:=mkTy Try.underlying57 (by kernel_rfl)
theorem vV:El Try.prog 57 56 5:=mkEl Try.underlying57 (by kernel_rfl)
theorem fo56x2:Fo Try.prog 56 2 4 9 1:=qV (by kernel_rfl) (by kernel_rfl)
theorem el45:El Try.prog 45 46 5:=mkEl Try.underlying45 (by kernel_rfl)
theorem ty46:∃ d,Ty Try.prog 46 d 5∧yI d=true:=⟨_,mkTy Try.underlying46 (by kernel_rfl),by kernel_rfl⟩
theorem ze46:wy Try.prog 46=some [.str [],.int .i64 0,.int .i64 0,.int .i64 0,.int .i64 0]:=by kernel_rfl
theorem fo46x0:Fo Try.prog 46 0 0 9 1:=qV (by kernel_rfl) (by kernel_rfl)
theorem fo28x4:Fo Try.prog 28 4 4 26 1:=qV (by kernel_rfl) (by kernel_rfl)
theorem fo28x1:Fo Try.prog 28 1 1 25 1:=qV (by kernel_rfl) (by kernel_rfl)
theorem ty25:Ty Try.prog 25 (.slice 9) 1:=mkTy Try.underlying25 (by kernel_rfl)
theorem el25:El Try.prog 25 9 1:=mkEl Try.underlying25 (by kernel_rfl)
theorem fo28x3:Fo Try.prog 28 3 3 9 1:=qV (by kernel_rfl) (by kernel_rfl)
theorem fo51x0:Fo Try.prog 51 0 0 5 1:=qV (by kernel_rfl) (by kernel_rfl)
theorem ty5:Ty Try.prog 5 (.int .u8) 1:=mkTy Try.underlying5 (by kernel_rfl)
theorem fo51x1:Fo Try.prog 51 1 1 49 1:=qV (by kernel_rfl) (by kernel_rfl)
theorem ty49:Ty Try.prog 49 (.int .u32) 1:=mkTy Try.underlying49 (by kernel_rfl)
theorem qP:Fo Try.prog 53 0 0 51 2:=qV (by kernel_rfl) (by kernel_rfl)
theorem ty51:∃ d,Ty Try.prog 51 d 2∧yI d=true:=⟨_,mkTy Try.underlying51 (by kernel_rfl),by kernel_rfl⟩
theorem fo53x1:Fo Try.prog 53 1 2 48 1:=qV (by kernel_rfl) (by kernel_rfl)
theorem wR:Ty Try.prog 48 (.int .u64) 1:=mkTy Try.underlying48 (by kernel_rfl)
theorem fo56x1:Fo Try.prog 56 1 1 53 3:=qV (by kernel_rfl) (by kernel_rfl)
theorem ty53:∃ d,Ty Try.prog 53 d 3∧yI d=true:=⟨_,mkTy Try.underlying53 (by kernel_rfl),by kernel_rfl⟩
theorem pk53:PK Try.prog 53 [.i,.i,.i]:=mkPK (by kernel_rfl) (by kernel_rfl) (by kernel_rfl)
theorem qb:Fo Try.prog 59 0 0 5 1:=qV (by kernel_rfl) (by kernel_rfl)
theorem fo59x1:Fo Try.prog 59 1 1 2 1:=qV (by kernel_rfl) (by kernel_rfl)
theorem ty2:Ty Try.prog 2 (.int .i64) 1:=mkTy Try.underlying2 (by kernel_rfl)
noncomputable def sf53:Array Field:=match Try.prog.underlying 53 with | some (.struct fs)=>fs | _=>#[]
theorem su53:Try.prog.underlying 53=some (.struct sf53):=by kernel_rfl
theorem ze53:wy Try.prog 53=some [.int .u8 0,.int .u32 0,.int .u64 0]:=by kernel_rfl
theorem pl53:qj Try.prog sf53=some [(0,2),(2,1)]:=by kernel_rfl
theorem fo59x2:Fo Try.prog 59 2 2 48 1:=qV (by kernel_rfl) (by kernel_rfl)
theorem fo59x3:Fo Try.prog 59 3 3 53 3:=qV (by kernel_rfl) (by kernel_rfl)
theorem ty56:∃ d,Ty Try.prog 56 d 5∧yI d=true:=⟨_,mkTy Try.underlying56 (by kernel_rfl),by kernel_rfl⟩
theorem ze56:wy Try.prog 56=some [.int .u64 0,.int .u8 0,.int .u32 0,.int .u64 0,.str []]:=by kernel_rfl
theorem fo56x0:Fo Try.prog 56 0 0 48 1:=qV (by kernel_rfl) (by kernel_rfl)
theorem ty41:∃ d,Ty Try.prog 41 d 3∧yI d=true:=⟨_,mkTy Try.underlying41 (by kernel_rfl),by kernel_rfl⟩
theorem ze41:wy Try.prog 41=some [.str [],.osl none 9 [],.osl none 3 []]:=by kernel_rfl
noncomputable def sf51:Array Field:=match Try.prog.underlying 51 with | some (.struct fs)=>fs | _=>#[]
theorem su51:Try.prog.underlying 51=some (.struct sf51):=by kernel_rfl
theorem ze51:wy Try.prog 51=some [.int .u8 0,.int .u32 0]:=by kernel_rfl
theorem pl51:qj Try.prog sf51=some [(0,1),(1,1)]:=by kernel_rfl
theorem ze9:wy Try.prog 9=some [.str []]:=by kernel_rfl
theorem ty92:Ty Try.prog 92 (.func #[63] #[4] false) 1:=mkTy Try.underlying92 (by kernel_rfl)
noncomputable def sf63:Array Field:=match Try.prog.underlying 63 with | some (.struct fs)=>fs | _=>#[]
theorem su63:Try.prog.underlying 63=some (.struct sf63):=by kernel_rfl
theorem ze63:wy Try.prog 63=some [.osl none 1 [],.int .u8 0,.int .i64 0,.int .u64 0,.int .u8 0,.int .u32 0,.int .u64 0,.str [],.osl none 5 [],.osl none 3 []]:=by kernel_rfl
theorem pl63:qj Try.prog sf63=some [(0,1),(1,9)]:=by kernel_rfl
theorem ty63:∃ d,Ty Try.prog 63 d 10∧yI d=true:=⟨_,mkTy Try.underlying63 (by kernel_rfl),by kernel_rfl⟩
theorem wo:El Try.prog 42 63 10:=mkEl Try.underlying42 (by kernel_rfl)
theorem ty42:Ty Try.prog 42 (.slice 63) 1:=mkTy Try.underlying42 (by kernel_rfl)
theorem ty4:Ty Try.prog 4 .bool 1:=mkTy Try.underlying4 (by kernel_rfl)
theorem el123:El Try.prog 123 3 1:=mkEl Try.underlying123 (by kernel_rfl)
theorem ty3:Ty Try.prog 3 (.int .i64) 1:=mkTy Try.underlying3 (by kernel_rfl)
theorem ze3:wy Try.prog 3=some [.int .i64 0]:=by kernel_rfl
theorem kq53:KQ Try.prog 53 (fun x=>AV.agg (GDot.row x)) GDot.eqb:=.struct su53 pk53 (fun _ _=>rfl) (fun a=>by simp [GDot.eqb])
theorem az3:aZeroM Try.prog 3=some ((AV.int .i64) (0:Int)):=by kernel_rfl
theorem pk56:PK Try.prog 56 [.i,.i,.i,.i,.s]:=mkPK (by kernel_rfl) (by kernel_rfl) (by kernel_rfl)
noncomputable def sf59:Array Field:=match Try.prog.underlying 59 with | some (.struct fs)=>fs | _=>#[]
theorem su59:Try.prog.underlying 59=some (.struct sf59):=by kernel_rfl
theorem pl59:qj Try.prog sf59=some [(0,1),(1,1),(2,1),(3,3),(6,1),(7,1),(8,1)]:=by kernel_rfl
theorem el75:El Try.prog 75 5 1:=mkEl Try.underlying75 (by kernel_rfl)
theorem ze5:wy Try.prog 5=some [.int .u8 0]:=by kernel_rfl
theorem ty75:Ty Try.prog 75 (.slice 5) 1:=mkTy Try.underlying75 (by kernel_rfl)
theorem ze36:wy Try.prog 36=some [.str [],.int .i64 0,.int .i64 0,.int .i64 0,.int .i64 0]:=by kernel_rfl
noncomputable def sf36:Array Field:=match Try.prog.underlying 36 with | some (.struct fs)=>fs | _=>#[]
theorem su36:Try.prog.underlying 36=some (.struct sf36):=by kernel_rfl
theorem pl36:qj Try.prog sf36=some [(0,1),(1,1),(2,1),(3,1),(4,1)]:=by kernel_rfl
theorem ty36:∃ d,Ty Try.prog 36 d 5∧yI d=true:=⟨_,mkTy Try.underlying36 (by kernel_rfl),by kernel_rfl⟩
theorem fo36x1:Fo Try.prog 36 1 1 3 1:=qV (by kernel_rfl) (by kernel_rfl)
theorem fo36x2:Fo Try.prog 36 2 2 3 1:=qV (by kernel_rfl) (by kernel_rfl)
theorem fo63x1:Fo Try.prog 63 1 1 59 9:=qV (by kernel_rfl) (by kernel_rfl)
theorem fo36x3:Fo Try.prog 36 3 3 3 1:=qV (by kernel_rfl) (by kernel_rfl)
theorem el31:El Try.prog 31 36 5:=mkEl Try.underlying31 (by kernel_rfl)
noncomputable def sf56:Array Field:=match Try.prog.underlying 56 with | some (.struct fs)=>fs | _=>#[]
theorem su56:Try.prog.underlying 56=some (.struct sf56):=by kernel_rfl
theorem pl56:qj Try.prog sf56=some [(0,1),(1,3),(4,1)]:=by kernel_rfl
noncomputable def sf41:Array Field:=match Try.prog.underlying 41 with | some (.struct fs)=>fs | _=>#[]
theorem su41:Try.prog.underlying 41=some (.struct sf41):=by kernel_rfl
theorem pl41:qj Try.prog sf41=some [(0,1),(1,1),(2,1)]:=by kernel_rfl
theorem fo36x0:Fo Try.prog 36 0 0 9 1:=qV (by kernel_rfl) (by kernel_rfl)
theorem fo36x4:Fo Try.prog 36 4 4 3 1:=qV (by kernel_rfl) (by kernel_rfl)
theorem ty103:Ty Try.prog 103 (.int .u64) 1:=mkTy Try.underlying103 (by kernel_rfl)
theorem ty64:Ty Try.prog 64 (.func #[63] #[3] false) 1:=mkTy Try.underlying64 (by kernel_rfl)
theorem ze64:wy Try.prog 64=some [.nilf]:=by kernel_rfl
theorem el68:El Try.prog 68 71 10:=mkEl Try.underlying68 (by kernel_rfl)
noncomputable def sf71:Array Field:=match Try.prog.underlying 71 with | some (.struct fs)=>fs | _=>#[]
theorem su71:Try.prog.underlying 71=some (.struct sf71):=by kernel_rfl
theorem ze71:wy Try.prog 71=some [.osl none 1 [],.int .u8 0,.int .i64 0,.int .u64 0,.int .u8 0,.int .u32 0,.int .u64 0,.str [],.osl none 5 [],.osl none 3 []]:=by kernel_rfl
theorem pl71:qj Try.prog sf71=some [(0,1),(1,9)]:=by kernel_rfl
theorem fo71x1:Fo Try.prog 71 1 1 59 9:=qV (by kernel_rfl) (by kernel_rfl)
noncomputable def sf28:Array Field:=match Try.prog.underlying 28 with | some (.struct fs)=>fs | _=>#[]
theorem su28:Try.prog.underlying 28=some (.struct sf28):=by kernel_rfl
theorem ze28:wy Try.prog 28=some [.int .u8 0,.osl none 1 [],.int .i64 0,.str [],.osl none 3 []]:=by kernel_rfl
theorem pl28:qj Try.prog sf28=some [(0,1),(1,1),(2,1),(3,1),(4,1)]:=by kernel_rfl
theorem ok23N (n:Nat):∀ {t0:(List GNode)} {deep1:Int} {res:Int} {h:AH} , xC n t0 deep1=some res→Spec Try.prog 23 [.sl 3 (t0.map GNode.row),.int .i64 deep1] h (fun rr hh=>rr=.int .i64 res∧hh=h):=by
 induction n with
 | zero=>intro t0 deep1 res h  hF;simp [xC] at hF
 | succ n ih =>
  intro t0 deep1 res h  hF
  unfold xC at hF
  refine zw Try.func23 rfl (by kernel_rfl) (env:=[.sl 3 (t0.map GNode.row),.int .i64 deep1,za,za,za,za,za,za,za,za,za,za,za,za,za,za,za,za,za,za,za,za,za,za,za,za,za,za,za,za,za,za,za,za,za,za,za,za,za,za,za,za,za,za,za,za,za,za,za,za,za,za,za,za,za,za,za,za,za,za,za,za,za,za,za,za,za,za,za,za,za,za,za,za,za,za,za,za,za,za,za,za,za,za]) (by rfl) ?_
  refine zn (zd ?_)
  refine zc rfl (zi rfl rfl (zb rfl)) yK ?_
  refine zf (zj (zn (zd ?_)))
  refine zc rfl (zi rfl rfl (zb rfl)) xI ?_
  refine zf (zj (zn (zn (zd ?_))))
  refine zc rfl (zi rfl rfl (zb rfl)) xT ?_
  refine zf (zj (zI ?_))
  refine wn (fun (s1:Int×Int)=>yv [2,3,4,7,8,9,10,11,12,13,14,15,16,17,18,19,20,21,22,23,24,25,26,27,28,29,30,31,32,33,34,35,36,37,38,39,40,41,42,43,44,45,46,47,48,49,50,51,52,53,54,55,56,57,58,59,60,61,62,63,64,65,66,67,68,69,70,71,72,73,74,75,76,77,78,79,80,81,82,83] [(5,.int .i64 s1.1),(6,.int .i64 s1.2)]) (fun s1=>h.ext [] []) hF (fun _=>by simp only [yv,upd,List.set_cons_succ,List.set_cons_zero];try rfl) (wk.le (by exact (.eq (.eq (.drop (.drop (.drop (.cons (leV.of_eq rfl) (.cons (leV.of_eq rfl) (.d16 (.d16 (.d16 (.d16 (.d4 (.d4 (.d4 (.drop leL.nil))))))))))))))))) ?_
  intro n1 s1 o1 hF hK1
  refine zn (zn (zd ?_))
  refine zc rfl (ze rfl y5 (zb rfl)) yC ?_
  refine zc rfl (ze rfl yd (zb rfl)) yz ?_
  refine z7 rfl (zX rfl rfl rfl rfl qA yh z8) yL fun hn66=>?_
  replace hn66:=xG hn66
  refine zc rfl (zr rfl yl yJ rfl) yO ?_
  refine zc rfl (ze rfl yE (zb rfl)) yS ?_
  refine zq rfl (fun hb=>ze rfl yo (zb rfl)) yW ?_
  refine zq rfl (fun hb=>zr rfl (zp yU hb) rfl rfl) xa ?_
  refine zc rfl (zM rfl yP yR rfl (zS (fun ht=>gT ht))) xd ?_
  refine zf (zj ?_)
  refine zG xb hF (fun hc67 hF=>?_) (fun hc67 hF=>?_)
  ·refine zH (zj (zn (zI (zn ?_))))
   refine yr [16] [] trivial xF (by kernel_rfl) ?_
   refine zo rfl rfl (ze rfl yX (zb rfl)) xV ?_
   refine zo rfl rfl (zr rfl xi rfl rfl) xU ?_
   refine zo rfl rfl (ze rfl yd (zb rfl)) wa ?_
   refine zo rfl rfl (ze rfl y5 (zb rfl)) wh ?_
   refine zK hF (fun y68 hy68 hF=>?_)
   refine zo rfl rfl (we rfl qA wb xH qI hy68 (GNode.row_eq _)) wu ?_
   refine zo rfl rfl (zk rfl fo41x0 xg rfl) wB ?_
   refine zo rfl rfl (yf rfl ty9 ww (zt rfl) (zb rfl)) va ?_
   refine draw_len rfl rfl (wJ rfl rfl rfl rfl ty9 vg) wV ?_
   refine zo rfl rfl (zr rfl xY wX rfl) vm ?_
   refine zo rfl rfl (ze rfl yd (zb rfl)) vu ?_
   refine zo rfl rfl (ze rfl y5 (zb rfl)) vt ?_
   refine zK hF (fun y70 hy70 hF=>?_)
   refine zo rfl rfl (we rfl qA vy vn qI hy70 (GNode.row_eq _)) vr ?_
   refine zo rfl rfl (zk rfl fo41x2 vU rfl) wU ?_
   refine zo rfl rfl (yf rfl ty23 wM (zt rfl) (zb rfl)) w9 ?_
   refine zo rfl rfl (ze rfl yo (zb rfl)) wT ?_
   refine zo rfl rfl (zr rfl wL rfl rfl) wS ?_
   refine zK hF (fun v71 hv71 hF=>?_)
   refine xc rfl rfl (fun _=>zz rfl rfl rfl (zg wW (zg wP zu)) (.cons (zb rfl) (.cons (zb rfl) .nil))) (by rintro _ ⟨B2,T2,rfl,hk2⟩;exact ih hv71) w8 ?_
   refine zo rfl rfl (zr rfl vo vf rfl) wZ ?_
   refine zo rfl rfl (zi rfl ve (zb rfl)) xI ?_
   refine yc ?_
   refine zj (zn (zd ?_))
   refine zc rfl (zi rfl rfl (zb rfl)) x9 ?_
   refine zf (zj (zI ?_))
   refine wn (fun (s2:Int×Int)=>yv [2,3,4,8,9,10,11,12,13,14,15,16,17,18,19,20,21,22,23,24,25,26,27,28,29,30,31,32,33,34,35,36,37,38,39,40,41,42,43,44,45,46,47,48,49,50,51,52,53,54,55,56,57,58,59,60,61,62,63,64,65,66,67,68,69,70,71,72,73,74,75,76,77,78,79,80,81,82,83] [(5,.int .i64 s2.1),(7,.int .i64 s2.2)]) (fun s2=>h.ext [] []) hF (fun _=>by simp only [yv,upd,List.set_cons_succ,List.set_cons_zero];try rfl) (wk.le (by exact (.eq (.eq (.drop (.drop (.drop (.cons (leV.of_eq rfl) (.eq (.cons (leV.of_eq rfl) (.d16 (.d16 (.d16 (.d16 (.d4 (.d4 (.d4 leL.nil))))))))))))))))) ?_
   intro n2 s2 o2 hF hK2
   refine zn (zn (zd ?_))
   refine zc rfl (ze rfl xE (zb rfl)) vD ?_
   refine zc rfl (ze rfl yd (zb rfl)) vC ?_
   refine zc rfl (ze rfl y5 (zb rfl)) (sk st0) ?_
   refine zK hF (fun y102 hy102 hF=>?_)
   refine zc rfl (we rfl qA vI (gk yd) qI hy102 (GNode.row_eq _)) (sk st1) ?_
   refine zc rfl (zk rfl qz (gk yo) rfl) (sk xj) ?_
   refine zc rfl (yf rfl ty39 (gk yQ) (zt rfl) (zb rfl)) (sk wA) ?_
   refine z7 rfl (zX rfl rfl rfl rfl el39 (gk yY) z8) (sk yK) fun hn103=>?_
   replace hn103:=xG hn103
   refine zc rfl (zr rfl vJ (gk yG) rfl) (sk xI) ?_
   refine zf (zj ?_)
   refine zG (gk yX) hF (fun hc104 hF=>?_) (fun hc104 hF=>?_)
   ·refine zH (zj (zn (zI (zn (zd ?_)))))
    refine zc rfl (ze rfl yd (zb rfl)) (sk xS) ?_
    refine zc rfl (ze rfl y5 (zb rfl)) (sk wE) ?_
    refine zK hF (fun y105 hy105 hF=>?_)
    refine zc rfl (we rfl qA (gk xu) (gk x4) qI hy105 (GNode.row_eq _)) (sk yC) ?_
    refine zc rfl (zk rfl qz (gk yl) rfl) (sk yz) ?_
    refine zc rfl (yf rfl ty39 (gk yh) (zt rfl) (zb rfl)) (sk yL) ?_
    refine zc rfl (ze rfl xE (zb rfl)) (sk yO) ?_
    refine zK hF (fun y106 hy106 hF=>?_)
    refine zc rfl (yM rfl el39 (gk yJ) (gk yE) qI hy106) (sk yS) ?_
    refine zc rfl (yf rfl ty59.choose_spec.1 (gk yP) (zF (cs':=[.int .u8 y106.typ,.int .i64 y106.n,.int .u64 y106.time,.int .u8 y106.dot.actor.rep,.int .u32 y106.dot.actor.inc,.int .u64 y106.dot.seq,.str y106.text,.sl 5 (y106.items.map GItem.row),.sl 3 (y106.tombs.map GDot.row)]) ty59.choose_spec.2 rfl rfl) (zb rfl)) (sk yW) ?_
    refine zc rfl (xn (n:=0) rfl ze59 rfl) xS ?_
    refine zc rfl (yk (cs':=[.int .u8 y106.typ,.int .i64 y106.n,.int .u64 y106.time,.int .u8 y106.dot.actor.rep,.int .u32 y106.dot.actor.inc,.int .u64 y106.dot.seq,.str y106.text,.sl 5 (y106.items.map GItem.row),.sl 3 (y106.tombs.map GDot.row)]) rfl ty59.choose_spec.1 xu (gk yU) (zb rfl) rfl rfl rfl rfl rfl) rfl ?_
    refine zf (zj (zn (zd ?_)))
    refine zc rfl (ze rfl yX (zb rfl)) (sk xa) ?_
    refine zc rfl (zr rfl (gk yR) rfl rfl) (sk xd) ?_
    refine zc rfl (zk rfl fo59x4 xu rfl) (sk xq) ?_
    refine zc rfl (zy rfl ty9 (gk yD) rfl (zt rfl) (zb rfl)) (sk xr) ?_
    refine z7 rfl (wJ rfl rfl rfl rfl ty9 (gk xz)) (sk xV) fun hn107=>?_
    replace hn107:=xG hn107
    refine zc rfl (zr rfl (gk xb) (gk xi) rfl) (sk xU) ?_
    refine zc rfl (zk rfl vh xu rfl) (sk wa) ?_
    refine zc rfl (zy rfl ty26 (gk wb) rfl (zt rfl) (zb rfl)) (sk wh) ?_
    refine z7 rfl (zX rfl rfl rfl rfl qK (gk xH) z8) (sk wu) fun hn108=>?_
    replace hn108:=xG hn108
    refine zc rfl (zr rfl (gk xY) (gk xg) rfl) (sk wB) ?_
    refine zc rfl (zi rfl (gk ww) (zb rfl)) xI ?_
    refine zf (zj (zn (zd ?_)))
    refine zc rfl (zi rfl rfl (zb rfl)) wE ?_
    refine zf (zj (zI ?_))
    refine yw (fun (n3:Nat) (s3:Int)=>yv [2,3,4,10,11,12,13,14,15,16,17,18,19,20,21,22,23,24,25,26,27,28,29,30,31,32,33,34,35,36,37,38,39,40,41,42,43,44,45,46,47,48,49,50,51,52,53,54,55,56,57,58,59,60,61,62,63,64,65,66,67,68,69,70,71,72,73,74,75,76,77,78,79,80,81,82,83] [(5,.int .i64 s3),(9,.int .i64 (n3:Int))]) (fun s3=>h.ext [.cells [.int .u8 y106.typ,.int .i64 y106.n,.int .u64 y106.time,.int .u8 y106.dot.actor.rep,.int .u32 y106.dot.actor.inc,.int .u64 y106.dot.seq,.str y106.text,.sl 5 (y106.items.map GItem.row),.sl 3 (y106.tombs.map GDot.row)]] []) hF (fun _ _=>by simp only [yv,upd,List.set_cons_succ,List.set_cons_zero];try rfl) (wk.le (by exact (.eq (.eq (.drop (.drop (.drop (.cons (leV.of_eq rfl) (.eq (.eq (.eq (.cons (leV.of_eq rfl) (.d16 (.d16 (.d16 (.d16 (.d4 (.d4 (.drop (.drop leL.nil)))))))))))))))))))) ?_
    intro n3 s3 hi3 hF
    refine zn (zn (zd ?_))
    refine zc rfl (ze rfl x4 (zb rfl)) (sk va) ?_
    refine zc rfl (zk rfl wq xu rfl) (sk wV) ?_
    refine zc rfl (zy rfl ty57 (gk wX) rfl (zt rfl) (zb rfl)) (sk vm) ?_
    refine z7 rfl (zX rfl rfl rfl rfl vV (gk vo) z8) (sk vu) fun hn125=>?_
    replace hn125:=xG hn125
    refine zc rfl (zr rfl (gk vg) (gk vy) rfl) (sk vt) ?_
    refine zf (zj ?_)
    refine y7 (gk vn) hF (fun x3 o3 hl3 hx3 hF hK3=>?_) (fun hF=>?_)
    ·refine zH (zj (zn (zI (zd ?_))))
     refine zc rfl (ze rfl yX (zb rfl)) (sk w9) ?_
     refine zc rfl (zr rfl (gk wW) rfl rfl) (sk wT) ?_
     refine zc rfl (zk rfl wq xu rfl) (sk wS) ?_
     refine zc rfl (zy rfl ty57 (gk wP) rfl (zt rfl) (zb rfl)) (sk w8) ?_
     refine zc rfl (ze rfl x4 (zb rfl)) (sk wZ) ?_
     refine zc rfl (yM rfl vV (gk vf) (gk ve) qI (xl hx3)) (sk vD) ?_
     refine zc rfl (zk rfl fo56x2 (gk vJ) rfl) (sk vC) ?_
     refine zc rfl (yf rfl ty9 (gk vI) (zt rfl) (zb rfl)) (sk (sk st0)) ?_
     refine z7 rfl (wJ rfl rfl rfl rfl ty9 (gk (gk yd))) (sk (sk st1)) fun hn126=>?_
     replace hn126:=xG hn126
     refine zc rfl (zr rfl (gk wL) (gk (gk yo)) rfl) (sk (sk xj)) ?_
     refine zc rfl (zi rfl (gk (gk yQ)) (zb rfl)) xI ?_
     refine zf (zY (zj (zd ?_)))
     refine zc rfl (ze rfl x4 (zb rfl)) (sk vr) ?_
     refine zc rfl (zr rfl (gk vU) rfl rfl) (sk wU) ?_
     refine zc rfl (zi rfl (gk wM) (zb rfl)) wE ?_
     refine zf (yi ?_)
     obtain rfl:=Option.some.inj hF
     exact ⟨(IntKind.wrap .i64 ((IntKind.wrap .i64 (s3+(1:Int)))+((x3.text).length:Int))),hl3,hK3,wk.le (by exact (.eq (.eq (.drop (.drop (.drop (.cons (leV.of_eq rfl) (.eq (.eq (.eq (.cons (leV.of_eq (qp (by omega) (by omega))) (.d16 (.d16 (.d16 (.d16 (.d4 (.d4 (.drop (.drop leL.nil)))))))))))))))))))⟩
    ·refine yy ?_
     refine zT ?_
     refine zP ?_
     refine zQ ?_
     refine zY (zj (zd ?_))
     refine zc rfl (ze rfl xE (zb rfl)) (sk xT) ?_
     refine zc rfl (zr rfl (gk y5) rfl rfl) (sk x9) ?_
     refine zc rfl (zi rfl (gk xE) (zb rfl)) x9 ?_
     refine zf (yi ?_)
     obtain rfl:=Option.some.inj hF
     exact ⟨(s3,(IntKind.wrap .i64 (s2.2+(1:Int)))),hK2,wk.trans (wk.le (by exact (.eq (.eq (.drop (.drop (.drop (.cons (leV.of_eq rfl) (.eq (.cons (leV.of_eq rfl) (.d16 (.d16 (.d16 (.d16 (.d4 (.d4 (.d4 leL.nil))))))))))))))))) (wD (by simp [z9,AV.low]) rfl rfl (by simp [Blk.low,z9,AV.low]))⟩
   ·refine yy ?_
    refine zT ?_
    refine zP ?_
    obtain rfl:=Option.some.inj hF
    replace hF:=hK2
    refine zQ ?_
    refine zY (zj (zd ?_))
    refine zc rfl (ze rfl y5 (zb rfl)) xq ?_
    refine zc rfl (zr rfl yD rfl rfl) xr ?_
    refine zc rfl (zi rfl xz (zb rfl)) xT ?_
    refine zf (yi ?_)
    obtain rfl:=Option.some.inj hF
    exact ⟨(s2.1,(IntKind.wrap .i64 (s1.2+(1:Int)))),hK1,wk.le (by exact (.eq (.eq (.drop (.drop (.drop (.cons (leV.of_eq rfl) (.cons (leV.of_eq rfl) (.d16 (.d16 (.d16 (.d16 (.d4 (.d4 (.d4 (.drop leL.nil))))))))))))))))⟩
  ·refine yy ?_
   refine zT ?_
   refine zP ?_
   obtain rfl:=Option.some.inj hF
   replace hF:=hK1
   refine zQ ?_
   refine zj (zn (zd ?_))
   refine zc rfl (ze rfl yX (zb rfl)) (sk (sk wA)) ?_
   refine zc rfl (zi rfl (gk (gk yY)) (zb rfl)) yK ?_
   refine zf (zj (zO ?_))
   obtain rfl:=Option.some.inj hF
   refine zA rfl (zE yG zB) (zD (leV.refl _) rfl ?_)
   exact ⟨rfl,rfl⟩
theorem ok23 {t0:(List GNode)} {deep1:Int} {res:Int} {h:AH}  (hF:ref07Xsize t0 deep1=some res):Spec Try.prog 23 [.sl 3 (t0.map GNode.row),.int .i64 deep1] h (fun rr hh=>rr=.int .i64 res∧hh=h):=by
 obtain ⟨n,hn⟩:=anyN_is hF
 exact ok23N n  hn
theorem ok12 {t0:(List GNode)} {res:Bool} {h:AH}  (hF:qZ t0=some res):Spec Try.prog 12 [.sl 3 (t0.map GNode.row)] h (fun rr hh=>rr=.bool res∧hh=h):=by
 unfold qZ at hF
 refine zw Try.func12 rfl (by kernel_rfl) (env:=[.sl 3 (t0.map GNode.row),za,za,za,za,za]) (by rfl) ?_
 refine zn (zd ?_)
 refine zc rfl (zi rfl rfl (zb rfl)) xj ?_
 refine zf (zj (zn (zd ?_)))
 refine zc rfl (ze rfl yd (zb rfl)) wA ?_
 refine zK hF (fun v1 hv1 hF=>?_)
 refine zU rfl (zz rfl rfl rfl (zg yY (zg rfl zu)) (.cons (zb rfl) (.cons (zb rfl) .nil))) (ok23 hv1) yK ?_
 refine zc rfl (zr rfl yG rfl rfl) xI ?_
 refine zc rfl (zi rfl yX (zb rfl)) xj ?_
 refine zf (zj (zO ?_))
 obtain rfl:=Option.some.inj hF
 refine zA rfl (zE yQ zB) (zD (leV.refl _) rfl ?_)
 exact ⟨rfl,rfl⟩
theorem ok4 {l0:(List GQuota)} {t1:(List GNode)} {o2:GOp} {res:Bool} {h:AH}  (hF:vZ l0 t1 o2=some res):Spec Try.prog 4 [.sl 5 (l0.map GQuota.row),.sl 3 (t1.map GNode.row),.agg [.int .u8 o2.kind,.sl 1 (o2.path.map zR),.int .i64 o2.n,.str o2.text,.sl 3 (o2.dots.map GDot.row)]] h (fun rr hh=>rr=.bool res∧hh=h):=by
 unfold vZ at hF
 refine zw Try.func4 rfl (by kernel_rfl) (env:=[.sl 5 (l0.map GQuota.row),.sl 3 (t1.map GNode.row),.agg [.int .u8 o2.kind,.sl 1 (o2.path.map zR),.int .i64 o2.n,.str o2.text,.sl 3 (o2.dots.map GDot.row)],za,za,za,za,za,za,za,za,za,za,za,za,za,za,za,za,za,za,za,za,za,za,za,za,za,za,za,za,za,za,za,za,za,za,za,za,za,za,za,za,za,za]) (by rfl) ?_
 refine zn (zd ?_)
 refine zc rfl (xP (n:=0) rfl yQ (zb rfl) rfl rfl) xI ?_
 refine zc rfl (zi rfl rfl (zb rfl)) xT ?_
 refine zf (zj (zn (zn (zd ?_))))
 refine zc rfl (ze rfl yd (zb rfl)) wE ?_
 refine z7 rfl (zX rfl rfl rfl rfl el45 x4 z8) yC fun hn1=>?_
 replace hn1:=xG hn1
 refine zc rfl (ze rfl rfl (zb rfl)) yz ?_
 refine zf (zj (zI ?_))
 refine yw (fun (n1:Nat) (s1:Unit)=>yv [2,3,4,6,7,8,12,13,14,15,16,17,18,19,20,21,22,23,24,25,26,27,28,29,30,31,32,33,34,35,36,37,38,39,40,41,42,43,44] [(11,.int .i64 (n1:Int))]) (fun s1=>h.ext [.cells [.int .u8 o2.kind,.sl 1 (o2.path.map zR),.int .i64 o2.n,.str o2.text,.sl 3 (o2.dots.map GDot.row)]] []) hF (fun _ _=>by simp only [yv,upd,List.set_cons_succ,List.set_cons_zero];try rfl) (wk.le (by exact (.eq (.eq (.drop (.drop (.drop (.eq (.drop (.drop (.drop (.eq (.eq (.cons (leV.of_eq rfl) (.d16 (.d16 (.drop leL.nil))))))))))))))))) ?_
 intro n1 s1 hi1 hF
 refine zn (zd ?_)
 refine zc rfl (zr rfl yh yl rfl) yL ?_
 refine zf (zj (zn ?_))
 refine y7 yJ hF (fun x1 o1 hl1 hx1 hF hK1=>?_) (fun hF=>?_)
 ·refine zH (zj (zn (zI (zn (zd ?_)))))
  refine zc rfl (yM rfl el45 x4 yh qI (xl hx1)) yO ?_
  refine zc rfl (yf rfl ty46.choose_spec.1 yE (zF (cs':=[.str x1.name,.int .i64 x1.leaves,.int .i64 x1.items,.int .i64 x1.tombs,.int .i64 x1.bytes]) ty46.choose_spec.2 rfl rfl) (zb rfl)) yS ?_
  refine zc rfl (xn (n:=1) rfl ze46 rfl) xS ?_
  refine zc rfl (yk (cs':=[.str x1.name,.int .i64 x1.leaves,.int .i64 x1.items,.int .i64 x1.tombs,.int .i64 x1.bytes]) rfl ty46.choose_spec.1 xu yP (zb rfl) rfl rfl rfl rfl rfl) rfl ?_
  refine zf (zj (zn (zd ?_)))
  refine zc rfl (zk rfl fo46x0 xu rfl) yW ?_
  refine zc rfl (zy rfl ty9 yU rfl (zt rfl) (zb rfl)) xa ?_
  refine z7 rfl (wJ rfl rfl rfl rfl ty9 yR) xd fun hn12=>?_
  replace hn12:=xG hn12
  refine zc rfl (zr rfl xb rfl rfl) xq ?_
  refine zf (zj ?_)
  refine zG yD hF (fun hc13 hF=>?_) (fun hc13 hF=>?_)
  ·refine zn (zd ?_)
   refine zc rfl (zi rfl rfl (zb rfl)) xT ?_
   refine zf (zj (zO ?_))
   refine zJ ?_
   refine zC ?_
   refine yp ?_
   obtain rfl:=Option.some.inj hF
   replace hF:=hK1
   refine zJ ?_
   refine zC ?_
   obtain rfl:=Option.some.inj hF
   refine zA rfl (zE y5 zB) (zD (leV.refl _) rfl ?_)
   exact ⟨rfl,rfl⟩
  ·refine zH (zY (zj (zd ?_)))
   refine zc rfl (zr rfl yh rfl rfl) xr ?_
   refine zc rfl (ze rfl xz (zb rfl)) yz ?_
   refine zf (yi ?_)
   obtain rfl:=Option.some.inj hF
   exact ⟨(),hl1,hK1,wk.trans (wk.le (by exact (.eq (.eq (.drop (.drop (.drop (.eq (.drop (.drop (.drop (.eq (.eq (.cons (leV.of_eq (qp (by omega) (by omega))) (.d16 (.d16 (.drop leL.nil))))))))))))))))) (wD (by simp [z9,AV.low]) rfl rfl (by simp [Blk.low,z9,AV.low]))⟩
 ·refine yy ?_
  refine zT ?_
  refine zP ?_
  refine zQ ?_
  refine zj (zn (zd ?_))
  refine zc rfl (ze rfl yd (zb rfl)) xV ?_
  refine z7 rfl (zX rfl rfl rfl rfl el45 xi z8) xU fun hn14=>?_
  replace hn14:=xG hn14
  refine zc rfl (zr rfl xY rfl rfl) wa ?_
  refine zc rfl (ze rfl wb (zb rfl)) wh ?_
  refine zq rfl (fun hb=>ze rfl yo (zb rfl)) wu ?_
  refine wi hF (fun v15 hv15 hF=>?_)
  refine xN rfl (fun hb=>zz rfl rfl rfl (zg (zp xg hb) zu) (.cons (zb rfl) .nil)) (fun hb=>ok12 (hv15 hb)) wB ?_
  refine zc rfl (zM rfl xH rfl ww (ya (fun ht=>gF ht))) va ?_
  refine zc rfl (ze rfl vg (zb rfl)) wV ?_
  refine zq rfl (fun hb=>zk rfl fo28x4 yX rfl) vm ?_
  refine zq rfl (fun hb=>zy rfl ty26 (zp vo hb) rfl (zt rfl) (zb rfl)) vu ?_
  refine vc rfl (fun hb=>zX rfl rfl rfl rfl qK (zp vy hb) z8) vt fun hn16=>?_
  refine zq rfl (fun hb=>zr rfl (zp vn hb) rfl rfl) vr ?_
  refine zc rfl (zM rfl wX rfl vU (ya (fun ht=>gF ht))) wU ?_
  refine zc rfl (ze rfl wM (zb rfl)) w9 ?_
  refine zq rfl (fun hb=>zk rfl fo28x1 yX rfl) wT ?_
  refine zq rfl (fun hb=>zy rfl ty25 (zp wL hb) rfl (zt rfl) (zb rfl)) wS ?_
  refine vc rfl (fun hb=>zX rfl rfl rfl rfl el25 (zp wP hb) z8) w8 fun hn17=>?_
  refine zq rfl (fun hb=>zr rfl (zp vf hb) rfl rfl) wZ ?_
  refine zc rfl (zM rfl wW rfl ve (ya (fun ht=>gF ht))) vD ?_
  refine zc rfl (ze rfl vJ (zb rfl)) vC ?_
  refine zq rfl (fun hb=>zk rfl fo28x3 yX rfl) (sk st0) ?_
  refine zq rfl (fun hb=>zy rfl ty9 (zp (gk yd) hb) rfl (zt rfl) (zb rfl)) (sk st1) ?_
  refine vc rfl (fun hb=>wJ rfl rfl rfl rfl ty9 (zp (gk yo) hb)) (sk xj) fun hn18=>?_
  refine zq rfl (fun hb=>zr rfl (zp (gk yQ) hb) rfl rfl) (sk wA) ?_
  refine zc rfl (zM rfl vI rfl (gk yY) (ya (fun ht=>gF ht))) (sk yK) ?_
  refine zc rfl (zi rfl (gk yG) (zb rfl)) xT ?_
  refine zf (zj (zO ?_))
  obtain rfl:=Option.some.inj hF
  refine zA rfl (zE y5 zB) (zD (leV.refl _) rfl ?_)
  exact ⟨rfl,rfl⟩
theorem ok24 {s0:yg} {res:Bool} {h:AH}  (hF:ref04IsName s0=some res):Spec Try.prog 24 [.str s0] h (fun rr hh=>rr=.bool res∧hh=h):=by
 unfold ref04IsName at hF
 refine zw Try.func24 rfl (by kernel_rfl) (env:=[.str s0,za,za,za,za,za,za,za,za,za,za,za,za,za,za,za,za,za,za,za,za,za,za,za,za,za,za,za,za,za,za,za,za,za,za,za,za,za,za,za,za,za,za,za,za]) (by rfl) ?_
 refine zn (zd ?_)
 refine zc rfl (zi rfl rfl (zb rfl)) xj ?_
 refine zf (zj (zn (zn (zd ?_))))
 refine zc rfl (ze rfl yd (zb rfl)) xI ?_
 refine z7 rfl (wJ rfl rfl rfl rfl ty9 yX) xT fun hn1=>?_
 replace hn1:=xG hn1
 refine zc rfl (zr rfl y5 rfl rfl) x9 ?_
 refine zc rfl (ze rfl xE (zb rfl)) xS ?_
 refine zq rfl (fun hb=>ze rfl yd (zb rfl)) wE ?_
 refine vc rfl (fun hb=>wJ rfl rfl rfl rfl ty9 (zp x4 hb)) yC fun hn2=>?_
 refine zq rfl (fun hb=>zr rfl (zp yl hb) rfl rfl) yz ?_
 refine zc rfl (zM rfl xu rfl yh (ya (fun ht=>gF ht))) yL ?_
 refine zf (zj ?_)
 refine zG yJ hF (fun hc3 hF=>?_) (fun hc3 hF=>?_)
 ·refine zn (zd ?_)
  refine zc rfl (zi rfl rfl (zb rfl)) xj ?_
  refine zf (zj (zO (zC ?_)))
  obtain rfl:=Option.some.inj hF
  refine zA rfl (zE yQ zB) (zD (leV.refl _) rfl ?_)
  exact ⟨rfl,rfl⟩
 ·refine zH (zj (zn (zn (zd ?_))))
  refine zc rfl (zi rfl rfl (zb rfl)) wA ?_
  refine zf (zj (zI ?_))
  refine yw (fun (n1:Nat) (s1:Unit)=>yv [1,2,4,5,6,7,8,9,10,11,12,13,14,15,16,17,18,19,20,21,22,23,24,25,26,27,28,29,30,31,32,33,34,35,36,37,38,39,40,41,42,43,44] [(3,.int .i64 (n1:Int))]) (fun s1=>h.ext [] []) hF (fun _ _=>by simp only [yv,upd,List.set_cons_succ,List.set_cons_zero];try rfl) (wk.le (by exact (.eq (.drop (.drop (.cons (leV.of_eq rfl) (.d16 (.d16 (.d4 (.d4 (.drop leL.nil))))))))))) ?_
  intro n1 s1 hi1 hF
  refine zn (zn (zd ?_))
  refine zc rfl (ze rfl yY (zb rfl)) yO ?_
  refine zc rfl (ze rfl yd (zb rfl)) yS ?_
  refine z7 rfl (wJ rfl rfl rfl rfl ty9 yP) yW fun hn10=>?_
  replace hn10:=xG hn10
  refine zc rfl (zr rfl yE yU rfl) xa ?_
  refine zf (zj ?_)
  refine y7 yR hF (fun x1 o1 hl1 hx1 hF hK1=>?_) (fun hF=>?_)
  ·refine zH (zj (zn (zI (zn (zd ?_)))))
   refine zc rfl (ze rfl yd (zb rfl)) xr ?_
   refine zc rfl (ze rfl yY (zb rfl)) xV ?_
   refine zc rfl (s_idxStr rfl ty9 xz xi (xl hx1)) xU ?_
   refine zc rfl (zi rfl xY (zb rfl)) yK ?_
   refine zf (zj (zn (zd ?_)))
   refine zc rfl (ze rfl yG (zb rfl)) wa ?_
   refine zc rfl (zr rfl wb rfl rfl) wh ?_
   refine zc rfl (ze rfl xH (zb rfl)) wu ?_
   refine zq rfl (fun hb=>ze rfl yG (zb rfl)) wB ?_
   refine zq rfl (fun hb=>zr rfl (zp ww hb) rfl rfl) va ?_
   refine zc rfl (zM rfl xg vg rfl (zS (fun ht=>gT ht))) wV ?_
   refine zc rfl (ze rfl wX (zb rfl)) vm ?_
   refine zq rfl (fun hb=>ze rfl yG (zb rfl)) vu ?_
   refine zq rfl (fun hb=>zr rfl (zp vy hb) rfl rfl) vt ?_
   refine zq rfl (fun hb=>ze rfl (zp vn hb) (zb rfl)) vr ?_
   refine zq (zW rfl rfl rfl) (fun hb=>ze rfl yG (zb rfl)) wU ?_
   refine zq (zW rfl rfl rfl) (fun hb=>zr rfl (zp wM hb) rfl rfl) w9 ?_
   refine zq rfl (fun hb=>zM rfl (zp vU hb) wW rfl (zS (fun ht=>gT2 hb ht))) wT ?_
   refine zc rfl (zM rfl vo rfl wL (ya (fun ht=>gF ht))) wS ?_
   refine zc rfl (ze rfl wP (zb rfl)) w8 ?_
   refine zq rfl (fun hb=>ze rfl yG (zb rfl)) wZ ?_
   refine zq rfl (fun hb=>zr rfl (zp ve hb) rfl rfl) vD ?_
   refine zq rfl (fun hb=>ze rfl (zp vJ hb) (zb rfl)) vC ?_
   refine zq (zW rfl rfl rfl) (fun hb=>ze rfl yG (zb rfl)) (sk st0) ?_
   refine zq (zW rfl rfl rfl) (fun hb=>zr rfl (zp (gk yd) hb) rfl rfl) (sk st1) ?_
   refine zq rfl (fun hb=>zM rfl (zp vI hb) (gk yo) rfl (zS (fun ht=>gT2 hb ht))) (sk xj) ?_
   refine zc rfl (zM rfl vf rfl (gk yQ) (ya (fun ht=>gF ht))) (sk wA) ?_
   refine zc rfl (qm rfl (gk yY) rfl) (sk yK) ?_
   refine zf (zj ?_)
   refine zG (gk yG) hF (fun hc11 hF=>?_) (fun hc11 hF=>?_)
   ·refine zn (zd ?_)
    refine zc rfl (zi rfl rfl (zb rfl)) xj ?_
    refine zf (zj (zO ?_))
    refine zJ ?_
    refine zC ?_
    refine yp ?_
    obtain rfl:=Option.some.inj hF
    replace hF:=hK1
    refine zJ ?_
    refine zC ?_
    obtain rfl:=Option.some.inj hF
    refine zA rfl (zE yQ zB) (zD (leV.refl _) rfl ?_)
    exact ⟨rfl,rfl⟩
   ·refine zH (zY (zj (zd ?_)))
    refine zc rfl (ze rfl yY (zb rfl)) xd ?_
    refine zc rfl (zr rfl xb rfl rfl) xq ?_
    refine zc rfl (zi rfl yD (zb rfl)) wA ?_
    refine zf (yi ?_)
    obtain rfl:=Option.some.inj hF
    exact ⟨(),hl1,hK1,wk.le (by exact (.eq (.drop (.drop (.cons (leV.of_eq (qp (by omega) (by omega))) (.d16 (.d16 (.d4 (.d4 (.drop leL.nil))))))))))⟩
  ·refine yy ?_
   refine zT ?_
   refine zP ?_
   refine zQ ?_
   refine zj (zn (zd ?_))
   refine zc rfl (zi rfl rfl (zb rfl)) xj ?_
   refine zf (zj (zO ?_))
   obtain rfl:=Option.some.inj hF
   refine zA rfl (zE yQ zB) (zD (leV.refl _) rfl ?_)
   exact ⟨rfl,rfl⟩
theorem ok48 {a0:GActor} {res:Bool} {h:AH}  (hF:qq a0=some res):Spec Try.prog 48 [.agg [.int .u8 a0.rep,.int .u32 a0.inc]] h (fun rr hh=>rr=.bool res∧hh=h):=by
 unfold qq at hF
 refine zw Try.func48 rfl (by kernel_rfl) (env:=[.agg [.int .u8 a0.rep,.int .u32 a0.inc],za,za,za,za,za,za,za,za,za,za,za,za,za,za,za]) (by rfl) ?_
 refine zn (zd ?_)
 refine zc rfl (xP (n:=0) rfl yd (zb rfl) rfl rfl) st1 ?_
 refine zc rfl (zi rfl rfl (zb rfl)) xj ?_
 refine zf (zj (zn (zd ?_)))
 refine zc rfl (zk rfl fo51x0 yo rfl) wA ?_
 refine zc rfl (zy rfl ty5 yY rfl (zt rfl) (zb rfl)) yK ?_
 refine zc rfl (zr rfl yG rfl rfl) xI ?_
 refine zc rfl (ze rfl yX (zb rfl)) xT ?_
 refine zq rfl (fun hb=>zk rfl fo51x1 yo rfl) x9 ?_
 refine zq rfl (fun hb=>zy rfl ty49 (zp xE hb) rfl (zt rfl) (zb rfl)) xS ?_
 refine zq rfl (fun hb=>zr rfl (zp xu hb) rfl rfl) wE ?_
 refine zc rfl (zM rfl y5 x4 rfl (zS (fun ht=>gT ht))) yC ?_
 refine zc rfl (ze rfl yl (zb rfl)) yz ?_
 refine zq rfl (fun hb=>zk rfl fo51x1 yo rfl) yL ?_
 refine zq rfl (fun hb=>zy rfl ty49 (zp yJ hb) rfl (zt rfl) (zb rfl)) yO ?_
 refine zq rfl (fun hb=>zr rfl (zp yE hb) rfl rfl) yS ?_
 refine zc rfl (zM rfl yh yP rfl (zS (fun ht=>gT ht))) yW ?_
 refine zc rfl (zi rfl yU (zb rfl)) xj ?_
 refine zf (zj (zO ?_))
 obtain rfl:=Option.some.inj hF
 refine zA rfl (zE yQ zB) (zD (leV.refl _) rfl ?_)
 exact ⟨rfl,rfl⟩
theorem ok32 {d0:GDot} {res:Bool} {h:AH}  (hF:ref03May d0=some res):Spec Try.prog 32 [.agg [.int .u8 d0.actor.rep,.int .u32 d0.actor.inc,.int .u64 d0.seq]] h (fun rr hh=>rr=.bool res∧hh=h):=by
 unfold ref03May at hF
 refine zw Try.func32 rfl (by kernel_rfl) (env:=[.agg [.int .u8 d0.actor.rep,.int .u32 d0.actor.inc,.int .u64 d0.seq],za,za,za,za,za,za,za,za,za,za,za,za,za,za,za]) (by rfl) ?_
 refine zn (zd ?_)
 refine zc rfl (xP (n:=0) rfl yd (zb rfl) rfl rfl) st1 ?_
 refine zc rfl (zi rfl rfl (zb rfl)) xj ?_
 refine zf (zj (zn (zd ?_)))
 refine zc rfl (zk rfl qP yo rfl) wA ?_
 refine zc rfl (zy rfl ty51.choose_spec.1 yY rfl (zF (cs':=[.int .u8 d0.actor.rep,.int .u32 d0.actor.inc]) ty51.choose_spec.2 rfl rfl) (zb rfl)) yK ?_
 refine zK hF (fun v1 hv1 hF=>?_)
 refine zU rfl (zz rfl rfl rfl (zg yG zu) (.cons (zb rfl) .nil)) (ok48 hv1) xI ?_
 refine zc rfl (ze rfl yX (zb rfl)) xT ?_
 refine zq rfl (fun hb=>zk rfl fo53x1 yo rfl) x9 ?_
 refine zq rfl (fun hb=>zy rfl wR (zp xE hb) rfl (zt rfl) (zb rfl)) xS ?_
 refine zq rfl (fun hb=>zr rfl (zp xu hb) rfl rfl) wE ?_
 refine zc rfl (zM rfl y5 x4 rfl (zS (fun ht=>gT ht))) yC ?_
 refine zc rfl (ze rfl yl (zb rfl)) yz ?_
 refine zq rfl (fun hb=>zk rfl fo53x1 yo rfl) yL ?_
 refine zq rfl (fun hb=>zy rfl wR (zp yJ hb) rfl (zt rfl) (zb rfl)) yO ?_
 refine zq rfl (fun hb=>zr rfl (zp yE hb) rfl rfl) yS ?_
 refine zc rfl (zM rfl yh yP rfl (zS (fun ht=>gT ht))) yW ?_
 refine zc rfl (zi rfl yU (zb rfl)) xj ?_
 refine zf (zj (zO ?_))
 obtain rfl:=Option.some.inj hF
 refine zA rfl (zE yQ zB) (zD (leV.refl _) rfl ?_)
 exact ⟨rfl,rfl⟩
theorem ok33 {l0:(List GItem)} {d1:GDot} {res:Int} {h:AH}  (hF:ref05Item l0 d1=some res):Spec Try.prog 33 [.sl 5 (l0.map GItem.row),.agg [.int .u8 d1.actor.rep,.int .u32 d1.actor.inc,.int .u64 d1.seq]] h (fun rr hh=>rr=.int .i64 res∧hh=h):=by
 unfold ref05Item at hF
 refine zw Try.func33 rfl (by kernel_rfl) (env:=[.sl 5 (l0.map GItem.row),.agg [.int .u8 d1.actor.rep,.int .u32 d1.actor.inc,.int .u64 d1.seq],za,za,za,za,za,za,za,za,za,za,za,za,za,za,za,za,za,za]) (by rfl) ?_
 refine zn (zd ?_)
 refine zc rfl (xP (n:=0) rfl yo (zb rfl) rfl rfl) wA ?_
 refine zc rfl (zi rfl rfl (zb rfl)) yK ?_
 refine zf (zj (zn (zn (zd ?_))))
 refine zc rfl (zi rfl rfl (zb rfl)) xI ?_
 refine zf (zj (zI ?_))
 refine yw (fun (n1:Nat) (s1:Unit)=>yv [1,2,4,6,7,8,9,10,11,12,13,14,15,16,17,18,19] [(5,.int .i64 (n1:Int))]) (fun s1=>h.ext [.cells [.int .u8 d1.actor.rep,.int .u32 d1.actor.inc,.int .u64 d1.seq]] []) hF (fun _ _=>by simp only [yv,upd,List.set_cons_succ,List.set_cons_zero];try rfl) (wk.le (by exact (.eq (.drop (.drop (.eq (.drop (.cons (leV.of_eq rfl) (.d4 (.d4 (.d4 (.drop (.drop leL.nil))))))))))))) ?_
 intro n1 s1 hi1 hF
 refine zn (zn (zd ?_))
 refine zc rfl (ze rfl yX (zb rfl)) xT ?_
 refine zc rfl (ze rfl yd (zb rfl)) x9 ?_
 refine z7 rfl (zX rfl rfl rfl rfl vV xE z8) xS fun hn10=>?_
 replace hn10:=xG hn10
 refine zc rfl (zr rfl y5 xu rfl) wE ?_
 refine zf (zj ?_)
 refine y7 x4 hF (fun x1 o1 hl1 hx1 hF hK1=>?_) (fun hF=>?_)
 ·refine zH (zj (zn (zI (zn ?_))))
  refine yr [] [] trivial xF (by kernel_rfl) ?_
  refine zo rfl rfl (ze rfl yd (zb rfl)) yL ?_
  refine zo rfl rfl (ze rfl yX (zb rfl)) yO ?_
  refine zo rfl rfl (yM rfl vV yJ yE qI (xl hx1)) yS ?_
  refine zo rfl rfl (zk rfl fo56x1 yP rfl) yW ?_
  refine zo rfl rfl (yf rfl ty53.choose_spec.1 yU (zF (cs':=[.int .u8 x1.dot.actor.rep,.int .u32 x1.dot.actor.inc,.int .u64 x1.dot.seq]) ty53.choose_spec.2 rfl rfl) (zb rfl)) xa ?_
  refine zo rfl rfl (zy rfl ty53.choose_spec.1 yY rfl (zF (cs':=[.int .u8 d1.actor.rep,.int .u32 d1.actor.inc,.int .u64 d1.seq]) ty53.choose_spec.2 rfl rfl) (zb rfl)) xd ?_
  refine zo rfl rfl (zr rfl yR xb (bin_eq pk53 rfl)) xq ?_
  refine yc ?_
  refine zj ?_
  refine zG yD hF (fun hc11 hF=>?_) (fun hc11 hF=>?_)
  ·refine zn (zd ?_)
   refine zc rfl (ze rfl yX (zb rfl)) xr ?_
   refine zc rfl (zi rfl xz (zb rfl)) yK ?_
   refine zf (zj (zO ?_))
   refine zJ ?_
   refine zC ?_
   refine yp ?_
   obtain rfl:=Option.some.inj hF
   replace hF:=hK1
   refine zJ ?_
   refine zC ?_
   obtain rfl:=Option.some.inj hF
   refine zA rfl (zE yG zB) (zD (leV.refl _) rfl ?_)
   exact ⟨rfl,rfl⟩
  ·refine zH (zY (zj (zd ?_)))
   refine zc rfl (ze rfl yX (zb rfl)) yC ?_
   refine zc rfl (zr rfl yl rfl rfl) yz ?_
   refine zc rfl (zi rfl yh (zb rfl)) xI ?_
   refine zf (yi ?_)
   obtain rfl:=Option.some.inj hF
   exact ⟨(),hl1,hK1,wk.le (by exact (.eq (.drop (.drop (.eq (.drop (.cons (leV.of_eq (qp (by omega) (by omega))) (.d4 (.d4 (.d4 (.drop (.drop leL.nil))))))))))))⟩
 ·refine yy ?_
  refine zT ?_
  refine zP ?_
  refine zQ ?_
  refine zj (zn (zd ?_))
  refine zc rfl (zi rfl rfl (zb rfl)) yK ?_
  refine zf (zj (zO ?_))
  obtain rfl:=Option.some.inj hF
  refine zA rfl (zE yG zB) (zD (leV.refl _) rfl ?_)
  exact ⟨rfl,rfl⟩
theorem ok34 {l0:(List GDot)} {d1:GDot} {res:Bool} {h:AH}  (hF:ref05Tomb l0 d1=some res):Spec Try.prog 34 [.sl 3 (l0.map GDot.row),.agg [.int .u8 d1.actor.rep,.int .u32 d1.actor.inc,.int .u64 d1.seq]] h (fun rr hh=>rr=.bool res∧hh=h):=by
 unfold ref05Tomb at hF
 refine zw Try.func34 rfl (by kernel_rfl) (env:=[.sl 3 (l0.map GDot.row),.agg [.int .u8 d1.actor.rep,.int .u32 d1.actor.inc,.int .u64 d1.seq],za,za,za,za,za,za,za,za,za,za,za,za,za,za,za,za]) (by rfl) ?_
 refine zn (zd ?_)
 refine zc rfl (xP (n:=0) rfl yo (zb rfl) rfl rfl) wA ?_
 refine zc rfl (zi rfl rfl (zb rfl)) yK ?_
 refine zf (zj (zn (zn (zd ?_))))
 refine zc rfl (zi rfl rfl (zb rfl)) xI ?_
 refine zf (zj (zI ?_))
 refine yw (fun (n1:Nat) (s1:Unit)=>yv [1,2,4,6,7,8,9,10,11,12,13,14,15,16,17] [(5,.int .i64 (n1:Int))]) (fun s1=>h.ext [.cells [.int .u8 d1.actor.rep,.int .u32 d1.actor.inc,.int .u64 d1.seq]] []) hF (fun _ _=>by simp only [yv,upd,List.set_cons_succ,List.set_cons_zero];try rfl) (wk.le (by exact (.eq (.drop (.drop (.eq (.drop (.cons (leV.of_eq rfl) (.d4 (.d4 (.d4 leL.nil))))))))))) ?_
 intro n1 s1 hi1 hF
 refine zn (zn (zd ?_))
 refine zc rfl (ze rfl yX (zb rfl)) xT ?_
 refine zc rfl (ze rfl yd (zb rfl)) x9 ?_
 refine z7 rfl (zX rfl rfl rfl rfl qK xE z8) xS fun hn10=>?_
 replace hn10:=xG hn10
 refine zc rfl (zr rfl y5 xu rfl) wE ?_
 refine zf (zj ?_)
 refine y7 x4 hF (fun x1 o1 hl1 hx1 hF hK1=>?_) (fun hF=>?_)
 ·refine zH (zj (zn (zI (zn ?_))))
  refine yr [] [] trivial xF (by kernel_rfl) ?_
  refine zo rfl rfl (ze rfl yd (zb rfl)) yL ?_
  refine zo rfl rfl (ze rfl yX (zb rfl)) yO ?_
  refine zo rfl rfl (yM rfl qK yJ yE qI (xl hx1)) yS ?_
  refine zo rfl rfl (yf rfl ty53.choose_spec.1 yP (zF (cs':=[.int .u8 x1.actor.rep,.int .u32 x1.actor.inc,.int .u64 x1.seq]) ty53.choose_spec.2 rfl rfl) (zb rfl)) yW ?_
  refine zo rfl rfl (zy rfl ty53.choose_spec.1 yY rfl (zF (cs':=[.int .u8 d1.actor.rep,.int .u32 d1.actor.inc,.int .u64 d1.seq]) ty53.choose_spec.2 rfl rfl) (zb rfl)) xa ?_
  refine zo rfl rfl (zr rfl yU yR (bin_eq pk53 rfl)) xd ?_
  refine yc ?_
  refine zj ?_
  refine zG xb hF (fun hc11 hF=>?_) (fun hc11 hF=>?_)
  ·refine zn (zd ?_)
   refine zc rfl (zi rfl rfl (zb rfl)) yK ?_
   refine zf (zj (zO ?_))
   refine zJ ?_
   refine zC ?_
   refine yp ?_
   obtain rfl:=Option.some.inj hF
   replace hF:=hK1
   refine zJ ?_
   refine zC ?_
   obtain rfl:=Option.some.inj hF
   refine zA rfl (zE yG zB) (zD (leV.refl _) rfl ?_)
   exact ⟨rfl,rfl⟩
  ·refine zH (zY (zj (zd ?_)))
   refine zc rfl (ze rfl yX (zb rfl)) yC ?_
   refine zc rfl (zr rfl yl rfl rfl) yz ?_
   refine zc rfl (zi rfl yh (zb rfl)) xI ?_
   refine zf (yi ?_)
   obtain rfl:=Option.some.inj hF
   exact ⟨(),hl1,hK1,wk.le (by exact (.eq (.drop (.drop (.eq (.drop (.cons (leV.of_eq (qp (by omega) (by omega))) (.d4 (.d4 (.d4 leL.nil))))))))))⟩
 ·refine yy ?_
  refine zT ?_
  refine zP ?_
  refine zQ ?_
  refine zj (zn (zd ?_))
  refine zc rfl (zi rfl rfl (zb rfl)) yK ?_
  refine zf (zj (zO ?_))
  obtain rfl:=Option.some.inj hF
  refine zA rfl (zE yG zB) (zD (leV.refl _) rfl ?_)
  exact ⟨rfl,rfl⟩
theorem ok36 {a0:GDot} {b1:GDot} {res:Bool} {h:AH}  (hF:ref03Less a0 b1=some res):Spec Try.prog 36 [.agg [.int .u8 a0.actor.rep,.int .u32 a0.actor.inc,.int .u64 a0.seq],.agg [.int .u8 b1.actor.rep,.int .u32 b1.actor.inc,.int .u64 b1.seq]] h (fun rr hh=>rr=.bool res∧hh=h):=by
 unfold ref03Less at hF
 refine zw Try.func36 rfl (by kernel_rfl) (env:=[.agg [.int .u8 a0.actor.rep,.int .u32 a0.actor.inc,.int .u64 a0.seq],.agg [.int .u8 b1.actor.rep,.int .u32 b1.actor.inc,.int .u64 b1.seq],za,za,za,za,za,za,za,za,za,za,za,za,za,za,za,za,za,za,za,za,za,za,za,za,za,za,za,za,za,za,za,za,za,za,za,za]) (by rfl) ?_
 refine zn (zd ?_)
 refine zc rfl (xP (n:=0) rfl yd (zb rfl) rfl rfl) xj ?_
 refine zc rfl (xP (n:=1) rfl yo (zb rfl) rfl rfl) wA ?_
 refine zc rfl (zi rfl rfl (zb rfl)) yK ?_
 refine zf (zj (zn (zn (zd ?_))))
 refine zc rfl (zk rfl qP yQ rfl) xI ?_
 refine zc rfl (zk rfl fo51x0 yX rfl) xT ?_
 refine zc rfl (zy rfl ty5 y5 rfl (zt rfl) (zb rfl)) x9 ?_
 refine zc rfl (zk rfl qP yY rfl) xS ?_
 refine zc rfl (zk rfl fo51x0 xu rfl) wE ?_
 refine zc rfl (zy rfl ty5 x4 rfl (zt rfl) (zb rfl)) yC ?_
 refine zc rfl (zr rfl xE yl rfl) yz ?_
 refine zf (zj ?_)
 refine zG yh hF (fun hc1 hF=>?_) (fun hc1 hF=>?_)
 ·refine zn (zd ?_)
  refine zc rfl (zk rfl qP yQ rfl) yL ?_
  refine zc rfl (zk rfl fo51x0 yJ rfl) yO ?_
  refine zc rfl (zy rfl ty5 yE rfl (zt rfl) (zb rfl)) yS ?_
  refine zc rfl (zk rfl qP yY rfl) yW ?_
  refine zc rfl (zk rfl fo51x0 yU rfl) xa ?_
  refine zc rfl (zy rfl ty5 yR rfl (zt rfl) (zb rfl)) xd ?_
  refine zc rfl (zr rfl yP xb rfl) xq ?_
  refine zc rfl (zi rfl yD (zb rfl)) yK ?_
  refine zf (zj (zO (zC ?_)))
  obtain rfl:=Option.some.inj hF
  refine zA rfl (zE yG zB) (zD (leV.refl _) rfl ?_)
  exact ⟨rfl,rfl⟩
 ·refine zH (zj (zn (zn (zd ?_))))
  refine zc rfl (zk rfl qP yQ rfl) xr ?_
  refine zc rfl (zk rfl fo51x1 xz rfl) xV ?_
  refine zc rfl (zy rfl ty49 xi rfl (zt rfl) (zb rfl)) xU ?_
  refine zc rfl (zk rfl qP yY rfl) wa ?_
  refine zc rfl (zk rfl fo51x1 wb rfl) wh ?_
  refine zc rfl (zy rfl ty49 xH rfl (zt rfl) (zb rfl)) wu ?_
  refine zc rfl (zr rfl xY xg rfl) wB ?_
  refine zf (zj ?_)
  refine zG ww hF (fun hc2 hF=>?_) (fun hc2 hF=>?_)
  ·refine zn (zd ?_)
   refine zc rfl (zk rfl qP yQ rfl) va ?_
   refine zc rfl (zk rfl fo51x1 vg rfl) wV ?_
   refine zc rfl (zy rfl ty49 wX rfl (zt rfl) (zb rfl)) vm ?_
   refine zc rfl (zk rfl qP yY rfl) vu ?_
   refine zc rfl (zk rfl fo51x1 vy rfl) vt ?_
   refine zc rfl (zy rfl ty49 vn rfl (zt rfl) (zb rfl)) vr ?_
   refine zc rfl (zr rfl vo vU rfl) wU ?_
   refine zc rfl (zi rfl wM (zb rfl)) yK ?_
   refine zf (zj (zO (zC ?_)))
   obtain rfl:=Option.some.inj hF
   refine zA rfl (zE yG zB) (zD (leV.refl _) rfl ?_)
   exact ⟨rfl,rfl⟩
  ·refine zH (zj (zn (zd ?_)))
   refine zc rfl (zk rfl fo53x1 yQ rfl) w9 ?_
   refine zc rfl (zy rfl wR wW rfl (zt rfl) (zb rfl)) wT ?_
   refine zc rfl (zk rfl fo53x1 yY rfl) wS ?_
   refine zc rfl (zy rfl wR wP rfl (zt rfl) (zb rfl)) w8 ?_
   refine zc rfl (zr rfl wL vf rfl) wZ ?_
   refine zc rfl (zi rfl ve (zb rfl)) yK ?_
   refine zf (zj (zO ?_))
   obtain rfl:=Option.some.inj hF
   refine zA rfl (zE yG zB) (zD (leV.refl _) rfl ?_)
   exact ⟨rfl,rfl⟩
theorem ok35 {time0:Int} {d1:GDot} {other2:Int} {o3:GDot} {res:Bool} {h:AH}  (hF:ref05Ahead time0 d1 other2 o3=some res):Spec Try.prog 35 [.int .u64 time0,.agg [.int .u8 d1.actor.rep,.int .u32 d1.actor.inc,.int .u64 d1.seq],.int .u64 other2,.agg [.int .u8 o3.actor.rep,.int .u32 o3.actor.inc,.int .u64 o3.seq]] h (fun rr hh=>rr=.bool res∧hh=h):=by
 unfold ref05Ahead at hF
 refine zw Try.func35 rfl (by kernel_rfl) (env:=[.int .u64 time0,.agg [.int .u8 d1.actor.rep,.int .u32 d1.actor.inc,.int .u64 d1.seq],.int .u64 other2,.agg [.int .u8 o3.actor.rep,.int .u32 o3.actor.inc,.int .u64 o3.seq],za,za,za,za,za,za,za,za,za,za,za,za,za,za]) (by rfl) ?_
 refine zn (zd ?_)
 refine zc rfl (xP (n:=0) rfl yo (zb rfl) rfl rfl) xI ?_
 refine zc rfl (xP (n:=1) rfl yY (zb rfl) rfl rfl) x9 ?_
 refine zc rfl (zi rfl rfl (zb rfl)) xS ?_
 refine zf (zj (zn (zn (zd ?_))))
 refine zc rfl (ze rfl yd (zb rfl)) wE ?_
 refine zc rfl (ze rfl yQ (zb rfl)) yC ?_
 refine zc rfl (zr rfl x4 yl rfl) yz ?_
 refine zf (zj ?_)
 refine zG yh hF (fun hc1 hF=>?_) (fun hc1 hF=>?_)
 ·refine zn (zd ?_)
  refine zc rfl (ze rfl yd (zb rfl)) yL ?_
  refine zc rfl (ze rfl yQ (zb rfl)) yO ?_
  refine zc rfl (zr rfl yJ yE rfl) yS ?_
  refine zc rfl (zi rfl yP (zb rfl)) xS ?_
  refine zf (zj (zO (zC ?_)))
  obtain rfl:=Option.some.inj hF
  refine zA rfl (zE xu zB) (zD (leV.refl _) rfl ?_)
  exact ⟨rfl,rfl⟩
 ·refine zH (zj (zn (zd ?_)))
  refine zc rfl (zy rfl ty53.choose_spec.1 yX rfl (zF (cs':=[.int .u8 d1.actor.rep,.int .u32 d1.actor.inc,.int .u64 d1.seq]) ty53.choose_spec.2 rfl rfl) (zb rfl)) yW ?_
  refine zc rfl (zy rfl ty53.choose_spec.1 xE rfl (zF (cs':=[.int .u8 o3.actor.rep,.int .u32 o3.actor.inc,.int .u64 o3.seq]) ty53.choose_spec.2 rfl rfl) (zb rfl)) xa ?_
  refine zK hF (fun v2 hv2 hF=>?_)
  refine zU rfl (zz rfl rfl rfl (zg yU (zg yR zu)) (.cons (zb rfl) (.cons (zb rfl) .nil))) (ok36 hv2) xd ?_
  refine zc rfl (zi rfl xb (zb rfl)) xS ?_
  refine zf (zj (zO ?_))
  obtain rfl:=Option.some.inj hF
  refine zA rfl (zE xu zB) (zD (leV.refl _) rfl ?_)
  exact ⟨rfl,rfl⟩
theorem ok25 {l0:GLeaf} {res:Bool} {h:AH}  (hF:ref05May l0=some res):Spec Try.prog 25 [.agg [.int .u8 l0.typ,.int .i64 l0.n,.int .u64 l0.time,.int .u8 l0.dot.actor.rep,.int .u32 l0.dot.actor.inc,.int .u64 l0.dot.seq,.str l0.text,.sl 5 (l0.items.map GItem.row),.sl 3 (l0.tombs.map GDot.row)]] h (fun rr hh=>rr=.bool res∧hh=h):=by
 unfold ref05May at hF
 refine zw Try.func25 rfl (by kernel_rfl) (env:=[.agg [.int .u8 l0.typ,.int .i64 l0.n,.int .u64 l0.time,.int .u8 l0.dot.actor.rep,.int .u32 l0.dot.actor.inc,.int .u64 l0.dot.seq,.str l0.text,.sl 5 (l0.items.map GItem.row),.sl 3 (l0.tombs.map GDot.row)],za,za,za,za,za,za,za,za,za,za,za,za,za,za,za,za,za,za,za,za,za,za,za,za,za,za,za,za,za,za,za,za,za,za,za,za,za,za,za,za,za,za,za,za,za,za,za,za,za,za,za,za,za,za,za,za,za,za,za,za,za,za,za,za,za,za,za,za,za,za,za,za,za,za,za,za,za,za,za,za,za,za,za,za,za,za,za,za,za,za,za,za,za,za,za,za,za,za,za,za,za,za,za,za,za,za,za,za,za,za,za,za,za,za,za,za,za,za,za,za,za,za,za,za,za,za,za,za,za,za,za,za,za,za,za,za,za,za,za,za,za,za,za,za,za,za,za,za,za,za,za,za,za,za,za,za,za,za,za,za,za,za,za,za,za,za,za,za,za,za,za,za,za,za,za,za,za,za,za,za,za,za,za,za,za,za,za,za,za,za,za,za,za,za,za,za,za,za,za,za,za,za,za,za]) (by rfl) ?_
 refine zn (zd ?_)
 refine zc rfl (xP (n:=0) rfl yd (zb rfl) rfl rfl) st1 ?_
 refine zc rfl (zi rfl rfl (zb rfl)) xj ?_
 refine zf (zj (zn (zn (zd ?_))))
 refine zc rfl (zk rfl qb yo rfl) x9 ?_
 refine zc rfl (zy rfl ty5 xE rfl (zt rfl) (zb rfl)) xS ?_
 refine zc rfl (zr rfl xu rfl rfl) wE ?_
 refine zc rfl (ze rfl x4 (zb rfl)) yC ?_
 refine zq rfl (fun hb=>zk rfl qb yo rfl) yz ?_
 refine zq rfl (fun hb=>zy rfl ty5 (zp yh hb) rfl (zt rfl) (zb rfl)) yL ?_
 refine zq rfl (fun hb=>zr rfl (zp yJ hb) rfl rfl) yO ?_
 refine zc rfl (zM rfl yl rfl yE (ya (fun ht=>gF ht))) yS ?_
 refine zc rfl (ze rfl yP (zb rfl)) yW ?_
 refine zq rfl (fun hb=>zk rfl qb yo rfl) xa ?_
 refine zq rfl (fun hb=>zy rfl ty5 (zp yR hb) rfl (zt rfl) (zb rfl)) xd ?_
 refine zq rfl (fun hb=>zr rfl (zp xb hb) rfl rfl) xq ?_
 refine zq rfl (fun hb=>ze rfl (zp yD hb) (zb rfl)) xr ?_
 refine zq (zW rfl rfl rfl) (fun hb=>zk rfl fo59x1 yo rfl) xV ?_
 refine zq (zW rfl rfl rfl) (fun hb=>zy rfl ty2 (zp xi hb) rfl (zt rfl) (zb rfl)) xU ?_
 refine zq (zW rfl rfl rfl) (fun hb=>zr rfl (zp xY hb) rfl rfl) wa ?_
 refine zq rfl (fun hb=>zM rfl (zp xz hb) wb rfl (zS (fun ht=>gT2 hb ht))) wh ?_
 refine zc rfl (zM rfl yU rfl xH (ya (fun ht=>gF ht))) wu ?_
 refine zc rfl (ze rfl xg (zb rfl)) wB ?_
 refine zq rfl (fun hb=>zk rfl qb yo rfl) va ?_
 refine zq rfl (fun hb=>zy rfl ty5 (zp vg hb) rfl (zt rfl) (zb rfl)) wV ?_
 refine zq rfl (fun hb=>zr rfl (zp wX hb) rfl rfl) vm ?_
 refine zq rfl (fun hb=>ze rfl (zp vo hb) (zb rfl)) vu ?_
 refine zq (zW rfl rfl rfl) (fun hb=>zk rfl wq yo rfl) vt ?_
 refine zq (zW rfl rfl rfl) (fun hb=>zy rfl ty57 (zp vn hb) rfl (zt rfl) (zb rfl)) vr ?_
 refine vc (zW rfl rfl rfl) (fun hb=>zX rfl rfl rfl rfl vV (zp vU hb) z8) wU fun hn1=>?_
 refine zq (zW rfl rfl rfl) (fun hb=>zr rfl (zp wM hb) rfl rfl) w9 ?_
 refine zq rfl (fun hb=>zM rfl (zp vy hb) wW rfl (zS (fun ht=>gT2 hb ht))) wT ?_
 refine zc rfl (zM rfl ww rfl wL (ya (fun ht=>gF ht))) wS ?_
 refine zc rfl (ze rfl wP (zb rfl)) w8 ?_
 refine zq rfl (fun hb=>zk rfl qb yo rfl) wZ ?_
 refine zq rfl (fun hb=>zy rfl ty5 (zp ve hb) rfl (zt rfl) (zb rfl)) vD ?_
 refine zq rfl (fun hb=>zr rfl (zp vJ hb) rfl rfl) vC ?_
 refine zq rfl (fun hb=>ze rfl (zp vI hb) (zb rfl)) (sk st0) ?_
 refine zq (zW rfl rfl rfl) (fun hb=>zk rfl vh yo rfl) (sk st1) ?_
 refine zq (zW rfl rfl rfl) (fun hb=>zy rfl ty26 (zp (gk yo) hb) rfl (zt rfl) (zb rfl)) (sk xj) ?_
 refine vc (zW rfl rfl rfl) (fun hb=>zX rfl rfl rfl rfl qK (zp (gk yQ) hb) z8) (sk wA) fun hn2=>?_
 refine zq (zW rfl rfl rfl) (fun hb=>zr rfl (zp (gk yY) hb) rfl rfl) (sk yK) ?_
 refine zq rfl (fun hb=>zM rfl (zp (gk yd) hb) (gk yG) rfl (zS (fun ht=>gT2 hb ht))) (sk xI) ?_
 refine zc rfl (zM rfl vf rfl (gk yX) (ya (fun ht=>gF ht))) (sk xT) ?_
 refine zf (zj ?_)
 refine zG (gk y5) hF (fun hc3 hF=>?_) (fun hc3 hF=>?_)
 ·refine zn (zd ?_)
  refine zc rfl (zi rfl rfl (zb rfl)) xj ?_
  refine zf (zj (zO (zC ?_)))
  obtain rfl:=Option.some.inj hF
  refine zA rfl (zE yQ zB) (zD (leV.refl _) rfl ?_)
  exact ⟨rfl,rfl⟩
 ·refine zH (zj (zn (zd ?_)))
  refine zc rfl (vw (cs':=[.int .u8 (0:Int),.int .u32 (0:Int),.int .u64 (0:Int)]) rfl su53 ze53 pl53 yb .nil rfl rfl) (sk x9) ?_
  refine zc rfl (xn (n:=1) rfl ze53 rfl) wA ?_
  refine zc rfl (yk (cs':=[.int .u8 (0:Int),.int .u32 (0:Int),.int .u64 (0:Int)]) rfl ty53.choose_spec.1 yY (gk xE) (zb rfl) rfl rfl rfl rfl rfl) rfl ?_
  refine zf (zj ?_)
  refine r_join (fun (s1:Unit)=>yv [0,2,3,4,5,6,7,8,9,10,11,12,13,14,15,16,17,18,19,20,21,22,23,24,25,26,27,28,29,30,31,32,33,34,35,36,37,38,39,40,41,42,43,44,45,46,47,48,49,50,51,52,53,54,55,56,57,58,59,60,61,62,63,64,65,66,67,68,69,70,71,72,73,74,75,76,77,78,79,80,81,82,83,84,85,86,87,88,89,90,91,92,93,94,95,96,97,98,99,100,101,102,103,104,105,106,107,108,109,110,111,112,113,114,115,116,117,118,119,120,121,122,123,124,125,126,127,128,129,130,131,132,133,134,135,136,137,138,139,140,141,142,143,144,145,146,147,148,149,150,151,152,153,154,155,156,157,158,159,160,161,162,163,164,165,166,167,168,169,170,171,172,173,174,175,176,177,178,179,180,181,182,183,184,185,186,187,188,189,190,191,192,193,194,195,196,197,198,199,200,201,202,203,204] []) (fun s1=>h.ext [.cells [.int .u8 l0.typ,.int .i64 l0.n,.int .u64 l0.time,.int .u8 l0.dot.actor.rep,.int .u32 l0.dot.actor.inc,.int .u64 l0.dot.seq,.str l0.text,.sl 5 (l0.items.map GItem.row),.sl 3 (l0.tombs.map GDot.row)],.cells [.int .u8 (0:Int),.int .u32 (0:Int),.int .u64 (0:Int)]] []) hF (fun _=>by simp only [yv,upd,List.set_cons_succ,List.set_cons_zero];try rfl) (fun o1 hF hK1=>?_) (fun s1 hF=>?_)
  ·refine zn (zd ?_)
   refine zc rfl (zk rfl qb yo rfl) (sk xS) ?_
   refine zc rfl (zy rfl ty5 (gk xu) rfl (zt rfl) (zb rfl)) (sk wE) ?_
   refine zc rfl (zr rfl (gk x4) rfl rfl) (sk yC) ?_
   refine zc rfl (ze rfl (gk yl) (zb rfl)) (sk yz) ?_
   refine zq rfl (fun hb=>zk rfl fo59x2 yo rfl) (sk yL) ?_
   refine zq rfl (fun hb=>zy rfl wR (zp (gk yJ) hb) rfl (zt rfl) (zb rfl)) (sk yO) ?_
   refine zq rfl (fun hb=>zr rfl (zp (gk yE) hb) rfl rfl) (sk yS) ?_
   refine zc rfl (zM rfl (gk yh) rfl (gk yP) (ya (fun ht=>gF ht))) (sk yW) ?_
   refine zf (zj ?_)
   refine zG (gk yU) hF (fun hc9 hF=>?_) (fun hc9 hF=>?_)
   ·refine zn (zd ?_)
    refine zc rfl (zk rfl fo59x2 yo rfl) (sk xa) ?_
    refine zc rfl (zy rfl wR (gk yR) rfl (zt rfl) (zb rfl)) (sk xd) ?_
    refine zc rfl (zr rfl (gk xb) rfl rfl) (sk xq) ?_
    refine zc rfl (ze rfl (gk yD) (zb rfl)) (sk xr) ?_
    refine zq rfl (fun hb=>zk rfl fo59x3 yo rfl) (sk xV) ?_
    refine zq rfl (fun hb=>zy rfl ty53.choose_spec.1 (zp (gk xi) hb) rfl (zF (cs':=[.int .u8 l0.dot.actor.rep,.int .u32 l0.dot.actor.inc,.int .u64 l0.dot.seq]) ty53.choose_spec.2 rfl rfl) (zb rfl)) (sk xU) ?_
    refine zq rfl (fun hb=>zy rfl ty53.choose_spec.1 yY rfl (zF (cs':=[.int .u8 (0:Int),.int .u32 (0:Int),.int .u64 (0:Int)]) ty53.choose_spec.2 rfl rfl) (zb rfl)) (sk wa) ?_
    refine zq rfl (fun hb=>zr rfl (zp (gk xY) hb) (zp (gk wb) hb) (bin_ne pk53 rfl)) (sk wh) ?_
    refine zc rfl (zM rfl (gk xz) rfl (gk xH) (ya (fun ht=>gF ht))) (sk wu) ?_
    refine zc rfl (ze rfl (gk xg) (zb rfl)) (sk wB) ?_
    refine zq rfl (fun hb=>zk rfl fo59x4 yo rfl) (sk va) ?_
    refine zq rfl (fun hb=>zy rfl ty9 (zp (gk vg) hb) rfl (zt rfl) (zb rfl)) (sk wV) ?_
    refine zq rfl (fun hb=>zr rfl (zp (gk wX) hb) rfl rfl) (sk vm) ?_
    refine zc rfl (zM rfl (gk ww) rfl (gk vo) (ya (fun ht=>gF ht))) (sk vu) ?_
    refine zf (zj ?_)
    refine zG (gk vy) hF (fun hc10 hF=>?_) (fun hc10 hF=>?_)
    ·refine zn (zd ?_)
     refine zc rfl (zi rfl rfl (zb rfl)) xj ?_
     refine zf (zj (zO ?_))
     refine q_join_ret ?_
     obtain rfl:=Option.some.inj hF
     replace hF:=hK1
     obtain rfl:=Option.some.inj hF
     refine zA rfl (zE yQ zB) (zD (leV.refl _) rfl ?_)
     exact ⟨rfl,rfl⟩
    ·refine zH (q_join ?_)
     obtain rfl:=Option.some.inj hF
     exact ⟨(),hK1,wk.le (by exact (.drop (.eq (.d16 (.d16 (.d16 (.d16 (.d16 (.d16 (.d16 (.d16 (.d16 (.d16 (.d16 (.d16 (.d4 (.d4 (.drop (.drop (.drop leL.nil))))))))))))))))))))⟩
   ·refine zn (zd ?_)
    refine zc rfl (zk rfl fo59x2 yo rfl) (sk vt) ?_
    refine zc rfl (zy rfl wR (gk vn) rfl (zt rfl) (zb rfl)) (sk vr) ?_
    refine zc rfl (zr rfl (gk vU) rfl rfl) (sk wU) ?_
    refine zc rfl (ze rfl (gk wM) (zb rfl)) (sk w9) ?_
    refine zq rfl (fun hb=>zk rfl fo59x3 yo rfl) (sk wT) ?_
    refine zq rfl (fun hb=>zy rfl ty53.choose_spec.1 (zp (gk wL) hb) rfl (zF (cs':=[.int .u8 l0.dot.actor.rep,.int .u32 l0.dot.actor.inc,.int .u64 l0.dot.seq]) ty53.choose_spec.2 rfl rfl) (zb rfl)) (sk wS) ?_
    refine wi hF (fun v11 hv11 hF=>?_)
    refine xN rfl (fun hb=>zz rfl rfl rfl (zg (zp (gk wP) hb) zu) (.cons (zb rfl) .nil)) (fun hb=>ok32 (hv11 hb)) (sk w8) ?_
    refine zq rfl (fun hb=>qm rfl (zp (gk vf) hb) rfl) (sk wZ) ?_
    refine zc rfl (zM rfl (gk wW) rfl (gk ve) (ya (fun ht=>gF ht))) (sk vD) ?_
    refine zc rfl (ze rfl (gk vJ) (zb rfl)) (sk vC) ?_
    refine zq rfl (fun hb=>zk rfl fo59x4 yo rfl) (sk (sk st0)) ?_
    refine zq rfl (fun hb=>zy rfl ty9 (zp (gk (gk yd)) hb) rfl (zt rfl) (zb rfl)) (sk (sk st1)) ?_
    refine vc rfl (fun hb=>wJ rfl rfl rfl rfl ty9 (zp (gk (gk yo)) hb)) (sk (sk xj)) fun hn12=>?_
    refine zq rfl (fun hb=>zr rfl (zp (gk (gk yQ)) hb) rfl rfl) (sk (sk wA)) ?_
    refine zc rfl (zM rfl (gk vI) rfl (gk (gk yY)) (ya (fun ht=>gF ht))) (sk (sk yK)) ?_
    refine zf (zj ?_)
    refine zG (gk (gk yG)) hF (fun hc13 hF=>?_) (fun hc13 hF=>?_)
    ·refine zn (zd ?_)
     refine zc rfl (zi rfl rfl (zb rfl)) xj ?_
     refine zf (zj (zO ?_))
     refine q_join_ret ?_
     obtain rfl:=Option.some.inj hF
     replace hF:=hK1
     obtain rfl:=Option.some.inj hF
     refine zA rfl (zE yQ zB) (zD (leV.refl _) rfl ?_)
     exact ⟨rfl,rfl⟩
    ·refine zH (q_join ?_)
     obtain rfl:=Option.some.inj hF
     exact ⟨(),hK1,wk.le (by exact (.drop (.eq (.d16 (.d16 (.d16 (.d16 (.d16 (.d16 (.d16 (.d16 (.d16 (.d16 (.d16 (.d16 (.d4 (.d4 (.drop (.drop (.drop leL.nil))))))))))))))))))))⟩
  ·refine zn (zn (zd ?_))
   refine zc rfl (zi rfl rfl (zb rfl)) yK ?_
   refine zf (zj (zI ?_))
   refine yw (fun (n2:Nat) (s2:Unit)=>yv [0,2,3,5,6,7,8,9,10,11,12,13,14,15,16,17,18,19,20,21,22,23,24,25,26,27,28,29,30,31,32,33,34,35,36,37,38,39,40,41,42,43,44,45,46,47,48,49,50,51,52,53,54,55,56,57,58,59,60,61,62,63,64,65,66,67,68,69,70,71,72,73,74,75,76,77,78,79,80,81,82,83,84,85,86,87,88,89,90,91,92,93,94,95,96,97,98,99,100,101,102,103,104,105,106,107,108,109,110,111,112,113,114,115,116,117,118,119,120,121,122,123,124,125,126,127,128,129,130,131,132,133,134,135,136,137,138,139,140,141,142,143,144,145,146,147,148,149,150,151,152,153,154,155,156,157,158,159,160,161,162,163,164,165,166,167,168,169,170,171,172,173,174,175,176,177,178,179,180,181,182,183,184,185,186,187,188,189,190,191,192,193,194,195,196,197,198,199,200,201,202,203,204] [(4,.int .i64 (n2:Int))]) (fun s2=>h.ext [.cells [.int .u8 l0.typ,.int .i64 l0.n,.int .u64 l0.time,.int .u8 l0.dot.actor.rep,.int .u32 l0.dot.actor.inc,.int .u64 l0.dot.seq,.str l0.text,.sl 5 (l0.items.map GItem.row),.sl 3 (l0.tombs.map GDot.row)],.cells [.int .u8 (0:Int),.int .u32 (0:Int),.int .u64 (0:Int)]] []) hF (fun _ _=>by simp only [yv,upd,List.set_cons_succ,List.set_cons_zero];try rfl) (wk.le (by exact (.drop (.eq (.drop (.drop (.cons (leV.of_eq rfl) (.d16 (.d16 (.d16 (.d16 (.d16 (.d16 (.d16 (.d16 (.d16 (.d16 (.d16 (.d16 (.d4 (.d4 leL.nil))))))))))))))))))))) ?_
   intro n2 s2 hi2 hF
   refine zn (zn (zd ?_))
   refine zc rfl (ze rfl yG (zb rfl)) (sk (sk xI)) ?_
   refine zc rfl (zk rfl wq yo rfl) (sk (sk xT)) ?_
   refine zc rfl (zy rfl ty57 (gk (gk y5)) rfl (zt rfl) (zb rfl)) (sk (sk x9)) ?_
   refine z7 rfl (zX rfl rfl rfl rfl vV (gk (gk xE)) z8) (sk (sk xS)) fun hn40=>?_
   replace hn40:=xG hn40
   refine zc rfl (zr rfl (gk (gk yX)) (gk (gk xu)) rfl) (sk (sk wE)) ?_
   refine zf (zj ?_)
   refine y7 (gk (gk x4)) hF (fun x2 o2 hl2 hx2 hF hK2=>?_) (fun hF=>?_)
   ·refine zH (zj (zn (zI (zn (zd ?_)))))
    refine zc rfl (zk rfl wq yo rfl) (sk (sk yL)) ?_
    refine zc rfl (zy rfl ty57 (gk (gk yJ)) rfl (zt rfl) (zb rfl)) (sk (sk yO)) ?_
    refine zc rfl (ze rfl yG (zb rfl)) (sk (sk yS)) ?_
    refine zc rfl (yM rfl vV (gk (gk yE)) (gk (gk yP)) qI (xl hx2)) (sk (sk yW)) ?_
    refine zc rfl (yf rfl ty56.choose_spec.1 (gk (gk yU)) (zF (cs':=[.int .u64 x2.time,.int .u8 x2.dot.actor.rep,.int .u32 x2.dot.actor.inc,.int .u64 x2.dot.seq,.str x2.text]) ty56.choose_spec.2 rfl rfl) (zb rfl)) (sk (sk xa)) ?_
    refine zc rfl (xn (n:=2) rfl ze56 rfl) xI ?_
    refine zc rfl (yk (cs':=[.int .u64 x2.time,.int .u8 x2.dot.actor.rep,.int .u32 x2.dot.actor.inc,.int .u64 x2.dot.seq,.str x2.text]) rfl ty56.choose_spec.1 yX (gk (gk yR)) (zb rfl) rfl rfl rfl rfl rfl) rfl ?_
    refine zf (zj (zn (zn (zd ?_))))
    refine zc rfl (zk rfl fo56x1 yX rfl) (sk (sk xd)) ?_
    refine zc rfl (zy rfl ty53.choose_spec.1 (gk (gk xb)) rfl (zF (cs':=[.int .u8 x2.dot.actor.rep,.int .u32 x2.dot.actor.inc,.int .u64 x2.dot.seq]) ty53.choose_spec.2 rfl rfl) (zb rfl)) (sk (sk xq)) ?_
    refine zK hF (fun v41 hv41 hF=>?_)
    refine zU rfl (zz rfl rfl rfl (zg (gk (gk yD)) zu) (.cons (zb rfl) .nil)) (ok32 hv41) (sk (sk xr)) ?_
    refine zc rfl (qm rfl (gk (gk xz)) rfl) (sk (sk xV)) ?_
    refine zc rfl (ze rfl (gk (gk xi)) (zb rfl)) (sk (sk xU)) ?_
    refine zq rfl (fun hb=>zk rfl fo56x2 yX rfl) (sk (sk wa)) ?_
    refine zq rfl (fun hb=>zy rfl ty9 (zp (gk (gk wb)) hb) rfl (zt rfl) (zb rfl)) (sk (sk wh)) ?_
    refine vc rfl (fun hb=>wJ rfl rfl rfl rfl ty9 (zp (gk (gk xH)) hb)) (sk (sk wu)) fun hn42=>?_
    refine zq rfl (fun hb=>zr rfl (zp (gk (gk xg)) hb) rfl rfl) (sk (sk wB)) ?_
    refine zc rfl (zM rfl (gk (gk xY)) rfl (gk (gk ww)) (ya (fun ht=>gF ht))) (sk (sk va)) ?_
    refine zc rfl (ze rfl (gk (gk vg)) (zb rfl)) (sk (sk wV)) ?_
    refine zq rfl (fun hb=>zk rfl qb yo rfl) (sk (sk vm)) ?_
    refine zq rfl (fun hb=>zy rfl ty5 (zp (gk (gk vo)) hb) rfl (zt rfl) (zb rfl)) (sk (sk vu)) ?_
    refine zq rfl (fun hb=>zr rfl (zp (gk (gk vy)) hb) rfl rfl) (sk (sk vt)) ?_
    refine zq rfl (fun hb=>ze rfl (zp (gk (gk vn)) hb) (zb rfl)) (sk (sk vr)) ?_
    refine zq (zW rfl rfl rfl) (fun hb=>zk rfl fo56x0 yX rfl) (sk (sk wU)) ?_
    refine zq (zW rfl rfl rfl) (fun hb=>zy rfl wR (zp (gk (gk wM)) hb) rfl (zt rfl) (zb rfl)) (sk (sk w9)) ?_
    refine zq (zW rfl rfl rfl) (fun hb=>zr rfl (zp (gk (gk wW)) hb) rfl rfl) (sk (sk wT)) ?_
    refine zq rfl (fun hb=>zM rfl (zp (gk (gk vU)) hb) (gk (gk wL)) rfl (zS (fun ht=>gT2 hb ht))) (sk (sk wS)) ?_
    refine zc rfl (zM rfl (gk (gk wX)) rfl (gk (gk wP)) (ya (fun ht=>gF ht))) (sk (sk w8)) ?_
    refine zc rfl (ze rfl (gk (gk vf)) (zb rfl)) (sk (sk wZ)) ?_
    refine zq rfl (fun hb=>zk rfl qb yo rfl) (sk (sk vD)) ?_
    refine zq rfl (fun hb=>zy rfl ty5 (zp (gk (gk vJ)) hb) rfl (zt rfl) (zb rfl)) (sk (sk vC)) ?_
    refine zq rfl (fun hb=>zr rfl (zp (gk (gk vI)) hb) rfl rfl) (sk (sk (sk st0))) ?_
    refine zq rfl (fun hb=>ze rfl (zp (gk (gk (gk yd))) hb) (zb rfl)) (sk (sk (sk st1))) ?_
    refine zq (zW rfl rfl rfl) (fun hb=>zk rfl fo56x0 yX rfl) (sk (sk (sk xj))) ?_
    refine zq (zW rfl rfl rfl) (fun hb=>zy rfl wR (zp (gk (gk (gk yQ))) hb) rfl (zt rfl) (zb rfl)) (sk (sk (sk wA))) ?_
    refine zq (zW rfl rfl rfl) (fun hb=>zr rfl (zp (gk (gk (gk yY))) hb) rfl rfl) (sk (sk (sk yK))) ?_
    refine zq (zW rfl rfl rfl) (fun hb=>ze rfl (zp (gk (gk (gk yG))) hb) (zb rfl)) (sk (sk (sk xI))) ?_
    refine zq (zW rfl rfl rfl) (fun hb=>zk rfl fo56x0 yX rfl) (sk (sk (sk xT))) ?_
    refine zq (zW rfl rfl rfl) (fun hb=>zy rfl wR (zp (gk (gk (gk y5))) hb) rfl (zt rfl) (zb rfl)) (sk (sk (sk x9))) ?_
    refine zq (zW rfl rfl rfl) (fun hb=>zr rfl (zp (gk (gk (gk xE))) hb) rfl rfl) (sk (sk (sk xS))) ?_
    refine zq (zW rfl rfl rfl) (fun hb=>zM rfl (zp (gk (gk (gk yX))) hb) rfl (gk (gk (gk xu))) (ya (fun ht=>gF2 hb ht))) (sk (sk (sk wE))) ?_
    refine zq rfl (fun hb=>zM rfl (zp (gk (gk (gk yo))) hb) (gk (gk (gk x4))) rfl (zS (fun ht=>gT2 hb ht))) (sk (sk (sk yC))) ?_
    refine zc rfl (zM rfl (gk (gk ve)) rfl (gk (gk (gk yl))) (ya (fun ht=>gF ht))) (sk (sk (sk yz))) ?_
    refine zc rfl (ze rfl (gk (gk (gk yh))) (zb rfl)) (sk (sk (sk yL))) ?_
    refine zq rfl (fun hb=>zk rfl wq yo rfl) (sk (sk (sk yO))) ?_
    refine zq rfl (fun hb=>zy rfl ty57 (zp (gk (gk (gk yE))) hb) rfl (zt rfl) (zb rfl)) (sk (sk (sk yS))) ?_
    refine zq rfl (fun hb=>zk rfl fo56x1 yX rfl) (sk (sk (sk yW))) ?_
    refine zq rfl (fun hb=>zy rfl ty53.choose_spec.1 (zp (gk (gk (gk yU))) hb) rfl (zF (cs':=[.int .u8 x2.dot.actor.rep,.int .u32 x2.dot.actor.inc,.int .u64 x2.dot.seq]) ty53.choose_spec.2 rfl rfl) (zb rfl)) (sk (sk (sk xa))) ?_
    refine wi hF (fun v43 hv43 hF=>?_)
    refine xN rfl (fun hb=>zz rfl rfl rfl (zg (zp (gk (gk (gk yP))) hb) (zg (zp (gk (gk (gk yR))) hb) zu)) (.cons (zb rfl) (.cons (zb rfl) .nil))) (fun hb=>ok33 (hv43 hb)) (sk (sk (sk xd))) ?_
    refine zq rfl (fun hb=>ze rfl yG (zb rfl)) (sk (sk (sk xq))) ?_
    refine zq rfl (fun hb=>zr rfl (zp (gk (gk (gk xb))) hb) (zp (gk (gk (gk yD))) hb) rfl) (sk (sk (sk xr))) ?_
    refine zc rfl (zM rfl (gk (gk (gk yJ))) rfl (gk (gk (gk xz))) (ya (fun ht=>gF ht))) (sk (sk (sk xV))) ?_
    refine zc rfl (ze rfl (gk (gk (gk xi))) (zb rfl)) (sk (sk (sk xU))) ?_
    refine zq rfl (fun hb=>zk rfl vh yo rfl) (sk (sk (sk wa))) ?_
    refine zq rfl (fun hb=>zy rfl ty26 (zp (gk (gk (gk wb))) hb) rfl (zt rfl) (zb rfl)) (sk (sk (sk wh))) ?_
    refine zq rfl (fun hb=>zk rfl fo56x1 yX rfl) (sk (sk (sk wu))) ?_
    refine zq rfl (fun hb=>zy rfl ty53.choose_spec.1 (zp (gk (gk (gk xg))) hb) rfl (zF (cs':=[.int .u8 x2.dot.actor.rep,.int .u32 x2.dot.actor.inc,.int .u64 x2.dot.seq]) ty53.choose_spec.2 rfl rfl) (zb rfl)) (sk (sk (sk wB))) ?_
    refine wi hF (fun v44 hv44 hF=>?_)
    refine xN rfl (fun hb=>zz rfl rfl rfl (zg (zp (gk (gk (gk xH))) hb) (zg (zp (gk (gk (gk ww))) hb) zu)) (.cons (zb rfl) (.cons (zb rfl) .nil))) (fun hb=>ok34 (hv44 hb)) (sk (sk (sk va))) ?_
    refine zc rfl (zM rfl (gk (gk (gk xY))) rfl (gk (gk (gk vg))) (ya (fun ht=>gF ht))) (sk (sk (sk wV))) ?_
    refine zf (zj ?_)
    refine zG (gk (gk (gk wX))) hF (fun hc45 hF=>?_) (fun hc45 hF=>?_)
    ·refine zn (zd ?_)
     refine zc rfl (zi rfl rfl (zb rfl)) xj ?_
     refine zf (zj (zO (zC ?_)))
     refine zJ ?_
     refine zC ?_
     refine yp ?_
     obtain rfl:=Option.some.inj hF
     replace hF:=hK2
     refine zJ ?_
     refine zC ?_
     obtain rfl:=Option.some.inj hF
     refine zA rfl (zE yQ zB) (zD (leV.refl _) rfl ?_)
     exact ⟨rfl,rfl⟩
    ·refine zH (zj (zn ?_))
     refine yr [] [] trivial xF (by kernel_rfl) ?_
     refine zo rfl rfl (ze rfl yG (zb rfl)) (sk (sk (sk vm))) ?_
     refine zo rfl rfl (zr rfl (gk (gk (gk vo))) rfl rfl) (sk (sk (sk vu))) ?_
     refine zo rfl rfl (ze rfl (gk (gk (gk vy))) (zb rfl)) (sk (sk (sk vt))) ?_
     refine zx rfl rfl (fun hb=>zk rfl wq yo rfl) (sk (sk (sk vr))) ?_
     refine zx rfl rfl (fun hb=>zy rfl ty57 (zp (gk (gk (gk vU))) hb) rfl (zt rfl) (zb rfl)) (sk (sk (sk wU))) ?_
     refine zx rfl rfl (fun hb=>ze rfl yG (zb rfl)) (sk (sk (sk w9))) ?_
     refine zx rfl rfl (fun hb=>zr rfl (zp (gk (gk (gk wW))) hb) rfl rfl) (sk (sk (sk wT))) ?_
     refine wc hF (fun hg46 hF=>?_)
     refine zx rfl rfl (fun hb=>xM default rfl vV (zp (gk (gk (gk wM))) hb) (zp (gk (gk (gk wL))) hb) qI (hg46 hb)) (sk (sk (sk wS))) ?_
     refine zx rfl rfl (fun hb=>zk rfl fo56x0 (zp (gk (gk (gk wP))) hb) rfl) (sk (sk (sk w8))) ?_
     refine zx rfl rfl (fun hb=>yf rfl wR (zp (gk (gk (gk vf))) hb) (zt rfl) (zb rfl)) (sk (sk (sk wZ))) ?_
     refine zx rfl rfl (fun hb=>zk rfl wq yo rfl) (sk (sk (sk vD))) ?_
     refine zx rfl rfl (fun hb=>zy rfl ty57 (zp (gk (gk (gk vJ))) hb) rfl (zt rfl) (zb rfl)) (sk (sk (sk vC))) ?_
     refine zx rfl rfl (fun hb=>ze rfl yG (zb rfl)) (sk (sk (sk (sk st0)))) ?_
     refine zx rfl rfl (fun hb=>zr rfl (zp (gk (gk (gk (gk yd)))) hb) rfl rfl) (sk (sk (sk (sk st1)))) ?_
     refine wc hF (fun hg47 hF=>?_)
     refine zx rfl rfl (fun hb=>xM default rfl vV (zp (gk (gk (gk vI))) hb) (zp (gk (gk (gk (gk yo)))) hb) qI (hg47 hb)) (sk (sk (sk (sk xj)))) ?_
     refine zx rfl rfl (fun hb=>zk rfl fo56x1 (zp (gk (gk (gk (gk yQ)))) hb) rfl) (sk (sk (sk (sk wA)))) ?_
     refine zx rfl rfl (fun hb=>yf rfl ty53.choose_spec.1 (zp (gk (gk (gk (gk yY)))) hb) (zF (cs':=[.int .u8 (((l0.items).getD (IntKind.wrap .i64 ((n2:Int) - (1:Int))).toNat default).dot.actor.rep),.int .u32 (((l0.items).getD (IntKind.wrap .i64 ((n2:Int) - (1:Int))).toNat default).dot.actor.inc),.int .u64 (((l0.items).getD (IntKind.wrap .i64 ((n2:Int) - (1:Int))).toNat default).dot.seq)]) ty53.choose_spec.2 rfl rfl) (zb rfl)) (sk (sk (sk (sk yK)))) ?_
     refine zx rfl rfl (fun hb=>zk rfl fo56x0 yX rfl) (sk (sk (sk (sk xI)))) ?_
     refine zx rfl rfl (fun hb=>zy rfl wR (zp (gk (gk (gk (gk yX)))) hb) rfl (zt rfl) (zb rfl)) (sk (sk (sk (sk xT)))) ?_
     refine zx rfl rfl (fun hb=>zk rfl fo56x1 yX rfl) (sk (sk (sk (sk x9)))) ?_
     refine zx rfl rfl (fun hb=>zy rfl ty53.choose_spec.1 (zp (gk (gk (gk (gk xE)))) hb) rfl (zF (cs':=[.int .u8 x2.dot.actor.rep,.int .u32 x2.dot.actor.inc,.int .u64 x2.dot.seq]) ty53.choose_spec.2 rfl rfl) (zb rfl)) (sk (sk (sk (sk xS)))) ?_
     refine wi hF (fun v48 hv48 hF=>?_)
     refine vz rfl rfl (fun hb=>zz rfl rfl rfl (zg (zp (gk (gk (gk ve))) hb) (zg (zp (gk (gk (gk (gk yG)))) hb) (zg (zp (gk (gk (gk (gk y5)))) hb) (zg (zp (gk (gk (gk (gk xu)))) hb) zu)))) (.cons (zb rfl) (.cons (zb rfl) (.cons (zb rfl) (.cons (zb rfl) .nil))))) (fun hb=>ok35 (hv48 hb)) (sk (sk (sk (sk wE)))) ?_
     refine zx rfl rfl (fun hb=>qm rfl (zp (gk (gk (gk (gk x4)))) hb) rfl) (sk (sk (sk (sk yC)))) ?_
     refine zo rfl rfl (zM rfl (gk (gk (gk vn))) (gk (gk (gk (gk yl)))) rfl (zS (fun ht=>gT ht))) (sk (sk (sk (sk yz)))) ?_
     refine yc ?_
     refine zj ?_
     refine zG (gk (gk (gk (gk yh)))) hF (fun hc49 hF=>?_) (fun hc49 hF=>?_)
     ·refine zn (zd ?_)
      refine zc rfl (zi rfl rfl (zb rfl)) xj ?_
      refine zf (zj (zO ?_))
      refine zJ ?_
      refine zC ?_
      refine yp ?_
      obtain rfl:=Option.some.inj hF
      replace hF:=hK2
      refine zJ ?_
      refine zC ?_
      obtain rfl:=Option.some.inj hF
      refine zA rfl (zE yQ zB) (zD (leV.refl _) rfl ?_)
      exact ⟨rfl,rfl⟩
     ·refine zH (zY (zj (zd ?_)))
      refine zc rfl (ze rfl yG (zb rfl)) (sk (sk yC)) ?_
      refine zc rfl (zr rfl (gk (gk yl)) rfl rfl) (sk (sk yz)) ?_
      refine zc rfl (zi rfl (gk (gk yh)) (zb rfl)) yK ?_
      refine zf (yi ?_)
      obtain rfl:=Option.some.inj hF
      exact ⟨(),hl2,hK2,wk.trans (wk.le (by exact (.drop (.eq (.drop (.drop (.cons (leV.of_eq (qp (by omega) (by omega))) (.d16 (.d16 (.d16 (.d16 (.d16 (.d16 (.d16 (.d16 (.d16 (.d16 (.d16 (.d16 (.d4 (.d4 leL.nil))))))))))))))))))))) (wD (by simp [z9,AV.low]) rfl rfl (by simp [Blk.low,z9,AV.low]))⟩
   ·refine yy ?_
    refine zT ?_
    refine zP ?_
    refine zQ ?_
    refine zj (zn (zn (zd ?_)))
    refine zc rfl (zi rfl rfl (zb rfl)) xT ?_
    refine zf (zj (zI ?_))
    refine yw (fun (n3:Nat) (s3:Unit)=>yv [0,2,3,4,5,7,8,9,10,11,12,13,14,15,16,17,18,19,20,21,22,23,24,25,26,27,28,29,30,31,32,33,34,35,36,37,38,39,40,41,42,43,44,45,46,47,48,49,50,51,52,53,54,55,56,57,58,59,60,61,62,63,64,65,66,67,68,69,70,71,72,73,74,75,76,77,78,79,80,81,82,83,84,85,86,87,88,89,90,91,92,93,94,95,96,97,98,99,100,101,102,103,104,105,106,107,108,109,110,111,112,113,114,115,116,117,118,119,120,121,122,123,124,125,126,127,128,129,130,131,132,133,134,135,136,137,138,139,140,141,142,143,144,145,146,147,148,149,150,151,152,153,154,155,156,157,158,159,160,161,162,163,164,165,166,167,168,169,170,171,172,173,174,175,176,177,178,179,180,181,182,183,184,185,186,187,188,189,190,191,192,193,194,195,196,197,198,199,200,201,202,203,204] [(6,.int .i64 (n3:Int))]) (fun s3=>h.ext [.cells [.int .u8 l0.typ,.int .i64 l0.n,.int .u64 l0.time,.int .u8 l0.dot.actor.rep,.int .u32 l0.dot.actor.inc,.int .u64 l0.dot.seq,.str l0.text,.sl 5 (l0.items.map GItem.row),.sl 3 (l0.tombs.map GDot.row)],.cells [.int .u8 (0:Int),.int .u32 (0:Int),.int .u64 (0:Int)]] []) hF (fun _ _=>by simp only [yv,upd,List.set_cons_succ,List.set_cons_zero];try rfl) (wk.le (by exact (.drop (.eq (.d4 (.cons (leV.of_eq rfl) (.d16 (.d16 (.d16 (.d16 (.d16 (.d16 (.d16 (.d16 (.d16 (.d16 (.d16 (.d16 (.d4 (.drop (.drop leL.nil))))))))))))))))))))) ?_
    intro n3 s3 hi3 hF
    refine zn (zn (zd ?_))
    refine zc rfl (ze rfl y5 (zb rfl)) (sk (sk (sk (sk yL)))) ?_
    refine zc rfl (zk rfl vh yo rfl) (sk (sk (sk (sk yO)))) ?_
    refine zc rfl (zy rfl ty26 (gk (gk (gk (gk yE)))) rfl (zt rfl) (zb rfl)) (sk (sk (sk (sk yS)))) ?_
    refine z7 rfl (zX rfl rfl rfl rfl qK (gk (gk (gk (gk yP)))) z8) (sk (sk (sk (sk yW)))) fun hn72=>?_
    replace hn72:=xG hn72
    refine zc rfl (zr rfl (gk (gk (gk (gk yJ)))) (gk (gk (gk (gk yU)))) rfl) (sk (sk (sk (sk xa)))) ?_
    refine zf (zj ?_)
    refine y7 (gk (gk (gk (gk yR)))) hF (fun x3 o3 hl3 hx3 hF hK3=>?_) (fun hF=>?_)
    ·refine zH (zj (zn (zI (zn ?_))))
     refine yr [5] [] trivial xF (by kernel_rfl) ?_
     refine zo rfl rfl (zk rfl vh yo rfl) (sk (sk (sk (sk xr)))) ?_
     refine zo rfl rfl (zy rfl ty26 (gk (gk (gk (gk xz)))) rfl (zt rfl) (zb rfl)) (sk (sk (sk (sk xV)))) ?_
     refine zo rfl rfl (ze rfl y5 (zb rfl)) (sk (sk (sk (sk xU)))) ?_
     refine zo rfl rfl (yM rfl qK (gk (gk (gk (gk xi)))) (gk (gk (gk (gk xY)))) qI (xl hx3)) (sk (sk (sk (sk wa)))) ?_
     refine zo rfl rfl (yf rfl ty53.choose_spec.1 (gk (gk (gk (gk wb)))) (zF (cs':=[.int .u8 x3.actor.rep,.int .u32 x3.actor.inc,.int .u64 x3.seq]) ty53.choose_spec.2 rfl rfl) (zb rfl)) (sk (sk (sk (sk wh)))) ?_
     refine zK hF (fun v73 hv73 hF=>?_)
     refine xc rfl rfl (fun _=>zz rfl rfl rfl (zg (gk (gk (gk (gk xH)))) zu) (.cons (zb rfl) .nil)) (by rintro _ ⟨B2,T2,rfl,hk2⟩;exact ok32 hv73) (sk (sk (sk (sk wu)))) ?_
     refine zo rfl rfl (qm rfl (gk (gk (gk (gk xg)))) rfl) (sk (sk (sk (sk wB)))) ?_
     refine zo rfl rfl (ze rfl (gk (gk (gk (gk ww)))) (zb rfl)) (sk (sk (sk (sk va)))) ?_
     refine zx rfl rfl (fun hb=>ze rfl y5 (zb rfl)) (sk (sk (sk (sk wV)))) ?_
     refine zx rfl rfl (fun hb=>zr rfl (zp (gk (gk (gk (gk wX)))) hb) rfl rfl) (sk (sk (sk (sk vm)))) ?_
     refine zx rfl rfl (fun hb=>ze rfl (zp (gk (gk (gk (gk vo)))) hb) (zb rfl)) (sk (sk (sk (sk vu)))) ?_
     refine zx rfl (zW rfl rfl rfl) (fun hb=>zk rfl vh yo rfl) (sk (sk (sk (sk vt)))) ?_
     refine zx rfl (zW rfl rfl rfl) (fun hb=>zy rfl ty26 (zp (gk (gk (gk (gk vn)))) hb) rfl (zt rfl) (zb rfl)) (sk (sk (sk (sk vr)))) ?_
     refine zx rfl (zW rfl rfl rfl) (fun hb=>ze rfl y5 (zb rfl)) (sk (sk (sk (sk wU)))) ?_
     refine zx rfl (zW rfl rfl rfl) (fun hb=>zr rfl (zp (gk (gk (gk (gk wM)))) hb) rfl rfl) (sk (sk (sk (sk w9)))) ?_
     refine wc hF (fun hg74 hF=>?_)
     refine zx rfl (zW rfl rfl rfl) (fun hb=>xM default rfl qK (zp (gk (gk (gk (gk vU)))) hb) (zp (gk (gk (gk (gk wW)))) hb) qI (hg74 hb)) (sk (sk (sk (sk wT)))) ?_
     refine zx rfl (zW rfl rfl rfl) (fun hb=>yf rfl ty53.choose_spec.1 (zp (gk (gk (gk (gk wL)))) hb) (zF (cs':=[.int .u8 (((l0.tombs).getD (IntKind.wrap .i64 ((n3:Int) - (1:Int))).toNat default).actor.rep),.int .u32 (((l0.tombs).getD (IntKind.wrap .i64 ((n3:Int) - (1:Int))).toNat default).actor.inc),.int .u64 (((l0.tombs).getD (IntKind.wrap .i64 ((n3:Int) - (1:Int))).toNat default).seq)]) ty53.choose_spec.2 rfl rfl) (zb rfl)) (sk (sk (sk (sk wS)))) ?_
     refine zx rfl (zW rfl rfl rfl) (fun hb=>zk rfl vh yo rfl) (sk (sk (sk (sk w8)))) ?_
     refine zx rfl (zW rfl rfl rfl) (fun hb=>zy rfl ty26 (zp (gk (gk (gk (gk vf)))) hb) rfl (zt rfl) (zb rfl)) (sk (sk (sk (sk wZ)))) ?_
     refine zx rfl (zW rfl rfl rfl) (fun hb=>ze rfl y5 (zb rfl)) (sk (sk (sk (sk vD)))) ?_
     refine wc hF (fun hg75 hF=>?_)
     refine zx rfl (zW rfl rfl rfl) (fun hb=>xM default rfl qK (zp (gk (gk (gk (gk ve)))) hb) (zp (gk (gk (gk (gk vJ)))) hb) qI (hg75 hb)) (sk (sk (sk (sk vC)))) ?_
     refine zx rfl (zW rfl rfl rfl) (fun hb=>yf rfl ty53.choose_spec.1 (zp (gk (gk (gk (gk vI)))) hb) (zF (cs':=[.int .u8 (((l0.tombs).getD (n3:Int).toNat default).actor.rep),.int .u32 (((l0.tombs).getD (n3:Int).toNat default).actor.inc),.int .u64 (((l0.tombs).getD (n3:Int).toNat default).seq)]) ty53.choose_spec.2 rfl rfl) (zb rfl)) (sk (sk (sk (sk (sk st0))))) ?_
     refine wi hF (fun v76 hv76 hF=>?_)
     refine vz rfl (zW rfl rfl rfl) (fun hb=>zz rfl rfl rfl (zg (zp (gk (gk (gk (gk wP)))) hb) (zg (zp (gk (gk (gk (gk (gk yd))))) hb) zu)) (.cons (zb rfl) (.cons (zb rfl) .nil))) (fun hb=>ok36 (hv76 hb)) (sk (sk (sk (sk (sk st1))))) ?_
     refine zx rfl (zW rfl rfl rfl) (fun hb=>qm rfl (zp (gk (gk (gk (gk (gk yo))))) hb) rfl) (sk (sk (sk (sk (sk xj))))) ?_
     refine zx rfl rfl (fun hb=>zM rfl (zp (gk (gk (gk (gk vy)))) hb) (gk (gk (gk (gk (gk yQ))))) rfl (zS (fun ht=>gT2 hb ht))) (sk (sk (sk (sk (sk wA))))) ?_
     refine zo rfl rfl (zM rfl (gk (gk (gk (gk vg)))) rfl (gk (gk (gk (gk (gk yY))))) (ya (fun ht=>gF ht))) (sk (sk (sk (sk (sk yK))))) ?_
     refine yc ?_
     refine zj ?_
     refine zG (gk (gk (gk (gk (gk yG))))) hF (fun hc77 hF=>?_) (fun hc77 hF=>?_)
     ·refine zn (zd ?_)
      refine zc rfl (zi rfl rfl (zb rfl)) xj ?_
      refine zf (zj (zO ?_))
      refine zJ ?_
      refine zC ?_
      refine yp ?_
      obtain rfl:=Option.some.inj hF
      replace hF:=hK3
      refine zJ ?_
      refine zC ?_
      obtain rfl:=Option.some.inj hF
      refine zA rfl (zE yQ zB) (zD (leV.refl _) rfl ?_)
      exact ⟨rfl,rfl⟩
     ·refine zH (zY (zj (zd ?_)))
      refine zc rfl (ze rfl y5 (zb rfl)) (sk (sk (sk (sk xd)))) ?_
      refine zc rfl (zr rfl (gk (gk (gk (gk xb)))) rfl rfl) (sk (sk (sk (sk xq)))) ?_
      refine zc rfl (zi rfl (gk (gk (gk (gk yD)))) (zb rfl)) xT ?_
      refine zf (yi ?_)
      obtain rfl:=Option.some.inj hF
      exact ⟨(),hl3,hK3,wk.le (by exact (.drop (.eq (.d4 (.cons (leV.of_eq (qp (by omega) (by omega))) (.d16 (.d16 (.d16 (.d16 (.d16 (.d16 (.d16 (.d16 (.d16 (.d16 (.d16 (.d16 (.d4 (.drop (.drop leL.nil))))))))))))))))))))⟩
    ·refine yy ?_
     refine zT ?_
     refine zP ?_
     refine zQ ?_
     refine zj (zn (zd ?_))
     refine zc rfl (zi rfl rfl (zb rfl)) xj ?_
     refine zf (zj (zO ?_))
     obtain rfl:=Option.some.inj hF
     refine zA rfl (zE yQ zB) (zD (leV.refl _) rfl ?_)
     exact ⟨rfl,rfl⟩
theorem ok13N (n:Nat):∀ {t0:(List GNode)} {deep1:Int} {res:Bool} {h:AH} , vX n t0 deep1=some res→Spec Try.prog 13 [.sl 3 (t0.map GNode.row),.int .i64 deep1] h (fun rr hh=>rr=.bool res∧hh=h):=by
 induction n with
 | zero=>intro t0 deep1 res h  hF;simp [vX] at hF
 | succ n ih =>
  intro t0 deep1 res h  hF
  unfold vX at hF
  refine zw Try.func13 rfl (by kernel_rfl) (env:=[.sl 3 (t0.map GNode.row),.int .i64 deep1,za,za,za,za,za,za,za,za,za,za,za,za,za,za,za,za,za,za,za,za,za,za,za,za,za,za,za,za,za,za,za,za,za,za,za,za,za,za,za,za,za,za,za,za,za,za,za,za,za,za,za,za,za,za,za,za,za,za,za,za,za,za,za,za,za,za,za,za,za,za,za,za,za,za,za,za,za,za,za,za,za,za,za,za,za,za,za,za,za,za,za,za,za]) (by rfl) ?_
  refine zn (zd ?_)
  refine zc rfl (zi rfl rfl (zb rfl)) yK ?_
  refine zf (zj (zn (zn (zd ?_))))
  refine zc rfl (zi rfl rfl (zb rfl)) xI ?_
  refine zf (zj (zI ?_))
  refine yw (fun (n1:Nat) (s1:Unit)=>yv [2,3,4,6,7,8,9,10,11,12,13,14,15,16,17,18,19,20,21,22,23,24,25,26,27,28,29,30,31,32,33,34,35,36,37,38,39,40,41,42,43,44,45,46,47,48,49,50,51,52,53,54,55,56,57,58,59,60,61,62,63,64,65,66,67,68,69,70,71,72,73,74,75,76,77,78,79,80,81,82,83,84,85,86,87,88,89,90,91,92,93,94] [(5,.int .i64 (n1:Int))]) (fun s1=>h.ext [] []) hF (fun _ _=>by simp only [yv,upd,List.set_cons_succ,List.set_cons_zero];try rfl) (wk.le (by exact (.eq (.eq (.drop (.drop (.drop (.cons (leV.of_eq rfl) (.d16 (.d16 (.d16 (.d16 (.d16 (.d4 (.d4 (.drop leL.nil)))))))))))))))) ?_
  intro n1 s1 hi1 hF
  refine zn (zn (zd ?_))
  refine zc rfl (ze rfl yX (zb rfl)) xS ?_
  refine zc rfl (ze rfl yd (zb rfl)) wE ?_
  refine z7 rfl (zX rfl rfl rfl rfl qA x4 z8) yC fun hn30=>?_
  replace hn30:=xG hn30
  refine zc rfl (zr rfl xu yl rfl) yz ?_
  refine zf (zj ?_)
  refine y7 yh hF (fun x1 o1 hl1 hx1 hF hK1=>?_) (fun hF=>?_)
  ·refine zH (zj (zn (zI (zn (zd ?_)))))
   refine zc rfl (ze rfl yd (zb rfl)) yS ?_
   refine zc rfl (ze rfl yX (zb rfl)) yW ?_
   refine zc rfl (we rfl qA yP yU qI (xl hx1) (GNode.row_eq _)) xa ?_
   refine zc rfl (yf rfl ty41.choose_spec.1 yR (zF (cs':=[.str x1.name,.sl 9 (x1.leaves.map GLeaf.row),.sl 3 (x1.subs.map GNode.row)]) ty41.choose_spec.2 rfl rfl) (zb rfl)) xd ?_
   refine zc rfl (xn (n:=0) rfl ze41 rfl) xT ?_
   refine zc rfl (yk (cs':=[.str x1.name,.sl 9 (x1.leaves.map GLeaf.row),.sl 3 (x1.subs.map GNode.row)]) rfl ty41.choose_spec.1 y5 xb (zb rfl) rfl rfl rfl rfl rfl) rfl ?_
   refine zf (zj (zn (zn ?_)))
   refine yr [] [] trivial xF (by kernel_rfl) ?_
   refine zo rfl rfl (ze rfl yo (zb rfl)) xq ?_
   refine zo rfl rfl (zr rfl yD rfl rfl) xr ?_
   refine zo rfl rfl (ze rfl xz (zb rfl)) xV ?_
   refine zx rfl rfl (fun hb=>zk rfl fo41x0 y5 rfl) xU ?_
   refine zx rfl rfl (fun hb=>zy rfl ty9 (zp xY hb) rfl (zt rfl) (zb rfl)) wa ?_
   refine wi hF (fun v31 hv31 hF=>?_)
   refine vz rfl rfl (fun hb=>zz rfl rfl rfl (zg (zp wb hb) zu) (.cons (zb rfl) .nil)) (fun hb=>ok24 (hv31 hb)) wh ?_
   refine zx rfl rfl (fun hb=>qm rfl (zp xH hb) rfl) wu ?_
   refine zo rfl rfl (zM rfl xi rfl xg (ya (fun ht=>gF ht))) wB ?_
   refine zo rfl rfl (ze rfl ww (zb rfl)) va ?_
   refine zx rfl rfl (fun hb=>ze rfl yX (zb rfl)) wV ?_
   refine zx rfl rfl (fun hb=>zr rfl (zp wX hb) rfl rfl) vm ?_
   refine zx rfl rfl (fun hb=>ze rfl (zp vo hb) (zb rfl)) vu ?_
   refine zx rfl (zW rfl rfl rfl) (fun hb=>ze rfl yd (zb rfl)) vt ?_
   refine zx rfl (zW rfl rfl rfl) (fun hb=>ze rfl yX (zb rfl)) vr ?_
   refine zx rfl (zW rfl rfl rfl) (fun hb=>zr rfl (zp vU hb) rfl rfl) wU ?_
   refine wc hF (fun hg32 hF=>?_)
   refine zx rfl (zW rfl rfl rfl) (fun hb=>s_gidxRowE default rfl qA (zp vn hb) (zp wM hb) qI (hg32 hb) (GNode.row_eq _)) w9 ?_
   refine zx rfl (zW rfl rfl rfl) (fun hb=>zk rfl fo41x0 (zp wW hb) rfl) wT ?_
   refine zx rfl (zW rfl rfl rfl) (fun hb=>yf rfl ty9 (zp wL hb) (zt rfl) (zb rfl)) wS ?_
   refine zx rfl (zW rfl rfl rfl) (fun hb=>zk rfl fo41x0 y5 rfl) w8 ?_
   refine zx rfl (zW rfl rfl rfl) (fun hb=>zy rfl ty9 (zp vf hb) rfl (zt rfl) (zb rfl)) wZ ?_
   refine zx rfl (zW rfl rfl rfl) (fun hb=>zr rfl (zp wP hb) (zp ve hb) rfl) vD ?_
   refine zx rfl rfl (fun hb=>zM rfl (zp vy hb) vJ rfl (zS (fun ht=>gT2 hb ht))) vC ?_
   refine zo rfl rfl (zM rfl vg rfl vI (ya (fun ht=>gF ht))) (sk st0) ?_
   refine zo rfl rfl (ze rfl (gk yd) (zb rfl)) (sk st1) ?_
   refine zx rfl rfl (fun hb=>zk rfl qz y5 rfl) (sk xj) ?_
   refine zx rfl rfl (fun hb=>zy rfl ty39 (zp (gk yQ) hb) rfl (zt rfl) (zb rfl)) (sk wA) ?_
   refine draw_glen rfl rfl (fun hb=>zX rfl rfl rfl rfl el39 (zp (gk yY) hb) z8) (sk yK) ?_
   refine zx rfl rfl (fun hb=>zr rfl (zp (gk yG) hb) rfl rfl) (sk xI) ?_
   refine zx rfl rfl (fun hb=>ze rfl (zp (gk yX) hb) (zb rfl)) (sk xT) ?_
   refine zx rfl (zW rfl rfl rfl) (fun hb=>zk rfl fo41x2 y5 rfl) (sk x9) ?_
   refine zx rfl (zW rfl rfl rfl) (fun hb=>zy rfl ty23 (zp (gk xE) hb) rfl (zt rfl) (zb rfl)) (sk xS) ?_
   refine draw_glen rfl (zW rfl rfl rfl) (fun hb=>zX rfl rfl rfl rfl qA (zp (gk xu) hb) z8) (sk wE) ?_
   refine zx rfl (zW rfl rfl rfl) (fun hb=>zr rfl (zp (gk x4) hb) rfl rfl) (sk yC) ?_
   refine zx rfl rfl (fun hb=>zM rfl (zp (gk y5) hb) (gk yl) rfl (zS (fun ht=>gT2 hb ht))) (sk yz) ?_
   refine zo rfl rfl (zM rfl (gk yo) rfl (gk yh) (ya (fun ht=>gF ht))) (sk yL) ?_
   refine zo rfl rfl (ze rfl (gk yJ) (zb rfl)) (sk yO) ?_
   refine zx rfl rfl (fun hb=>zk rfl fo41x2 y5 rfl) (sk yS) ?_
   refine zx rfl rfl (fun hb=>zy rfl ty23 (zp (gk yP) hb) rfl (zt rfl) (zb rfl)) (sk yW) ?_
   refine zx rfl rfl (fun hb=>ze rfl yo (zb rfl)) (sk xa) ?_
   refine zx rfl rfl (fun hb=>zr rfl (zp (gk yR) hb) rfl rfl) (sk xd) ?_
   refine wi hF (fun v35 hv35 hF=>?_)
   refine vz rfl rfl (fun hb=>zz rfl rfl rfl (zg (zp (gk yU) hb) (zg (zp (gk xb) hb) zu)) (.cons (zb rfl) (.cons (zb rfl) .nil))) (fun hb=>ih (hv35 hb)) (sk xq) ?_
   refine zx rfl rfl (fun hb=>qm rfl (zp (gk yD) hb) rfl) (sk xr) ?_
   refine zo rfl rfl (zM rfl (gk yE) rfl (gk xz) (ya (fun ht=>gF ht))) (sk xV) ?_
   refine yc ?_
   refine zj ?_
   refine zG (gk xi) hF (fun hc36 hF=>?_) (fun hc36 hF=>?_)
   ·refine zn (zd ?_)
    refine zc rfl (zi rfl rfl (zb rfl)) yK ?_
    refine zf (zj (zO (zC ?_)))
    refine zJ ?_
    refine zC ?_
    refine yp ?_
    obtain rfl:=Option.some.inj hF
    replace hF:=hK1
    refine zJ ?_
    refine zC ?_
    obtain rfl:=Option.some.inj hF
    refine zA rfl (zE yG zB) (zD (leV.refl _) rfl ?_)
    exact ⟨rfl,rfl⟩
   ·refine zH (zj (zn (zd ?_)))
    refine zc rfl (zi rfl rfl (zb rfl)) x9 ?_
    refine zf (zj (zI ?_))
    refine yw (fun (n2:Nat) (s2:Unit)=>yv [2,3,4,8,9,10,11,12,13,14,15,16,17,18,19,20,21,22,23,24,25,26,27,28,29,30,31,32,33,34,35,36,37,38,39,40,41,42,43,44,45,46,47,48,49,50,51,52,53,54,55,56,57,58,59,60,61,62,63,64,65,66,67,68,69,70,71,72,73,74,75,76,77,78,79,80,81,82,83,84,85,86,87,88,89,90,91,92,93,94] [(7,.int .i64 (n2:Int))]) (fun s2=>h.ext [.cells [.str x1.name,.sl 9 (x1.leaves.map GLeaf.row),.sl 3 (x1.subs.map GNode.row)]] []) hF (fun _ _=>by simp only [yv,upd,List.set_cons_succ,List.set_cons_zero];try rfl) (wk.le (by exact (.eq (.eq (.drop (.drop (.drop (.eq (.eq (.cons (leV.of_eq rfl) (.d16 (.d16 (.d16 (.d16 (.d16 (.d4 (.drop (.drop (.drop leL.nil))))))))))))))))))) ?_
    intro n2 s2 hi2 hF
    refine zn (zn (zd ?_))
    refine zc rfl (ze rfl xE (zb rfl)) (sk xU) ?_
    refine zc rfl (zk rfl qz y5 rfl) (sk wa) ?_
    refine zc rfl (zy rfl ty39 (gk wb) rfl (zt rfl) (zb rfl)) (sk wh) ?_
    refine z7 rfl (zX rfl rfl rfl rfl el39 (gk xH) z8) (sk wu) fun hn49=>?_
    replace hn49:=xG hn49
    refine zc rfl (zr rfl (gk xY) (gk xg) rfl) (sk wB) ?_
    refine zf (zj ?_)
    refine y7 (gk ww) hF (fun x2 o2 hl2 hx2 hF hK2=>?_) (fun hF=>?_)
    ·refine zH (zj (zn (zI (zn ?_))))
     refine yr [5] [] trivial xF (by kernel_rfl) ?_
     refine zo rfl rfl (zk rfl qz y5 rfl) (sk vm) ?_
     refine zo rfl rfl (zy rfl ty39 (gk vo) rfl (zt rfl) (zb rfl)) (sk vu) ?_
     refine zo rfl rfl (ze rfl xE (zb rfl)) (sk vt) ?_
     refine zo rfl rfl (yM rfl el39 (gk vy) (gk vn) qI (xl hx2)) (sk vr) ?_
     refine zo rfl rfl (yf rfl ty59.choose_spec.1 (gk vU) (zF (cs':=[.int .u8 x2.typ,.int .i64 x2.n,.int .u64 x2.time,.int .u8 x2.dot.actor.rep,.int .u32 x2.dot.actor.inc,.int .u64 x2.dot.seq,.str x2.text,.sl 5 (x2.items.map GItem.row),.sl 3 (x2.tombs.map GDot.row)]) ty59.choose_spec.2 rfl rfl) (zb rfl)) (sk wU) ?_
     refine zK hF (fun v50 hv50 hF=>?_)
     refine xc rfl rfl (fun _=>zz rfl rfl rfl (zg (gk wM) zu) (.cons (zb rfl) .nil)) (by rintro _ ⟨B2,T2,rfl,hk2⟩;exact ok25 hv50) (sk w9) ?_
     refine zo rfl rfl (qm rfl (gk wW) rfl) (sk wT) ?_
     refine zo rfl rfl (ze rfl (gk wL) (zb rfl)) (sk wS) ?_
     refine zx rfl rfl (fun hb=>ze rfl xE (zb rfl)) (sk w8) ?_
     refine zx rfl rfl (fun hb=>zr rfl (zp (gk vf) hb) rfl rfl) (sk wZ) ?_
     refine zx rfl rfl (fun hb=>ze rfl (zp (gk ve) hb) (zb rfl)) (sk vD) ?_
     refine zx rfl (zW rfl rfl rfl) (fun hb=>zk rfl qz y5 rfl) (sk vC) ?_
     refine zx rfl (zW rfl rfl rfl) (fun hb=>zy rfl ty39 (zp (gk vI) hb) rfl (zt rfl) (zb rfl)) (sk (sk st0)) ?_
     refine zx rfl (zW rfl rfl rfl) (fun hb=>ze rfl xE (zb rfl)) (sk (sk st1)) ?_
     refine zx rfl (zW rfl rfl rfl) (fun hb=>zr rfl (zp (gk (gk yo)) hb) rfl rfl) (sk (sk xj)) ?_
     refine wc hF (fun hg51 hF=>?_)
     refine zx rfl (zW rfl rfl rfl) (fun hb=>xM default rfl el39 (zp (gk (gk yd)) hb) (zp (gk (gk yQ)) hb) qI (hg51 hb)) (sk (sk wA)) ?_
     refine zx rfl (zW rfl rfl rfl) (fun hb=>zk rfl qb (zp (gk (gk yY)) hb) rfl) (sk (sk yK)) ?_
     refine zx rfl (zW rfl rfl rfl) (fun hb=>yf rfl ty5 (zp (gk (gk yG)) hb) (zt rfl) (zb rfl)) (sk (sk xI)) ?_
     refine zx rfl (zW rfl rfl rfl) (fun hb=>zk rfl qz y5 rfl) (sk (sk xT)) ?_
     refine zx rfl (zW rfl rfl rfl) (fun hb=>zy rfl ty39 (zp (gk (gk y5)) hb) rfl (zt rfl) (zb rfl)) (sk (sk x9)) ?_
     refine zx rfl (zW rfl rfl rfl) (fun hb=>ze rfl xE (zb rfl)) (sk (sk xS)) ?_
     refine wc hF (fun hg52 hF=>?_)
     refine zx rfl (zW rfl rfl rfl) (fun hb=>xM default rfl el39 (zp (gk (gk xE)) hb) (zp (gk (gk xu)) hb) qI (hg52 hb)) (sk (sk wE)) ?_
     refine zx rfl (zW rfl rfl rfl) (fun hb=>zk rfl qb (zp (gk (gk x4)) hb) rfl) (sk (sk yC)) ?_
     refine zx rfl (zW rfl rfl rfl) (fun hb=>yf rfl ty5 (zp (gk (gk yl)) hb) (zt rfl) (zb rfl)) (sk (sk yz)) ?_
     refine zx rfl (zW rfl rfl rfl) (fun hb=>zr rfl (zp (gk (gk yX)) hb) (zp (gk (gk yh)) hb) rfl) (sk (sk yL)) ?_
     refine zx rfl rfl (fun hb=>zM rfl (zp (gk vJ) hb) (gk (gk yJ)) rfl (zS (fun ht=>gT2 hb ht))) (sk (sk yO)) ?_
     refine zo rfl rfl (zM rfl (gk wP) rfl (gk (gk yE)) (ya (fun ht=>gF ht))) (sk (sk yS)) ?_
     refine yc ?_
     refine zj ?_
     refine zG (gk (gk yP)) hF (fun hc53 hF=>?_) (fun hc53 hF=>?_)
     ·refine zn (zd ?_)
      refine zc rfl (zi rfl rfl (zb rfl)) yK ?_
      refine zf (zj (zO ?_))
      refine zJ ?_
      refine zC ?_
      refine yp ?_
      obtain rfl:=Option.some.inj hF
      replace hF:=hK2
      refine zJ ?_
      refine zJ ?_
      refine zC ?_
      refine yp ?_
      obtain rfl:=Option.some.inj hF
      replace hF:=hK1
      refine zJ ?_
      refine zC ?_
      obtain rfl:=Option.some.inj hF
      refine zA rfl (zE yG zB) (zD (leV.refl _) rfl ?_)
      exact ⟨rfl,rfl⟩
     ·refine zH (zY (zj (zd ?_)))
      refine zc rfl (ze rfl xE (zb rfl)) (sk va) ?_
      refine zc rfl (zr rfl (gk vg) rfl rfl) (sk wV) ?_
      refine zc rfl (zi rfl (gk wX) (zb rfl)) x9 ?_
      refine zf (yi ?_)
      obtain rfl:=Option.some.inj hF
      exact ⟨(),hl2,hK2,wk.le (by exact (.eq (.eq (.drop (.drop (.drop (.eq (.eq (.cons (leV.of_eq (qp (by omega) (by omega))) (.d16 (.d16 (.d16 (.d16 (.d16 (.d4 (.drop (.drop (.drop leL.nil))))))))))))))))))⟩
    ·refine yy ?_
     refine zT ?_
     refine zP ?_
     refine zQ ?_
     refine zY (zj (zd ?_))
     refine zc rfl (ze rfl yX (zb rfl)) yL ?_
     refine zc rfl (zr rfl yJ rfl rfl) yO ?_
     refine zc rfl (zi rfl yE (zb rfl)) xI ?_
     refine zf (yi ?_)
     obtain rfl:=Option.some.inj hF
     exact ⟨(),hl1,hK1,wk.trans (wk.le (by exact (.eq (.eq (.drop (.drop (.drop (.cons (leV.of_eq (qp (by omega) (by omega))) (.d16 (.d16 (.d16 (.d16 (.d16 (.d4 (.d4 (.drop leL.nil)))))))))))))))) (wD (by simp [z9,AV.low]) rfl rfl (by simp [Blk.low,z9,AV.low]))⟩
  ·refine yy ?_
   refine zT ?_
   refine zP ?_
   refine zQ ?_
   refine zj (zn (zd ?_))
   refine zc rfl (zi rfl rfl (zb rfl)) yK ?_
   refine zf (zj (zO ?_))
   obtain rfl:=Option.some.inj hF
   refine zA rfl (zE yG zB) (zD (leV.refl _) rfl ?_)
   exact ⟨rfl,rfl⟩
theorem ok13 {t0:(List GNode)} {deep1:Int} {res:Bool} {h:AH}  (hF:ref07Xmay t0 deep1=some res):Spec Try.prog 13 [.sl 3 (t0.map GNode.row),.int .i64 deep1] h (fun rr hh=>rr=.bool res∧hh=h):=by
 obtain ⟨n,hn⟩:=anyN_is hF
 exact ok13N n  hn
theorem ok5 {t0:(List GNode)} {res:Bool} {h:AH}  (hF:ref07May t0=some res):Spec Try.prog 5 [.sl 3 (t0.map GNode.row)] h (fun rr hh=>rr=.bool res∧hh=h):=by
 unfold ref07May at hF
 refine zw Try.func5 rfl (by kernel_rfl) (env:=[.sl 3 (t0.map GNode.row),za,za,za,za]) (by rfl) ?_
 refine zn (zd ?_)
 refine zc rfl (zi rfl rfl (zb rfl)) xj ?_
 refine zf (zj (zn (zd ?_)))
 refine zc rfl (ze rfl yd (zb rfl)) wA ?_
 refine zK hF (fun v1 hv1 hF=>?_)
 refine zU rfl (zz rfl rfl rfl (zg yY (zg rfl zu)) (.cons (zb rfl) (.cons (zb rfl) .nil))) (ok13 hv1) yK ?_
 refine zc rfl (zi rfl yG (zb rfl)) xj ?_
 refine zf (zj (zO ?_))
 obtain rfl:=Option.some.inj hF
 refine zA rfl (zE yQ zB) (zD (leV.refl _) rfl ?_)
 exact ⟨rfl,rfl⟩
theorem ok14 {n0:Int} {res:GDot} {h:AH}  (hF:vQ n0=some res):Spec Try.prog 14 [.int .u64 n0] h (fun rr hh=>rr=.agg [.int .u8 res.actor.rep,.int .u32 res.actor.inc,.int .u64 res.seq]∧hh=h):=by
 unfold vQ at hF
 refine zw Try.func14 rfl (by kernel_rfl) (env:=[.int .u64 n0,za,za,za,za,za]) (by rfl) ?_
 refine zn (zd ?_)
 refine zc rfl (xn (n:=0) rfl ze53 rfl) xj ?_
 refine zf (zj (zn (zd ?_)))
 refine zc rfl (vw (cs':=[.int .u8 (0:Int),.int .u32 (1:Int)]) rfl su51 ze51 pl51 (zZ rfl yb) (.cons (zb rfl) .nil) rfl rfl) wA ?_
 refine zc rfl (ze rfl yd (zb rfl)) yK ?_
 refine zc rfl (vw (cs':=[.int .u8 (0:Int),.int .u32 (1:Int),.int .u64 n0]) rfl su53 ze53 pl53 (zZ yY (zZ yG yb)) (.cons (zb rfl) (.cons (zb rfl) .nil)) rfl rfl) xI ?_
 refine zc rfl (yk (cs':=[.int .u8 (0:Int),.int .u32 (1:Int),.int .u64 n0]) rfl ty53.choose_spec.1 yQ yX (zb rfl) rfl rfl rfl rfl rfl) rfl ?_
 refine zf (zj (zO ?_))
 obtain rfl:=Option.some.inj hF
 refine zA rfl (rl_cell ty53.choose_spec.1 yQ rfl (zF (cs':=[.int .u8 (0:Int),.int .u32 (1:Int),.int .u64 n0]) ty53.choose_spec.2 rfl rfl) (zb rfl) zB) (zD (leV.refl _) rfl ?_)
 exact ⟨rfl,rfl⟩
theorem ok29 {t0:(List GNode)} {ahead1:(List yg)} {res:((List GNode)×(List yg))} {h:AH}  (hF:q7 t0 ahead1=some res):Spec Try.prog 29 [.sl 3 (t0.map GNode.row),.sl 1 (ahead1.map zR)] h (CloK h 43 [.cells [.sl 3 (res.1.map GNode.row)],.cells [.sl 1 (res.2.map zR)]]):=by
 unfold q7 at hF
 refine zw Try.func29 rfl (by kernel_rfl) (env:=[.sl 3 (t0.map GNode.row),.sl 1 (ahead1.map zR),za,za,za,za]) (by rfl) ?_
 refine zn (zd ?_)
 refine zc rfl (xP (n:=0) rfl yd (zb rfl) rfl rfl) xj ?_
 refine zc rfl (xP (n:=1) rfl yo (zb rfl) rfl rfl) wA ?_
 refine zc rfl (zi rfl rfl (zb rfl)) yK ?_
 refine zf (zj (zn (zd ?_)))
 refine zc rfl (s_makeFunc rfl rfl rfl) xI ?_
 refine zc rfl (zi rfl yX (zb rfl)) yK ?_
 refine zf (zj (zO ?_))
 obtain rfl:=Option.some.inj hF
 refine zA rfl (zE yG zB) (fin_clo (bs:=[.cells [.sl 3 (t0.map GNode.row)],.cells [.sl 1 (ahead1.map zR)]]) (by simp [AV.low,z9]) rfl (by simp [Blk.low,z9,AV.low]) ?_)
 exact ⟨rfl,rfl⟩
theorem ok44 {s0:(List yg)} {res:(List yg)} {h:AH}  (hF:wI s0=some res):Spec Try.prog 44 [.sl 1 (s0.map zR)] h (OwnK h 1 res.length (res.map zR)):=by
 unfold wI at hF
 refine zw Try.func44 rfl (by kernel_rfl) (env:=[.sl 1 (s0.map zR),za,za,za,za,za,za,za]) (by rfl) ?_
 refine zn (zd ?_)
 refine zc rfl (zi rfl rfl (xk el25)) xj ?_
 refine zf (zj (zn (zn (zd ?_))))
 refine zc rfl (ze rfl yd (zb rfl)) wA ?_
 refine ops_nilqE rfl rfl el25 yY qI rfl (fun _=>yK) hF (fun b1 hb1 hF=>?_)
 refine zf (zj ?_)
 refine zG yG hF (fun hc2 hF=>?_) (fun hc2 hF=>?_)
 ·refine zn (zd ?_)
  refine zc rfl (zi rfl rfl (xk el25)) xj ?_
  refine zf (zj (zO (zC ?_)))
  obtain rfl:=Option.some.inj hF
  refine zA rfl (zE yQ zB) (fin_own0 (row:=zR) (L:=([]:List yg)) ?_)
  exact ⟨rfl,rfl⟩
 ·refine zH (zj (zn (zd ?_)))
  refine zc rfl (yn (es:=([]:List yg).map zR) rfl el25 ze9 rfl rfl yb .nil rfl rfl rfl) xI ?_
  refine zc rfl (ze rfl yd (zb rfl)) xT ?_
  refine wc hF (fun hm3 hF=>?_)
  refine zc rfl (e_appN (m:=0) (T':=[((([]:List yg)++s0)).length]) rfl rfl rfl rfl el25 el25 yX y5 (zb rfl) (zb rfl) news_sl hm3 rfl rfl) x9 ?_
  refine zc rfl (zi rfl xE (zb rfl)) xj ?_
  refine zf (zj (zO ?_))
  obtain rfl:=Option.some.inj hF
  refine zA rfl (zE yQ zB) (fin_own ?_)
  exact ⟨rfl,rfl⟩
theorem ok59 {s0:(List GItem)} {res:(List GItem)} {h:AH}  (hF:qy s0=some res):Spec Try.prog 59 [.sl 5 (s0.map GItem.row)] h (OwnK h 5 res.length (res.map GItem.row)):=by
 unfold qy at hF
 refine zw Try.func59 rfl (by kernel_rfl) (env:=[.sl 5 (s0.map GItem.row),za,za,za,za,za,za,za]) (by rfl) ?_
 refine zn (zd ?_)
 refine zc rfl (zi rfl rfl (xk vV)) xj ?_
 refine zf (zj (zn (zn (zd ?_))))
 refine zc rfl (ze rfl yd (zb rfl)) wA ?_
 refine ops_nilqE rfl rfl vV yY qI rfl (fun _=>yK) hF (fun b1 hb1 hF=>?_)
 refine zf (zj ?_)
 refine zG yG hF (fun hc2 hF=>?_) (fun hc2 hF=>?_)
 ·refine zn (zd ?_)
  refine zc rfl (zi rfl rfl (xk vV)) xj ?_
  refine zf (zj (zO (zC ?_)))
  obtain rfl:=Option.some.inj hF
  refine zA rfl (zE yQ zB) (fin_own0 (row:=GItem.row) (L:=([]:List GItem)) ?_)
  exact ⟨rfl,rfl⟩
 ·refine zH (zj (zn (zd ?_)))
  refine zc rfl (yn (es:=([]:List GItem).map GItem.row) rfl vV ze56 rfl rfl yb .nil rfl rfl rfl) xI ?_
  refine zc rfl (ze rfl yd (zb rfl)) xT ?_
  refine wc hF (fun hm3 hF=>?_)
  refine zc rfl (e_appN (m:=0) (T':=[((([]:List GItem)++s0)).length]) rfl rfl rfl rfl vV vV yX y5 (zb rfl) (zb rfl) news_sl hm3 rfl rfl) x9 ?_
  refine zc rfl (zi rfl xE (zb rfl)) xj ?_
  refine zf (zj (zO ?_))
  obtain rfl:=Option.some.inj hF
  refine zA rfl (zE yQ zB) (fin_own ?_)
  exact ⟨rfl,rfl⟩
theorem ok60 {s0:(List GDot)} {res:(List GDot)} {h:AH}  (hF:qN s0=some res):Spec Try.prog 60 [.sl 3 (s0.map GDot.row)] h (OwnK h 3 res.length (res.map GDot.row)):=by
 unfold qN at hF
 refine zw Try.func60 rfl (by kernel_rfl) (env:=[.sl 3 (s0.map GDot.row),za,za,za,za,za,za,za]) (by rfl) ?_
 refine zn (zd ?_)
 refine zc rfl (zi rfl rfl (xk qK)) xj ?_
 refine zf (zj (zn (zn (zd ?_))))
 refine zc rfl (ze rfl yd (zb rfl)) wA ?_
 refine ops_nilqE rfl rfl qK yY qI rfl (fun _=>yK) hF (fun b1 hb1 hF=>?_)
 refine zf (zj ?_)
 refine zG yG hF (fun hc2 hF=>?_) (fun hc2 hF=>?_)
 ·refine zn (zd ?_)
  refine zc rfl (zi rfl rfl (xk qK)) xj ?_
  refine zf (zj (zO (zC ?_)))
  obtain rfl:=Option.some.inj hF
  refine zA rfl (zE yQ zB) (fin_own0 (row:=GDot.row) (L:=([]:List GDot)) ?_)
  exact ⟨rfl,rfl⟩
 ·refine zH (zj (zn (zd ?_)))
  refine zc rfl (yn (es:=([]:List GDot).map GDot.row) rfl qK ze53 rfl rfl yb .nil rfl rfl rfl) xI ?_
  refine zc rfl (ze rfl yd (zb rfl)) xT ?_
  refine wc hF (fun hm3 hF=>?_)
  refine zc rfl (e_appN (m:=0) (T':=[((([]:List GDot)++s0)).length]) rfl rfl rfl rfl qK qK yX y5 (zb rfl) (zb rfl) news_sl hm3 rfl rfl) x9 ?_
  refine zc rfl (zi rfl xE (zb rfl)) xj ?_
  refine zf (zj (zO ?_))
  obtain rfl:=Option.some.inj hF
  refine zA rfl (zE yQ zB) (fin_own ?_)
  exact ⟨rfl,rfl⟩
theorem ok45 {l0:GLeaf} {res:GLeaf} {h:AH}  (hF:pathsXown l0=some res):Spec Try.prog 45 [.agg [.int .u8 l0.typ,.int .i64 l0.n,.int .u64 l0.time,.int .u8 l0.dot.actor.rep,.int .u32 l0.dot.actor.inc,.int .u64 l0.dot.seq,.str l0.text,.sl 5 (l0.items.map GItem.row),.sl 3 (l0.tombs.map GDot.row)]] h (fun rr hh=>rr=.agg [.int .u8 res.typ,.int .i64 res.n,.int .u64 res.time,.int .u8 res.dot.actor.rep,.int .u32 res.dot.actor.inc,.int .u64 res.dot.seq,.str res.text,.sl 5 (res.items.map GItem.row),.sl 3 (res.tombs.map GDot.row)]∧hh=h):=by
 unfold pathsXown at hF
 refine zw Try.func45 rfl (by kernel_rfl) (env:=[.agg [.int .u8 l0.typ,.int .i64 l0.n,.int .u64 l0.time,.int .u8 l0.dot.actor.rep,.int .u32 l0.dot.actor.inc,.int .u64 l0.dot.seq,.str l0.text,.sl 5 (l0.items.map GItem.row),.sl 3 (l0.tombs.map GDot.row)],za,za,za,za,za,za,za,za,za,za,za]) (by rfl) ?_
 refine zn (zd ?_)
 refine zc rfl (xP (n:=0) rfl yd (zb rfl) rfl rfl) st1 ?_
 refine zc rfl (xn (n:=1) rfl ze59 rfl) xj ?_
 refine zf (zj (zn ?_))
 refine yr [] [] trivial xF (by kernel_rfl) ?_
 refine zo rfl rfl (zk rfl wq yo rfl) wA ?_
 refine zo rfl rfl (zy rfl ty57 yY rfl (zt rfl) (zb rfl)) yK ?_
 refine zK hF (fun v1 hv1 hF=>?_)
 refine xA rfl FOk.nil (by rfl) rfl (zz rfl rfl rfl (zg yG zu) (.cons (zb rfl) .nil)) (own_ext (T':=[(v1).length]) (ok59 hv1) (m:=0) rfl rfl) xI ?_
 refine zo rfl rfl (zk rfl vh yo rfl) xT ?_
 refine zo rfl rfl (zy rfl ty26 y5 rfl (zt rfl) (zb rfl)) x9 ?_
 refine zK hF (fun v2 hv2 hF=>?_)
 refine xA rfl FOk.nil (by rfl) rfl (zz rfl rfl rfl (zg xE zu) (.cons (zb rfl) .nil)) (own_ext (T':=[(v1).length,(v2).length]) (ok60 hv2) (m:=1) rfl rfl) xS ?_
 refine zo rfl rfl (zk rfl wq yo rfl) wE ?_
 refine x7 rfl FOk.nil (by kernel_rfl) rfl (yk (cs':=[.int .u8 l0.typ,.int .i64 l0.n,.int .u64 l0.time,.int .u8 l0.dot.actor.rep,.int .u32 l0.dot.actor.inc,.int .u64 l0.dot.seq,.str l0.text,.osl (some (h.toks.length+0)) 5 (v1.map GItem.row),.sl 3 (l0.tombs.map GDot.row)]) rfl ty57 x4 yX (zb rfl) rfl rfl rfl rfl rfl) rfl ?_
 refine zo rfl rfl (zk rfl vh yo rfl) yC ?_
 refine x7 rfl FOk.nil (by kernel_rfl) rfl (yk (cs':=[.int .u8 l0.typ,.int .i64 l0.n,.int .u64 l0.time,.int .u8 l0.dot.actor.rep,.int .u32 l0.dot.actor.inc,.int .u64 l0.dot.seq,.str l0.text,.osl (some (h.toks.length+0)) 5 (v1.map GItem.row),.osl (some (h.toks.length+1)) 3 (v2.map GDot.row)]) rfl ty26 yl xu (zb rfl) rfl rfl rfl rfl rfl) rfl ?_
 refine yc ?_
 refine zj (zn (zd ?_))
 refine zc rfl (zy rfl ty59.choose_spec.1 yo rfl (zF (cs':=[.int .u8 l0.typ,.int .i64 l0.n,.int .u64 l0.time,.int .u8 l0.dot.actor.rep,.int .u32 l0.dot.actor.inc,.int .u64 l0.dot.seq,.str l0.text,.osl (some (h.toks.length+0)) 5 (v1.map GItem.row),.osl (some (h.toks.length+1)) 3 (v2.map GDot.row)]) ty59.choose_spec.2 rfl rfl) (zb rfl)) yz ?_
 refine zc rfl (yk (cs':=[.int .u8 l0.typ,.int .i64 l0.n,.int .u64 l0.time,.int .u8 l0.dot.actor.rep,.int .u32 l0.dot.actor.inc,.int .u64 l0.dot.seq,.str l0.text,.osl (some (h.toks.length+0)) 5 (v1.map GItem.row),.osl (some (h.toks.length+1)) 3 (v2.map GDot.row)]) rfl ty59.choose_spec.1 yQ yh (zb rfl) rfl rfl rfl rfl rfl) rfl ?_
 refine zf (zj (zO ?_))
 obtain rfl:=Option.some.inj hF
 refine zA rfl (rl_cell ty59.choose_spec.1 yQ rfl (zF (cs':=[.int .u8 l0.typ,.int .i64 l0.n,.int .u64 l0.time,.int .u8 l0.dot.actor.rep,.int .u32 l0.dot.actor.inc,.int .u64 l0.dot.seq,.str l0.text,.osl (some (h.toks.length+0)) 5 (v1.map GItem.row),.osl (some (h.toks.length+1)) 3 (v2.map GDot.row)]) ty59.choose_spec.2 rfl rfl) (zb rfl) zB) (zD (leV.agg (.eq (.eq (.eq (.eq (.eq (.eq (.eq (.cons (leV.osl _ _ _) (.cons (leV.osl _ _ _) leL.nil))))))))) rfl) rfl ?_)
 exact ⟨rfl,rfl⟩
theorem ok43N (n:Nat):∀ {S:Type} {Hy:S→AH} {nb nt:Nat} {yield0:S→GRow→Option (Bool×S)} {idy:Nat} {c0:(List GNode)} {i0:Nat} {c1:(List yg)} {i1:Nat} {s0:S} {res:S} (hN:∀ s,(Hy s).blks.length=nb) (hNt:∀ s,(Hy s).toks.length=nt) (hC:∀ s,(Hy s).closed nb nt) (hly:idy < nb) (hy:∀ s x b s' L M,yield0 s x=some (b,s')→SpecY Try.prog idy [.agg [.sl 1 (x.path.map zR),.int .u8 x.leaf.typ,.int .i64 x.leaf.n,.int .u64 x.leaf.time,.int .u8 x.leaf.dot.actor.rep,.int .u32 x.leaf.dot.actor.inc,.int .u64 x.leaf.dot.seq,.str x.leaf.text,.sl 5 (x.leaf.items.map GItem.row),.sl 3 (x.leaf.tombs.map GDot.row)]] ((Hy s).ext L M) (fun rr hh=>rr=.bool b∧hh=(Hy s').ext L M)) (hb0:∀ s,(Hy s).blk i0=some (.cells [.sl 3 (c0.map GNode.row)])) (hb1:∀ s,(Hy s).blk i1=some (.cells [.sl 1 (c1.map zR)])),wO n S yield0 c0 c1 s0=some res→Spec Try.prog 43 [.yld idy,.ptr i0 0,.ptr i1 0] (Hy s0) (fun rr hh=>rr=.tup []∧hh=Hy res):=by
 induction n with
 | zero=>intro S Hy nb nt yield0 idy c0 i0 c1 i1 s0 res hN hNt hC hly hy hb0 hb1 hF;simp [wO] at hF
 | succ n ih =>
  intro S Hy nb nt yield0 idy c0 i0 c1 i1 s0 res hN hNt hC hly hy hb0 hb1 hF
  unfold wO at hF
  refine zw Try.func43 rfl (by kernel_rfl) (env:=[.yld idy,.ptr i0 0,.ptr i1 0,za,za,za,za,za,za,za,za,za,za,za,za,za,za,za,za,za,za,za,za,za,za,za,za,za,za,za,za,za,za,za,za,za,za,za,za,za,za,za,za,za,za,za,za,za]) (by rfl) ?_
  have hly2:∀ k,idy < nb+k:=fun k=>Nat.lt_of_lt_of_le hly (Nat.le_add_right _ _)
  have hli0:=blk_lt (hb0 s0) (hN s0)
  have hli0b:∀ k,i0 < nb+k:=fun k=>Nat.lt_of_lt_of_le hli0 (Nat.le_add_right _ _)
  have hli1:=blk_lt (hb1 s0) (hN s0)
  have hli1b:∀ k,i1 < nb+k:=fun k=>Nat.lt_of_lt_of_le hli1 (Nat.le_add_right _ _)
  refine zn (zd ?_)
  refine zc rfl (n_box (hN _) (n:=0) rfl yd (zb rfl) rfl rfl) wA ?_
  refine zf (zj (zn (zd ?_)))
  refine zc rfl (b_load rfl ty23 yo (hb0 _) (zt rfl) (zb rfl)) yC ?_
  refine z7 rfl (zX rfl rfl rfl rfl qA yl z8) yz fun hn1=>?_
  replace hn1:=xG hn1
  refine zc rfl (ze rfl rfl (zb rfl)) yL ?_
  refine zf (zj (zI ?_))
  refine yw (fun (n1:Nat) (s1:S)=>yv [0,1,4,5,6,7,8,9,13,14,15,16,17,18,19,20,21,22,23,24,25,26,27,28,29,30,31,32,33,34,35,36,37,38,39,40,41,42,43,44,45,46,47] [(12,.int .i64 (n1:Int))]) (fun s1=>(Hy s1).ext [.cells [.yld idy]] []) hF (fun _ _=>by simp only [yv,upd,List.set_cons_succ,List.set_cons_zero];try rfl) (wk.le (by exact (.drop (.drop (.eq (.eq (.d4 (.drop (.drop (.eq (.eq (.cons (leV.of_eq rfl) (.d16 (.d16 (.drop (.drop (.drop leL.nil))))))))))))))))) ?_
  intro n1 s1 hi1 hF
  refine zn (zd ?_)
  refine zc rfl (zr rfl yJ yh rfl) yO ?_
  refine zf (zj (zn ?_))
  refine y7 yE hF (fun x1 o1 hl1 hx1 hF hK1=>?_) (fun hF=>?_)
  ·refine zH (zj (zn (zI (zn (zd ?_)))))
   refine zc rfl (we rfl qA yl yJ qI (xl hx1) (GNode.row_eq _)) yS ?_
   refine zc rfl (yf rfl ty41.choose_spec.1 yP (zF (cs':=[.str x1.name,.sl 9 (x1.leaves.map GLeaf.row),.sl 3 (x1.subs.map GNode.row)]) ty41.choose_spec.2 rfl rfl) (zb rfl)) yW ?_
   refine zc rfl (n_alloc (hN _) (n:=1) rfl ze41 rfl) xI ?_
   refine zc rfl (n_store (hN _) (cs':=[.str x1.name,.sl 9 (x1.leaves.map GLeaf.row),.sl 3 (x1.subs.map GNode.row)]) rfl ty41.choose_spec.1 yX yU (zb rfl) rfl rfl rfl rfl rfl) rfl ?_
   refine zf (zj (zn ?_))
   refine yr [] [] trivial xF (by kernel_rfl) ?_
   refine zo rfl rfl (b_load rfl ty25 yQ (hb1 _) (zt rfl) (zb rfl)) xa ?_
   refine zK hF (fun v37 hv37 hF=>?_)
   refine xA rfl FOk.nil (by rfl) rfl (zz rfl rfl rfl (zg yR zu) (.cons (zb rfl) .nil)) (n_own (hNt _) (T':=[(v37).length]) (ok44 hv37) (m:=0) rfl rfl) xd ?_
   refine zo rfl rfl (zk rfl fo41x0 yX rfl) xq ?_
   refine zo rfl rfl (n_load (hN _) rfl ty9 yD rfl (zt rfl) (zb rfl)) xr ?_
   refine zo rfl rfl (yn (es:=([x1.name]:List yg).map zR) rfl el25 ze9 rfl rfl (zZ xz yb) (.cons (zb rfl) .nil) rfl rfl rfl) xV ?_
   refine wc hF (fun hm38 hF=>?_)
   refine draw_okH rfl FOk.nil (by rfl) rfl (n_appT (hNt _) (j:=0) (T':=[((v37++([x1.name]:List yg))).length]) rfl rfl rfl rfl el25 el25 xb xi (zb rfl) (zb rfl) news_osl hm38 rfl rfl) xU ?_
   refine zo rfl rfl (zi rfl xY (zb rfl)) xT ?_
   refine yc ?_
   refine zj (zn (zn (zd ?_)))
   refine zc rfl (zk rfl qz yX rfl) wa ?_
   refine zc rfl (n_load (hN _) rfl ty39 wb rfl (zt rfl) (zb rfl)) wh ?_
   refine z7 rfl (zX rfl rfl rfl rfl el39 xH z8) wu fun hn39=>?_
   replace hn39:=xG hn39
   refine zc rfl (ze rfl rfl (zb rfl)) wB ?_
   refine zf (zj (zI ?_))
   refine yw (fun (n2:Nat) (s2:S)=>yv [0,1,4,7,8,9,13,14,15,16,17,18,19,20,21,22,26,27,28,29,30,31,32,33,34,35,36,37,38,39,40,41,42,43,44,45,46,47] [(25,.int .i64 (n2:Int))]) (fun s2=>(Hy s2).ext [.cells [.yld idy],.cells [.str x1.name,.sl 9 (x1.leaves.map GLeaf.row),.sl 3 (x1.subs.map GNode.row)]] [((v37++([x1.name]:List yg))).length]) hF (fun _ _=>by simp only [yv,upd,List.set_cons_succ,List.set_cons_zero];try rfl) (wk.le (by exact (.drop (.drop (.eq (.eq (.drop (.eq (.eq (.drop (.drop (.drop (.eq (.eq (.eq (.d4 (.d4 (.drop (.drop (.eq (.eq (.cons (leV.of_eq rfl) (.d16 (.d4 (.drop (.drop leL.nil)))))))))))))))))))))))))) ?_
   intro n2 s2 hi2 hF
   refine zn (zd ?_)
   refine zc rfl (zr rfl ww xg rfl) va ?_
   refine zf (zj (zn ?_))
   refine y7 vg hF (fun x2 o2 hl2 hx2 hF hK2=>?_) (fun hF=>?_)
   ·refine zH (zj (zn (zI (zn (zd ?_)))))
    refine zc rfl (yM rfl el39 xH ww qI (xl hx2)) wV ?_
    refine zc rfl (yf rfl ty59.choose_spec.1 wX (zF (cs':=[.int .u8 x2.typ,.int .i64 x2.n,.int .u64 x2.time,.int .u8 x2.dot.actor.rep,.int .u32 x2.dot.actor.inc,.int .u64 x2.dot.seq,.str x2.text,.sl 5 (x2.items.map GItem.row),.sl 3 (x2.tombs.map GDot.row)]) ty59.choose_spec.2 rfl rfl) (zb rfl)) vm ?_
    refine zc rfl (n_alloc (hN _) (n:=2) rfl ze59 rfl) xS ?_
    refine zc rfl (n_store (hN _) (cs':=[.int .u8 x2.typ,.int .i64 x2.n,.int .u64 x2.time,.int .u8 x2.dot.actor.rep,.int .u32 x2.dot.actor.inc,.int .u64 x2.dot.seq,.str x2.text,.sl 5 (x2.items.map GItem.row),.sl 3 (x2.tombs.map GDot.row)]) rfl ty59.choose_spec.1 xu vo (zb rfl) rfl rfl rfl rfl rfl) rfl ?_
    refine zf (zj (zn ?_))
    refine yr [4] [] trivial xF (by kernel_rfl) ?_
    refine zo rfl rfl (n_load (hN _) rfl ty92 yY rfl (zt rfl) (zb rfl)) vu ?_
    refine zo rfl rfl (ze rfl y5 (zb rfl)) vt ?_
    refine zK hF (fun v51 hv51 hF=>?_)
    refine xA rfl (FOk.cons (.inr (wC trivial)) FOk.nil) (by rfl) rfl (zz rfl rfl rfl (zg vn zu) (.cons (zb rfl) .nil)) (n_own (hNt _) (T':=[((v37++([x1.name]:List yg))).length,(v51).length]) ((ok44 hv51).le (.cons (leV.osl _ _ _) leL.nil)) (m:=1) rfl rfl) vr ?_
    refine zo rfl rfl (n_load (hN _) rfl ty59.choose_spec.1 xu rfl (zF (cs':=[.int .u8 x2.typ,.int .i64 x2.n,.int .u64 x2.time,.int .u8 x2.dot.actor.rep,.int .u32 x2.dot.actor.inc,.int .u64 x2.dot.seq,.str x2.text,.sl 5 (x2.items.map GItem.row),.sl 3 (x2.tombs.map GDot.row)]) ty59.choose_spec.2 rfl rfl) (zb rfl)) wU ?_
    refine zK hF (fun v52 hv52 hF=>?_)
    refine xc rfl rfl (fun _=>zz rfl rfl rfl (zg wM zu) (.cons (zb rfl) .nil)) (by rintro _ ⟨B2,T2,rfl,hk2⟩;exact ok45 hv52) w9 ?_
    refine zo rfl rfl (vw (cs':=[.osl (some (nt+1)) 1 (v51.map zR),.int .u8 v52.typ,.int .i64 v52.n,.int .u64 v52.time,.int .u8 v52.dot.actor.rep,.int .u32 v52.dot.actor.inc,.int .u64 v52.dot.seq,.str v52.text,.sl 5 (v52.items.map GItem.row),.sl 3 (v52.tombs.map GDot.row)]) rfl su63 ze63 pl63 (zZ vU (zZ wW yb)) (.cons (zb rfl) (.cons (zb rfl) .nil)) rfl rfl) wT ?_
    refine zK hF (fun v53 hv53 hF=>?_)
    refine draw_round rfl (FOk.cons (.inl (by kernel_rfl)) FOk.nil) (by kernel_rfl) rfl (s_yield rfl rfl vy (zg wL zu) (.cons (zb rfl) .nil)) ((hy _ _ _ _ _ _ hv53).le (.cons (leV.agg (.cons (leV.osl _ _ _) (.eq (.eq (.eq (.eq (.eq (.eq (.eq (.eq (.eq leL.nil)))))))))) rfl) leL.nil)) wS ?_
    refine zo rfl rfl (qm rfl wP rfl) w8 ?_
    refine yc ?_
    refine zj ?_
    refine zG vf hF (fun hc54 hF=>?_) (fun hc54 hF=>?_)
    ·refine zO ?_
     refine zJ ?_
     refine zC ?_
     refine yp ?_
     obtain rfl:=Option.some.inj hF
     replace hF:=hK2
     refine zJ ?_
     refine zC ?_
     refine zJ ?_
     refine zC ?_
     refine yp ?_
     obtain rfl:=Option.some.inj hF
     replace hF:=hK1
     refine zJ ?_
     obtain rfl:=Option.some.inj hF
     refine xf rfl zB (fin_exts (hN _) (hNt _) (hN _) (hNt _) (hC _) (leV.refl _) rfl ?_)
     exact ⟨rfl,rfl⟩
    ·refine zH (zY (zj (zd ?_)))
     refine zc rfl (zr rfl ww rfl rfl) wZ ?_
     refine zc rfl (ze rfl ve (zb rfl)) wB ?_
     refine zf (yi ?_)
     obtain rfl:=Option.some.inj hF
     exact ⟨v53.2,hl2,hK2,wk.trans (wk.le (by exact (.drop (.drop (.eq (.eq (.drop (.eq (.eq (.drop (.drop (.drop (.eq (.eq (.eq (.d4 (.d4 (.drop (.drop (.eq (.eq (.cons (leV.of_eq (qp (by omega) (by omega))) (.d16 (.d4 (.drop (.drop leL.nil)))))))))))))))))))))))))) (wk_ext3s (hN _) (hNt _) (hN _) (hNt _) (hC _) (by simp [z9,AV.low,hly,hly2,hli0,hli0b,hli1,hli1b]) rfl rfl (by simp [Blk.low,z9,AV.low,hly,hly2,hli0,hli0b,hli1,hli1b]))⟩
   ·refine yy ?_
    refine zT ?_
    refine zP ?_
    refine zQ ?_
    refine zj (zn (zd ?_))
    refine zc rfl (zk rfl fo41x2 yX rfl) vD ?_
    refine zc rfl (n_load (hN _) rfl ty23 vJ rfl (zt rfl) (zb rfl)) vC ?_
    refine zc rfl (ze rfl y5 (zb rfl)) (sk st0) ?_
    refine zK hF (fun v55 hv55 hF=>?_)
    refine xD rfl (zz rfl rfl rfl (zg vI (zg (gk yd) zu)) (.cons (zb rfl) (.cons (zb rfl) .nil))) (clo_ext (hN _) (n:=2) (B':=[.cells [.yld idy],.cells [.str x1.name,.sl 9 (x1.leaves.map GLeaf.row),.sl 3 (x1.subs.map GNode.row)],.cells [.sl 3 (v55.1.map GNode.row)],.cells [.sl 1 (v55.2.map zR)]]) (caps:=[.ptr (nb+2) 0,.ptr (nb+3) 0]) ((ok29 hv55).le (.eq (.cons (leV.osl _ _ _) leL.nil))) rfl rfl rfl) (sk st1) ?_
    refine zf (zj (zI ?_))
    refine r_range (fun (s3:S)=>(Hy s3)) (fun (s3:S)=>[.cells [.yld idy],.cells [.str x1.name,.sl 9 (x1.leaves.map GLeaf.row),.sl 3 (x1.subs.map GNode.row)],.cells [.sl 3 (v55.1.map GNode.row)],.cells [.sl 1 (v55.2.map zR)]]) (fun (s3:S)=>[((v37++([x1.name]:List yg))).length]) s2 hF (wk.le (by exact (.drop (.drop (.eq (.eq (.d4 (.drop (.drop (.eq (.eq (.eq (.d16 (.d4 (.d4 (.d4 (.eq (.d4 (.drop (.drop leL.nil)))))))))))))))))))) (fun _=>(hN _)) rfl rfl rfl (fun _=>rfl) rfl (gk yo) rfl (fun lp3 hlp3 r3 hr3q=>?_) (fun s3 H1 hH hF=>?_) (fun j3 s3 H1 hH hF=>?_)
    ·have hlowlp3:∀ q1 q2,(lp3 q1 q2).low (nb+5) (nt+1)=true:=by intro q1 q2;rw [hlp3];simp [Blk.low,z9,AV.low,hly,hly2,hli0,hli0b,hli1,hli1b]
     refine Spec.mono (ih (Hy:=(fam (fun (s3:S)=>(Hy s3)) (fun (s3:S)=>[.cells [.yld idy],.cells [.str x1.name,.sl 9 (x1.leaves.map GLeaf.row),.sl 3 (x1.subs.map GNode.row)],.cells [.sl 3 (v55.1.map GNode.row)],.cells [.sl 1 (v55.2.map zR)]]) (fun (s3:S)=>[((v37++([x1.name]:List yg))).length]) lp3)) (nb:=nb+5) (nt:=nt+1) (fun _=>by simp only [fam];rw [ext_len (hN _)];rfl) (fun _=>by simp only [fam];rw [ext_tlen (hNt _)];rfl) (fun _=>closed_ext (hC _) (Nat.le_add_right _ _) (Nat.le_add_right _ _) (by simp only [List.all_append,List.all_cons,List.all_nil,Bool.and_true,List.length_cons,List.length_nil,Nat.reduceAdd,Nat.zero_add,hlowlp3] <;> simp [Blk.low,z9,AV.low,hly,hly2,hli0,hli0b,hli1,hli1b])) (Nat.lt_succ_self _) (y_body hlp3 (xs:=fun (x:GRow)=>[.agg [.sl 1 (x.path.map zR),.int .u8 x.leaf.typ,.int .i64 x.leaf.n,.int .u64 x.leaf.time,.int .u8 x.leaf.dot.actor.rep,.int .u32 x.leaf.dot.actor.inc,.int .u64 x.leaf.dot.seq,.str x.leaf.text,.sl 5 (x.leaf.items.map GItem.row),.sl 3 (x.leaf.tombs.map GDot.row)]]) (fun _=>(hN _)) (fun _=>rfl) rfl (fun _=>rfl) (fun _=>by simp only [setL,List.set_cons_succ,List.set_cons_zero];try rfl) (fun s3 x3 o3 L3 M3 H1 hH hF=>?_)) (fun _=>by simp only [fam];exact n_blk (j:=2) (hN _) rfl) (fun _=>by simp only [fam];exact n_blk (j:=3) (hN _) rfl) hr3q) (fun _ _ h=>h.2)
     obtain rfl:H1=(((Hy s3).ext ([.cells [.yld idy],.cells [.str x1.name,.sl 9 (x1.leaves.map GLeaf.row),.sl 3 (x1.subs.map GNode.row)],.cells [.sl 3 (v55.1.map GNode.row)],.cells [.sl 1 (v55.2.map zR)]]++[lp3 .ready none]) [((v37++([x1.name]:List yg))).length]).ext L3 M3).ext [] []:=hH
     refine zd ?_
     refine zc rfl (n_alloc (qd (hN _) rfl) (n:=0) rfl ze63 rfl) wE ?_
     refine zc rfl (n_store (qd (hN _) rfl) (cs':=[.sl 1 (x3.path.map zR),.int .u8 x3.leaf.typ,.int .i64 x3.leaf.n,.int .u64 x3.leaf.time,.int .u8 x3.leaf.dot.actor.rep,.int .u32 x3.leaf.dot.actor.inc,.int .u64 x3.leaf.dot.seq,.str x3.leaf.text,.sl 5 (x3.leaf.items.map GItem.row),.sl 3 (x3.leaf.tombs.map GDot.row)]) rfl ty63.choose_spec.1 x4 (gk yQ) (zb rfl) rfl rfl rfl rfl rfl) rfl ?_
     refine zf ?_
     refine q_assign (hN _) rfl ?_
     refine zI (zn (zd ?_))
     refine zc rfl (d_load (hN _) rfl ty92 yY rfl (zt rfl) (zb rfl)) (sk wA) ?_
     refine zc rfl (n_load (qd (hN _) rfl) rfl ty63.choose_spec.1 x4 rfl (zF (cs':=[.sl 1 (x3.path.map zR),.int .u8 x3.leaf.typ,.int .i64 x3.leaf.n,.int .u64 x3.leaf.time,.int .u8 x3.leaf.dot.actor.rep,.int .u32 x3.leaf.dot.actor.inc,.int .u64 x3.leaf.dot.seq,.str x3.leaf.text,.sl 5 (x3.leaf.items.map GItem.row),.sl 3 (x3.leaf.tombs.map GDot.row)]) ty63.choose_spec.2 rfl rfl) (zb rfl)) (sk yK) ?_
     refine zK hF (fun v64 hv64 hF=>?_)
     refine ops_round rfl (s_yield rfl rfl (gk yY) (zg (gk yG) zu) (.cons (zb rfl) .nil)) (SpecY.deep fun A B=>hy _ _ _ _ A B hv64) (sk xI) ?_
     refine zc rfl (qm rfl (gk yX) rfl) (sk xT) ?_
     refine zf (zj ?_)
     refine zG (gk y5) hF (fun hc65 hF=>?_) (fun hc65 hF=>?_)
     ·refine zO ?_
      refine zJ ?_
      obtain rfl:=Option.some.inj hF
      exact q_roundR (hC _) (hN _) (hNt _) (hN _) (hNt _) rfl rfl rfl rfl rfl rfl rfl (by simp only [List.all_append,List.all_cons,List.all_nil,Bool.and_true,List.length_cons,List.length_nil,Nat.reduceAdd,Nat.zero_add,hlowlp3] <;> simp [Blk.low,z9,AV.low,hly,hly2,hli0,hli0b,hli1,hli1b])
     ·refine zH (zY ?_)
      obtain rfl:=Option.some.inj hF
      exact q_roundN (hC _) (hN _) (hNt _) (hN _) (hNt _) rfl rfl rfl rfl rfl rfl rfl (by simp only [List.all_append,List.all_cons,List.all_nil,Bool.and_true,List.length_cons,List.length_nil,Nat.reduceAdd,Nat.zero_add,hlowlp3] <;> simp [Blk.low,z9,AV.low,hly,hly2,hli0,hli0b,hli1,hli1b])
    ·obtain rfl:H1=(Hy s3).ext [.cells [.yld idy],.cells [.str x1.name,.sl 9 (x1.leaves.map GLeaf.row),.sl 3 (x1.subs.map GNode.row)],.cells [.sl 3 (v55.1.map GNode.row)],.cells [.sl 1 (v55.2.map zR)],.dead] [((v37++([x1.name]:List yg))).length]:=hH
     refine zY (zY (zj (zd ?_)))
     refine zc rfl (zr rfl yJ rfl rfl) (sk x9) ?_
     refine zc rfl (ze rfl (gk xE) (zb rfl)) yL ?_
     refine zf (yi ?_)
     obtain rfl:=Option.some.inj hF
     exact ⟨s3,hl1,hK1,wk.trans (wk.le (by exact (.drop (.drop (.eq (.eq (.d4 (.drop (.drop (.eq (.eq (.cons (leV.of_eq (qp (by omega) (by omega))) (.d16 (.d16 (.drop (.drop (.drop leL.nil))))))))))))))))) (wk_ext3s (hN _) (hNt _) (hN _) (hNt _) (hC _) (by simp [z9,AV.low,hly,hly2,hli0,hli0b,hli1,hli1b]) rfl rfl (by simp [Blk.low,z9,AV.low,hly,hly2,hli0,hli0b,hli1,hli1b]))⟩
    ·obtain rfl:H1=(Hy s3).ext [.cells [.yld idy],.cells [.str x1.name,.sl 9 (x1.leaves.map GLeaf.row),.sl 3 (x1.subs.map GNode.row)],.cells [.sl 3 (v55.1.map GNode.row)],.cells [.sl 1 (v55.2.map zR)],.dead] [((v37++([x1.name]:List yg))).length]:=hH
     refine jmp1 (G:=fun j=>jumpQ _ j _ _) hF (fun hF=>?_)
     refine jmp_ret ?_
     refine zJ ?_
     refine zJ ?_
     refine zC ?_
     refine yp ?_
     obtain rfl:=Option.some.inj hF
     replace hF:=hK1
     refine zJ ?_
     obtain rfl:=Option.some.inj hF
     refine xf rfl zB (fin_exts (hN _) (hNt _) (hN _) (hNt _) (hC _) (leV.refl _) rfl ?_)
     exact ⟨rfl,rfl⟩
  ·refine yy ?_
   refine zT ?_
   refine zP ?_
   refine zQ ?_
   refine vF ?_
   obtain rfl:=Option.some.inj hF
   refine xf rfl zB (fin_exts (hN _) (hNt _) (hN _) (hNt _) (hC _) (leV.refl _) rfl ?_)
   exact ⟨rfl,rfl⟩
theorem ok43 {S:Type} {Hy:S→AH} {nb nt:Nat} {yield0:S→GRow→Option (Bool×S)} {idy:Nat} {c0:(List GNode)} {i0:Nat} {c1:(List yg)} {i1:Nat} {s0:S} {res:S} (hN:∀ s,(Hy s).blks.length=nb) (hNt:∀ s,(Hy s).toks.length=nt) (hC:∀ s,(Hy s).closed nb nt) (hly:idy < nb) (hy:∀ s x b s' L M,yield0 s x=some (b,s')→SpecY Try.prog idy [.agg [.sl 1 (x.path.map zR),.int .u8 x.leaf.typ,.int .i64 x.leaf.n,.int .u64 x.leaf.time,.int .u8 x.leaf.dot.actor.rep,.int .u32 x.leaf.dot.actor.inc,.int .u64 x.leaf.dot.seq,.str x.leaf.text,.sl 5 (x.leaf.items.map GItem.row),.sl 3 (x.leaf.tombs.map GDot.row)]] ((Hy s).ext L M) (fun rr hh=>rr=.bool b∧hh=(Hy s').ext L M)) (hb0:∀ s,(Hy s).blk i0=some (.cells [.sl 3 (c0.map GNode.row)])) (hb1:∀ s,(Hy s).blk i1=some (.cells [.sl 1 (c1.map zR)])) (hF:pathsXrowsC1 S yield0 c0 c1 s0=some res):Spec Try.prog 43 [.yld idy,.ptr i0 0,.ptr i1 0] (Hy s0) (fun rr hh=>rr=.tup []∧hh=Hy res):=by
 obtain ⟨n,hn⟩:=anyN_is hF
 exact ok43N n hN hNt hC hly hy hb0 hb1 hn
theorem ok42 {s0:(List GRow)} {seq1:(S:Type)→(S→GRow→Option (Bool×S))→S→Option S} {fseq1:FuncId} {aseq1 kseq1:List AV} {res:(List GRow)} {h:AH} (hseq1:∀ (S:Type) (Hy:S→AH) (nb nt:Nat),(∀ s,(Hy s).blks.length=nb)→(∀ s,(Hy s).toks.length=nt)→(∀ s,(Hy s).closed nb nt)→(∀ s,∃ L M,Hy s=h.ext L M)→∀ (y:S→GRow→Option (Bool×S)) (idy:Nat),idy < nb→(∀ s x b s' L M,y s x=some (b,s')→SpecY Try.prog idy [.agg [.sl 1 (x.path.map zR),.int .u8 x.leaf.typ,.int .i64 x.leaf.n,.int .u64 x.leaf.time,.int .u8 x.leaf.dot.actor.rep,.int .u32 x.leaf.dot.actor.inc,.int .u64 x.leaf.dot.seq,.str x.leaf.text,.sl 5 (x.leaf.items.map GItem.row),.sl 3 (x.leaf.tombs.map GDot.row)]] ((Hy s).ext L M) (fun rr hh=>rr=.bool b∧hh=(Hy s').ext L M))→∀ s s',seq1 S y s=some s'→Spec Try.prog fseq1 (aseq1++[.yld idy]++kseq1) (Hy s) (fun rr hh=>rr=.tup []∧hh=Hy s')) (hF:xW s0 seq1=some res):Spec Try.prog 42 [.osl none 10 (s0.map GRow.row),.fn (.func fseq1) aseq1 kseq1] h (fun rr hh=>rr=.sl 10 (res.map GRow.row)∧hh=h):=by
 unfold xW at hF
 refine xe Try.func42 rfl (by kernel_rfl) (env:=[.osl none 10 (s0.map GRow.row),.fn (.func fseq1) aseq1 kseq1,za,za,za,za,za,za,za,za,za,za,za]) (by rfl) (fun hlow hC=>?_)
 simp only [z9,AV.low,Bool.and_eq_true,Bool.true_and,and_true] at hlow
 have hlaseq1:∀ n m,h.blks.length≤n→h.toks.length≤m→z9 n m aseq1=true:=fun n m h1 h2=>xy h1 h2 _ (by simp [hlow])
 have hlkseq1:∀ n m,h.blks.length≤n→h.toks.length≤m→z9 n m kseq1=true:=fun n m h1 h2=>xy h1 h2 _ (by simp [hlow])
 refine zn (zd ?_)
 refine zc rfl (xP (n:=0) rfl yd (zb rfl) rfl rfl) xj ?_
 refine zc rfl (zi rfl rfl (xk wo)) yK ?_
 refine zf (zj (zn (zn (zd ?_))))
 refine zc rfl (ze rfl yo (zb rfl)) xT ?_
 refine zf (zj (zI ?_))
 refine r_range (fun (s1:(List GRow))=>h) (fun (s1:(List GRow))=>[.cells [.osl (some (h.toks.length+0)) 10 (s1.map GRow.row)]]) (fun (s1:(List GRow))=>[(s1).length]) s0 hF (wk.trans (wk_tokB (j:=0) rfl yd rfl st0 rfl rfl) (wk.le (by exact (.drop (.drop (.eq (.drop (.drop (.drop (.eq (.d4 (.drop (.drop leL.nil))))))))))))) (fun _=>rfl) rfl rfl rfl (fun _=>rfl) rfl y5 rfl (fun lp1 hlp1 r1 hr1q=>?_) (fun s1 H1 hH hF=>?_) (fun j1 s1 H1 hH hF=>?_)
 ·have hlowlp1:∀ q1 q2,(lp1 q1 q2).low (h.blks.length+2) (h.toks.length+1)=true:=by intro q1 q2;rw [hlp1];simp [Blk.low,z9,AV.low,hlaseq1,hlkseq1]
  refine Spec.mono (hseq1 _ (fam (fun (s1:(List GRow))=>h) (fun (s1:(List GRow))=>[.cells [.osl (some (h.toks.length+0)) 10 (s1.map GRow.row)]]) (fun (s1:(List GRow))=>[(s1).length]) lp1) (h.blks.length+2) (h.toks.length+1) (fun _=>by simp only [fam];rw [ext_len rfl];rfl) (fun _=>by simp only [fam];rw [ext_tlen rfl];rfl) (fun _=>closed_ext hC (Nat.le_add_right _ _) (Nat.le_add_right _ _) (by simp only [List.all_append,List.all_cons,List.all_nil,Bool.and_true,List.length_cons,List.length_nil,Nat.reduceAdd,Nat.zero_add,hlowlp1] <;> simp [Blk.low,z9,AV.low,hlaseq1,hlkseq1])) (fun _=>⟨_,_,rfl⟩) _ _ (Nat.lt_succ_self _) (y_body hlp1 (xs:=fun (x:GRow)=>[.agg [.sl 1 (x.path.map zR),.int .u8 x.leaf.typ,.int .i64 x.leaf.n,.int .u64 x.leaf.time,.int .u8 x.leaf.dot.actor.rep,.int .u32 x.leaf.dot.actor.inc,.int .u64 x.leaf.dot.seq,.str x.leaf.text,.sl 5 (x.leaf.items.map GItem.row),.sl 3 (x.leaf.tombs.map GDot.row)]]) (fun _=>rfl) (fun _=>rfl) rfl (fun _=>rfl) (fun _=>by simp only [setL,List.set_cons_succ,List.set_cons_zero];try rfl) (fun s1 x1 o1 L1 M1 H1 hH hF=>?_)) _ _ hr1q) (fun _ _ h=>h.2)
  obtain rfl:H1=((h.ext ([.cells [.osl (some (h.toks.length+0)) 10 (s1.map GRow.row)]]++[lp1 .ready none]) [(s1).length]).ext L1 M1).ext [] []:=hH
  refine zd ?_
  refine zc rfl (n_alloc (qd rfl rfl) (n:=0) rfl ze63 rfl) xI ?_
  refine zc rfl (n_store (qd rfl rfl) (cs':=[.sl 1 (x1.path.map zR),.int .u8 x1.leaf.typ,.int .i64 x1.leaf.n,.int .u64 x1.leaf.time,.int .u8 x1.leaf.dot.actor.rep,.int .u32 x1.leaf.dot.actor.inc,.int .u64 x1.leaf.dot.seq,.str x1.leaf.text,.sl 5 (x1.leaf.items.map GItem.row),.sl 3 (x1.leaf.tombs.map GDot.row)]) rfl ty63.choose_spec.1 yX xE (zb rfl) rfl rfl rfl rfl rfl) rfl ?_
  refine zf ?_
  refine q_assign rfl rfl ?_
  refine zI (zd ?_)
  refine zc rfl (d_load rfl rfl ty42 yQ rfl (zt rfl) (zb rfl)) xS ?_
  refine zc rfl (n_load (qd rfl rfl) rfl ty63.choose_spec.1 yX rfl (zF (cs':=[.sl 1 (x1.path.map zR),.int .u8 x1.leaf.typ,.int .i64 x1.leaf.n,.int .u64 x1.leaf.time,.int .u8 x1.leaf.dot.actor.rep,.int .u32 x1.leaf.dot.actor.inc,.int .u64 x1.leaf.dot.seq,.str x1.leaf.text,.sl 5 (x1.leaf.items.map GItem.row),.sl 3 (x1.leaf.tombs.map GDot.row)]) ty63.choose_spec.2 rfl rfl) (zb rfl)) wE ?_
  refine zc rfl (yn (es:=([x1]:List GRow).map GRow.row) rfl wo ze63 rfl rfl (zZ x4 yb) (.cons (zb rfl) .nil) rfl rfl rfl) yC ?_
  refine wc hF (fun hm3 hF=>?_)
  refine zc rfl (d_appT (j:=0) (T':=[((s1++([x1]:List GRow))).length]) rfl rfl rfl rfl rfl wo wo xu yl (zb rfl) (zb rfl) news_osl hm3 rfl rfl) yz ?_
  refine zc rfl (d_store (A':=[.cells [.osl (some (h.toks.length+0)) 10 ((s1++([x1]:List GRow)).map GRow.row)]]++[lp1 .busy none]) (cs':=[.osl (some (h.toks.length+0)) 10 ((s1++([x1]:List GRow)).map GRow.row)]) rfl rfl ty42 yQ yh (zb rfl) rfl rfl rfl rfl rfl rfl) rfl ?_
  refine zf (zY ?_)
  obtain rfl:=Option.some.inj hF
  exact q_roundN hC rfl rfl rfl rfl rfl rfl rfl rfl rfl rfl rfl (by simp only [List.all_append,List.all_cons,List.all_nil,Bool.and_true,List.length_cons,List.length_nil,Nat.reduceAdd,Nat.zero_add,hlowlp1] <;> simp [Blk.low,z9,AV.low,hlaseq1,hlkseq1])
 ·obtain rfl:H1=h.ext [.cells [.osl (some (h.toks.length+0)) 10 (s1.map GRow.row)],.dead] [(s1).length]:=hH
  refine zY (zj (zn (zd ?_)))
  refine zc rfl (zy rfl ty42 yQ rfl (zt rfl) (zb rfl)) yL ?_
  refine zc rfl (zi rfl yJ (zb rfl)) yK ?_
  refine zf (zj (zO ?_))
  obtain rfl:=Option.some.inj hF
  refine zA rfl (zE yG zB) (zD (leV.osl _ _ _) rfl ?_)
  exact ⟨rfl,rfl⟩
 ·obtain rfl:H1=h.ext [.cells [.osl (some (h.toks.length+0)) 10 (s1.map GRow.row)],.dead] [(s1).length]:=hH
  cases hF
theorem okM42 {seq1:(S:Type)→(S→GRow→Option (Bool×S))→S→Option S} {fseq1:FuncId} {aseq1 kseq1:List AV} {bl tl:Nat} {res:(List GRow)} {h:AH} (hbl:h.blks.length=bl) (htl:h.toks.length=tl) (hseq1:∀ (S:Type) (Hy:S→AH) (nb nt:Nat),(∀ s,(Hy s).blks.length=nb)→(∀ s,(Hy s).toks.length=nt)→(∀ s,(Hy s).closed nb nt)→(∀ s,∃ L M,Hy s=h.ext L M)→∀ (y:S→GRow→Option (Bool×S)) (idy:Nat),idy < nb→(∀ s x b s' L M,y s x=some (b,s')→SpecY Try.prog idy [.agg [.sl 1 (x.path.map zR),.int .u8 x.leaf.typ,.int .i64 x.leaf.n,.int .u64 x.leaf.time,.int .u8 x.leaf.dot.actor.rep,.int .u32 x.leaf.dot.actor.inc,.int .u64 x.leaf.dot.seq,.str x.leaf.text,.sl 5 (x.leaf.items.map GItem.row),.sl 3 (x.leaf.tombs.map GDot.row)]] ((Hy s).ext L M) (fun rr hh=>rr=.bool b∧hh=(Hy s').ext L M))→∀ s s',seq1 S y s=some s'→Spec Try.prog fseq1 (aseq1++[.yld idy]++kseq1) (Hy s) (fun rr hh=>rr=.tup []∧hh=Hy s')) (hF:xW ([]:List GRow) seq1=some res):Spec Try.prog 42 [.osl none 10 [],.fn (.func fseq1) aseq1 kseq1] h (fun rr hh=>rr=.rsl bl tl 10 (res).length∧hh=h.ext [.row tl 10 (res.map GRow.row)] [(res).length]):=by
 unfold xW at hF
 subst hbl htl
 refine xe Try.func42 rfl (by kernel_rfl) (env:=[.osl none 10 [],.fn (.func fseq1) aseq1 kseq1,za,za,za,za,za,za,za,za,za,za,za]) (by rfl) (fun hlow hC=>?_)
 simp only [z9,AV.low,Bool.and_eq_true,Bool.true_and,and_true] at hlow
 have hlaseq1:∀ n m,h.blks.length≤n→h.toks.length≤m→z9 n m aseq1=true:=fun n m h1 h2=>xy h1 h2 _ (by simp [hlow])
 have hlkseq1:∀ n m,h.blks.length≤n→h.toks.length≤m→z9 n m kseq1=true:=fun n m h1 h2=>xy h1 h2 _ (by simp [hlow])
 refine zn (zd ?_)
 refine ops_swk (swk_thaw yd rfl rfl st0 rfl rfl) ?_
 refine zc rfl (xP (n:=1) rfl yd (zb rfl) rfl rfl) xj ?_
 refine zc rfl (zi rfl rfl (xk wo)) yK ?_
 refine zf (zj (zn (zn (zd ?_))))
 refine zc rfl (ze rfl yo (zb rfl)) xT ?_
 refine zf (zj (zI ?_))
 refine r_range (k:=2) (fun (s1:(List GRow))=>h) (fun (s1:(List GRow))=>[.row (h.toks.length+0) 10 (s1.map GRow.row),.cells [.rsl (h.blks.length+0) (h.toks.length+0) 10 ((s1).length)]]) (fun (s1:(List GRow))=>[(s1).length]) ([]:List GRow) hF (wk.le (by exact (.drop (.drop (.eq (.drop (.drop (.drop (.eq (.d4 (.drop (.drop leL.nil)))))))))))) (fun _=>rfl) rfl rfl rfl (fun _=>rfl) rfl y5 rfl (fun lp1 hlp1 r1 hr1q=>?_) (fun s1 H1 hH hF=>?_) (fun j1 s1 H1 hH hF=>?_)
 ·have hlowlp1:∀ q1 q2,(lp1 q1 q2).low (h.blks.length+3) (h.toks.length+1)=true:=by intro q1 q2;rw [hlp1];simp [Blk.low,z9,AV.low,hlaseq1,hlkseq1]
  refine Spec.mono (hseq1 _ (fam (fun (s1:(List GRow))=>h) (fun (s1:(List GRow))=>[.row (h.toks.length+0) 10 (s1.map GRow.row),.cells [.rsl (h.blks.length+0) (h.toks.length+0) 10 ((s1).length)]]) (fun (s1:(List GRow))=>[(s1).length]) lp1) (h.blks.length+3) (h.toks.length+1) (fun _=>by simp only [fam];rw [ext_len rfl];rfl) (fun _=>by simp only [fam];rw [ext_tlen rfl];rfl) (fun _=>closed_ext hC (Nat.le_add_right _ _) (Nat.le_add_right _ _) (by simp only [List.all_append,List.all_cons,List.all_nil,Bool.and_true,List.length_cons,List.length_nil,Nat.reduceAdd,Nat.zero_add,hlowlp1] <;> simp [Blk.low,z9,AV.low,hlaseq1,hlkseq1])) (fun _=>⟨_,_,rfl⟩) _ _ (Nat.lt_succ_self _) (y_body hlp1 (xs:=fun (x:GRow)=>[.agg [.sl 1 (x.path.map zR),.int .u8 x.leaf.typ,.int .i64 x.leaf.n,.int .u64 x.leaf.time,.int .u8 x.leaf.dot.actor.rep,.int .u32 x.leaf.dot.actor.inc,.int .u64 x.leaf.dot.seq,.str x.leaf.text,.sl 5 (x.leaf.items.map GItem.row),.sl 3 (x.leaf.tombs.map GDot.row)]]) (fun _=>rfl) (fun _=>rfl) rfl (fun _=>rfl) (fun _=>by simp only [setL,List.set_cons_succ,List.set_cons_zero];try rfl) (fun s1 x1 o1 L1 M1 H1 hH hF=>?_)) _ _ hr1q) (fun _ _ h=>h.2)
  obtain rfl:H1=((h.ext ([.row (h.toks.length+0) 10 (s1.map GRow.row),.cells [.rsl (h.blks.length+0) (h.toks.length+0) 10 ((s1).length)]]++[lp1 .ready none]) [(s1).length]).ext L1 M1).ext [] []:=hH
  refine zd ?_
  refine zc rfl (n_alloc (qd rfl rfl) (n:=0) rfl ze63 rfl) xI ?_
  refine zc rfl (n_store (qd rfl rfl) (cs':=[.sl 1 (x1.path.map zR),.int .u8 x1.leaf.typ,.int .i64 x1.leaf.n,.int .u64 x1.leaf.time,.int .u8 x1.leaf.dot.actor.rep,.int .u32 x1.leaf.dot.actor.inc,.int .u64 x1.leaf.dot.seq,.str x1.leaf.text,.sl 5 (x1.leaf.items.map GItem.row),.sl 3 (x1.leaf.tombs.map GDot.row)]) rfl ty63.choose_spec.1 yX xE (zb rfl) rfl rfl rfl rfl rfl) rfl ?_
  refine zf ?_
  refine q_assign rfl rfl ?_
  refine zI (zd ?_)
  refine zc rfl (d_load rfl rfl ty42 yQ rfl (zt rfl) (zb rfl)) xS ?_
  refine zc rfl (n_load (qd rfl rfl) rfl ty63.choose_spec.1 yX rfl (zF (cs':=[.sl 1 (x1.path.map zR),.int .u8 x1.leaf.typ,.int .i64 x1.leaf.n,.int .u64 x1.leaf.time,.int .u8 x1.leaf.dot.actor.rep,.int .u32 x1.leaf.dot.actor.inc,.int .u64 x1.leaf.dot.seq,.str x1.leaf.text,.sl 5 (x1.leaf.items.map GItem.row),.sl 3 (x1.leaf.tombs.map GDot.row)]) ty63.choose_spec.2 rfl rfl) (zb rfl)) wE ?_
  refine zc rfl (yn (es:=([x1]:List GRow).map GRow.row) rfl wo ze63 rfl rfl (zZ x4 yb) (.cons (zb rfl) .nil) rfl rfl rfl) yC ?_
  refine wc hF (fun hm3 hF=>?_)
  refine zc rfl (d_appR (i:=0) (j:=0) (A':=[.row (h.toks.length+0) 10 ((s1++([x1]:List GRow)).map GRow.row),.cells [.rsl (h.blks.length+0) (h.toks.length+0) 10 ((s1).length)]]++[lp1 .busy none]) (T':=[((s1++([x1]:List GRow))).length]) rfl rfl rfl rfl rfl rfl wo wo xu yl rfl (zb rfl) news_osl hm3 rfl rfl rfl rfl rfl) yz ?_
  refine zc rfl (d_store (A':=[.row (h.toks.length+0) 10 ((s1++([x1]:List GRow)).map GRow.row),.cells [.rsl (h.blks.length+0) (h.toks.length+0) 10 (((s1++([x1]:List GRow))).length)]]++[lp1 .busy none]) (cs':=[.rsl (h.blks.length+0) (h.toks.length+0) 10 (((s1++([x1]:List GRow))).length)]) rfl rfl ty42 yQ yh (zb rfl) rfl rfl rfl rfl rfl rfl) rfl ?_
  refine zf (zY ?_)
  obtain rfl:=Option.some.inj hF
  exact q_roundN hC rfl rfl rfl rfl rfl rfl rfl rfl rfl rfl rfl (by simp only [List.all_append,List.all_cons,List.all_nil,Bool.and_true,List.length_cons,List.length_nil,Nat.reduceAdd,Nat.zero_add,hlowlp1] <;> simp [Blk.low,z9,AV.low,hlaseq1,hlkseq1])
 ·obtain rfl:H1=h.ext [.row (h.toks.length+0) 10 (s1.map GRow.row),.cells [.rsl (h.blks.length+0) (h.toks.length+0) 10 ((s1).length)],.dead] [(s1).length]:=hH
  refine zY (zj (zn (zd ?_)))
  refine zc rfl (zy rfl ty42 yQ rfl (zt rfl) (zb rfl)) yL ?_
  refine zc rfl (zi rfl yJ (zb rfl)) yK ?_
  refine zf (zj (zO ?_))
  obtain rfl:=Option.some.inj hF
  refine zA rfl (zE yG zB) (fin_row1 (hds_row (j:=0) (i:=0) rfl (by simp)) ?_)
  exact ⟨by simp only [List.length_map];try rfl,by simp only [List.length_map];try rfl⟩
 ·obtain rfl:H1=h.ext [.row (h.toks.length+0) 10 (s1.map GRow.row),.cells [.rsl (h.blks.length+0) (h.toks.length+0) 10 ((s1).length)],.dead] [(s1).length]:=hH
  cases hF
theorem ok28 {seq0:(S:Type)→(S→GRow→Option (Bool×S))→S→Option S} {fseq0:FuncId} {aseq0 kseq0:List AV} {res:(List GRow)} {h:AH} (hseq0:∀ (S:Type) (Hy:S→AH) (nb nt:Nat),(∀ s,(Hy s).blks.length=nb)→(∀ s,(Hy s).toks.length=nt)→(∀ s,(Hy s).closed nb nt)→(∀ s,∃ L M,Hy s=h.ext L M)→∀ (y:S→GRow→Option (Bool×S)) (idy:Nat),idy < nb→(∀ s x b s' L M,y s x=some (b,s')→SpecY Try.prog idy [.agg [.sl 1 (x.path.map zR),.int .u8 x.leaf.typ,.int .i64 x.leaf.n,.int .u64 x.leaf.time,.int .u8 x.leaf.dot.actor.rep,.int .u32 x.leaf.dot.actor.inc,.int .u64 x.leaf.dot.seq,.str x.leaf.text,.sl 5 (x.leaf.items.map GItem.row),.sl 3 (x.leaf.tombs.map GDot.row)]] ((Hy s).ext L M) (fun rr hh=>rr=.bool b∧hh=(Hy s').ext L M))→∀ s s',seq0 S y s=some s'→Spec Try.prog fseq0 (aseq0++[.yld idy]++kseq0) (Hy s) (fun rr hh=>rr=.tup []∧hh=Hy s')) (hF:wv seq0=some res):Spec Try.prog 28 [.fn (.func fseq0) aseq0 kseq0] h (fun rr hh=>rr=.sl 10 (res.map GRow.row)∧hh=h):=by
 unfold wv at hF
 refine xe Try.func28 rfl (by kernel_rfl) (env:=[.fn (.func fseq0) aseq0 kseq0,za,za,za,za]) (by rfl) (fun hlow hC=>?_)
 simp only [z9,AV.low,Bool.and_eq_true,Bool.true_and,and_true] at hlow
 have hlaseq0:∀ n m,h.blks.length≤n→h.toks.length≤m→z9 n m aseq0=true:=fun n m h1 h2=>xy h1 h2 _ (by simp [hlow])
 have hlkseq0:∀ n m,h.blks.length≤n→h.toks.length≤m→z9 n m kseq0=true:=fun n m h1 h2=>xy h1 h2 _ (by simp [hlow])
 refine zn (zd ?_)
 refine zc rfl (zi rfl rfl (xk wo)) xj ?_
 refine zf (zj (zn (zd ?_)))
 refine zc rfl (ze rfl yd (zb rfl)) wA ?_
 refine zK hF (fun v1 hv1 hF=>?_)
 refine zU rfl (zz rfl rfl rfl (zg rfl (zg yY zu)) (.cons (xk wo) (.cons (zb rfl) .nil))) (ok42 (fun S Hy nb nt hN hNt hC hE y idy hly hy s s' hF=>hseq0 S Hy nb nt hN hNt hC (fun s=>by obtain ⟨L,M,e⟩:=hE s;exact ⟨_,_,by rw [e,yj]⟩) y idy hly hy s s' hF) hv1) yK ?_
 refine zc rfl (zi rfl yG (zb rfl)) xj ?_
 refine zf (zj (zO ?_))
 obtain rfl:=Option.some.inj hF
 refine zA rfl (zE yQ zB) (zD (leV.refl _) rfl ?_)
 exact ⟨rfl,rfl⟩
theorem okM28 {seq0:(S:Type)→(S→GRow→Option (Bool×S))→S→Option S} {fseq0:FuncId} {aseq0 kseq0:List AV} {bl tl:Nat} {res:(List GRow)} {h:AH} (hbl:h.blks.length=bl) (htl:h.toks.length=tl) (hseq0:∀ (S:Type) (Hy:S→AH) (nb nt:Nat),(∀ s,(Hy s).blks.length=nb)→(∀ s,(Hy s).toks.length=nt)→(∀ s,(Hy s).closed nb nt)→(∀ s,∃ L M,Hy s=h.ext L M)→∀ (y:S→GRow→Option (Bool×S)) (idy:Nat),idy < nb→(∀ s x b s' L M,y s x=some (b,s')→SpecY Try.prog idy [.agg [.sl 1 (x.path.map zR),.int .u8 x.leaf.typ,.int .i64 x.leaf.n,.int .u64 x.leaf.time,.int .u8 x.leaf.dot.actor.rep,.int .u32 x.leaf.dot.actor.inc,.int .u64 x.leaf.dot.seq,.str x.leaf.text,.sl 5 (x.leaf.items.map GItem.row),.sl 3 (x.leaf.tombs.map GDot.row)]] ((Hy s).ext L M) (fun rr hh=>rr=.bool b∧hh=(Hy s').ext L M))→∀ s s',seq0 S y s=some s'→Spec Try.prog fseq0 (aseq0++[.yld idy]++kseq0) (Hy s) (fun rr hh=>rr=.tup []∧hh=Hy s')) (hF:wv seq0=some res):Spec Try.prog 28 [.fn (.func fseq0) aseq0 kseq0] h (fun rr hh=>rr=.rsl bl tl 10 (res).length∧hh=h.ext [.row tl 10 (res.map GRow.row)] [(res).length]):=by
 unfold wv at hF
 subst hbl htl
 refine xe Try.func28 rfl (by kernel_rfl) (env:=[.fn (.func fseq0) aseq0 kseq0,za,za,za,za]) (by rfl) (fun hlow hC=>?_)
 simp only [z9,AV.low,Bool.and_eq_true,Bool.true_and,and_true] at hlow
 have hlaseq0:∀ n m,h.blks.length≤n→h.toks.length≤m→z9 n m aseq0=true:=fun n m h1 h2=>xy h1 h2 _ (by simp [hlow])
 have hlkseq0:∀ n m,h.blks.length≤n→h.toks.length≤m→z9 n m kseq0=true:=fun n m h1 h2=>xy h1 h2 _ (by simp [hlow])
 refine zn (zd ?_)
 refine zc rfl (zi rfl rfl (xk wo)) xj ?_
 refine zf (zj (zn (zd ?_)))
 refine zc rfl (ze rfl yd (zb rfl)) wA ?_
 refine zK hF (fun v1 hv1 hF=>?_)
 refine xD rfl (zz rfl rfl rfl (zg rfl (zg yY zu)) (.cons (xk wo) (.cons (zb rfl) .nil))) (row_newv (v':=.rsl (h.blks.length+0) (h.toks.length+0) 10 ((v1).length)) (B':=[.row (h.toks.length+0) 10 (v1.map GRow.row)]) (T':=[(v1).length]) (okM42 (by rw [ext_bl];rfl) (by rw [wj];rfl) (fun S Hy nb nt hN hNt hC hE y idy hly hy s s' hF=>hseq0 S Hy nb nt hN hNt hC (fun s=>by obtain ⟨L,M,e⟩:=hE s;exact ⟨_,_,by rw [e,yj]⟩) y idy hly hy s s' hF) hv1) rfl rfl rfl) yK ?_
 refine zc rfl (zi rfl yG (zb rfl)) xj ?_
 refine zf (zj (zO ?_))
 obtain rfl:=Option.some.inj hF
 refine zA rfl (zE yQ zB) (fin_row1 (hds_row (j:=0) (i:=0) rfl (by simp)) ?_)
 exact ⟨by simp only [List.length_map];try rfl,by simp only [List.length_map];try rfl⟩
theorem ok49 {r0:Int} {res:Bool} {h:AH}  (hF:q8 r0=some res):Spec Try.prog 49 [.int .i32 r0] h (fun rr hh=>rr=.bool res∧hh=h):=by
 unfold q8 at hF
 refine zw Try.func49 rfl (by kernel_rfl) (env:=[.int .i32 r0,za,za,za,za,za,za,za,za,za,za,za,za,za,za,za,za,za,za,za,za,za,za,za,za]) (by rfl) ?_
 refine zn (zd ?_)
 refine zc rfl (zi rfl rfl (zb rfl)) xj ?_
 refine zf (zj (zn (zd ?_)))
 refine zc rfl (ze rfl yd (zb rfl)) wA ?_
 refine zc rfl (zr rfl yY rfl rfl) yK ?_
 refine zc rfl (ze rfl yG (zb rfl)) xI ?_
 refine zq rfl (fun hb=>ze rfl yd (zb rfl)) xT ?_
 refine zq rfl (fun hb=>zr rfl (zp y5 hb) rfl rfl) x9 ?_
 refine zc rfl (zM rfl yX rfl xE (ya (fun ht=>gF ht))) xS ?_
 refine zc rfl (ze rfl xu (zb rfl)) wE ?_
 refine zq rfl (fun hb=>ze rfl yd (zb rfl)) yC ?_
 refine zq rfl (fun hb=>zr rfl (zp yl hb) rfl rfl) yz ?_
 refine zq rfl (fun hb=>ze rfl (zp yh hb) (zb rfl)) yL ?_
 refine zq (zW rfl rfl rfl) (fun hb=>ze rfl yd (zb rfl)) yO ?_
 refine zq (zW rfl rfl rfl) (fun hb=>zr rfl (zp yE hb) rfl rfl) yS ?_
 refine zq rfl (fun hb=>zM rfl (zp yJ hb) rfl yP (ya (fun ht=>gF2 hb ht))) yW ?_
 refine zc rfl (zM rfl x4 yU rfl (zS (fun ht=>gT ht))) xa ?_
 refine zc rfl (ze rfl yR (zb rfl)) xd ?_
 refine zq rfl (fun hb=>ze rfl yd (zb rfl)) xq ?_
 refine zq rfl (fun hb=>zr rfl (zp yD hb) rfl rfl) xr ?_
 refine zq rfl (fun hb=>ze rfl (zp xz hb) (zb rfl)) xV ?_
 refine zq (zW rfl rfl rfl) (fun hb=>ze rfl yd (zb rfl)) xU ?_
 refine zq (zW rfl rfl rfl) (fun hb=>zr rfl (zp xY hb) rfl rfl) wa ?_
 refine zq rfl (fun hb=>zM rfl (zp xi hb) rfl wb (ya (fun ht=>gF2 hb ht))) wh ?_
 refine zc rfl (zM rfl xb xH rfl (zS (fun ht=>gT ht))) wu ?_
 refine zc rfl (zi rfl xg (zb rfl)) xj ?_
 refine zf (zj (zO ?_))
 obtain rfl:=Option.some.inj hF
 refine zA rfl (zE yQ zB) (zD (leV.refl _) rfl ?_)
 exact ⟨rfl,rfl⟩
theorem ok72 {s0:yg} {f1:(Int→Option Bool)} {ff1:FuncId} {af1 kf1:List AV} {truth2:Bool} {res:Int} {h:AH} (hf1:∀ x0 v (L:List Blk) (M:List Nat),f1 x0=some v→Spec Try.prog ff1 (af1++[.int .i32 x0]++kf1) (h.ext L M) (fun rr hh=>rr=.bool v∧hh=h.ext L M)) (hF:vT s0 f1 truth2=some res):Spec Try.prog 72 [.str s0,.fn (.func ff1) af1 kf1,.bool truth2] h (fun rr hh=>rr=.int .i64 res∧hh=h):=by
 unfold vT at hF
 refine xe Try.func72 rfl (by kernel_rfl) (env:=[.str s0,.fn (.func ff1) af1 kf1,.bool truth2,za,za,za,za,za,za,za,za,za,za,za,za,za,za,za,za,za,za]) (by rfl) (fun hlow hC=>?_)
 simp only [z9,AV.low,Bool.and_eq_true,Bool.true_and,and_true] at hlow
 have hlaf1:∀ n m,h.blks.length≤n→h.toks.length≤m→z9 n m af1=true:=fun n m h1 h2=>xy h1 h2 _ (by simp [hlow])
 have hlkf1:∀ n m,h.blks.length≤n→h.toks.length≤m→z9 n m kf1=true:=fun n m h1 h2=>xy h1 h2 _ (by simp [hlow])
 refine zn (zd ?_)
 refine zc rfl (zi rfl rfl (zb rfl)) xT ?_
 refine zf (zj (zn (zn (zd ?_))))
 refine zc rfl (ze rfl yd (zb rfl)) wE ?_
 refine zc rfl (e_range (n:=0) rfl ty9 x4 rfl) yC ?_
 refine zf (zj (zI ?_))
 refine wn (fun (s1:Nat)=>yv [0,3,4,5,6,7,8,9,11,12,13,14,15,16,17,18,19,20] []) (fun s1=>h.ext [.siter s0 s1] []) hF (fun _=>by simp only [yv,upd,List.set_cons_succ,List.set_cons_zero];try rfl) (wk.le (by exact (.drop (.eq (.eq (.d4 (.drop (.drop (.drop (.eq (.d4 (.d4 (.drop (.drop leL.nil)))))))))))))) ?_
 intro n1 s1 o1 hF hK1
 refine zn (zd ?_)
 refine ops_nextF rfl rfl yl rfl yz yz hF (fun hp5 hF=>?_) (fun hF=>?_)
 ·refine zc rfl (vb rfl yh rfl (zb rfl)) yL ?_
  refine zf (zj (zn ?_))
  refine r_cond yJ (fun _=>?_) (fun hh=>by cases hh)
  refine zH (zj (zI (zn (zd ?_))))
  refine zc rfl (vb rfl yh rfl (zb rfl)) yO ?_
  refine zc rfl (vb rfl yh rfl (zb rfl)) yS ?_
  refine zc rfl (zi rfl yE (zb rfl)) x9 ?_
  refine zc rfl (zi rfl yP (zb rfl)) xS ?_
  refine zf (zj (zn (zd ?_)))
  refine zc rfl (ze rfl yo (zb rfl)) yW ?_
  refine zc rfl (ze rfl xu (zb rfl)) xa ?_
  refine zK hF (fun v6 hv6 hF=>?_)
  refine zU rfl (s_callC rfl rfl yU (zg yR zu) (.cons (zb rfl) .nil) rfl) (hf1 _ _ _ _ hv6) xd ?_
  refine zc rfl (ze rfl yQ (zb rfl)) xq ?_
  refine zc rfl (zr rfl xb yD (bin_boolE ty4)) xr ?_
  refine zf (zj ?_)
  refine zG xz hF (fun hc7 hF=>?_) (fun hc7 hF=>?_)
  ·refine zn (zd ?_)
   refine zc rfl (ze rfl xE (zb rfl)) xV ?_
   refine zc rfl (zi rfl xi (zb rfl)) xT ?_
   refine zf (zj (zO ?_))
   refine zJ ?_
   refine yp ?_
   obtain rfl:=Option.some.inj hF
   replace hF:=hK1
   refine zJ ?_
   refine zC ?_
   obtain rfl:=Option.some.inj hF
   refine zA rfl (zE y5 zB) (zD (leV.refl _) rfl ?_)
   exact ⟨rfl,rfl⟩
  ·refine zH (zY (yi ?_))
   obtain rfl:=Option.some.inj hF
   exact ⟨(s1+(dec s0 s1).2),hK1,wk.le (by exact (.drop (.eq (.eq (.d4 (.drop (.drop (.drop (.eq (.d4 (.d4 (.drop (.drop leL.nil)))))))))))))⟩
 ·refine zc rfl (vb rfl yh rfl (zb rfl)) yL ?_
  refine zf (zj (zn ?_))
  refine r_cond yJ (fun hh=>by cases hh) (fun _=>?_)
  refine yy ?_
  refine zT ?_
  refine zP ?_
  obtain rfl:=Option.some.inj hF
  replace hF:=hK1
  refine zQ ?_
  refine zj (zn (zd ?_))
  refine zc rfl (zi rfl rfl (zb rfl)) xT ?_
  refine zf (zj (zO ?_))
  obtain rfl:=Option.some.inj hF
  refine zA rfl (zE y5 zB) (zD (leV.refl _) rfl ?_)
  exact ⟨rfl,rfl⟩
theorem ok62 {s0:yg} {f1:(Int→Option Bool)} {ff1:FuncId} {af1 kf1:List AV} {res:Int} {h:AH} (hf1:∀ x0 v (L:List Blk) (M:List Nat),f1 x0=some v→Spec Try.prog ff1 (af1++[.int .i32 x0]++kf1) (h.ext L M) (fun rr hh=>rr=.bool v∧hh=h.ext L M)) (hF:qi s0 f1=some res):Spec Try.prog 62 [.str s0,.fn (.func ff1) af1 kf1] h (fun rr hh=>rr=.int .i64 res∧hh=h):=by
 unfold qi at hF
 refine xe Try.func62 rfl (by kernel_rfl) (env:=[.str s0,.fn (.func ff1) af1 kf1,za,za,za,za,za,za]) (by rfl) (fun hlow hC=>?_)
 simp only [z9,AV.low,Bool.and_eq_true,Bool.true_and,and_true] at hlow
 have hlaf1:∀ n m,h.blks.length≤n→h.toks.length≤m→z9 n m af1=true:=fun n m h1 h2=>xy h1 h2 _ (by simp [hlow])
 have hlkf1:∀ n m,h.blks.length≤n→h.toks.length≤m→z9 n m kf1=true:=fun n m h1 h2=>xy h1 h2 _ (by simp [hlow])
 refine zn (zd ?_)
 refine zc rfl (zi rfl rfl (zb rfl)) yK ?_
 refine zf (zj (zn (zd ?_)))
 refine zc rfl (ze rfl yd (zb rfl)) xI ?_
 refine zc rfl (ze rfl yo (zb rfl)) xT ?_
 refine zK hF (fun v1 hv1 hF=>?_)
 refine zU rfl (zz rfl rfl rfl (zg yX (zg y5 (zg rfl zu))) (.cons (zb rfl) (.cons (zb rfl) (.cons (zb rfl) .nil)))) (ok72 (fun x0 v L M hv=>by rw [yj];exact hf1 x0 v _ _ hv) hv1) x9 ?_
 refine zc rfl (zi rfl xE (zb rfl)) yK ?_
 refine zf (zj (zO ?_))
 obtain rfl:=Option.some.inj hF
 refine zA rfl (zE yG zB) (zD (leV.refl _) rfl ?_)
 exact ⟨rfl,rfl⟩
theorem ok50 {s0:yg} {f1:(Int→Option Bool)} {ff1:FuncId} {af1 kf1:List AV} {res:Bool} {h:AH} (hf1:∀ x0 v (L:List Blk) (M:List Nat),f1 x0=some v→Spec Try.prog ff1 (af1++[.int .i32 x0]++kf1) (h.ext L M) (fun rr hh=>rr=.bool v∧hh=h.ext L M)) (hF:wm s0 f1=some res):Spec Try.prog 50 [.str s0,.fn (.func ff1) af1 kf1] h (fun rr hh=>rr=.bool res∧hh=h):=by
 unfold wm at hF
 refine xe Try.func50 rfl (by kernel_rfl) (env:=[.str s0,.fn (.func ff1) af1 kf1,za,za,za,za,za,za,za]) (by rfl) (fun hlow hC=>?_)
 simp only [z9,AV.low,Bool.and_eq_true,Bool.true_and,and_true] at hlow
 have hlaf1:∀ n m,h.blks.length≤n→h.toks.length≤m→z9 n m af1=true:=fun n m h1 h2=>xy h1 h2 _ (by simp [hlow])
 have hlkf1:∀ n m,h.blks.length≤n→h.toks.length≤m→z9 n m kf1=true:=fun n m h1 h2=>xy h1 h2 _ (by simp [hlow])
 refine zn (zd ?_)
 refine zc rfl (zi rfl rfl (zb rfl)) yK ?_
 refine zf (zj (zn (zd ?_)))
 refine zc rfl (ze rfl yd (zb rfl)) xI ?_
 refine zc rfl (ze rfl yo (zb rfl)) xT ?_
 refine zK hF (fun v1 hv1 hF=>?_)
 refine zU rfl (zz rfl rfl rfl (zg yX (zg y5 zu)) (.cons (zb rfl) (.cons (zb rfl) .nil))) (ok62 (fun x0 v L M hv=>by rw [yj];exact hf1 x0 v _ _ hv) hv1) x9 ?_
 refine zc rfl (zr rfl xE rfl rfl) xS ?_
 refine zc rfl (zi rfl xu (zb rfl)) yK ?_
 refine zf (zj (zO ?_))
 obtain rfl:=Option.some.inj hF
 refine zA rfl (zE yG zB) (zD (leV.refl _) rfl ?_)
 exact ⟨rfl,rfl⟩
end Go.Vv
