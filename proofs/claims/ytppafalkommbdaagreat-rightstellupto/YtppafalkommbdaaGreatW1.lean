/- Each function that the law reaches computes what its reading says; printed by a program. -/
import Derived.Test.YtppafalkommbdaaGreatVvZ
import Derived.Test.YtppafalkommbdaaGreatVvAn
import Derived.Test.YtppafalkommbdaaGreatVvLb
import Derived.Test.YtppafalkommbdaaGreatVvLc
import Derived.Test.YtppafalkommbdaaGreatVvMr
import Derived.Test.YtppafalkommbdaaGreatVvIt
import Derived.Test.YtppafalkommbdaaGreatVvRd
import Derived.Test.YtppafalkommbdaaGreatD
import Derived.Test.YtppafalkommbdaaGreatProg
namespace Go.Vv
open Go Go.Proofs
set_option maxRecDepth 100000
set_option maxHeartbeats 1000000
set_option linter.unusedSimpArgs false
set_option linter.unusedVariables false
section
variable {v a0 a1 a2 a3 a4 a5 a6 a7 a8 a9 a10 a11 a12 a13 a14 a15 a16 a17 a18 a19 a20 a21 a22 a23 a24 a25 a26 a27 a28 a29 a30 a31 a32 a33 a34 a35 a36 a37 a38 a39:AV} {r q:List AV} {t:Nat}
theorem yg:xZ (a0::r) (.tmp 0)=some a0:=rfl
theorem qP:qF (some 0) (a0::r) v=some (v::r):=rfl
theorem yw:xZ (a0::a1::r) (.tmp 1)=some a1:=rfl
theorem qI:qF (some 1) (a0::a1::r) v=some (a0::v::r):=rfl
theorem yz:xZ (a0::a1::a2::r) (.tmp 2)=some a2:=rfl
theorem yH:qF (some 2) (a0::a1::a2::r) v=some (a0::a1::v::r):=rfl
theorem yX:xZ (a0::a1::a2::a3::r) (.tmp 3)=some a3:=rfl
theorem xS:qF (some 3) (a0::a1::a2::a3::r) v=some (a0::a1::a2::v::r):=rfl
theorem yv:xZ (a0::a1::a2::a3::a4::r) (.tmp 4)=some a4:=rfl
theorem yD:qF (some 4) (a0::a1::a2::a3::a4::r) v=some (a0::a1::a2::a3::v::r):=rfl
theorem yP:xZ (a0::a1::a2::a3::a4::a5::r) (.tmp 5)=some a5:=rfl
theorem xw:qF (some 5) (a0::a1::a2::a3::a4::a5::r) v=some (a0::a1::a2::a3::a4::v::r):=rfl
theorem yS:xZ (a0::a1::a2::a3::a4::a5::a6::r) (.tmp 6)=some a6:=rfl
theorem xp:qF (some 6) (a0::a1::a2::a3::a4::a5::a6::r) v=some (a0::a1::a2::a3::a4::a5::v::r):=rfl
theorem xn:xZ (a0::a1::a2::a3::a4::a5::a6::a7::r) (.tmp 7)=some a7:=rfl
theorem xK:qF (some 7) (a0::a1::a2::a3::a4::a5::a6::a7::r) v=some (a0::a1::a2::a3::a4::a5::a6::v::r):=rfl
theorem yV:xZ (a0::a1::a2::a3::a4::a5::a6::a7::a8::r) (.tmp 8)=some a8:=rfl
theorem xH:qF (some 8) (a0::a1::a2::a3::a4::a5::a6::a7::a8::r) v=some (a0::a1::a2::a3::a4::a5::a6::a7::v::r):=rfl
theorem xl:xZ (a0::a1::a2::a3::a4::a5::a6::a7::a8::a9::r) (.tmp 9)=some a9:=rfl
theorem x8:qF (some 9) (a0::a1::a2::a3::a4::a5::a6::a7::a8::a9::r) v=some (a0::a1::a2::a3::a4::a5::a6::a7::a8::v::r):=rfl
theorem yi:xZ (a0::a1::a2::a3::a4::a5::a6::a7::a8::a9::a10::r) (.tmp 10)=some a10:=rfl
theorem yq:qF (some 10) (a0::a1::a2::a3::a4::a5::a6::a7::a8::a9::a10::r) v=some (a0::a1::a2::a3::a4::a5::a6::a7::a8::a9::v::r):=rfl
theorem yl:xZ (a0::a1::a2::a3::a4::a5::a6::a7::a8::a9::a10::a11::r) (.tmp 11)=some a11:=rfl
theorem yy:qF (some 11) (a0::a1::a2::a3::a4::a5::a6::a7::a8::a9::a10::a11::r) v=some (a0::a1::a2::a3::a4::a5::a6::a7::a8::a9::a10::v::r):=rfl
theorem yC:xZ (a0::a1::a2::a3::a4::a5::a6::a7::a8::a9::a10::a11::a12::r) (.tmp 12)=some a12:=rfl
theorem yE:qF (some 12) (a0::a1::a2::a3::a4::a5::a6::a7::a8::a9::a10::a11::a12::r) v=some (a0::a1::a2::a3::a4::a5::a6::a7::a8::a9::a10::a11::v::r):=rfl
theorem yr:xZ (a0::a1::a2::a3::a4::a5::a6::a7::a8::a9::a10::a11::a12::a13::r) (.tmp 13)=some a13:=rfl
theorem yG:qF (some 13) (a0::a1::a2::a3::a4::a5::a6::a7::a8::a9::a10::a11::a12::a13::r) v=some (a0::a1::a2::a3::a4::a5::a6::a7::a8::a9::a10::a11::a12::v::r):=rfl
theorem yM:xZ (a0::a1::a2::a3::a4::a5::a6::a7::a8::a9::a10::a11::a12::a13::a14::r) (.tmp 14)=some a14:=rfl
theorem yN:qF (some 14) (a0::a1::a2::a3::a4::a5::a6::a7::a8::a9::a10::a11::a12::a13::a14::r) v=some (a0::a1::a2::a3::a4::a5::a6::a7::a8::a9::a10::a11::a12::a13::v::r):=rfl
theorem yL:xZ (a0::a1::a2::a3::a4::a5::a6::a7::a8::a9::a10::a11::a12::a13::a14::a15::r) (.tmp 15)=some a15:=rfl
theorem yO:qF (some 15) (a0::a1::a2::a3::a4::a5::a6::a7::a8::a9::a10::a11::a12::a13::a14::a15::r) v=some (a0::a1::a2::a3::a4::a5::a6::a7::a8::a9::a10::a11::a12::a13::a14::v::r):=rfl
theorem yQ:xZ (a0::a1::a2::a3::a4::a5::a6::a7::a8::a9::a10::a11::a12::a13::a14::a15::a16::r) (.tmp 16)=some a16:=rfl
theorem yT:qF (some 16) (a0::a1::a2::a3::a4::a5::a6::a7::a8::a9::a10::a11::a12::a13::a14::a15::a16::r) v=some (a0::a1::a2::a3::a4::a5::a6::a7::a8::a9::a10::a11::a12::a13::a14::a15::v::r):=rfl
theorem yY:xZ (a0::a1::a2::a3::a4::a5::a6::a7::a8::a9::a10::a11::a12::a13::a14::a15::a16::a17::r) (.tmp 17)=some a17:=rfl
theorem yZ:qF (some 17) (a0::a1::a2::a3::a4::a5::a6::a7::a8::a9::a10::a11::a12::a13::a14::a15::a16::a17::r) v=some (a0::a1::a2::a3::a4::a5::a6::a7::a8::a9::a10::a11::a12::a13::a14::a15::a16::v::r):=rfl
theorem xb:xZ (a0::a1::a2::a3::a4::a5::a6::a7::a8::a9::a10::a11::a12::a13::a14::a15::a16::a17::a18::r) (.tmp 18)=some a18:=rfl
theorem xd:qF (some 18) (a0::a1::a2::a3::a4::a5::a6::a7::a8::a9::a10::a11::a12::a13::a14::a15::a16::a17::a18::r) v=some (a0::a1::a2::a3::a4::a5::a6::a7::a8::a9::a10::a11::a12::a13::a14::a15::a16::a17::v::r):=rfl
theorem xh:xZ (a0::a1::a2::a3::a4::a5::a6::a7::a8::a9::a10::a11::a12::a13::a14::a15::a16::a17::a18::a19::r) (.tmp 19)=some a19:=rfl
theorem xi:qF (some 19) (a0::a1::a2::a3::a4::a5::a6::a7::a8::a9::a10::a11::a12::a13::a14::a15::a16::a17::a18::a19::r) v=some (a0::a1::a2::a3::a4::a5::a6::a7::a8::a9::a10::a11::a12::a13::a14::a15::a16::a17::a18::v::r):=rfl
theorem xz:xZ (a0::a1::a2::a3::a4::a5::a6::a7::a8::a9::a10::a11::a12::a13::a14::a15::a16::a17::a18::a19::a20::r) (.tmp 20)=some a20:=rfl
theorem xA:qF (some 20) (a0::a1::a2::a3::a4::a5::a6::a7::a8::a9::a10::a11::a12::a13::a14::a15::a16::a17::a18::a19::a20::r) v=some (a0::a1::a2::a3::a4::a5::a6::a7::a8::a9::a10::a11::a12::a13::a14::a15::a16::a17::a18::a19::v::r):=rfl
theorem xB:xZ (a0::a1::a2::a3::a4::a5::a6::a7::a8::a9::a10::a11::a12::a13::a14::a15::a16::a17::a18::a19::a20::a21::r) (.tmp 21)=some a21:=rfl
theorem xE:qF (some 21) (a0::a1::a2::a3::a4::a5::a6::a7::a8::a9::a10::a11::a12::a13::a14::a15::a16::a17::a18::a19::a20::a21::r) v=some (a0::a1::a2::a3::a4::a5::a6::a7::a8::a9::a10::a11::a12::a13::a14::a15::a16::a17::a18::a19::a20::v::r):=rfl
theorem xF:xZ (a0::a1::a2::a3::a4::a5::a6::a7::a8::a9::a10::a11::a12::a13::a14::a15::a16::a17::a18::a19::a20::a21::a22::r) (.tmp 22)=some a22:=rfl
theorem xI:qF (some 22) (a0::a1::a2::a3::a4::a5::a6::a7::a8::a9::a10::a11::a12::a13::a14::a15::a16::a17::a18::a19::a20::a21::a22::r) v=some (a0::a1::a2::a3::a4::a5::a6::a7::a8::a9::a10::a11::a12::a13::a14::a15::a16::a17::a18::a19::a20::a21::v::r):=rfl
theorem xu:xZ (a0::a1::a2::a3::a4::a5::a6::a7::a8::a9::a10::a11::a12::a13::a14::a15::a16::a17::a18::a19::a20::a21::a22::a23::r) (.tmp 23)=some a23:=rfl
theorem xD:qF (some 23) (a0::a1::a2::a3::a4::a5::a6::a7::a8::a9::a10::a11::a12::a13::a14::a15::a16::a17::a18::a19::a20::a21::a22::a23::r) v=some (a0::a1::a2::a3::a4::a5::a6::a7::a8::a9::a10::a11::a12::a13::a14::a15::a16::a17::a18::a19::a20::a21::a22::v::r):=rfl
theorem xN:xZ (a0::a1::a2::a3::a4::a5::a6::a7::a8::a9::a10::a11::a12::a13::a14::a15::a16::a17::a18::a19::a20::a21::a22::a23::a24::r) (.tmp 24)=some a24:=rfl
theorem xM:qF (some 24) (a0::a1::a2::a3::a4::a5::a6::a7::a8::a9::a10::a11::a12::a13::a14::a15::a16::a17::a18::a19::a20::a21::a22::a23::a24::r) v=some (a0::a1::a2::a3::a4::a5::a6::a7::a8::a9::a10::a11::a12::a13::a14::a15::a16::a17::a18::a19::a20::a21::a22::a23::v::r):=rfl
theorem x9:xZ (a0::a1::a2::a3::a4::a5::a6::a7::a8::a9::a10::a11::a12::a13::a14::a15::a16::a17::a18::a19::a20::a21::a22::a23::a24::a25::r) (.tmp 25)=some a25:=rfl
theorem wa:qF (some 25) (a0::a1::a2::a3::a4::a5::a6::a7::a8::a9::a10::a11::a12::a13::a14::a15::a16::a17::a18::a19::a20::a21::a22::a23::a24::a25::r) v=some (a0::a1::a2::a3::a4::a5::a6::a7::a8::a9::a10::a11::a12::a13::a14::a15::a16::a17::a18::a19::a20::a21::a22::a23::a24::v::r):=rfl
theorem wh:xZ (a0::a1::a2::a3::a4::a5::a6::a7::a8::a9::a10::a11::a12::a13::a14::a15::a16::a17::a18::a19::a20::a21::a22::a23::a24::a25::a26::r) (.tmp 26)=some a26:=rfl
theorem wi:qF (some 26) (a0::a1::a2::a3::a4::a5::a6::a7::a8::a9::a10::a11::a12::a13::a14::a15::a16::a17::a18::a19::a20::a21::a22::a23::a24::a25::a26::r) v=some (a0::a1::a2::a3::a4::a5::a6::a7::a8::a9::a10::a11::a12::a13::a14::a15::a16::a17::a18::a19::a20::a21::a22::a23::a24::a25::v::r):=rfl
theorem wm:xZ (a0::a1::a2::a3::a4::a5::a6::a7::a8::a9::a10::a11::a12::a13::a14::a15::a16::a17::a18::a19::a20::a21::a22::a23::a24::a25::a26::a27::r) (.tmp 27)=some a27:=rfl
theorem wj:qF (some 27) (a0::a1::a2::a3::a4::a5::a6::a7::a8::a9::a10::a11::a12::a13::a14::a15::a16::a17::a18::a19::a20::a21::a22::a23::a24::a25::a26::a27::r) v=some (a0::a1::a2::a3::a4::a5::a6::a7::a8::a9::a10::a11::a12::a13::a14::a15::a16::a17::a18::a19::a20::a21::a22::a23::a24::a25::a26::v::r):=rfl
theorem wl:xZ (a0::a1::a2::a3::a4::a5::a6::a7::a8::a9::a10::a11::a12::a13::a14::a15::a16::a17::a18::a19::a20::a21::a22::a23::a24::a25::a26::a27::a28::r) (.tmp 28)=some a28:=rfl
theorem wn:qF (some 28) (a0::a1::a2::a3::a4::a5::a6::a7::a8::a9::a10::a11::a12::a13::a14::a15::a16::a17::a18::a19::a20::a21::a22::a23::a24::a25::a26::a27::a28::r) v=some (a0::a1::a2::a3::a4::a5::a6::a7::a8::a9::a10::a11::a12::a13::a14::a15::a16::a17::a18::a19::a20::a21::a22::a23::a24::a25::a26::a27::v::r):=rfl
theorem wz:xZ (a0::a1::a2::a3::a4::a5::a6::a7::a8::a9::a10::a11::a12::a13::a14::a15::a16::a17::a18::a19::a20::a21::a22::a23::a24::a25::a26::a27::a28::a29::r) (.tmp 29)=some a29:=rfl
theorem wD:qF (some 29) (a0::a1::a2::a3::a4::a5::a6::a7::a8::a9::a10::a11::a12::a13::a14::a15::a16::a17::a18::a19::a20::a21::a22::a23::a24::a25::a26::a27::a28::a29::r) v=some (a0::a1::a2::a3::a4::a5::a6::a7::a8::a9::a10::a11::a12::a13::a14::a15::a16::a17::a18::a19::a20::a21::a22::a23::a24::a25::a26::a27::a28::v::r):=rfl
theorem wM:xZ (a0::a1::a2::a3::a4::a5::a6::a7::a8::a9::a10::a11::a12::a13::a14::a15::a16::a17::a18::a19::a20::a21::a22::a23::a24::a25::a26::a27::a28::a29::a30::r) (.tmp 30)=some a30:=rfl
theorem wC:qF (some 30) (a0::a1::a2::a3::a4::a5::a6::a7::a8::a9::a10::a11::a12::a13::a14::a15::a16::a17::a18::a19::a20::a21::a22::a23::a24::a25::a26::a27::a28::a29::a30::r) v=some (a0::a1::a2::a3::a4::a5::a6::a7::a8::a9::a10::a11::a12::a13::a14::a15::a16::a17::a18::a19::a20::a21::a22::a23::a24::a25::a26::a27::a28::a29::v::r):=rfl
theorem wL:xZ (a0::a1::a2::a3::a4::a5::a6::a7::a8::a9::a10::a11::a12::a13::a14::a15::a16::a17::a18::a19::a20::a21::a22::a23::a24::a25::a26::a27::a28::a29::a30::a31::r) (.tmp 31)=some a31:=rfl
theorem wI:qF (some 31) (a0::a1::a2::a3::a4::a5::a6::a7::a8::a9::a10::a11::a12::a13::a14::a15::a16::a17::a18::a19::a20::a21::a22::a23::a24::a25::a26::a27::a28::a29::a30::a31::r) v=some (a0::a1::a2::a3::a4::a5::a6::a7::a8::a9::a10::a11::a12::a13::a14::a15::a16::a17::a18::a19::a20::a21::a22::a23::a24::a25::a26::a27::a28::a29::a30::v::r):=rfl
theorem wy:xZ (a0::a1::a2::a3::a4::a5::a6::a7::a8::a9::a10::a11::a12::a13::a14::a15::a16::a17::a18::a19::a20::a21::a22::a23::a24::a25::a26::a27::a28::a29::a30::a31::a32::r) (.tmp 32)=some a32:=rfl
theorem wH:qF (some 32) (a0::a1::a2::a3::a4::a5::a6::a7::a8::a9::a10::a11::a12::a13::a14::a15::a16::a17::a18::a19::a20::a21::a22::a23::a24::a25::a26::a27::a28::a29::a30::a31::a32::r) v=some (a0::a1::a2::a3::a4::a5::a6::a7::a8::a9::a10::a11::a12::a13::a14::a15::a16::a17::a18::a19::a20::a21::a22::a23::a24::a25::a26::a27::a28::a29::a30::a31::v::r):=rfl
theorem wT:xZ (a0::a1::a2::a3::a4::a5::a6::a7::a8::a9::a10::a11::a12::a13::a14::a15::a16::a17::a18::a19::a20::a21::a22::a23::a24::a25::a26::a27::a28::a29::a30::a31::a32::a33::r) (.tmp 33)=some a33:=rfl
theorem wP:qF (some 33) (a0::a1::a2::a3::a4::a5::a6::a7::a8::a9::a10::a11::a12::a13::a14::a15::a16::a17::a18::a19::a20::a21::a22::a23::a24::a25::a26::a27::a28::a29::a30::a31::a32::a33::r) v=some (a0::a1::a2::a3::a4::a5::a6::a7::a8::a9::a10::a11::a12::a13::a14::a15::a16::a17::a18::a19::a20::a21::a22::a23::a24::a25::a26::a27::a28::a29::a30::a31::a32::v::r):=rfl
theorem wK:xZ (a0::a1::a2::a3::a4::a5::a6::a7::a8::a9::a10::a11::a12::a13::a14::a15::a16::a17::a18::a19::a20::a21::a22::a23::a24::a25::a26::a27::a28::a29::a30::a31::a32::a33::a34::r) (.tmp 34)=some a34:=rfl
theorem wO:qF (some 34) (a0::a1::a2::a3::a4::a5::a6::a7::a8::a9::a10::a11::a12::a13::a14::a15::a16::a17::a18::a19::a20::a21::a22::a23::a24::a25::a26::a27::a28::a29::a30::a31::a32::a33::a34::r) v=some (a0::a1::a2::a3::a4::a5::a6::a7::a8::a9::a10::a11::a12::a13::a14::a15::a16::a17::a18::a19::a20::a21::a22::a23::a24::a25::a26::a27::a28::a29::a30::a31::a32::a33::v::r):=rfl
theorem wS:xZ (a0::a1::a2::a3::a4::a5::a6::a7::a8::a9::a10::a11::a12::a13::a14::a15::a16::a17::a18::a19::a20::a21::a22::a23::a24::a25::a26::a27::a28::a29::a30::a31::a32::a33::a34::a35::r) (.tmp 35)=some a35:=rfl
theorem wN:qF (some 35) (a0::a1::a2::a3::a4::a5::a6::a7::a8::a9::a10::a11::a12::a13::a14::a15::a16::a17::a18::a19::a20::a21::a22::a23::a24::a25::a26::a27::a28::a29::a30::a31::a32::a33::a34::a35::r) v=some (a0::a1::a2::a3::a4::a5::a6::a7::a8::a9::a10::a11::a12::a13::a14::a15::a16::a17::a18::a19::a20::a21::a22::a23::a24::a25::a26::a27::a28::a29::a30::a31::a32::a33::a34::v::r):=rfl
theorem wu:xZ (a0::a1::a2::a3::a4::a5::a6::a7::a8::a9::a10::a11::a12::a13::a14::a15::a16::a17::a18::a19::a20::a21::a22::a23::a24::a25::a26::a27::a28::a29::a30::a31::a32::a33::a34::a35::a36::r) (.tmp 36)=some a36:=rfl
theorem wG:qF (some 36) (a0::a1::a2::a3::a4::a5::a6::a7::a8::a9::a10::a11::a12::a13::a14::a15::a16::a17::a18::a19::a20::a21::a22::a23::a24::a25::a26::a27::a28::a29::a30::a31::a32::a33::a34::a35::a36::r) v=some (a0::a1::a2::a3::a4::a5::a6::a7::a8::a9::a10::a11::a12::a13::a14::a15::a16::a17::a18::a19::a20::a21::a22::a23::a24::a25::a26::a27::a28::a29::a30::a31::a32::a33::a34::a35::v::r):=rfl
theorem wJ:xZ (a0::a1::a2::a3::a4::a5::a6::a7::a8::a9::a10::a11::a12::a13::a14::a15::a16::a17::a18::a19::a20::a21::a22::a23::a24::a25::a26::a27::a28::a29::a30::a31::a32::a33::a34::a35::a36::a37::r) (.tmp 37)=some a37:=rfl
theorem wF:qF (some 37) (a0::a1::a2::a3::a4::a5::a6::a7::a8::a9::a10::a11::a12::a13::a14::a15::a16::a17::a18::a19::a20::a21::a22::a23::a24::a25::a26::a27::a28::a29::a30::a31::a32::a33::a34::a35::a36::a37::r) v=some (a0::a1::a2::a3::a4::a5::a6::a7::a8::a9::a10::a11::a12::a13::a14::a15::a16::a17::a18::a19::a20::a21::a22::a23::a24::a25::a26::a27::a28::a29::a30::a31::a32::a33::a34::a35::a36::v::r):=rfl
theorem w6:xZ (a0::a1::a2::a3::a4::a5::a6::a7::a8::a9::a10::a11::a12::a13::a14::a15::a16::a17::a18::a19::a20::a21::a22::a23::a24::a25::a26::a27::a28::a29::a30::a31::a32::a33::a34::a35::a36::a37::a38::r) (.tmp 38)=some a38:=rfl
theorem wZ:qF (some 38) (a0::a1::a2::a3::a4::a5::a6::a7::a8::a9::a10::a11::a12::a13::a14::a15::a16::a17::a18::a19::a20::a21::a22::a23::a24::a25::a26::a27::a28::a29::a30::a31::a32::a33::a34::a35::a36::a37::a38::r) v=some (a0::a1::a2::a3::a4::a5::a6::a7::a8::a9::a10::a11::a12::a13::a14::a15::a16::a17::a18::a19::a20::a21::a22::a23::a24::a25::a26::a27::a28::a29::a30::a31::a32::a33::a34::a35::a36::a37::v::r):=rfl
theorem w5:xZ (a0::a1::a2::a3::a4::a5::a6::a7::a8::a9::a10::a11::a12::a13::a14::a15::a16::a17::a18::a19::a20::a21::a22::a23::a24::a25::a26::a27::a28::a29::a30::a31::a32::a33::a34::a35::a36::a37::a38::a39::r) (.tmp 39)=some a39:=rfl
theorem wY:qF (some 39) (a0::a1::a2::a3::a4::a5::a6::a7::a8::a9::a10::a11::a12::a13::a14::a15::a16::a17::a18::a19::a20::a21::a22::a23::a24::a25::a26::a27::a28::a29::a30::a31::a32::a33::a34::a35::a36::a37::a38::a39::r) v=some (a0::a1::a2::a3::a4::a5::a6::a7::a8::a9::a10::a11::a12::a13::a14::a15::a16::a17::a18::a19::a20::a21::a22::a23::a24::a25::a26::a27::a28::a29::a30::a31::a32::a33::a34::a35::a36::a37::a38::v::r):=rfl
theorem gk (h:xZ r (.tmp t)=some v):xZ (a0::a1::a2::a3::a4::a5::a6::a7::a8::a9::a10::a11::a12::a13::a14::a15::a16::a17::a18::a19::a20::a21::a22::a23::a24::a25::a26::a27::a28::a29::a30::a31::a32::a33::a34::a35::a36::a37::a38::a39::r) (.tmp (t+40))=some v:=h
theorem sk (h:qF (some t) r v=some q):qF (some (t+40)) (a0::a1::a2::a3::a4::a5::a6::a7::a8::a9::a10::a11::a12::a13::a14::a15::a16::a17::a18::a19::a20::a21::a22::a23::a24::a25::a26::a27::a28::a29::a30::a31::a32::a33::a34::a35::a36::a37::a38::a39::r) v=some (a0::a1::a2::a3::a4::a5::a6::a7::a8::a9::a10::a11::a12::a13::a14::a15::a16::a17::a18::a19::a20::a21::a22::a23::a24::a25::a26::a27::a28::a29::a30::a31::a32::a33::a34::a35::a36::a37::a38::a39::q):=congrArg (fun x=>some (a0::a1::a2::a3::a4::a5::a6::a7::a8::a9::a10::a11::a12::a13::a14::a15::a16::a17::a18::a19::a20::a21::a22::a23::a24::a25::a26::a27::a28::a29::a30::a31::a32::a33::a34::a35::a36::a37::a38::a39::x)) (Option.some.inj h)
end
def fvOp:Nat→AV
  | 1=>.fn (.func 100) [] []
  | 2=>.fn (.func 101) [] []
  | 3=>.fn (.func 102) [] []
  | _=>.nilf
def fnOp:Nat→FuncId
  | 1=>100
  | 2=>101
  | 3=>102
  | _=>0
theorem fvlOp (c n m:Nat):(fvOp c).low n m=true:=by unfold fvOp;split <;> rfl
theorem fvtOp (P:Program) (t:TypeId) (c:Nat):tyfix P t (fvOp c)=fvOp c:=by unfold fvOp;split <;> rfl
def GRule.row (x:GRule):List AV:=[.int .u8 x.rep,.sl 1 (x.path.map zK),.int .u8 x.kinds,.bool x.allow,.bool x.read]
def GActor.row (x:GActor):List AV:=[.int .u8 x.rep,.int .u32 x.inc]
def GDot.row (x:GDot):List AV:=[.int .u8 x.actor.rep,.int .u32 x.actor.inc,.int .u64 x.seq]
def GOp.row (x:GOp):List AV:=[.int .u8 x.kind,.sl 1 (x.path.map zK),.int .i64 x.n,.str x.text,.sl 3 (x.dots.map GDot.row)]
def GItem.row (x:GItem):List AV:=[.int .u64 x.time,.int .u8 x.dot.actor.rep,.int .u32 x.dot.actor.inc,.int .u64 x.dot.seq,.str x.text]
def GLeaf.row (x:GLeaf):List AV:=[.int .u8 x.typ,.int .i64 x.n,.int .u64 x.time,.int .u8 x.dot.actor.rep,.int .u32 x.dot.actor.inc,.int .u64 x.dot.seq,.str x.text,.sl 5 (x.items.map GItem.row),.sl 3 (x.tombs.map GDot.row)]
mutual
def GNode.row:GNode→List AV
  | ⟨name,leaves,subs⟩=>[.str name,.sl 9 (leaves.map GLeaf.row),.sl 3 (GNode.rows subs)]
def GNode.rows:List GNode→List (List AV)
  | []=>[]
  | x::r=>x.row::GNode.rows r
end
theorem GNode.rows_eq (l:List GNode):GNode.rows l=l.map GNode.row:=by
  induction l with
  | nil=>rfl
  | cons x r ih=>simp only [GNode.rows,List.map_cons,ih]
theorem GNode.row_eq (x:GNode):x.row=[.str x.name,.sl 9 (x.leaves.map GLeaf.row),.sl 3 (x.subs.map GNode.row)]:=by
  cases x;simp only [GNode.row,GNode.rows_eq]
def GOpKind.row (x:GOpKind):List AV:=[.int .u8 x.leaf,fvOp x.may]
def GRow.row (x:GRow):List AV:=[.sl 1 (x.path.map zK),.int .u8 x.leaf.typ,.int .i64 x.leaf.n,.int .u64 x.leaf.time,.int .u8 x.leaf.dot.actor.rep,.int .u32 x.leaf.dot.actor.inc,.int .u64 x.leaf.dot.seq,.str x.leaf.text,.sl 5 (x.leaf.items.map GItem.row),.sl 3 (x.leaf.tombs.map GDot.row)]
def GEdit.row (x:GEdit):List AV:=[.sl 1 (x.path.map zK),.int .u8 x.typ,.bool x.had,.bool x.has,.int .u8 x.was.typ,.int .i64 x.was.n,.int .u64 x.was.time,.int .u8 x.was.dot.actor.rep,.int .u32 x.was.dot.actor.inc,.int .u64 x.was.dot.seq,.str x.was.text,.sl 5 (x.was.items.map GItem.row),.sl 3 (x.was.tombs.map GDot.row),.int .u8 x.is.typ,.int .i64 x.is.n,.int .u64 x.is.time,.int .u8 x.is.dot.actor.rep,.int .u32 x.is.dot.actor.inc,.int .u64 x.is.dot.seq,.str x.is.text,.sl 5 (x.is.items.map GItem.row),.sl 3 (x.is.tombs.map GDot.row)]
def GVarveref07Row.row (x:GVarveref07Row):List AV:=[.sl 1 (x.path.map zK),.int .u8 x.l.typ,.int .i64 x.l.n,.int .u64 x.l.time,.int .u8 x.l.dot.actor.rep,.int .u32 x.l.dot.actor.inc,.int .u64 x.l.dot.seq,.str x.l.text,.sl 5 (x.l.items.map GItem.row),.sl 3 (x.l.tombs.map GDot.row)]
theorem el22:El Tryz.prog 22 39 5:=mkEl Tryz.underlying22 (by kernel_rfl)
theorem fo39x1:Fo Tryz.prog 39 1 1 23 1:=qA (by kernel_rfl) (by kernel_rfl)
theorem ty23:Ty Tryz.prog 23 (.slice 9) 1:=mkTy Tryz.underlying23 (by kernel_rfl)
theorem xc:El Tryz.prog 23 9 1:=mkEl Tryz.underlying23 (by kernel_rfl)
theorem vt:Ty Tryz.prog 9 .string 1:=mkTy Tryz.underlying9 (by kernel_rfl)
theorem fo26x4:Fo Tryz.prog 26 4 4 24 1:=qA (by kernel_rfl) (by kernel_rfl)
theorem qL:Ty Tryz.prog 24 (.slice 55) 1:=mkTy Tryz.underlying24 (by kernel_rfl)
theorem qf:El Tryz.prog 24 55 3:=mkEl Tryz.underlying24 (by kernel_rfl)
theorem fo26x1:Fo Tryz.prog 26 1 1 23 1:=qA (by kernel_rfl) (by kernel_rfl)
theorem fo26x3:Fo Tryz.prog 26 3 3 9 1:=qA (by kernel_rfl) (by kernel_rfl)
theorem xa:El Tryz.prog 28 74 3:=mkEl Tryz.underlying28 (by kernel_rfl)
theorem mixed:Tryz.prog.follows .mixedOrders=true:=by kernel_rfl
theorem q9:Fo Tryz.prog 74 0 0 9 1:=qA (by kernel_rfl) (by kernel_rfl)
theorem q8:Fo Tryz.prog 74 2 2 28 1:=qA (by kernel_rfl) (by kernel_rfl)
theorem ty28:Ty Tryz.prog 28 (.slice 74) 1:=mkTy Tryz.underlying28 (by kernel_rfl)
theorem xX:Fo Tryz.prog 74 1 1 72 1:=qA (by kernel_rfl) (by kernel_rfl)
theorem qk:Ty Tryz.prog 72 (.slice 58) 1:=mkTy Tryz.underlying72 (by kernel_rfl)
theorem wr:El Tryz.prog 72 58 9:=mkEl Tryz.underlying72 (by kernel_rfl)
theorem ty58:∃ d,Ty Tryz.prog 58 d 9∧xC d=true:=⟨_,mkTy Tryz.underlying58 (by kernel_rfl),by kernel_rfl⟩
theorem ze58:vT Tryz.prog 58=some [.int .u8 0,.int .i64 0,.int .u64 0,.int .u8 0,.int .u32 0,.int .u64 0,.str [],.osl none 5 [],.osl none 3 []]:=by kernel_rfl
theorem fo58x4:Fo Tryz.prog 58 4 6 9 1:=qA (by kernel_rfl) (by kernel_rfl)
theorem vz:Fo Tryz.prog 58 6 8 24 1:=qA (by kernel_rfl) (by kernel_rfl)
theorem w7:Fo Tryz.prog 58 5 7 56 1:=qA (by kernel_rfl) (by kernel_rfl)
theorem ty56:Ty Tryz.prog 56 (.slice 77) 1:=mkTy Tryz.underlying56 (by kernel_rfl)
theorem el56:El Tryz.prog 56 77 5:=mkEl Tryz.underlying56 (by kernel_rfl)
theorem fo77x2:Fo Tryz.prog 77 2 4 9 1:=qA (by kernel_rfl) (by kernel_rfl)
theorem ty4:Ty Tryz.prog 4 .bool 1:=mkTy Tryz.underlying4 (by kernel_rfl)
theorem qr:Fo Tryz.prog 39 0 0 5 1:=qA (by kernel_rfl) (by kernel_rfl)
theorem vb:Ty Tryz.prog 5 (.int .u8) 1:=mkTy Tryz.underlying5 (by kernel_rfl)
theorem fo39x2:Fo Tryz.prog 39 2 2 5 1:=qA (by kernel_rfl) (by kernel_rfl)
theorem ty39:∃ d,Ty Tryz.prog 39 d 5∧xC d=true:=⟨_,mkTy Tryz.underlying39 (by kernel_rfl),by kernel_rfl⟩
theorem fo26x2:Fo Tryz.prog 26 2 2 2 1:=qA (by kernel_rfl) (by kernel_rfl)
theorem ty2:Ty Tryz.prog 2 (.int .i64) 1:=mkTy Tryz.underlying2 (by kernel_rfl)
theorem el43:El Tryz.prog 43 3 1:=mkEl Tryz.underlying43 (by kernel_rfl)
theorem ty3:Ty Tryz.prog 3 (.int .i64) 1:=mkTy Tryz.underlying3 (by kernel_rfl)
theorem fo53x0:Fo Tryz.prog 53 0 0 5 1:=qA (by kernel_rfl) (by kernel_rfl)
theorem fo53x1:Fo Tryz.prog 53 1 1 51 1:=qA (by kernel_rfl) (by kernel_rfl)
theorem ty51:Ty Tryz.prog 51 (.int .u32) 1:=mkTy Tryz.underlying51 (by kernel_rfl)
theorem ze3:vT Tryz.prog 3=some [.int .i64 0]:=by kernel_rfl
theorem fo55x0:Fo Tryz.prog 55 0 0 53 2:=qA (by kernel_rfl) (by kernel_rfl)
theorem ty53:∃ d,Ty Tryz.prog 53 d 2∧xC d=true:=⟨_,mkTy Tryz.underlying53 (by kernel_rfl),by kernel_rfl⟩
theorem fo55x1:Fo Tryz.prog 55 1 2 50 1:=qA (by kernel_rfl) (by kernel_rfl)
theorem qK:Ty Tryz.prog 50 (.int .u64) 1:=mkTy Tryz.underlying50 (by kernel_rfl)
theorem ty55:∃ d,Ty Tryz.prog 55 d 3∧xC d=true:=⟨_,mkTy Tryz.underlying55 (by kernel_rfl),by kernel_rfl⟩
theorem ze55:vT Tryz.prog 55=some [.int .u8 0,.int .u32 0,.int .u64 0]:=by kernel_rfl
theorem ze99:vT Tryz.prog 99=some [.int .u8 0,.nilf]:=by kernel_rfl
noncomputable def sf99:Array Field:=match Tryz.prog.underlying 99 with | some (.struct fs)=>fs | _=>#[]
theorem su99:Tryz.prog.underlying 99=some (.struct sf99):=by kernel_rfl
theorem pl99:placesL Tryz.prog sf99=some [(0,1),(1,1)]:=by kernel_rfl
theorem ty132:Ty Tryz.prog 132 (.array 6 99) 12:=mkTy Tryz.underlying132 (by kernel_rfl)
theorem ze132:vT Tryz.prog 132=some [.int .u8 0,.nilf,.int .u8 0,.nilf,.int .u8 0,.nilf,.int .u8 0,.nilf,.int .u8 0,.nilf,.int .u8 0,.nilf]:=by kernel_rfl
theorem ty99:∃ d,Ty Tryz.prog 99 d 2∧xC d=true:=⟨_,mkTy Tryz.underlying99 (by kernel_rfl),by kernel_rfl⟩
theorem fo26x0:Fo Tryz.prog 26 0 0 5 1:=qA (by kernel_rfl) (by kernel_rfl)
theorem fo99x1:Fo Tryz.prog 99 1 1 65 1:=qA (by kernel_rfl) (by kernel_rfl)
theorem ty65:Ty Tryz.prog 65 (.func #[26] #[4] false) 1:=mkTy Tryz.underlying65 (by kernel_rfl)
theorem ty26:∃ d,Ty Tryz.prog 26 d 5∧xC d=true:=⟨_,mkTy Tryz.underlying26 (by kernel_rfl),by kernel_rfl⟩
theorem ze39:vT Tryz.prog 39=some [.int .u8 0,.osl none 1 [],.int .u8 0,.bool false,.bool false]:=by kernel_rfl
theorem fo39x3:Fo Tryz.prog 39 3 3 4 1:=qA (by kernel_rfl) (by kernel_rfl)
theorem ze9:vT Tryz.prog 9=some [.str []]:=by kernel_rfl
noncomputable def sf39:Array Field:=match Tryz.prog.underlying 39 with | some (.struct fs)=>fs | _=>#[]
theorem su39:Tryz.prog.underlying 39=some (.struct sf39):=by kernel_rfl
theorem pl39:placesL Tryz.prog sf39=some [(0,1),(1,1),(2,1),(3,1),(4,1)]:=by kernel_rfl
noncomputable def sf26:Array Field:=match Tryz.prog.underlying 26 with | some (.struct fs)=>fs | _=>#[]
theorem su26:Tryz.prog.underlying 26=some (.struct sf26):=by kernel_rfl
theorem ze26:vT Tryz.prog 26=some [.int .u8 0,.osl none 1 [],.int .i64 0,.str [],.osl none 3 []]:=by kernel_rfl
theorem pl26:placesL Tryz.prog sf26=some [(0,1),(1,1),(2,1),(3,1),(4,1)]:=by kernel_rfl
theorem fo39x4:Fo Tryz.prog 39 4 4 4 1:=qA (by kernel_rfl) (by kernel_rfl)
theorem ty77:∃ d,Ty Tryz.prog 77 d 5∧xC d=true:=⟨_,mkTy Tryz.underlying77 (by kernel_rfl),by kernel_rfl⟩
theorem ze77:vT Tryz.prog 77=some [.int .u64 0,.int .u8 0,.int .u32 0,.int .u64 0,.str []]:=by kernel_rfl
theorem fo77x1:Fo Tryz.prog 77 1 1 55 3:=qA (by kernel_rfl) (by kernel_rfl)
noncomputable def sf55:Array Field:=match Tryz.prog.underlying 55 with | some (.struct fs)=>fs | _=>#[]
theorem su55:Tryz.prog.underlying 55=some (.struct sf55):=by kernel_rfl
theorem pk55:PK Tryz.prog 55 [.i,.i,.i]:=mkPK (by kernel_rfl) (by kernel_rfl) (by kernel_rfl)
theorem kq55:KQ Tryz.prog 55 (fun x=>AV.agg (GDot.row x)) GDot.eqb:=.struct su55 pk55 (fun _ _=>rfl) (fun a=>by simp [GDot.eqb])
theorem az3:aZero Tryz.prog 3=some ((AV.int .i64) (0:Int)):=by kernel_rfl
theorem fo77x0:Fo Tryz.prog 77 0 0 50 1:=qA (by kernel_rfl) (by kernel_rfl)
theorem pk77:PK Tryz.prog 77 [.i,.i,.i,.i,.s]:=mkPK (by kernel_rfl) (by kernel_rfl) (by kernel_rfl)
theorem wU:Fo Tryz.prog 58 0 0 5 1:=qA (by kernel_rfl) (by kernel_rfl)
theorem fo58x1:Fo Tryz.prog 58 1 1 2 1:=qA (by kernel_rfl) (by kernel_rfl)
theorem fo58x2:Fo Tryz.prog 58 2 2 50 1:=qA (by kernel_rfl) (by kernel_rfl)
theorem fo58x3:Fo Tryz.prog 58 3 3 55 3:=qA (by kernel_rfl) (by kernel_rfl)
noncomputable def sf58:Array Field:=match Tryz.prog.underlying 58 with | some (.struct fs)=>fs | _=>#[]
theorem su58:Tryz.prog.underlying 58=some (.struct sf58):=by kernel_rfl
theorem pl58:placesL Tryz.prog sf58=some [(0,1),(1,1),(2,1),(3,3),(6,1),(7,1),(8,1)]:=by kernel_rfl
theorem pl55:placesL Tryz.prog sf55=some [(0,2),(2,1)]:=by kernel_rfl
theorem ty74:∃ d,Ty Tryz.prog 74 d 3∧xC d=true:=⟨_,mkTy Tryz.underlying74 (by kernel_rfl),by kernel_rfl⟩
theorem ze74:vT Tryz.prog 74=some [.str [],.osl none 9 [],.osl none 3 []]:=by kernel_rfl
theorem ty106:Ty Tryz.prog 106 (.func #[60] #[4] false) 1:=mkTy Tryz.underlying106 (by kernel_rfl)
noncomputable def sf60:Array Field:=match Tryz.prog.underlying 60 with | some (.struct fs)=>fs | _=>#[]
theorem su60:Tryz.prog.underlying 60=some (.struct sf60):=by kernel_rfl
theorem ze60:vT Tryz.prog 60=some [.osl none 1 [],.int .u8 0,.int .i64 0,.int .u64 0,.int .u8 0,.int .u32 0,.int .u64 0,.str [],.osl none 5 [],.osl none 3 []]:=by kernel_rfl
theorem pl60:placesL Tryz.prog sf60=some [(0,1),(1,9)]:=by kernel_rfl
theorem ty60:∃ d,Ty Tryz.prog 60 d 10∧xC d=true:=⟨_,mkTy Tryz.underlying60 (by kernel_rfl),by kernel_rfl⟩
theorem el48:El Tryz.prog 48 60 10:=mkEl Tryz.underlying48 (by kernel_rfl)
theorem ty48:Ty Tryz.prog 48 (.slice 60) 1:=mkTy Tryz.underlying48 (by kernel_rfl)
theorem fo62x0:Fo Tryz.prog 62 0 0 23 1:=qA (by kernel_rfl) (by kernel_rfl)
theorem fo62x1:Fo Tryz.prog 62 1 1 5 1:=qA (by kernel_rfl) (by kernel_rfl)
theorem el47:El Tryz.prog 47 62 22:=mkEl Tryz.underlying47 (by kernel_rfl)
theorem ty62:∃ d,Ty Tryz.prog 62 d 22∧xC d=true:=⟨_,mkTy Tryz.underlying62 (by kernel_rfl),by kernel_rfl⟩
theorem ze62:vT Tryz.prog 62=some [.osl none 1 [],.int .u8 0,.bool false,.bool false,.int .u8 0,.int .i64 0,.int .u64 0,.int .u8 0,.int .u32 0,.int .u64 0,.str [],.osl none 5 [],.osl none 3 [],.int .u8 0,.int .i64 0,.int .u64 0,.int .u8 0,.int .u32 0,.int .u64 0,.str [],.osl none 5 [],.osl none 3 []]:=by kernel_rfl
theorem fo62x2:Fo Tryz.prog 62 2 2 4 1:=qA (by kernel_rfl) (by kernel_rfl)
theorem fo62x3:Fo Tryz.prog 62 3 3 4 1:=qA (by kernel_rfl) (by kernel_rfl)
theorem fo62x4:Fo Tryz.prog 62 4 4 58 9:=qA (by kernel_rfl) (by kernel_rfl)
theorem fo62x5:Fo Tryz.prog 62 5 13 58 9:=qA (by kernel_rfl) (by kernel_rfl)
noncomputable def sf74:Array Field:=match Tryz.prog.underlying 74 with | some (.struct fs)=>fs | _=>#[]
theorem su74:Tryz.prog.underlying 74=some (.struct sf74):=by kernel_rfl
theorem pl74:placesL Tryz.prog sf74=some [(0,1),(1,1),(2,1)]:=by kernel_rfl
theorem ty141:Ty Tryz.prog 141 (.int .u64) 1:=mkTy Tryz.underlying141 (by kernel_rfl)
theorem fo60x0:Fo Tryz.prog 60 0 0 23 1:=qA (by kernel_rfl) (by kernel_rfl)
theorem fo60x1:Fo Tryz.prog 60 1 1 58 9:=qA (by kernel_rfl) (by kernel_rfl)
noncomputable def sf62:Array Field:=match Tryz.prog.underlying 62 with | some (.struct fs)=>fs | _=>#[]
theorem su62:Tryz.prog.underlying 62=some (.struct sf62):=by kernel_rfl
theorem pl62:placesL Tryz.prog sf62=some [(0,1),(1,1),(2,1),(3,1),(4,9),(13,9)]:=by kernel_rfl
theorem el88:El Tryz.prog 88 91 10:=mkEl Tryz.underlying88 (by kernel_rfl)
noncomputable def sf91:Array Field:=match Tryz.prog.underlying 91 with | some (.struct fs)=>fs | _=>#[]
theorem su91:Tryz.prog.underlying 91=some (.struct sf91):=by kernel_rfl
theorem ze91:vT Tryz.prog 91=some [.osl none 1 [],.int .u8 0,.int .i64 0,.int .u64 0,.int .u8 0,.int .u32 0,.int .u64 0,.str [],.osl none 5 [],.osl none 3 []]:=by kernel_rfl
theorem pl91:placesL Tryz.prog sf91=some [(0,1),(1,9)]:=by kernel_rfl
theorem fo91x0:Fo Tryz.prog 91 0 0 23 1:=qA (by kernel_rfl) (by kernel_rfl)
theorem fo91x1:Fo Tryz.prog 91 1 1 58 9:=qA (by kernel_rfl) (by kernel_rfl)
/-! varve/varveref42.Great -/
theorem ok20 {l0:(List GRule)} {res:Bool} {h:AH}  (hF:ref42Great l0=some res):Spec Tryz.prog 20 [.sl 5 (l0.map GRule.row)] h (fun rr hh=>rr=.bool res∧hh=h):=by
 unfold ref42Great at hF
 refine zt Tryz.func20 rfl (by kernel_rfl) (env:=[.sl 5 (l0.map GRule.row),za,za,za,za,za,za,za,za,za,za,za,za,za,za,za,za,za,za,za,za,za,za,za,za,za,za,za,za,za,za,za,za,za,za,za,za,za,za,za,za]) (by rfl) ?_
 refine zk (zd ?_)
 refine zc rfl (zg rfl rfl (zb rfl)) yH ?_
 refine zf (zi (zk (zk (zd ?_))))
 refine zc rfl (zg rfl rfl (zb rfl)) xS ?_
 refine zf (zi (zO ?_))
 refine ym (fun (n1:Nat) (s1:Unit)=>yB [1,2,4,5,6,7,8,9,10,11,12,13,14,15,16,17,18,19,20,21,22,23,24,25,26,27,28,29,30,31,32,33,34,35,36,37,38,39,40] [(3,.int .i64 (n1:Int))]) (fun s1=>h.ext [] []) hF (fun _ _=>by simp only [yB,qw,List.set_cons_succ,List.set_cons_zero];try rfl) (wk.le (by exact (.eq (.drop (.drop (.cons (leV.of_eq rfl) (.d16 (.d16 (.d4 (.drop leL.nil)))))))))) ?_
 intro n1 s1 hi1 hF
 refine zk (zk (zd ?_))
 refine zc rfl (ze rfl yX (zb rfl)) xw ?_
 refine zc rfl (ze rfl yg (zb rfl)) xp ?_
 refine z7 rfl (zQ rfl rfl rfl rfl el22 yS z0) xK fun hn26=>?_
 replace hn26:=xg hn26
 refine zc rfl (zu rfl yP xn rfl) xH ?_
 refine zf (zi ?_)
 refine yJ yV hF (fun x1 o1 hl1 hx1 hF hK1=>?_) (fun hF=>?_)
 ·refine zI (zi (zk (zO (zk (zk (zd ?_))))))
  refine zc rfl (ze rfl yg (zb rfl)) yy ?_
  refine zc rfl (ze rfl yX (zb rfl)) yE ?_
  refine zc rfl (yd rfl el22 yl yC wd (yA hx1)) yG ?_
  refine zc rfl (zj rfl fo39x1 yr rfl) yN ?_
  refine zc rfl (zY rfl ty23 yM (zr rfl) (zb rfl)) yO ?_
  refine z7 rfl (zQ rfl rfl rfl rfl xc yL z0) yT fun hn27=>?_
  replace hn27:=xg hn27
  refine zc rfl (zu rfl yQ rfl rfl) yZ ?_
  refine zf (zi ?_)
  refine zH yY hF (fun hc28 hF=>?_) (fun hc28 hF=>?_)
  ·refine zk (zd ?_)
   refine zc rfl (zg rfl rfl (zb rfl)) yH ?_
   refine zf (zi (zJ (zA ?_)))
   refine zF ?_
   refine zA ?_
   refine yf ?_
   obtain rfl:=Option.some.inj hF
   replace hF:=hK1
   refine zF ?_
   refine zA ?_
   obtain rfl:=Option.some.inj hF
   refine zB rfl (zC yz zD) (zz (leV.refl _) rfl ?_)
   exact ⟨rfl,rfl⟩
  ·refine zI (zi (zk (zd ?_)))
   refine zc rfl (zg rfl rfl (zb rfl)) yD ?_
   refine zf (zi (zO ?_))
   refine ym (fun (n2:Nat) (s2:Unit)=>yB [1,2,5,6,7,8,9,10,11,12,13,14,15,16,17,18,19,20,21,22,23,24,25,26,27,28,29,30,31,32,33,34,35,36,37,38,39,40] [(4,.int .i64 (n2:Int))]) (fun s2=>h.ext [] []) hF (fun _ _=>by simp only [yB,qw,List.set_cons_succ,List.set_cons_zero];try rfl) (wk.le (by exact (.eq (.drop (.drop (.eq (.cons (leV.of_eq rfl) (.d16 (.d16 (.d4 leL.nil)))))))))) ?_
   intro n2 s2 hi2 hF
   refine zk (zk (zd ?_))
   refine zc rfl (ze rfl yv (zb rfl)) xd ?_
   refine zc rfl (ze rfl yg (zb rfl)) xi ?_
   refine zc rfl (ze rfl yX (zb rfl)) xA ?_
   refine zc rfl (yd rfl el22 xh xz wd (yA hx1)) xE ?_
   refine zc rfl (zj rfl fo39x1 xB rfl) xI ?_
   refine zc rfl (zY rfl ty23 xF (zr rfl) (zb rfl)) xD ?_
   refine z7 rfl (zQ rfl rfl rfl rfl xc xu z0) xM fun hn36=>?_
   replace hn36:=xg hn36
   refine zc rfl (zu rfl xb xN rfl) wa ?_
   refine zf (zi ?_)
   refine yJ x9 hF (fun x2 o2 hl2 hx2 hF hK2=>?_) (fun hF=>?_)
   ·refine zI (zi (zk (zO (zk (zd ?_)))))
    refine zc rfl (ze rfl yg (zb rfl)) wn ?_
    refine zc rfl (ze rfl yX (zb rfl)) wD ?_
    refine zc rfl (yd rfl el22 wl wz wd (yA hx1)) wC ?_
    refine zc rfl (zj rfl fo39x1 wM rfl) wI ?_
    refine zc rfl (zY rfl ty23 wL (zr rfl) (zb rfl)) wH ?_
    refine zc rfl (ze rfl yv (zb rfl)) wP ?_
    refine zc rfl (yd rfl xc wy wT wd (yA hx2)) wO ?_
    refine zc rfl (zY rfl vt wK (zr rfl) (zb rfl)) wN ?_
    refine z7 rfl (vq rfl rfl rfl rfl vt wS) wG fun hn37=>?_
    replace hn37:=xg hn37
    refine zc rfl (zu rfl wu rfl rfl) wF ?_
    refine zf (zi ?_)
    refine zH wJ hF (fun hc38 hF=>?_) (fun hc38 hF=>?_)
    ·refine zk (zd ?_)
     refine zc rfl (zg rfl rfl (zb rfl)) yH ?_
     refine zf (zi (zJ ?_))
     refine zF ?_
     refine zA ?_
     refine yf ?_
     obtain rfl:=Option.some.inj hF
     replace hF:=hK2
     refine zF ?_
     refine zF ?_
     refine zA ?_
     refine yf ?_
     obtain rfl:=Option.some.inj hF
     replace hF:=hK1
     refine zF ?_
     refine zA ?_
     obtain rfl:=Option.some.inj hF
     refine zB rfl (zC yz zD) (zz (leV.refl _) rfl ?_)
     exact ⟨rfl,rfl⟩
    ·refine zI (yb (zi (zd ?_)))
     refine zc rfl (ze rfl yv (zb rfl)) wi ?_
     refine zc rfl (zu rfl wh rfl rfl) wj ?_
     refine zc rfl (zg rfl wm (zb rfl)) yD ?_
     refine zf (yu ?_)
     obtain rfl:=Option.some.inj hF
     exact ⟨(),hl2,hK2,wk.le (by exact (.eq (.drop (.drop (.eq (.cons (leV.of_eq (wx (by omega) (by omega))) (.d16 (.d16 (.d4 leL.nil)))))))))⟩
   ·refine yF ?_
    refine zX ?_
    refine zU ?_
    refine zV ?_
    refine yb (zi (zd ?_))
    refine zc rfl (ze rfl yX (zb rfl)) x8 ?_
    refine zc rfl (zu rfl xl rfl rfl) yq ?_
    refine zc rfl (zg rfl yi (zb rfl)) xS ?_
    refine zf (yu ?_)
    obtain rfl:=Option.some.inj hF
    exact ⟨(),hl1,hK1,wk.le (by exact (.eq (.drop (.drop (.cons (leV.of_eq (wx (by omega) (by omega))) (.d16 (.d16 (.d4 (.drop leL.nil)))))))))⟩
 ·refine yF ?_
  refine zX ?_
  refine zU ?_
  refine zV ?_
  refine zi (zk (zd ?_))
  refine zc rfl (ze rfl yg (zb rfl)) wZ ?_
  refine z7 rfl (zQ rfl rfl rfl rfl el22 w6 z0) wY fun hn39=>?_
  replace hn39:=xg hn39
  refine zc rfl (zu rfl w5 rfl rfl) (sk qP) ?_
  refine zc rfl (zg rfl (gk yg) (zb rfl)) yH ?_
  refine zf (zi (zJ ?_))
  obtain rfl:=Option.some.inj hF
  refine zB rfl (zC yz zD) (zz (leV.refl _) rfl ?_)
  exact ⟨rfl,rfl⟩
/-! varve/varvelaw42.great -/
theorem ok4 {l0:(List GRule)} {o1:GOp} {res:Bool} {h:AH}  (hF:law42Xgreat l0 o1=some res):Spec Tryz.prog 4 [.sl 5 (l0.map GRule.row),.agg [.int .u8 o1.kind,.sl 1 (o1.path.map zK),.int .i64 o1.n,.str o1.text,.sl 3 (o1.dots.map GDot.row)]] h (fun rr hh=>rr=.bool res∧hh=h):=by
 unfold law42Xgreat at hF
 refine zt Tryz.func4 rfl (by kernel_rfl) (env:=[.sl 5 (l0.map GRule.row),.agg [.int .u8 o1.kind,.sl 1 (o1.path.map zK),.int .i64 o1.n,.str o1.text,.sl 3 (o1.dots.map GDot.row)],za,za,za,za,za,za,za,za,za,za,za,za,za,za,za,za,za,za,za,za,za,za,za]) (by rfl) ?_
 refine zk (zd ?_)
 refine zc rfl (xy (n:=0) rfl yw (zb rfl) rfl rfl) xS ?_
 refine zc rfl (zg rfl rfl (zb rfl)) yD ?_
 refine zf (zi (zk (zd ?_)))
 refine zc rfl (ze rfl yg (zb rfl)) xw ?_
 refine zS hF (fun v1 hv1 hF=>?_)
 refine zM rfl (zE rfl rfl rfl (zo yP zy) (.cons (zb rfl) .nil)) (ok20 hv1) xp ?_
 refine zc rfl (ze rfl yS (zb rfl)) xK ?_
 refine zp rfl (fun hb=>zj rfl fo26x4 yX rfl) xH ?_
 refine zp rfl (fun hb=>zw rfl qL (zn yV hb) rfl (zr rfl) (zb rfl)) x8 ?_
 refine xj rfl (fun hb=>zQ rfl rfl rfl rfl qf (zn xl hb) z0) yq fun hn2=>?_
 refine zp rfl (fun hb=>zu rfl (zn yi hb) rfl rfl) yy ?_
 refine zc rfl (zG rfl xn rfl yl (zZ (fun ht=>gF ht))) yE ?_
 refine zc rfl (ze rfl yC (zb rfl)) yG ?_
 refine zp rfl (fun hb=>zj rfl fo26x1 yX rfl) yN ?_
 refine zp rfl (fun hb=>zw rfl ty23 (zn yM hb) rfl (zr rfl) (zb rfl)) yO ?_
 refine xj rfl (fun hb=>zQ rfl rfl rfl rfl xc (zn yL hb) z0) yT fun hn3=>?_
 refine zp rfl (fun hb=>zu rfl (zn yQ hb) rfl rfl) yZ ?_
 refine zc rfl (zG rfl yr rfl yY (zZ (fun ht=>gF ht))) xd ?_
 refine zc rfl (ze rfl xb (zb rfl)) xi ?_
 refine zp rfl (fun hb=>zj rfl fo26x3 yX rfl) xA ?_
 refine zp rfl (fun hb=>zw rfl vt (zn xz hb) rfl (zr rfl) (zb rfl)) xE ?_
 refine xj rfl (fun hb=>vq rfl rfl rfl rfl vt (zn xB hb)) xI fun hn4=>?_
 refine zp rfl (fun hb=>zu rfl (zn xF hb) rfl rfl) xD ?_
 refine zc rfl (zG rfl xh rfl xu (zZ (fun ht=>gF ht))) xM ?_
 refine zc rfl (zg rfl xN (zb rfl)) yD ?_
 refine zf (zi (zJ ?_))
 obtain rfl:=Option.some.inj hF
 refine zB rfl (zC yv zD) (zz (leV.refl _) rfl ?_)
 exact ⟨rfl,rfl⟩
/-! varve/varveref07.size -/
theorem ok21N (n:Nat):∀ {t0:(List GNode)} {deep1:Int} {res:Int} {h:AH} , vh n t0 deep1=some res→Spec Tryz.prog 21 [.sl 3 (t0.map GNode.row),.int .i64 deep1] h (fun rr hh=>rr=.int .i64 res∧hh=h):=by
 induction n with
 | zero=>intro t0 deep1 res h  hF;simp [vh] at hF
 | succ n ih =>
  intro t0 deep1 res h  hF
  unfold vh at hF
  refine zt Tryz.func21 rfl (by kernel_rfl) (env:=[.sl 3 (t0.map GNode.row),.int .i64 deep1,za,za,za,za,za,za,za,za,za,za,za,za,za,za,za,za,za,za,za,za,za,za,za,za,za,za,za,za,za,za,za,za,za,za,za,za,za,za,za,za,za,za,za,za,za,za,za,za,za,za,za,za,za,za,za,za,za,za,za,za,za,za,za,za,za,za,za,za,za,za,za,za,za,za,za,za,za,za,za,za,za,za]) (by rfl) ?_
  refine zk (zd ?_)
  refine zc rfl (zg rfl rfl (zb rfl)) yD ?_
  refine zf (zi (zk (zd ?_)))
  refine zc rfl (zg rfl rfl (zb rfl)) xw ?_
  refine zf (zi (zk (zk (zd ?_))))
  refine zc rfl (zg rfl rfl (zb rfl)) xp ?_
  refine zf (zi (zO ?_))
  refine qd (fun (s1:Int×Int)=>yB [2,3,4,7,8,9,10,11,12,13,14,15,16,17,18,19,20,21,22,23,24,25,26,27,28,29,30,31,32,33,34,35,36,37,38,39,40,41,42,43,44,45,46,47,48,49,50,51,52,53,54,55,56,57,58,59,60,61,62,63,64,65,66,67,68,69,70,71,72,73,74,75,76,77,78,79,80,81,82,83] [(5,.int .i64 s1.1),(6,.int .i64 s1.2)]) (fun s1=>h.ext [] []) hF (fun _=>by simp only [yB,qw,List.set_cons_succ,List.set_cons_zero];try rfl) (wk.le (by exact (.eq (.eq (.drop (.drop (.drop (.cons (leV.of_eq rfl) (.cons (leV.of_eq rfl) (.d16 (.d16 (.d16 (.d16 (.d4 (.d4 (.d4 (.drop leL.nil))))))))))))))))) ?_
  intro n1 s1 o1 hF hK1
  refine zk (zk (zd ?_))
  refine zc rfl (ze rfl yS (zb rfl)) yq ?_
  refine zc rfl (ze rfl yg (zb rfl)) yy ?_
  refine z7 rfl (zQ rfl rfl rfl rfl xa yl z0) yE fun hn66=>?_
  replace hn66:=xg hn66
  refine zc rfl (zu rfl yi yC rfl) yG ?_
  refine zc rfl (ze rfl yr (zb rfl)) yN ?_
  refine zp rfl (fun hb=>ze rfl yw (zb rfl)) yO ?_
  refine zp rfl (fun hb=>zu rfl (zn yL hb) rfl rfl) yT ?_
  refine zc rfl (zG rfl yM yQ rfl (zN (fun ht=>gT ht))) yZ ?_
  refine zf (zi ?_)
  refine zH yY hF (fun hc67 hF=>?_) (fun hc67 hF=>?_)
  ·refine zI (zi (zk (zO (zk ?_))))
   refine yI [16] [] trivial mixed (by kernel_rfl) ?_
   refine zq rfl rfl (ze rfl yP (zb rfl)) xA ?_
   refine zq rfl rfl (zu rfl xz rfl rfl) xE ?_
   refine zq rfl rfl (ze rfl yg (zb rfl)) xI ?_
   refine zq rfl rfl (ze rfl yS (zb rfl)) xD ?_
   refine zS hF (fun y68 hy68 hF=>?_)
   refine zq rfl rfl (xO rfl xa xF xu wd hy68 (GNode.row_eq _)) xM ?_
   refine zq rfl rfl (zj rfl q9 xN rfl) wa ?_
   refine zq rfl rfl (zY rfl vt x9 (zr rfl) (zb rfl)) wi ?_
   refine draw_len rfl rfl (vq rfl rfl rfl rfl vt wh) wj ?_
   refine zq rfl rfl (zu rfl xB wm rfl) wn ?_
   refine zq rfl rfl (ze rfl yg (zb rfl)) wD ?_
   refine zq rfl rfl (ze rfl yS (zb rfl)) wC ?_
   refine zS hF (fun y70 hy70 hF=>?_)
   refine zq rfl rfl (xO rfl xa wz wM wd hy70 (GNode.row_eq _)) wI ?_
   refine zq rfl rfl (zj rfl q8 wL rfl) wH ?_
   refine zq rfl rfl (zY rfl ty28 wy (zr rfl) (zb rfl)) wP ?_
   refine zq rfl rfl (ze rfl yw (zb rfl)) wO ?_
   refine zq rfl rfl (zu rfl wK rfl rfl) wN ?_
   refine zS hF (fun v71 hv71 hF=>?_)
   refine yW rfl rfl (fun _=>zE rfl rfl rfl (zo wT (zo wS zy)) (.cons (zb rfl) (.cons (zb rfl) .nil))) (by rintro _ ⟨B2,T2,rfl,hk2⟩;exact ih hv71) wG ?_
   refine zq rfl rfl (zu rfl wl wu rfl) wF ?_
   refine zq rfl rfl (zg rfl wJ (zb rfl)) xw ?_
   refine yo ?_
   refine zi (zk (zd ?_))
   refine zc rfl (zg rfl rfl (zb rfl)) xK ?_
   refine zf (zi (zO ?_))
   refine qd (fun (s2:Int×Int)=>yB [2,3,4,8,9,10,11,12,13,14,15,16,17,18,19,20,21,22,23,24,25,26,27,28,29,30,31,32,33,34,35,36,37,38,39,40,41,42,43,44,45,46,47,48,49,50,51,52,53,54,55,56,57,58,59,60,61,62,63,64,65,66,67,68,69,70,71,72,73,74,75,76,77,78,79,80,81,82,83] [(5,.int .i64 s2.1),(7,.int .i64 s2.2)]) (fun s2=>h.ext [] []) hF (fun _=>by simp only [yB,qw,List.set_cons_succ,List.set_cons_zero];try rfl) (wk.le (by exact (.eq (.eq (.drop (.drop (.drop (.cons (leV.of_eq rfl) (.eq (.cons (leV.of_eq rfl) (.d16 (.d16 (.d16 (.d16 (.d4 (.d4 (.d4 leL.nil))))))))))))))))) ?_
   intro n2 s2 o2 hF hK2
   refine zk (zk (zd ?_))
   refine zc rfl (ze rfl xn (zb rfl)) wZ ?_
   refine zc rfl (ze rfl yg (zb rfl)) wY ?_
   refine zc rfl (ze rfl yS (zb rfl)) (sk qP) ?_
   refine zS hF (fun y102 hy102 hF=>?_)
   refine zc rfl (xO rfl xa w5 (gk yg) wd hy102 (GNode.row_eq _)) (sk qI) ?_
   refine zc rfl (zj rfl xX (gk yw) rfl) (sk yH) ?_
   refine zc rfl (zY rfl qk (gk yz) (zr rfl) (zb rfl)) (sk xS) ?_
   refine z7 rfl (zQ rfl rfl rfl rfl wr (gk yX) z0) (sk yD) fun hn103=>?_
   replace hn103:=xg hn103
   refine zc rfl (zu rfl w6 (gk yv) rfl) (sk xw) ?_
   refine zf (zi ?_)
   refine zH (gk yP) hF (fun hc104 hF=>?_) (fun hc104 hF=>?_)
   ·refine zI (zi (zk (zO (zk (zd ?_)))))
    refine zc rfl (ze rfl yg (zb rfl)) (sk xH) ?_
    refine zc rfl (ze rfl yS (zb rfl)) (sk x8) ?_
    refine zS hF (fun y105 hy105 hF=>?_)
    refine zc rfl (xO rfl xa (gk yV) (gk xl) wd hy105 (GNode.row_eq _)) (sk yq) ?_
    refine zc rfl (zj rfl xX (gk yi) rfl) (sk yy) ?_
    refine zc rfl (zY rfl qk (gk yl) (zr rfl) (zb rfl)) (sk yE) ?_
    refine zc rfl (ze rfl xn (zb rfl)) (sk yG) ?_
    refine zS hF (fun y106 hy106 hF=>?_)
    refine zc rfl (yd rfl wr (gk yC) (gk yr) wd hy106) (sk yN) ?_
    refine zc rfl (zY rfl ty58.choose_spec.1 (gk yM) (zL (cs':=[.int .u8 y106.typ,.int .i64 y106.n,.int .u64 y106.time,.int .u8 y106.dot.actor.rep,.int .u32 y106.dot.actor.inc,.int .u64 y106.dot.seq,.str y106.text,.sl 5 (y106.items.map GItem.row),.sl 3 (y106.tombs.map GDot.row)]) ty58.choose_spec.2 rfl rfl) (zb rfl)) (sk yO) ?_
    refine zc rfl (xf (n:=0) rfl ze58 rfl) xH ?_
    refine zc rfl (yk (cs':=[.int .u8 y106.typ,.int .i64 y106.n,.int .u64 y106.time,.int .u8 y106.dot.actor.rep,.int .u32 y106.dot.actor.inc,.int .u64 y106.dot.seq,.str y106.text,.sl 5 (y106.items.map GItem.row),.sl 3 (y106.tombs.map GDot.row)]) rfl ty58.choose_spec.1 yV (gk yL) (zb rfl) rfl rfl rfl rfl rfl) rfl ?_
    refine zf (zi (zk (zd ?_)))
    refine zc rfl (ze rfl yP (zb rfl)) (sk yT) ?_
    refine zc rfl (zu rfl (gk yQ) rfl rfl) (sk yZ) ?_
    refine zc rfl (zj rfl fo58x4 yV rfl) (sk xd) ?_
    refine zc rfl (zw rfl vt (gk xb) rfl (zr rfl) (zb rfl)) (sk xi) ?_
    refine z7 rfl (vq rfl rfl rfl rfl vt (gk xh)) (sk xA) fun hn107=>?_
    replace hn107:=xg hn107
    refine zc rfl (zu rfl (gk yY) (gk xz) rfl) (sk xE) ?_
    refine zc rfl (zj rfl vz yV rfl) (sk xI) ?_
    refine zc rfl (zw rfl qL (gk xF) rfl (zr rfl) (zb rfl)) (sk xD) ?_
    refine z7 rfl (zQ rfl rfl rfl rfl qf (gk xu) z0) (sk xM) fun hn108=>?_
    replace hn108:=xg hn108
    refine zc rfl (zu rfl (gk xB) (gk xN) rfl) (sk wa) ?_
    refine zc rfl (zg rfl (gk x9) (zb rfl)) xw ?_
    refine zf (zi (zk (zd ?_)))
    refine zc rfl (zg rfl rfl (zb rfl)) x8 ?_
    refine zf (zi (zO ?_))
    refine ym (fun (n3:Nat) (s3:Int)=>yB [2,3,4,10,11,12,13,14,15,16,17,18,19,20,21,22,23,24,25,26,27,28,29,30,31,32,33,34,35,36,37,38,39,40,41,42,43,44,45,46,47,48,49,50,51,52,53,54,55,56,57,58,59,60,61,62,63,64,65,66,67,68,69,70,71,72,73,74,75,76,77,78,79,80,81,82,83] [(5,.int .i64 s3),(9,.int .i64 (n3:Int))]) (fun s3=>h.ext [.cells [.int .u8 y106.typ,.int .i64 y106.n,.int .u64 y106.time,.int .u8 y106.dot.actor.rep,.int .u32 y106.dot.actor.inc,.int .u64 y106.dot.seq,.str y106.text,.sl 5 (y106.items.map GItem.row),.sl 3 (y106.tombs.map GDot.row)]] []) hF (fun _ _=>by simp only [yB,qw,List.set_cons_succ,List.set_cons_zero];try rfl) (wk.le (by exact (.eq (.eq (.drop (.drop (.drop (.cons (leV.of_eq rfl) (.eq (.eq (.eq (.cons (leV.of_eq rfl) (.d16 (.d16 (.d16 (.d16 (.d4 (.d4 (.drop (.drop leL.nil)))))))))))))))))))) ?_
    intro n3 s3 hi3 hF
    refine zk (zk (zd ?_))
    refine zc rfl (ze rfl xl (zb rfl)) (sk wi) ?_
    refine zc rfl (zj rfl w7 yV rfl) (sk wj) ?_
    refine zc rfl (zw rfl ty56 (gk wm) rfl (zr rfl) (zb rfl)) (sk wn) ?_
    refine z7 rfl (zQ rfl rfl rfl rfl el56 (gk wl) z0) (sk wD) fun hn125=>?_
    replace hn125:=xg hn125
    refine zc rfl (zu rfl (gk wh) (gk wz) rfl) (sk wC) ?_
    refine zf (zi ?_)
    refine yJ (gk wM) hF (fun x3 o3 hl3 hx3 hF hK3=>?_) (fun hF=>?_)
    ·refine zI (zi (zk (zO (zd ?_))))
     refine zc rfl (ze rfl yP (zb rfl)) (sk wP) ?_
     refine zc rfl (zu rfl (gk wT) rfl rfl) (sk wO) ?_
     refine zc rfl (zj rfl w7 yV rfl) (sk wN) ?_
     refine zc rfl (zw rfl ty56 (gk wS) rfl (zr rfl) (zb rfl)) (sk wG) ?_
     refine zc rfl (ze rfl xl (zb rfl)) (sk wF) ?_
     refine zc rfl (yd rfl el56 (gk wu) (gk wJ) wd (yA hx3)) (sk wZ) ?_
     refine zc rfl (zj rfl fo77x2 (gk w6) rfl) (sk wY) ?_
     refine zc rfl (zY rfl vt (gk w5) (zr rfl) (zb rfl)) (sk (sk qP)) ?_
     refine z7 rfl (vq rfl rfl rfl rfl vt (gk (gk yg))) (sk (sk qI)) fun hn126=>?_
     replace hn126:=xg hn126
     refine zc rfl (zu rfl (gk wK) (gk (gk yw)) rfl) (sk (sk yH)) ?_
     refine zc rfl (zg rfl (gk (gk yz)) (zb rfl)) xw ?_
     refine zf (yb (zi (zd ?_)))
     refine zc rfl (ze rfl xl (zb rfl)) (sk wI) ?_
     refine zc rfl (zu rfl (gk wL) rfl rfl) (sk wH) ?_
     refine zc rfl (zg rfl (gk wy) (zb rfl)) x8 ?_
     refine zf (yu ?_)
     obtain rfl:=Option.some.inj hF
     exact ⟨(IntKind.wrap .i64 ((IntKind.wrap .i64 (s3+(1:Int)))+((x3.text).length:Int))),hl3,hK3,wk.le (by exact (.eq (.eq (.drop (.drop (.drop (.cons (leV.of_eq rfl) (.eq (.eq (.eq (.cons (leV.of_eq (wx (by omega) (by omega))) (.d16 (.d16 (.d16 (.d16 (.d4 (.d4 (.drop (.drop leL.nil)))))))))))))))))))⟩
    ·refine yF ?_
     refine zX ?_
     refine zU ?_
     refine zV ?_
     refine yb (zi (zd ?_))
     refine zc rfl (ze rfl xn (zb rfl)) (sk xp) ?_
     refine zc rfl (zu rfl (gk yS) rfl rfl) (sk xK) ?_
     refine zc rfl (zg rfl (gk xn) (zb rfl)) xK ?_
     refine zf (yu ?_)
     obtain rfl:=Option.some.inj hF
     exact ⟨(s3,(IntKind.wrap .i64 (s2.2+(1:Int)))),hK2,wk.trans (wk.le (by exact (.eq (.eq (.drop (.drop (.drop (.cons (leV.of_eq rfl) (.eq (.cons (leV.of_eq rfl) (.d16 (.d16 (.d16 (.d16 (.d4 (.d4 (.d4 leL.nil))))))))))))))))) (xY (by simp [yj,AV.low]) rfl rfl (by simp [Blk.low,yj,AV.low]))⟩
   ·refine yF ?_
    refine zX ?_
    refine zU ?_
    obtain rfl:=Option.some.inj hF
    replace hF:=hK2
    refine zV ?_
    refine yb (zi (zd ?_))
    refine zc rfl (ze rfl yS (zb rfl)) xd ?_
    refine zc rfl (zu rfl xb rfl rfl) xi ?_
    refine zc rfl (zg rfl xh (zb rfl)) xp ?_
    refine zf (yu ?_)
    obtain rfl:=Option.some.inj hF
    exact ⟨(s2.1,(IntKind.wrap .i64 (s1.2+(1:Int)))),hK1,wk.le (by exact (.eq (.eq (.drop (.drop (.drop (.cons (leV.of_eq rfl) (.cons (leV.of_eq rfl) (.d16 (.d16 (.d16 (.d16 (.d4 (.d4 (.d4 (.drop leL.nil))))))))))))))))⟩
  ·refine yF ?_
   refine zX ?_
   refine zU ?_
   obtain rfl:=Option.some.inj hF
   replace hF:=hK1
   refine zV ?_
   refine zi (zk (zd ?_))
   refine zc rfl (ze rfl yP (zb rfl)) (sk (sk xS)) ?_
   refine zc rfl (zg rfl (gk (gk yX)) (zb rfl)) yD ?_
   refine zf (zi (zJ ?_))
   obtain rfl:=Option.some.inj hF
   refine zB rfl (zC yv zD) (zz (leV.refl _) rfl ?_)
   exact ⟨rfl,rfl⟩
theorem ok21 {t0:(List GNode)} {deep1:Int} {res:Int} {h:AH}  (hF:ref07Xsize t0 deep1=some res):Spec Tryz.prog 21 [.sl 3 (t0.map GNode.row),.int .i64 deep1] h (fun rr hh=>rr=.int .i64 res∧hh=h):=by
 obtain ⟨n,hn⟩:=anyN_is hF
 exact ok21N n  hn
/-! varve/varveref07.Great -/
theorem ok5 {t0:(List GNode)} {res:Bool} {h:AH}  (hF:ref07Great t0=some res):Spec Tryz.prog 5 [.sl 3 (t0.map GNode.row)] h (fun rr hh=>rr=.bool res∧hh=h):=by
 unfold ref07Great at hF
 refine zt Tryz.func5 rfl (by kernel_rfl) (env:=[.sl 3 (t0.map GNode.row),za,za,za,za,za]) (by rfl) ?_
 refine zk (zd ?_)
 refine zc rfl (zg rfl rfl (zb rfl)) yH ?_
 refine zf (zi (zk (zd ?_)))
 refine zc rfl (ze rfl yg (zb rfl)) xS ?_
 refine zS hF (fun v1 hv1 hF=>?_)
 refine zM rfl (zE rfl rfl rfl (zo yX (zo rfl zy)) (.cons (zb rfl) (.cons (zb rfl) .nil))) (ok21 hv1) yD ?_
 refine zc rfl (zu rfl yv rfl rfl) xw ?_
 refine zc rfl (zg rfl yP (zb rfl)) yH ?_
 refine zf (zi (zJ ?_))
 obtain rfl:=Option.some.inj hF
 refine zB rfl (zC yz zD) (zz (leV.refl _) rfl ?_)
 exact ⟨rfl,rfl⟩
/-! varve/paths.parts -/
theorem ok97 {p0:(List zR)} {res:((List zR)×Bool)} {h:AH}  (hF:pathsXparts p0=some res):Spec Tryz.prog 97 [.sl 1 (p0.map zK)] h (fun rr hh=>rr=.tup [.sl 1 (res.1.map zK),.bool res.2]∧hh=h):=by
 unfold pathsXparts at hF
 refine zt Tryz.func97 rfl (by kernel_rfl) (env:=[.sl 1 (p0.map zK),za,za,za,za,za,za,za,za,za,za,za,za,za,za,za,za,za,za,za,za,za]) (by rfl) ?_
 refine zk (zd ?_)
 refine zc rfl (zg rfl rfl (xq xc)) yH ?_
 refine zc rfl (zg rfl rfl (zb rfl)) xS ?_
 refine zf (zi (zk (zk (zd ?_))))
 refine zc rfl (ze rfl yg (zb rfl)) xw ?_
 refine z7 rfl (zQ rfl rfl rfl rfl xc yP z0) xp fun hn1=>?_
 replace hn1:=xg hn1
 refine zc rfl (zg rfl yS (zb rfl)) yD ?_
 refine zf (zi (zk (zd ?_)))
 refine zc rfl (ze rfl yv (zb rfl)) xK ?_
 refine zc rfl (zu rfl xn rfl rfl) xH ?_
 refine zc rfl (ze rfl yV (zb rfl)) x8 ?_
 refine zp rfl (fun hb=>ze rfl yg (zb rfl)) yq ?_
 refine zp rfl (fun hb=>ze rfl yv (zb rfl)) yy ?_
 refine zp rfl (fun hb=>zu rfl (zn yl hb) rfl rfl) yE ?_
 refine xG hF (fun hg2 hF=>?_)
 refine zp rfl (fun hb=>yK default rfl xc (zn yi hb) (zn yC hb) wd (hg2 hb)) yG ?_
 refine zp rfl (fun hb=>zY rfl vt (zn yr hb) (zr rfl) (zb rfl)) yN ?_
 refine zp rfl (fun hb=>zu rfl (zn yM hb) rfl rfl) yO ?_
 refine zc rfl (zG rfl xl yL rfl (zN (fun ht=>gT ht))) yT ?_
 refine zf (zi ?_)
 refine zH yQ hF (fun hc3 hF=>?_) (fun hc3 hF=>?_)
 ·refine zk (zd ?_)
  refine zc rfl (ze rfl yg (zb rfl)) yZ ?_
  refine zc rfl (ze rfl yv (zb rfl)) xd ?_
  refine zc rfl (zu rfl xb rfl rfl) xi ?_
  refine zS hF (fun m4 hm4 hF=>?_)
  refine zc rfl (vu rfl xc yY (.inl rfl) .none (.some xh) hm4) xA ?_
  refine zc rfl (zg rfl xz (zb rfl)) yH ?_
  refine zc rfl (zg rfl rfl (zb rfl)) xS ?_
  refine zf (zi (zJ (zA ?_)))
  obtain rfl:=Option.some.inj hF
  refine qe rfl (zC yz (zC yX zD)) (zz (leV.refl _) rfl ?_)
  exact ⟨rfl,rfl⟩
 ·refine zI (zi (zk (zd ?_)))
  refine zc rfl (ze rfl yg (zb rfl)) xE ?_
  refine zc rfl (zg rfl xB (zb rfl)) yH ?_
  refine zc rfl (zg rfl rfl (zb rfl)) xS ?_
  refine zf (zi (zJ ?_))
  obtain rfl:=Option.some.inj hF
  refine qe rfl (zC yz (zC yX zD)) (zz (leV.refl _) rfl ?_)
  exact ⟨rfl,rfl⟩
/-! varve/op.IsName 1 -/
theorem ok104 {r0:Int} {res:Bool} {h:AH}  (hF:opIsNameC1 r0=some res):Spec Tryz.prog 104 [.int .i32 r0] h (fun rr hh=>rr=.bool res∧hh=h):=by
 unfold opIsNameC1 at hF
 refine zt Tryz.func104 rfl (by kernel_rfl) (env:=[.int .i32 r0,za,za,za,za,za,za,za,za,za,za,za,za,za,za,za,za,za,za,za,za,za,za,za,za]) (by rfl) ?_
 refine zk (zd ?_)
 refine zc rfl (zg rfl rfl (zb rfl)) yH ?_
 refine zf (zi (zk (zd ?_)))
 refine zc rfl (ze rfl yg (zb rfl)) xS ?_
 refine zc rfl (zu rfl yX rfl rfl) yD ?_
 refine zc rfl (ze rfl yv (zb rfl)) xw ?_
 refine zp rfl (fun hb=>ze rfl yg (zb rfl)) xp ?_
 refine zp rfl (fun hb=>zu rfl (zn yS hb) rfl rfl) xK ?_
 refine zc rfl (zG rfl yP rfl xn (zZ (fun ht=>gF ht))) xH ?_
 refine zc rfl (ze rfl yV (zb rfl)) x8 ?_
 refine zp rfl (fun hb=>ze rfl yg (zb rfl)) yq ?_
 refine zp rfl (fun hb=>zu rfl (zn yi hb) rfl rfl) yy ?_
 refine zp rfl (fun hb=>ze rfl (zn yl hb) (zb rfl)) yE ?_
 refine zp (zP rfl rfl rfl) (fun hb=>ze rfl yg (zb rfl)) yG ?_
 refine zp (zP rfl rfl rfl) (fun hb=>zu rfl (zn yr hb) rfl rfl) yN ?_
 refine zp rfl (fun hb=>zG rfl (zn yC hb) rfl yM (zZ (fun ht=>gF2 hb ht))) yO ?_
 refine zc rfl (zG rfl xl yL rfl (zN (fun ht=>gT ht))) yT ?_
 refine zc rfl (ze rfl yQ (zb rfl)) yZ ?_
 refine zp rfl (fun hb=>ze rfl yg (zb rfl)) xd ?_
 refine zp rfl (fun hb=>zu rfl (zn xb hb) rfl rfl) xi ?_
 refine zp rfl (fun hb=>ze rfl (zn xh hb) (zb rfl)) xA ?_
 refine zp (zP rfl rfl rfl) (fun hb=>ze rfl yg (zb rfl)) xE ?_
 refine zp (zP rfl rfl rfl) (fun hb=>zu rfl (zn xB hb) rfl rfl) xI ?_
 refine zp rfl (fun hb=>zG rfl (zn xz hb) rfl xF (zZ (fun ht=>gF2 hb ht))) xD ?_
 refine zc rfl (zG rfl yY xu rfl (zN (fun ht=>gT ht))) xM ?_
 refine zc rfl (zg rfl xN (zb rfl)) yH ?_
 refine zf (zi (zJ ?_))
 obtain rfl:=Option.some.inj hF
 refine zB rfl (zC yz zD) (zz (leV.refl _) rfl ?_)
 exact ⟨rfl,rfl⟩
/-! strings.indexFunc -/
theorem ok143 {s0:zR} {f1:(Int→Option Bool)} {ff1:FuncId} {af1 kf1:List AV} {truth2:Bool} {res:Int} {h:AH} (hf1:∀ x0 v (L:List Blk) (M:List Nat),f1 x0=some v→Spec Tryz.prog ff1 (af1++[.int .i32 x0]++kf1) (h.ext L M) (fun rr hh=>rr=.bool v∧hh=h.ext L M)) (hF:qN s0 f1 truth2=some res):Spec Tryz.prog 143 [.str s0,.fn (.func ff1) af1 kf1,.bool truth2] h (fun rr hh=>rr=.int .i64 res∧hh=h):=by
 unfold qN at hF
 refine yp Tryz.func143 rfl (by kernel_rfl) (env:=[.str s0,.fn (.func ff1) af1 kf1,.bool truth2,za,za,za,za,za,za,za,za,za,za,za,za,za,za,za,za,za,za]) (by rfl) (fun hlow hC=>?_)
 simp only [yj,AV.low,Bool.and_eq_true,Bool.true_and,and_true] at hlow
 have hlaf1:∀ n m,h.blks.length≤n→h.toks.length≤m→yj n m af1=true:=fun n m h1 h2=>yR h1 h2 _ (by simp [hlow])
 have hlkf1:∀ n m,h.blks.length≤n→h.toks.length≤m→yj n m kf1=true:=fun n m h1 h2=>yR h1 h2 _ (by simp [hlow])
 refine zk (zd ?_)
 refine zc rfl (zg rfl rfl (zb rfl)) xp ?_
 refine zf (zi (zk (zk (zd ?_))))
 refine zc rfl (ze rfl yg (zb rfl)) x8 ?_
 refine zc rfl (e_range (n:=0) rfl vt xl rfl) yq ?_
 refine zf (zi (zO ?_))
 refine qd (fun (s1:Nat)=>yB [0,3,4,5,6,7,8,9,11,12,13,14,15,16,17,18,19,20] []) (fun s1=>h.ext [.siter s0 s1] []) hF (fun _=>by simp only [yB,qw,List.set_cons_succ,List.set_cons_zero];try rfl) (wk.le (by exact (.drop (.eq (.eq (.d4 (.drop (.drop (.drop (.eq (.d4 (.d4 (.drop (.drop leL.nil)))))))))))))) ?_
 intro n1 s1 o1 hF hK1
 refine zk (zd ?_)
 refine ops_nextF rfl rfl yi rfl yy yy hF (fun hp5 hF=>?_) (fun hF=>?_)
 ·refine zc rfl (xe rfl yl rfl (zb rfl)) yE ?_
  refine zf (zi (zk ?_))
  refine r_cond yC (fun _=>?_) (fun hh=>by cases hh)
  refine zI (zi (zO (zk (zd ?_))))
  refine zc rfl (xe rfl yl rfl (zb rfl)) yG ?_
  refine zc rfl (xe rfl yl rfl (zb rfl)) yN ?_
  refine zc rfl (zg rfl yr (zb rfl)) xK ?_
  refine zc rfl (zg rfl yM (zb rfl)) xH ?_
  refine zf (zi (zk (zd ?_)))
  refine zc rfl (ze rfl yw (zb rfl)) yO ?_
  refine zc rfl (ze rfl yV (zb rfl)) yT ?_
  refine zS hF (fun v6 hv6 hF=>?_)
  refine zM rfl (s_callC rfl rfl yL (zo yQ zy) (.cons (zb rfl) .nil) rfl) (hf1 _ _ _ _ hv6) yZ ?_
  refine zc rfl (ze rfl yz (zb rfl)) xd ?_
  refine zc rfl (zu rfl yY xb (bin_boolE ty4)) xi ?_
  refine zf (zi ?_)
  refine zH xh hF (fun hc7 hF=>?_) (fun hc7 hF=>?_)
  ·refine zk (zd ?_)
   refine zc rfl (ze rfl xn (zb rfl)) xA ?_
   refine zc rfl (zg rfl xz (zb rfl)) xp ?_
   refine zf (zi (zJ ?_))
   refine zF ?_
   refine yf ?_
   obtain rfl:=Option.some.inj hF
   replace hF:=hK1
   refine zF ?_
   refine zA ?_
   obtain rfl:=Option.some.inj hF
   refine zB rfl (zC yS zD) (zz (leV.refl _) rfl ?_)
   exact ⟨rfl,rfl⟩
  ·refine zI (yb (yu ?_))
   obtain rfl:=Option.some.inj hF
   exact ⟨(s1+(dec s0 s1).2),hK1,wk.le (by exact (.drop (.eq (.eq (.d4 (.drop (.drop (.drop (.eq (.d4 (.d4 (.drop (.drop leL.nil)))))))))))))⟩
 ·refine zc rfl (xe rfl yl rfl (zb rfl)) yE ?_
  refine zf (zi (zk ?_))
  refine r_cond yC (fun hh=>by cases hh) (fun _=>?_)
  refine yF ?_
  refine zX ?_
  refine zU ?_
  obtain rfl:=Option.some.inj hF
  replace hF:=hK1
  refine zV ?_
  refine zi (zk (zd ?_))
  refine zc rfl (zg rfl rfl (zb rfl)) xp ?_
  refine zf (zi (zJ ?_))
  obtain rfl:=Option.some.inj hF
  refine zB rfl (zC yS zD) (zz (leV.refl _) rfl ?_)
  exact ⟨rfl,rfl⟩
/-! strings.IndexFunc -/
theorem ok124 {s0:zR} {f1:(Int→Option Bool)} {ff1:FuncId} {af1 kf1:List AV} {res:Int} {h:AH} (hf1:∀ x0 v (L:List Blk) (M:List Nat),f1 x0=some v→Spec Tryz.prog ff1 (af1++[.int .i32 x0]++kf1) (h.ext L M) (fun rr hh=>rr=.bool v∧hh=h.ext L M)) (hF:stringsIndexFunc s0 f1=some res):Spec Tryz.prog 124 [.str s0,.fn (.func ff1) af1 kf1] h (fun rr hh=>rr=.int .i64 res∧hh=h):=by
 unfold stringsIndexFunc at hF
 refine yp Tryz.func124 rfl (by kernel_rfl) (env:=[.str s0,.fn (.func ff1) af1 kf1,za,za,za,za,za,za]) (by rfl) (fun hlow hC=>?_)
 simp only [yj,AV.low,Bool.and_eq_true,Bool.true_and,and_true] at hlow
 have hlaf1:∀ n m,h.blks.length≤n→h.toks.length≤m→yj n m af1=true:=fun n m h1 h2=>yR h1 h2 _ (by simp [hlow])
 have hlkf1:∀ n m,h.blks.length≤n→h.toks.length≤m→yj n m kf1=true:=fun n m h1 h2=>yR h1 h2 _ (by simp [hlow])
 refine zk (zd ?_)
 refine zc rfl (zg rfl rfl (zb rfl)) yD ?_
 refine zf (zi (zk (zd ?_)))
 refine zc rfl (ze rfl yg (zb rfl)) xw ?_
 refine zc rfl (ze rfl yw (zb rfl)) xp ?_
 refine zS hF (fun v1 hv1 hF=>?_)
 refine zM rfl (zE rfl rfl rfl (zo yP (zo yS (zo rfl zy))) (.cons (zb rfl) (.cons (zb rfl) (.cons (zb rfl) .nil)))) (ok143 (fun x0 v L M hv=>by rw [vG];exact hf1 x0 v _ _ hv) hv1) xK ?_
 refine zc rfl (zg rfl xn (zb rfl)) yD ?_
 refine zf (zi (zJ ?_))
 obtain rfl:=Option.some.inj hF
 refine zB rfl (zC yv zD) (zz (leV.refl _) rfl ?_)
 exact ⟨rfl,rfl⟩
/-! strings.ContainsFunc -/
theorem ok105 {s0:zR} {f1:(Int→Option Bool)} {ff1:FuncId} {af1 kf1:List AV} {res:Bool} {h:AH} (hf1:∀ x0 v (L:List Blk) (M:List Nat),f1 x0=some v→Spec Tryz.prog ff1 (af1++[.int .i32 x0]++kf1) (h.ext L M) (fun rr hh=>rr=.bool v∧hh=h.ext L M)) (hF:vo s0 f1=some res):Spec Tryz.prog 105 [.str s0,.fn (.func ff1) af1 kf1] h (fun rr hh=>rr=.bool res∧hh=h):=by
 unfold vo at hF
 refine yp Tryz.func105 rfl (by kernel_rfl) (env:=[.str s0,.fn (.func ff1) af1 kf1,za,za,za,za,za,za,za]) (by rfl) (fun hlow hC=>?_)
 simp only [yj,AV.low,Bool.and_eq_true,Bool.true_and,and_true] at hlow
 have hlaf1:∀ n m,h.blks.length≤n→h.toks.length≤m→yj n m af1=true:=fun n m h1 h2=>yR h1 h2 _ (by simp [hlow])
 have hlkf1:∀ n m,h.blks.length≤n→h.toks.length≤m→yj n m kf1=true:=fun n m h1 h2=>yR h1 h2 _ (by simp [hlow])
 refine zk (zd ?_)
 refine zc rfl (zg rfl rfl (zb rfl)) yD ?_
 refine zf (zi (zk (zd ?_)))
 refine zc rfl (ze rfl yg (zb rfl)) xw ?_
 refine zc rfl (ze rfl yw (zb rfl)) xp ?_
 refine zS hF (fun v1 hv1 hF=>?_)
 refine zM rfl (zE rfl rfl rfl (zo yP (zo yS zy)) (.cons (zb rfl) (.cons (zb rfl) .nil))) (ok124 (fun x0 v L M hv=>by rw [vG];exact hf1 x0 v _ _ hv) hv1) xK ?_
 refine zc rfl (zu rfl xn rfl rfl) xH ?_
 refine zc rfl (zg rfl yV (zb rfl)) yD ?_
 refine zf (zi (zJ ?_))
 obtain rfl:=Option.some.inj hF
 refine zB rfl (zC yv zD) (zz (leV.refl _) rfl ?_)
 exact ⟨rfl,rfl⟩
/-! varve/op.IsName -/
theorem ok66 {s0:zR} {res:Bool} {h:AH}  (hF:opIsName s0=some res):Spec Tryz.prog 66 [.str s0] h (fun rr hh=>rr=.bool res∧hh=h):=by
 unfold opIsName at hF
 refine zt Tryz.func66 rfl (by kernel_rfl) (env:=[.str s0,za,za,za,za,za,za,za,za,za,za,za,za,za,za,za,za,za]) (by rfl) ?_
 refine zk (zd ?_)
 refine zc rfl (zg rfl rfl (zb rfl)) yH ?_
 refine zf (zi (zk (zd ?_)))
 refine zc rfl (zg rfl rfl (zb rfl)) xS ?_
 refine zf (zi (zk (zd ?_)))
 refine zc rfl (ze rfl yg (zb rfl)) yD ?_
 refine z7 rfl (vq rfl rfl rfl rfl vt yv) xw fun hn1=>?_
 replace hn1:=xg hn1
 refine zc rfl (zu rfl yP rfl rfl) xp ?_
 refine zc rfl (ze rfl yS (zb rfl)) xK ?_
 refine zp rfl (fun hb=>ze rfl yg (zb rfl)) xH ?_
 refine xj rfl (fun hb=>vq rfl rfl rfl rfl vt (zn yV hb)) x8 fun hn2=>?_
 refine zp rfl (fun hb=>zu rfl (zn xl hb) rfl rfl) yq ?_
 refine zc rfl (zG rfl xn yi rfl (zN (fun ht=>gT ht))) yy ?_
 refine zc rfl (ze rfl yl (zb rfl)) yE ?_
 refine zp rfl (fun hb=>ze rfl yg (zb rfl)) yG ?_
 refine zp rfl (fun hb=>ze rfl yX (zb rfl)) yN ?_
 refine yn hF (fun v3 hv3 hF=>?_)
 refine z8 rfl (fun hb=>zE rfl rfl rfl (zo (zn yr hb) (zo (zn yM hb) zy)) (.cons (zb rfl) (.cons (zb rfl) .nil))) (fun hb=>ok105 (fun _ v L M hv=>ok104  hv) (hv3 hb)) yO ?_
 refine zp rfl (fun hb=>xV rfl (zn yL hb) rfl) yT ?_
 refine zc rfl (zG rfl yC yQ rfl (zN (fun ht=>gT ht))) yZ ?_
 refine zc rfl (zg rfl yY (zb rfl)) yH ?_
 refine zf (zi (zJ ?_))
 obtain rfl:=Option.some.inj hF
 refine zB rfl (zC yz zD) (zz (leV.refl _) rfl ?_)
 exact ⟨rfl,rfl⟩
/-! varve/paths.MayPattern 1 -/
theorem ok98 {s0:zR} {res:Bool} {h:AH}  (hF:qO s0=some res):Spec Tryz.prog 98 [.str s0] h (fun rr hh=>rr=.bool res∧hh=h):=by
 unfold qO at hF
 refine zt Tryz.func98 rfl (by kernel_rfl) (env:=[.str s0,za,za,za,za,za,za,za,za,za]) (by rfl) ?_
 refine zk (zd ?_)
 refine zc rfl (zg rfl rfl (zb rfl)) yH ?_
 refine zf (zi (zk (zd ?_)))
 refine zc rfl (ze rfl yg (zb rfl)) xS ?_
 refine zc rfl (zu rfl yX rfl rfl) yD ?_
 refine zc rfl (ze rfl yv (zb rfl)) xw ?_
 refine zp rfl (fun hb=>ze rfl yg (zb rfl)) xp ?_
 refine yn hF (fun v1 hv1 hF=>?_)
 refine z8 rfl (fun hb=>zE rfl rfl rfl (zo (zn yS hb) zy) (.cons (zb rfl) .nil)) (fun hb=>ok66 (hv1 hb)) xK ?_
 refine zp rfl (fun hb=>xV rfl (zn xn hb) rfl) xH ?_
 refine zc rfl (zG rfl yP yV rfl (zN (fun ht=>gT ht))) x8 ?_
 refine zc rfl (zg rfl xl (zb rfl)) yH ?_
 refine zf (zi (zJ ?_))
 obtain rfl:=Option.some.inj hF
 refine zB rfl (zC yz zD) (zz (leV.refl _) rfl ?_)
 exact ⟨rfl,rfl⟩
/-! slices.IndexFunc[[]string,string] -/
theorem ok122 {s0:(List zR)} {f1:(zR→Option Bool)} {ff1:FuncId} {af1 kf1:List AV} {res:Int} {h:AH} (hf1:∀ x0 v (L:List Blk) (M:List Nat),f1 x0=some v→Spec Tryz.prog ff1 (af1++[.str x0]++kf1) (h.ext L M) (fun rr hh=>rr=.bool v∧hh=h.ext L M)) (hF:vF s0 f1=some res):Spec Tryz.prog 122 [.sl 1 (s0.map zK),.fn (.func ff1) af1 kf1] h (fun rr hh=>rr=.int .i64 res∧hh=h):=by
 unfold vF at hF
 refine yp Tryz.func122 rfl (by kernel_rfl) (env:=[.sl 1 (s0.map zK),.fn (.func ff1) af1 kf1,za,za,za,za,za,za,za,za,za,za,za,za,za,za,za,za,za]) (by rfl) (fun hlow hC=>?_)
 simp only [yj,AV.low,Bool.and_eq_true,Bool.true_and,and_true] at hlow
 have hlaf1:∀ n m,h.blks.length≤n→h.toks.length≤m→yj n m af1=true:=fun n m h1 h2=>yR h1 h2 _ (by simp [hlow])
 have hlkf1:∀ n m,h.blks.length≤n→h.toks.length≤m→yj n m kf1=true:=fun n m h1 h2=>yR h1 h2 _ (by simp [hlow])
 refine zk (zd ?_)
 refine zc rfl (zg rfl rfl (zb rfl)) yD ?_
 refine zf (zi (zk (zk (zd ?_))))
 refine zc rfl (ze rfl yg (zb rfl)) xp ?_
 refine z7 rfl (zQ rfl rfl rfl rfl xc yS z0) xK fun hn1=>?_
 replace hn1:=xg hn1
 refine zc rfl (ze rfl rfl (zb rfl)) xH ?_
 refine zf (zi (zO ?_))
 refine ym (fun (n1:Nat) (s1:Unit)=>yB [2,3,4,5,6,9,10,11,12,13,14,15,16,17,18] [(8,.int .i64 (n1:Int))]) (fun s1=>h.ext [] []) hF (fun _ _=>by simp only [yB,qw,List.set_cons_succ,List.set_cons_zero];try rfl) (wk.le (by exact (.eq (.eq (.d4 (.drop (.eq (.cons (leV.of_eq rfl) (.d4 (.d4 (.drop (.drop leL.nil)))))))))))) ?_
 intro n1 s1 hi1 hF
 refine zk (zd ?_)
 refine zc rfl (zu rfl yV xn rfl) x8 ?_
 refine zf (zi (zk ?_))
 refine yJ xl hF (fun x1 o1 hl1 hx1 hF hK1=>?_) (fun hF=>?_)
 ·refine zI (zi (zk (zO (zk (zd ?_)))))
  refine zc rfl (ze rfl yV (zb rfl)) yq ?_
  refine zc rfl (zg rfl yi (zb rfl)) xw ?_
  refine zf (zi (zk (zd ?_)))
  refine zc rfl (ze rfl yw (zb rfl)) yy ?_
  refine zc rfl (ze rfl yg (zb rfl)) yE ?_
  refine zc rfl (ze rfl yP (zb rfl)) yG ?_
  refine zc rfl (yd rfl xc yC yr wd (yA hx1)) yN ?_
  refine zc rfl (zY rfl vt yM (zr rfl) (zb rfl)) yO ?_
  refine zS hF (fun v7 hv7 hF=>?_)
  refine zM rfl (s_callC rfl rfl yl (zo yL zy) (.cons (zb rfl) .nil) rfl) (hf1 _ _ _ _ hv7) yT ?_
  refine zf (zi ?_)
  refine zH yQ hF (fun hc8 hF=>?_) (fun hc8 hF=>?_)
  ·refine zk (zd ?_)
   refine zc rfl (ze rfl yP (zb rfl)) yZ ?_
   refine zc rfl (zg rfl yY (zb rfl)) yD ?_
   refine zf (zi (zJ ?_))
   refine zF ?_
   refine zA ?_
   refine yf ?_
   obtain rfl:=Option.some.inj hF
   replace hF:=hK1
   refine zF ?_
   refine zA ?_
   obtain rfl:=Option.some.inj hF
   refine zB rfl (zC yv zD) (zz (leV.refl _) rfl ?_)
   exact ⟨rfl,rfl⟩
  ·refine zI (yb (zi (zd ?_)))
   refine zc rfl (zu rfl yV rfl rfl) xd ?_
   refine zc rfl (ze rfl xb (zb rfl)) xH ?_
   refine zf (yu ?_)
   obtain rfl:=Option.some.inj hF
   exact ⟨(),hl1,hK1,wk.le (by exact (.eq (.eq (.d4 (.drop (.eq (.cons (leV.of_eq (wx (by omega) (by omega))) (.d4 (.d4 (.drop (.drop leL.nil)))))))))))⟩
 ·refine yF ?_
  refine zX ?_
  refine zU ?_
  refine zV ?_
  refine zi (zk (zd ?_))
  refine zc rfl (zg rfl rfl (zb rfl)) yD ?_
  refine zf (zi (zJ ?_))
  obtain rfl:=Option.some.inj hF
  refine zB rfl (zC yv zD) (zz (leV.refl _) rfl ?_)
  exact ⟨rfl,rfl⟩
/-! slices.ContainsFunc[[]string,string] -/
theorem ok99 {s0:(List zR)} {f1:(zR→Option Bool)} {ff1:FuncId} {af1 kf1:List AV} {res:Bool} {h:AH} (hf1:∀ x0 v (L:List Blk) (M:List Nat),f1 x0=some v→Spec Tryz.prog ff1 (af1++[.str x0]++kf1) (h.ext L M) (fun rr hh=>rr=.bool v∧hh=h.ext L M)) (hF:x4 s0 f1=some res):Spec Tryz.prog 99 [.sl 1 (s0.map zK),.fn (.func ff1) af1 kf1] h (fun rr hh=>rr=.bool res∧hh=h):=by
 unfold x4 at hF
 refine yp Tryz.func99 rfl (by kernel_rfl) (env:=[.sl 1 (s0.map zK),.fn (.func ff1) af1 kf1,za,za,za,za,za,za,za]) (by rfl) (fun hlow hC=>?_)
 simp only [yj,AV.low,Bool.and_eq_true,Bool.true_and,and_true] at hlow
 have hlaf1:∀ n m,h.blks.length≤n→h.toks.length≤m→yj n m af1=true:=fun n m h1 h2=>yR h1 h2 _ (by simp [hlow])
 have hlkf1:∀ n m,h.blks.length≤n→h.toks.length≤m→yj n m kf1=true:=fun n m h1 h2=>yR h1 h2 _ (by simp [hlow])
 refine zk (zd ?_)
 refine zc rfl (zg rfl rfl (zb rfl)) yD ?_
 refine zf (zi (zk (zd ?_)))
 refine zc rfl (ze rfl yg (zb rfl)) xw ?_
 refine zc rfl (ze rfl yw (zb rfl)) xp ?_
 refine zS hF (fun v1 hv1 hF=>?_)
 refine zM rfl (zE rfl rfl rfl (zo yP (zo yS zy)) (.cons (zb rfl) (.cons (zb rfl) .nil))) (ok122 (fun x0 v L M hv=>by rw [vG];exact hf1 x0 v _ _ hv) hv1) xK ?_
 refine zc rfl (zu rfl xn rfl rfl) xH ?_
 refine zc rfl (zg rfl yV (zb rfl)) yD ?_
 refine zf (zi (zJ ?_))
 obtain rfl:=Option.some.inj hF
 refine zB rfl (zC yv zD) (zz (leV.refl _) rfl ?_)
 exact ⟨rfl,rfl⟩
/-! varve/paths.MayPattern -/
theorem ok60 {p0:(List zR)} {res:Bool} {h:AH}  (hF:vn p0=some res):Spec Tryz.prog 60 [.sl 1 (p0.map zK)] h (fun rr hh=>rr=.bool res∧hh=h):=by
 unfold vn at hF
 refine zt Tryz.func60 rfl (by kernel_rfl) (env:=[.sl 1 (p0.map zK),za,za,za,za,za,za,za,za,za,za,za,za,za,za,za,za,za,za,za,za,za,za,za,za,za,za,za]) (by rfl) ?_
 refine zk (zd ?_)
 refine zc rfl (zg rfl rfl (zb rfl)) yH ?_
 refine zf (zi (zk (zd ?_)))
 refine zc rfl (ze rfl yg (zb rfl)) xK ?_
 refine zS hF (fun v1 hv1 hF=>?_)
 refine zM rfl (zE rfl rfl rfl (zo xn zy) (.cons (zb rfl) .nil)) (ok97 hv1) xH ?_
 refine zc rfl (ze rfl yV (zb rfl)) xp ?_
 refine zc rfl (xe rfl yS rfl (zb rfl)) x8 ?_
 refine zc rfl (xe rfl yS rfl (zb rfl)) yq ?_
 refine zc rfl (zg rfl xl (zb rfl)) xS ?_
 refine zc rfl (zg rfl yi (zb rfl)) yD ?_
 refine zf (zi (zk (zd ?_)))
 refine zc rfl (zg rfl rfl (zb rfl)) xw ?_
 refine zf (zi (zk (zd ?_)))
 refine zc rfl (ze rfl yX (zb rfl)) yy ?_
 refine z7 rfl (zQ rfl rfl rfl rfl xc yl z0) yE fun hn2=>?_
 replace hn2:=xg hn2
 refine zc rfl (zu rfl yC rfl rfl) yG ?_
 refine zc rfl (ze rfl yr (zb rfl)) yN ?_
 refine zp rfl (fun hb=>ze rfl yv (zb rfl)) yO ?_
 refine zc rfl (zG rfl yM rfl yL (zZ (fun ht=>gF ht))) yT ?_
 refine zc rfl (ze rfl yQ (zb rfl)) yZ ?_
 refine zp rfl (fun hb=>ze rfl yX (zb rfl)) xd ?_
 refine xj rfl (fun hb=>zQ rfl rfl rfl rfl xc (zn xb hb) z0) xi fun hn3=>?_
 refine zp rfl (fun hb=>zu rfl (zn xh hb) rfl rfl) xA ?_
 refine zc rfl (zG rfl yY xz rfl (zN (fun ht=>gT ht))) xE ?_
 refine zc rfl (ze rfl xB (zb rfl)) xI ?_
 refine zp rfl (fun hb=>ze rfl yX (zb rfl)) xD ?_
 refine zp rfl (fun hb=>ze rfl yP (zb rfl)) xM ?_
 refine yn hF (fun v4 hv4 hF=>?_)
 refine z8 rfl (fun hb=>zE rfl rfl rfl (zo (zn xu hb) (zo (zn xN hb) zy)) (.cons (zb rfl) (.cons (zb rfl) .nil))) (fun hb=>ok99 (fun _ v L M hv=>ok98  hv) (hv4 hb)) wa ?_
 refine zp rfl (fun hb=>xV rfl (zn x9 hb) rfl) wi ?_
 refine zc rfl (zG rfl xF wh rfl (zN (fun ht=>gT ht))) wj ?_
 refine zc rfl (zg rfl wm (zb rfl)) yH ?_
 refine zf (zi (zJ ?_))
 obtain rfl:=Option.some.inj hF
 refine zB rfl (zC yz zD) (zz (leV.refl _) rfl ?_)
 exact ⟨rfl,rfl⟩
/-! varve/rights.mayOne -/
theorem ok33 {x0:GRule} {res:Bool} {h:AH}  (hF:rightsXmayOne x0=some res):Spec Tryz.prog 33 [.agg [.int .u8 x0.rep,.sl 1 (x0.path.map zK),.int .u8 x0.kinds,.bool x0.allow,.bool x0.read]] h (fun rr hh=>rr=.bool res∧hh=h):=by
 unfold rightsXmayOne at hF
 refine zt Tryz.func33 rfl (by kernel_rfl) (env:=[.agg [.int .u8 x0.rep,.sl 1 (x0.path.map zK),.int .u8 x0.kinds,.bool x0.allow,.bool x0.read],za,za,za,za,za,za,za,za,za,za,za,za,za,za,za,za,za,za,za,za,za]) (by rfl) ?_
 refine zk (zd ?_)
 refine zc rfl (xy (n:=0) rfl yg (zb rfl) rfl rfl) qI ?_
 refine zc rfl (zg rfl rfl (zb rfl)) yH ?_
 refine zf (zi (zk (zd ?_)))
 refine zc rfl (zj rfl qr yw rfl) xS ?_
 refine zc rfl (zw rfl vb yX rfl (zr rfl) (zb rfl)) yD ?_
 refine zc rfl (zu rfl yv rfl rfl) xw ?_
 refine zc rfl (ze rfl yP (zb rfl)) xp ?_
 refine zp rfl (fun hb=>zj rfl qr yw rfl) xK ?_
 refine zp rfl (fun hb=>zw rfl vb (zn xn hb) rfl (zr rfl) (zb rfl)) xH ?_
 refine zp rfl (fun hb=>zu rfl (zn yV hb) rfl rfl) x8 ?_
 refine zc rfl (zG rfl yS rfl xl (zZ (fun ht=>gF ht))) yq ?_
 refine zc rfl (ze rfl yi (zb rfl)) yy ?_
 refine zp rfl (fun hb=>zj rfl fo39x1 yw rfl) yE ?_
 refine zp rfl (fun hb=>zw rfl ty23 (zn yC hb) rfl (zr rfl) (zb rfl)) yG ?_
 refine yn hF (fun v1 hv1 hF=>?_)
 refine z8 rfl (fun hb=>zE rfl rfl rfl (zo (zn yr hb) zy) (.cons (zb rfl) .nil)) (fun hb=>ok60 (hv1 hb)) yN ?_
 refine zc rfl (zG rfl yl yM rfl (zN (fun ht=>gT ht))) yO ?_
 refine zc rfl (ze rfl yL (zb rfl)) yT ?_
 refine zp rfl (fun hb=>zj rfl fo39x2 yw rfl) yZ ?_
 refine zp rfl (fun hb=>zw rfl vb (zn yY hb) rfl (zr rfl) (zb rfl)) xd ?_
 refine zp rfl (fun hb=>zu rfl (zn xb hb) rfl rfl) xi ?_
 refine zp rfl (fun hb=>zu rfl (zn xh hb) rfl rfl) xA ?_
 refine zc rfl (zG rfl yQ xz rfl (zN (fun ht=>gT ht))) xE ?_
 refine zc rfl (zg rfl xB (zb rfl)) yH ?_
 refine zf (zi (zJ ?_))
 obtain rfl:=Option.some.inj hF
 refine zB rfl (zC yz zD) (zz (leV.refl _) rfl ?_)
 exact ⟨rfl,rfl⟩
/-! varve/rights.May 1 -/
theorem ok32 {x0:GRule} {res:Bool} {h:AH}  (hF:rightsMayC1 x0=some res):Spec Tryz.prog 32 [.agg [.int .u8 x0.rep,.sl 1 (x0.path.map zK),.int .u8 x0.kinds,.bool x0.allow,.bool x0.read]] h (fun rr hh=>rr=.bool res∧hh=h):=by
 unfold rightsMayC1 at hF
 refine zt Tryz.func32 rfl (by kernel_rfl) (env:=[.agg [.int .u8 x0.rep,.sl 1 (x0.path.map zK),.int .u8 x0.kinds,.bool x0.allow,.bool x0.read],za,za,za,za,za]) (by rfl) ?_
 refine zk (zd ?_)
 refine zc rfl (xy (n:=0) rfl yg (zb rfl) rfl rfl) qI ?_
 refine zc rfl (zg rfl rfl (zb rfl)) yH ?_
 refine zf (zi (zk (zd ?_)))
 refine zc rfl (zw rfl ty39.choose_spec.1 yw rfl (zL (cs':=[.int .u8 x0.rep,.sl 1 (x0.path.map zK),.int .u8 x0.kinds,.bool x0.allow,.bool x0.read]) ty39.choose_spec.2 rfl rfl) (zb rfl)) xS ?_
 refine zS hF (fun v1 hv1 hF=>?_)
 refine zM rfl (zE rfl rfl rfl (zo yX zy) (.cons (zb rfl) .nil)) (ok33 hv1) yD ?_
 refine zc rfl (xV rfl yv rfl) xw ?_
 refine zc rfl (zg rfl yP (zb rfl)) yH ?_
 refine zf (zi (zJ ?_))
 obtain rfl:=Option.some.inj hF
 refine zB rfl (zC yz zD) (zz (leV.refl _) rfl ?_)
 exact ⟨rfl,rfl⟩
/-! slices.IndexFunc[[]varve/api.Rule,varve/api.Rule] -/
theorem ok59 {s0:(List GRule)} {f1:(GRule→Option Bool)} {ff1:FuncId} {af1 kf1:List AV} {res:Int} {h:AH} (hf1:∀ x0 v (L:List Blk) (M:List Nat),f1 x0=some v→Spec Tryz.prog ff1 (af1++[.agg [.int .u8 x0.rep,.sl 1 (x0.path.map zK),.int .u8 x0.kinds,.bool x0.allow,.bool x0.read]]++kf1) (h.ext L M) (fun rr hh=>rr=.bool v∧hh=h.ext L M)) (hF:vV s0 f1=some res):Spec Tryz.prog 59 [.sl 5 (s0.map GRule.row),.fn (.func ff1) af1 kf1] h (fun rr hh=>rr=.int .i64 res∧hh=h):=by
 unfold vV at hF
 refine yp Tryz.func59 rfl (by kernel_rfl) (env:=[.sl 5 (s0.map GRule.row),.fn (.func ff1) af1 kf1,za,za,za,za,za,za,za,za,za,za,za,za,za,za,za,za,za]) (by rfl) (fun hlow hC=>?_)
 simp only [yj,AV.low,Bool.and_eq_true,Bool.true_and,and_true] at hlow
 have hlaf1:∀ n m,h.blks.length≤n→h.toks.length≤m→yj n m af1=true:=fun n m h1 h2=>yR h1 h2 _ (by simp [hlow])
 have hlkf1:∀ n m,h.blks.length≤n→h.toks.length≤m→yj n m kf1=true:=fun n m h1 h2=>yR h1 h2 _ (by simp [hlow])
 refine zk (zd ?_)
 refine zc rfl (zg rfl rfl (zb rfl)) yD ?_
 refine zf (zi (zk (zk (zd ?_))))
 refine zc rfl (ze rfl yg (zb rfl)) xp ?_
 refine z7 rfl (zQ rfl rfl rfl rfl el22 yS z0) xK fun hn1=>?_
 replace hn1:=xg hn1
 refine zc rfl (ze rfl rfl (zb rfl)) xH ?_
 refine zf (zi (zO ?_))
 refine ym (fun (n1:Nat) (s1:Unit)=>yB [2,3,4,5,6,9,10,11,12,13,14,15,16,17,18] [(8,.int .i64 (n1:Int))]) (fun s1=>h.ext [] []) hF (fun _ _=>by simp only [yB,qw,List.set_cons_succ,List.set_cons_zero];try rfl) (wk.le (by exact (.eq (.eq (.d4 (.drop (.eq (.cons (leV.of_eq rfl) (.d4 (.d4 (.drop (.drop leL.nil)))))))))))) ?_
 intro n1 s1 hi1 hF
 refine zk (zd ?_)
 refine zc rfl (zu rfl yV xn rfl) x8 ?_
 refine zf (zi (zk ?_))
 refine yJ xl hF (fun x1 o1 hl1 hx1 hF hK1=>?_) (fun hF=>?_)
 ·refine zI (zi (zk (zO (zk (zd ?_)))))
  refine zc rfl (ze rfl yV (zb rfl)) yq ?_
  refine zc rfl (zg rfl yi (zb rfl)) xw ?_
  refine zf (zi (zk (zd ?_)))
  refine zc rfl (ze rfl yw (zb rfl)) yy ?_
  refine zc rfl (ze rfl yg (zb rfl)) yE ?_
  refine zc rfl (ze rfl yP (zb rfl)) yG ?_
  refine zc rfl (yd rfl el22 yC yr wd (yA hx1)) yN ?_
  refine zc rfl (zY rfl ty39.choose_spec.1 yM (zL (cs':=[.int .u8 x1.rep,.sl 1 (x1.path.map zK),.int .u8 x1.kinds,.bool x1.allow,.bool x1.read]) ty39.choose_spec.2 rfl rfl) (zb rfl)) yO ?_
  refine zS hF (fun v7 hv7 hF=>?_)
  refine zM rfl (s_callC rfl rfl yl (zo yL zy) (.cons (zb rfl) .nil) rfl) (hf1 _ _ _ _ hv7) yT ?_
  refine zf (zi ?_)
  refine zH yQ hF (fun hc8 hF=>?_) (fun hc8 hF=>?_)
  ·refine zk (zd ?_)
   refine zc rfl (ze rfl yP (zb rfl)) yZ ?_
   refine zc rfl (zg rfl yY (zb rfl)) yD ?_
   refine zf (zi (zJ ?_))
   refine zF ?_
   refine zA ?_
   refine yf ?_
   obtain rfl:=Option.some.inj hF
   replace hF:=hK1
   refine zF ?_
   refine zA ?_
   obtain rfl:=Option.some.inj hF
   refine zB rfl (zC yv zD) (zz (leV.refl _) rfl ?_)
   exact ⟨rfl,rfl⟩
  ·refine zI (yb (zi (zd ?_)))
   refine zc rfl (zu rfl yV rfl rfl) xd ?_
   refine zc rfl (ze rfl xb (zb rfl)) xH ?_
   refine zf (yu ?_)
   obtain rfl:=Option.some.inj hF
   exact ⟨(),hl1,hK1,wk.le (by exact (.eq (.eq (.d4 (.drop (.eq (.cons (leV.of_eq (wx (by omega) (by omega))) (.d4 (.d4 (.drop (.drop leL.nil)))))))))))⟩
 ·refine yF ?_
  refine zX ?_
  refine zU ?_
  refine zV ?_
  refine zi (zk (zd ?_))
  refine zc rfl (zg rfl rfl (zb rfl)) yD ?_
  refine zf (zi (zJ ?_))
  obtain rfl:=Option.some.inj hF
  refine zB rfl (zC yv zD) (zz (leV.refl _) rfl ?_)
  exact ⟨rfl,rfl⟩
/-! slices.ContainsFunc[[]varve/api.Rule,varve/api.Rule] -/
theorem ok31 {s0:(List GRule)} {f1:(GRule→Option Bool)} {ff1:FuncId} {af1 kf1:List AV} {res:Bool} {h:AH} (hf1:∀ x0 v (L:List Blk) (M:List Nat),f1 x0=some v→Spec Tryz.prog ff1 (af1++[.agg [.int .u8 x0.rep,.sl 1 (x0.path.map zK),.int .u8 x0.kinds,.bool x0.allow,.bool x0.read]]++kf1) (h.ext L M) (fun rr hh=>rr=.bool v∧hh=h.ext L M)) (hF:xJ s0 f1=some res):Spec Tryz.prog 31 [.sl 5 (s0.map GRule.row),.fn (.func ff1) af1 kf1] h (fun rr hh=>rr=.bool res∧hh=h):=by
 unfold xJ at hF
 refine yp Tryz.func31 rfl (by kernel_rfl) (env:=[.sl 5 (s0.map GRule.row),.fn (.func ff1) af1 kf1,za,za,za,za,za,za,za]) (by rfl) (fun hlow hC=>?_)
 simp only [yj,AV.low,Bool.and_eq_true,Bool.true_and,and_true] at hlow
 have hlaf1:∀ n m,h.blks.length≤n→h.toks.length≤m→yj n m af1=true:=fun n m h1 h2=>yR h1 h2 _ (by simp [hlow])
 have hlkf1:∀ n m,h.blks.length≤n→h.toks.length≤m→yj n m kf1=true:=fun n m h1 h2=>yR h1 h2 _ (by simp [hlow])
 refine zk (zd ?_)
 refine zc rfl (zg rfl rfl (zb rfl)) yD ?_
 refine zf (zi (zk (zd ?_)))
 refine zc rfl (ze rfl yg (zb rfl)) xw ?_
 refine zc rfl (ze rfl yw (zb rfl)) xp ?_
 refine zS hF (fun v1 hv1 hF=>?_)
 refine zM rfl (zE rfl rfl rfl (zo yP (zo yS zy)) (.cons (zb rfl) (.cons (zb rfl) .nil))) (ok59 (fun x0 v L M hv=>by rw [vG];exact hf1 x0 v _ _ hv) hv1) xK ?_
 refine zc rfl (zu rfl xn rfl rfl) xH ?_
 refine zc rfl (zg rfl yV (zb rfl)) yD ?_
 refine zf (zi (zJ ?_))
 obtain rfl:=Option.some.inj hF
 refine zB rfl (zC yv zD) (zz (leV.refl _) rfl ?_)
 exact ⟨rfl,rfl⟩
/-! varve/rights.May -/
theorem ok10 {l0:(List GRule)} {res:Bool} {h:AH}  (hF:vK l0=some res):Spec Tryz.prog 10 [.sl 5 (l0.map GRule.row)] h (fun rr hh=>rr=.bool res∧hh=h):=by
 unfold vK at hF
 refine zt Tryz.func10 rfl (by kernel_rfl) (env:=[.sl 5 (l0.map GRule.row),za,za,za,za,za,za,za,za,za,za]) (by rfl) ?_
 refine zk (zd ?_)
 refine zc rfl (zg rfl rfl (zb rfl)) yH ?_
 refine zf (zi (zk (zd ?_)))
 refine zc rfl (ze rfl yg (zb rfl)) xS ?_
 refine z7 rfl (zQ rfl rfl rfl rfl el22 yX z0) yD fun hn1=>?_
 replace hn1:=xg hn1
 refine zc rfl (zu rfl yv rfl rfl) xw ?_
 refine zc rfl (ze rfl yP (zb rfl)) xp ?_
 refine zp rfl (fun hb=>ze rfl yg (zb rfl)) xK ?_
 refine yn hF (fun v2 hv2 hF=>?_)
 refine z8 rfl (fun hb=>zE rfl rfl rfl (zo (zn xn hb) (zo rfl zy)) (.cons (zb rfl) (.cons (zb rfl) .nil))) (fun hb=>ok31 (fun _ v L M hv=>ok32  hv) (hv2 hb)) xH ?_
 refine zp rfl (fun hb=>xV rfl (zn yV hb) rfl) x8 ?_
 refine zc rfl (zG rfl yS xl rfl (zN (fun ht=>gT ht))) yq ?_
 refine zc rfl (zg rfl yi (zb rfl)) yH ?_
 refine zf (zi (zJ ?_))
 obtain rfl:=Option.some.inj hF
 refine zB rfl (zC yz zD) (zz (leV.refl _) rfl ?_)
 exact ⟨rfl,rfl⟩
/-! varve/op.adds -/
theorem ok100 {o0:GOp} {res:Bool} {h:AH}  (hF:opXadds o0=some res):Spec Tryz.prog 100 [.agg [.int .u8 o0.kind,.sl 1 (o0.path.map zK),.int .i64 o0.n,.str o0.text,.sl 3 (o0.dots.map GDot.row)]] h (fun rr hh=>rr=.bool res∧hh=h):=by
 unfold opXadds at hF
 refine zt Tryz.func100 rfl (by kernel_rfl) (env:=[.agg [.int .u8 o0.kind,.sl 1 (o0.path.map zK),.int .i64 o0.n,.str o0.text,.sl 3 (o0.dots.map GDot.row)],za,za,za,za,za,za,za,za,za,za,za,za,za,za,za,za,za,za,za,za,za]) (by rfl) ?_
 refine zk (zd ?_)
 refine zc rfl (xy (n:=0) rfl yg (zb rfl) rfl rfl) qI ?_
 refine zc rfl (zg rfl rfl (zb rfl)) yH ?_
 refine zf (zi (zk (zd ?_)))
 refine zc rfl (zj rfl fo26x2 yw rfl) xS ?_
 refine zc rfl (zw rfl ty2 yX rfl (zr rfl) (zb rfl)) yD ?_
 refine zc rfl (zu rfl yv rfl rfl) xw ?_
 refine zc rfl (ze rfl yP (zb rfl)) xp ?_
 refine zp rfl (fun hb=>zj rfl fo26x2 yw rfl) xK ?_
 refine zp rfl (fun hb=>zw rfl ty2 (zn xn hb) rfl (zr rfl) (zb rfl)) xH ?_
 refine zp rfl (fun hb=>zu rfl (zn yV hb) rfl rfl) x8 ?_
 refine zc rfl (zG rfl yS xl rfl (zN (fun ht=>gT ht))) yq ?_
 refine zc rfl (ze rfl yi (zb rfl)) yy ?_
 refine zp rfl (fun hb=>zj rfl fo26x3 yw rfl) yE ?_
 refine zp rfl (fun hb=>zw rfl vt (zn yC hb) rfl (zr rfl) (zb rfl)) yG ?_
 refine zp rfl (fun hb=>zu rfl (zn yr hb) rfl rfl) yN ?_
 refine zc rfl (zG rfl yl yM rfl (zN (fun ht=>gT ht))) yO ?_
 refine zc rfl (ze rfl yL (zb rfl)) yT ?_
 refine zp rfl (fun hb=>zj rfl fo26x4 yw rfl) yZ ?_
 refine zp rfl (fun hb=>zw rfl qL (zn yY hb) rfl (zr rfl) (zb rfl)) xd ?_
 refine xj rfl (fun hb=>zQ rfl rfl rfl rfl qf (zn xb hb) z0) xi fun hn1=>?_
 refine zp rfl (fun hb=>zu rfl (zn xh hb) rfl rfl) xA ?_
 refine zc rfl (zG rfl yQ xz rfl (zN (fun ht=>gT ht))) xE ?_
 refine zc rfl (zg rfl xB (zb rfl)) yH ?_
 refine zf (zi (zJ ?_))
 obtain rfl:=Option.some.inj hF
 refine zB rfl (zC yz zD) (zz (leV.refl _) rfl ?_)
 exact ⟨rfl,rfl⟩
/-! varve/op.plain -/
theorem ok101 {o0:GOp} {res:Bool} {h:AH}  (hF:opXplain o0=some res):Spec Tryz.prog 101 [.agg [.int .u8 o0.kind,.sl 1 (o0.path.map zK),.int .i64 o0.n,.str o0.text,.sl 3 (o0.dots.map GDot.row)]] h (fun rr hh=>rr=.bool res∧hh=h):=by
 unfold opXplain at hF
 refine zt Tryz.func101 rfl (by kernel_rfl) (env:=[.agg [.int .u8 o0.kind,.sl 1 (o0.path.map zK),.int .i64 o0.n,.str o0.text,.sl 3 (o0.dots.map GDot.row)],za,za,za,za,za,za,za,za,za,za,za,za,za,za,za,za,za]) (by rfl) ?_
 refine zk (zd ?_)
 refine zc rfl (xy (n:=0) rfl yg (zb rfl) rfl rfl) qI ?_
 refine zc rfl (zg rfl rfl (zb rfl)) yH ?_
 refine zf (zi (zk (zd ?_)))
 refine zc rfl (zj rfl fo26x2 yw rfl) xS ?_
 refine zc rfl (zw rfl ty2 yX rfl (zr rfl) (zb rfl)) yD ?_
 refine zc rfl (zu rfl yv rfl rfl) xw ?_
 refine zc rfl (ze rfl yP (zb rfl)) xp ?_
 refine zp rfl (fun hb=>zj rfl fo26x3 yw rfl) xK ?_
 refine zp rfl (fun hb=>zw rfl vt (zn xn hb) rfl (zr rfl) (zb rfl)) xH ?_
 refine xj rfl (fun hb=>vq rfl rfl rfl rfl vt (zn yV hb)) x8 fun hn1=>?_
 refine zp rfl (fun hb=>zu rfl (zn xl hb) rfl rfl) yq ?_
 refine zc rfl (zG rfl yS yi rfl (zN (fun ht=>gT ht))) yy ?_
 refine zc rfl (ze rfl yl (zb rfl)) yE ?_
 refine zp rfl (fun hb=>zj rfl fo26x4 yw rfl) yG ?_
 refine zp rfl (fun hb=>zw rfl qL (zn yr hb) rfl (zr rfl) (zb rfl)) yN ?_
 refine xj rfl (fun hb=>zQ rfl rfl rfl rfl qf (zn yM hb) z0) yO fun hn2=>?_
 refine zp rfl (fun hb=>zu rfl (zn yL hb) rfl rfl) yT ?_
 refine zc rfl (zG rfl yC yQ rfl (zN (fun ht=>gT ht))) yZ ?_
 refine zc rfl (zg rfl yY (zb rfl)) yH ?_
 refine zf (zi (zJ ?_))
 obtain rfl:=Option.some.inj hF
 refine zB rfl (zC yz zD) (zz (leV.refl _) rfl ?_)
 exact ⟨rfl,rfl⟩
/-! cmp.isNaN[uint32] -/
theorem ok157 {x0:Int} {res:Bool} {h:AH}  (hF:qH x0=some res):Spec Tryz.prog 157 [.int .u32 x0] h (fun rr hh=>rr=.bool res∧hh=h):=by
 unfold qH at hF
 refine zt Tryz.func157 rfl (by kernel_rfl) (env:=[.int .u32 x0,za,za,za,za,za]) (by rfl) ?_
 refine zk (zd ?_)
 refine zc rfl (zg rfl rfl (zb rfl)) yH ?_
 refine zf (zi (zk (zd ?_)))
 refine zc rfl (ze rfl yg (zb rfl)) xS ?_
 refine zc rfl (ze rfl yg (zb rfl)) yD ?_
 refine zc rfl (zu rfl yX yv rfl) xw ?_
 refine zc rfl (zg rfl yP (zb rfl)) yH ?_
 refine zf (zi (zJ ?_))
 obtain rfl:=Option.some.inj hF
 refine zB rfl (zC yz zD) (zz (leV.refl _) rfl ?_)
 exact ⟨rfl,rfl⟩
/-! cmp.Compare[uint32] -/
theorem ok153 {x0:Int} {y1:Int} {res:Int} {h:AH}  (hF:qh x0 y1=some res):Spec Tryz.prog 153 [.int .u32 x0,.int .u32 y1] h (fun rr hh=>rr=.int .i64 res∧hh=h):=by
 unfold qh at hF
 refine zt Tryz.func153 rfl (by kernel_rfl) (env:=[.int .u32 x0,.int .u32 y1,za,za,za,za,za,za,za,za,za,za,za,za,za,za,za,za,za,za]) (by rfl) ?_
 refine zk (zd ?_)
 refine zc rfl (zg rfl rfl (zb rfl)) yD ?_
 refine zf (zi (zk (zd ?_)))
 refine zc rfl (ze rfl yg (zb rfl)) xK ?_
 refine zS hF (fun v1 hv1 hF=>?_)
 refine zM rfl (zE rfl rfl rfl (zo xn zy) (.cons (zb rfl) .nil)) (ok157 hv1) xH ?_
 refine zc rfl (zg rfl yV (zb rfl)) xw ?_
 refine zf (zi (zk (zd ?_)))
 refine zc rfl (ze rfl yw (zb rfl)) x8 ?_
 refine zS hF (fun v2 hv2 hF=>?_)
 refine zM rfl (zE rfl rfl rfl (zo xl zy) (.cons (zb rfl) .nil)) (ok157 hv2) yq ?_
 refine zc rfl (zg rfl yi (zb rfl)) xp ?_
 refine zf (zi (zk (zk (zd ?_))))
 refine zc rfl (ze rfl yP (zb rfl)) yy ?_
 refine zf (zi ?_)
 refine zH yl hF (fun hc3 hF=>?_) (fun hc3 hF=>?_)
 ·refine zk (zk (zd ?_))
  refine zc rfl (ze rfl yS (zb rfl)) yE ?_
  refine zf (zi ?_)
  refine zH yC hF (fun hc4 hF=>?_) (fun hc4 hF=>?_)
  ·refine zk (zd ?_)
   refine zc rfl (zg rfl rfl (zb rfl)) yD ?_
   refine zf (zi (zJ (zA (zA ?_))))
   obtain rfl:=Option.some.inj hF
   refine zB rfl (zC yv zD) (zz (leV.refl _) rfl ?_)
   exact ⟨rfl,rfl⟩
  ·refine zI (zi (zk (zd ?_)))
   refine zc rfl (zg rfl rfl (zb rfl)) yD ?_
   refine zf (zi (zJ (zA ?_)))
   obtain rfl:=Option.some.inj hF
   refine zB rfl (zC yv zD) (zz (leV.refl _) rfl ?_)
   exact ⟨rfl,rfl⟩
 ·refine zI (zi (zk (zk (zd ?_))))
  refine zc rfl (ze rfl yS (zb rfl)) yG ?_
  refine zf (zi ?_)
  refine zH yr hF (fun hc5 hF=>?_) (fun hc5 hF=>?_)
  ·refine zk (zd ?_)
   refine zc rfl (zg rfl rfl (zb rfl)) yD ?_
   refine zf (zi (zJ (zA ?_)))
   obtain rfl:=Option.some.inj hF
   refine zB rfl (zC yv zD) (zz (leV.refl _) rfl ?_)
   exact ⟨rfl,rfl⟩
  ·refine zI (zi (zk (zk (zd ?_))))
   refine zc rfl (ze rfl yg (zb rfl)) yN ?_
   refine zc rfl (ze rfl yw (zb rfl)) yO ?_
   refine zc rfl (zu rfl yM yL rfl) yT ?_
   refine zf (zi ?_)
   refine zH yQ hF (fun hc6 hF=>?_) (fun hc6 hF=>?_)
   ·refine zk (zd ?_)
    refine zc rfl (zg rfl rfl (zb rfl)) yD ?_
    refine zf (zi (zJ (zA ?_)))
    obtain rfl:=Option.some.inj hF
    refine zB rfl (zC yv zD) (zz (leV.refl _) rfl ?_)
    exact ⟨rfl,rfl⟩
   ·refine zI (zi (zk (zk (zd ?_))))
    refine zc rfl (ze rfl yg (zb rfl)) yZ ?_
    refine zc rfl (ze rfl yw (zb rfl)) xd ?_
    refine zc rfl (zu rfl yY xb rfl) xi ?_
    refine zf (zi ?_)
    refine zH xh hF (fun hc7 hF=>?_) (fun hc7 hF=>?_)
    ·refine zk (zd ?_)
     refine zc rfl (zg rfl rfl (zb rfl)) yD ?_
     refine zf (zi (zJ (zA ?_)))
     obtain rfl:=Option.some.inj hF
     refine zB rfl (zC yv zD) (zz (leV.refl _) rfl ?_)
     exact ⟨rfl,rfl⟩
    ·refine zI (zi (zk (zd ?_)))
     refine zc rfl (zg rfl rfl (zb rfl)) yD ?_
     refine zf (zi (zJ ?_))
     obtain rfl:=Option.some.inj hF
     refine zB rfl (zC yv zD) (zz (leV.refl _) rfl ?_)
     exact ⟨rfl,rfl⟩
/-! cmp.isNaN[uint8] -/
theorem ok118 {x0:Int} {res:Bool} {h:AH}  (hF:qg x0=some res):Spec Tryz.prog 118 [.int .u8 x0] h (fun rr hh=>rr=.bool res∧hh=h):=by
 unfold qg at hF
 refine zt Tryz.func118 rfl (by kernel_rfl) (env:=[.int .u8 x0,za,za,za,za,za]) (by rfl) ?_
 refine zk (zd ?_)
 refine zc rfl (zg rfl rfl (zb rfl)) yH ?_
 refine zf (zi (zk (zd ?_)))
 refine zc rfl (ze rfl yg (zb rfl)) xS ?_
 refine zc rfl (ze rfl yg (zb rfl)) yD ?_
 refine zc rfl (zu rfl yX yv rfl) xw ?_
 refine zc rfl (zg rfl yP (zb rfl)) yH ?_
 refine zf (zi (zJ ?_))
 obtain rfl:=Option.some.inj hF
 refine zB rfl (zC yz zD) (zz (leV.refl _) rfl ?_)
 exact ⟨rfl,rfl⟩
/-! cmp.Compare[uint8] -/
theorem ok93 {x0:Int} {y1:Int} {res:Int} {h:AH}  (hF:wt x0 y1=some res):Spec Tryz.prog 93 [.int .u8 x0,.int .u8 y1] h (fun rr hh=>rr=.int .i64 res∧hh=h):=by
 unfold wt at hF
 refine zt Tryz.func93 rfl (by kernel_rfl) (env:=[.int .u8 x0,.int .u8 y1,za,za,za,za,za,za,za,za,za,za,za,za,za,za,za,za,za,za]) (by rfl) ?_
 refine zk (zd ?_)
 refine zc rfl (zg rfl rfl (zb rfl)) yD ?_
 refine zf (zi (zk (zd ?_)))
 refine zc rfl (ze rfl yg (zb rfl)) xK ?_
 refine zS hF (fun v1 hv1 hF=>?_)
 refine zM rfl (zE rfl rfl rfl (zo xn zy) (.cons (zb rfl) .nil)) (ok118 hv1) xH ?_
 refine zc rfl (zg rfl yV (zb rfl)) xw ?_
 refine zf (zi (zk (zd ?_)))
 refine zc rfl (ze rfl yw (zb rfl)) x8 ?_
 refine zS hF (fun v2 hv2 hF=>?_)
 refine zM rfl (zE rfl rfl rfl (zo xl zy) (.cons (zb rfl) .nil)) (ok118 hv2) yq ?_
 refine zc rfl (zg rfl yi (zb rfl)) xp ?_
 refine zf (zi (zk (zk (zd ?_))))
 refine zc rfl (ze rfl yP (zb rfl)) yy ?_
 refine zf (zi ?_)
 refine zH yl hF (fun hc3 hF=>?_) (fun hc3 hF=>?_)
 ·refine zk (zk (zd ?_))
  refine zc rfl (ze rfl yS (zb rfl)) yE ?_
  refine zf (zi ?_)
  refine zH yC hF (fun hc4 hF=>?_) (fun hc4 hF=>?_)
  ·refine zk (zd ?_)
   refine zc rfl (zg rfl rfl (zb rfl)) yD ?_
   refine zf (zi (zJ (zA (zA ?_))))
   obtain rfl:=Option.some.inj hF
   refine zB rfl (zC yv zD) (zz (leV.refl _) rfl ?_)
   exact ⟨rfl,rfl⟩
  ·refine zI (zi (zk (zd ?_)))
   refine zc rfl (zg rfl rfl (zb rfl)) yD ?_
   refine zf (zi (zJ (zA ?_)))
   obtain rfl:=Option.some.inj hF
   refine zB rfl (zC yv zD) (zz (leV.refl _) rfl ?_)
   exact ⟨rfl,rfl⟩
 ·refine zI (zi (zk (zk (zd ?_))))
  refine zc rfl (ze rfl yS (zb rfl)) yG ?_
  refine zf (zi ?_)
  refine zH yr hF (fun hc5 hF=>?_) (fun hc5 hF=>?_)
  ·refine zk (zd ?_)
   refine zc rfl (zg rfl rfl (zb rfl)) yD ?_
   refine zf (zi (zJ (zA ?_)))
   obtain rfl:=Option.some.inj hF
   refine zB rfl (zC yv zD) (zz (leV.refl _) rfl ?_)
   exact ⟨rfl,rfl⟩
  ·refine zI (zi (zk (zk (zd ?_))))
   refine zc rfl (ze rfl yg (zb rfl)) yN ?_
   refine zc rfl (ze rfl yw (zb rfl)) yO ?_
   refine zc rfl (zu rfl yM yL rfl) yT ?_
   refine zf (zi ?_)
   refine zH yQ hF (fun hc6 hF=>?_) (fun hc6 hF=>?_)
   ·refine zk (zd ?_)
    refine zc rfl (zg rfl rfl (zb rfl)) yD ?_
    refine zf (zi (zJ (zA ?_)))
    obtain rfl:=Option.some.inj hF
    refine zB rfl (zC yv zD) (zz (leV.refl _) rfl ?_)
    exact ⟨rfl,rfl⟩
   ·refine zI (zi (zk (zk (zd ?_))))
    refine zc rfl (ze rfl yg (zb rfl)) yZ ?_
    refine zc rfl (ze rfl yw (zb rfl)) xd ?_
    refine zc rfl (zu rfl yY xb rfl) xi ?_
    refine zf (zi ?_)
    refine zH xh hF (fun hc7 hF=>?_) (fun hc7 hF=>?_)
    ·refine zk (zd ?_)
     refine zc rfl (zg rfl rfl (zb rfl)) yD ?_
     refine zf (zi (zJ (zA ?_)))
     obtain rfl:=Option.some.inj hF
     refine zB rfl (zC yv zD) (zz (leV.refl _) rfl ?_)
     exact ⟨rfl,rfl⟩
    ·refine zI (zi (zk (zd ?_)))
     refine zc rfl (zg rfl rfl (zb rfl)) yD ?_
     refine zf (zi (zJ ?_))
     obtain rfl:=Option.some.inj hF
     refine zB rfl (zC yv zD) (zz (leV.refl _) rfl ?_)
     exact ⟨rfl,rfl⟩
/-! cmp.Or[int] -/
theorem ok111 {vals0:(List Int)} {res:Int} {h:AH}  (hF:cmpOrInt vals0=some res):Spec Tryz.prog 111 [.sl 1 (vals0.map (q7 .i64))] h (fun rr hh=>rr=.int .i64 res∧hh=h):=by
 unfold cmpOrInt at hF
 refine zt Tryz.func111 rfl (by kernel_rfl) (env:=[.sl 1 (vals0.map (q7 .i64)),za,za,za,za,za,za,za,za,za,za,za,za,za,za,za,za,za]) (by rfl) ?_
 refine zk (zd ?_)
 refine zc rfl (zg rfl rfl (zb rfl)) yH ?_
 refine zf (zi (zk (zd ?_)))
 refine zc rfl (zg rfl rfl (zb rfl)) xS ?_
 refine zf (zi (zk (zk (zd ?_))))
 refine zc rfl (ze rfl yg (zb rfl)) xp ?_
 refine z7 rfl (zQ rfl rfl rfl rfl el43 yS z0) xK fun hn1=>?_
 replace hn1:=xg hn1
 refine zc rfl (ze rfl rfl (zb rfl)) xH ?_
 refine zf (zi (zO ?_))
 refine ym (fun (n1:Nat) (s1:Unit)=>yB [0,1,2,4,5,9,10,11,12,13,14,15,16,17] [(8,.int .i64 (n1:Int))]) (fun s1=>h.ext [] []) hF (fun _ _=>by simp only [yB,qw,List.set_cons_succ,List.set_cons_zero];try rfl) (wk.le (by exact (.drop (.drop (.drop (.eq (.drop (.drop (.eq (.eq (.cons (leV.of_eq rfl) (.d4 (.d4 (.drop leL.nil)))))))))))))) ?_
 intro n1 s1 hi1 hF
 refine zk (zd ?_)
 refine zc rfl (zu rfl yV xn rfl) x8 ?_
 refine zf (zi (zk ?_))
 refine yJ xl hF (fun x1 o1 hl1 hx1 hF hK1=>?_) (fun hF=>?_)
 ·refine zI (zi (zk (zO (zk (zd ?_)))))
  refine zc rfl (yd rfl el43 yS yV wd (yA hx1)) yq ?_
  refine zc rfl (zY rfl ty3 yi (zr rfl) (zb rfl)) yy ?_
  refine zc rfl (zg rfl yl (zb rfl)) xw ?_
  refine zf (zi (zk (zd ?_)))
  refine zc rfl (ze rfl yP (zb rfl)) yE ?_
  refine zc rfl (ze rfl yX (zb rfl)) yG ?_
  refine zc rfl (zu rfl yC yr rfl) yN ?_
  refine zf (zi ?_)
  refine zH yM hF (fun hc6 hF=>?_) (fun hc6 hF=>?_)
  ·refine zk (zd ?_)
   refine zc rfl (ze rfl yP (zb rfl)) yO ?_
   refine zc rfl (zg rfl yL (zb rfl)) yH ?_
   refine zf (zi (zJ ?_))
   refine zF ?_
   refine zA ?_
   refine yf ?_
   obtain rfl:=Option.some.inj hF
   replace hF:=hK1
   refine zF ?_
   refine zA ?_
   obtain rfl:=Option.some.inj hF
   refine zB rfl (zC yz zD) (zz (leV.refl _) rfl ?_)
   exact ⟨rfl,rfl⟩
  ·refine zI (yb (zi (zd ?_)))
   refine zc rfl (zu rfl yV rfl rfl) yT ?_
   refine zc rfl (ze rfl yQ (zb rfl)) xH ?_
   refine zf (yu ?_)
   obtain rfl:=Option.some.inj hF
   exact ⟨(),hl1,hK1,wk.le (by exact (.drop (.drop (.drop (.eq (.drop (.drop (.eq (.eq (.cons (leV.of_eq (wx (by omega) (by omega))) (.d4 (.d4 (.drop leL.nil)))))))))))))⟩
 ·refine yF ?_
  refine zX ?_
  refine zU ?_
  refine zV ?_
  refine zi (zk (zd ?_))
  refine zc rfl (ze rfl yX (zb rfl)) yZ ?_
  refine zc rfl (zg rfl yY (zb rfl)) yH ?_
  refine zf (zi (zJ ?_))
  obtain rfl:=Option.some.inj hF
  refine zB rfl (zC yz zD) (zz (leV.refl _) rfl ?_)
  exact ⟨rfl,rfl⟩
/-! varve/dot.compare -/
theorem ok141 {a0:GActor} {b1:GActor} {res:Int} {h:AH}  (hF:dotXcompare a0 b1=some res):Spec Tryz.prog 141 [.agg [.int .u8 a0.rep,.int .u32 a0.inc],.agg [.int .u8 b1.rep,.int .u32 b1.inc]] h (fun rr hh=>rr=.int .i64 res∧hh=h):=by
 unfold dotXcompare at hF
 refine zt Tryz.func141 rfl (by kernel_rfl) (env:=[.agg [.int .u8 a0.rep,.int .u32 a0.inc],.agg [.int .u8 b1.rep,.int .u32 b1.inc],za,za,za,za,za,za,za,za,za,za,za,za,za,za,za]) (by rfl) ?_
 refine zk (zd ?_)
 refine zc rfl (xy (n:=0) rfl yg (zb rfl) rfl rfl) yH ?_
 refine zc rfl (xy (n:=1) rfl yw (zb rfl) rfl rfl) xS ?_
 refine zc rfl (zg rfl rfl (zb rfl)) yD ?_
 refine zf (zi (zk ?_))
 refine yI [4,9,11] [] trivial mixed (by kernel_rfl) ?_
 refine zq rfl rfl (zj rfl fo53x0 yz rfl) xw ?_
 refine zq rfl rfl (zw rfl vb yP rfl (zr rfl) (zb rfl)) xp ?_
 refine zq rfl rfl (zj rfl fo53x0 yX rfl) xK ?_
 refine zq rfl rfl (zw rfl vb xn rfl (zr rfl) (zb rfl)) xH ?_
 refine zS hF (fun v1 hv1 hF=>?_)
 refine yW rfl rfl (fun _=>zE rfl rfl rfl (zo yS (zo yV zy)) (.cons (zb rfl) (.cons (zb rfl) .nil))) (by rintro _ ⟨B2,T2,rfl,hk2⟩;exact ok93 hv1) x8 ?_
 refine zq rfl rfl (zj rfl fo53x1 yz rfl) yq ?_
 refine zq rfl rfl (zw rfl ty51 yi rfl (zr rfl) (zb rfl)) yy ?_
 refine zq rfl rfl (zj rfl fo53x1 yX rfl) yE ?_
 refine zq rfl rfl (zw rfl ty51 yC rfl (zr rfl) (zb rfl)) yG ?_
 refine zS hF (fun v2 hv2 hF=>?_)
 refine yW rfl rfl (fun _=>zE rfl rfl rfl (zo yl (zo yr zy)) (.cons (zb rfl) (.cons (zb rfl) .nil))) (by rintro _ ⟨B2,T2,rfl,hk2⟩;exact ok153 hv2) yN ?_
 refine zq rfl rfl (yh (es:=([v1,v2]:List Int).map (q7 .i64)) rfl el43 ze3 rfl rfl (zT xl (zT yM ye)) (.cons (zb rfl) (.cons (zb rfl) .nil)) rfl rfl rfl) yO ?_
 refine zS hF (fun v3 hv3 hF=>?_)
 refine yW rfl rfl (fun _=>zE rfl rfl rfl (zo yL zy) (.cons (zb rfl) .nil)) (by rintro _ ⟨B2,T2,rfl,hk2⟩;exact (ok111 hv3).le (.cons (leV.osl _ _ _) leL.nil)) yT ?_
 refine zq rfl rfl (zg rfl yQ (zb rfl)) yD ?_
 refine yo ?_
 refine zi (zJ ?_)
 obtain rfl:=Option.some.inj hF
 refine zB rfl (zC yv zD) (zz (leV.refl _) rfl ?_)
 exact ⟨rfl,rfl⟩
/-! cmp.isNaN[uint64] -/
theorem ok154 {x0:Int} {res:Bool} {h:AH}  (hF:qG x0=some res):Spec Tryz.prog 154 [.int .u64 x0] h (fun rr hh=>rr=.bool res∧hh=h):=by
 unfold qG at hF
 refine zt Tryz.func154 rfl (by kernel_rfl) (env:=[.int .u64 x0,za,za,za,za,za]) (by rfl) ?_
 refine zk (zd ?_)
 refine zc rfl (zg rfl rfl (zb rfl)) yH ?_
 refine zf (zi (zk (zd ?_)))
 refine zc rfl (ze rfl yg (zb rfl)) xS ?_
 refine zc rfl (ze rfl yg (zb rfl)) yD ?_
 refine zc rfl (zu rfl yX yv rfl) xw ?_
 refine zc rfl (zg rfl yP (zb rfl)) yH ?_
 refine zf (zi (zJ ?_))
 obtain rfl:=Option.some.inj hF
 refine zB rfl (zC yz zD) (zz (leV.refl _) rfl ?_)
 exact ⟨rfl,rfl⟩
/-! cmp.Compare[uint64] -/
theorem ok142 {x0:Int} {y1:Int} {res:Int} {h:AH}  (hF:vC x0 y1=some res):Spec Tryz.prog 142 [.int .u64 x0,.int .u64 y1] h (fun rr hh=>rr=.int .i64 res∧hh=h):=by
 unfold vC at hF
 refine zt Tryz.func142 rfl (by kernel_rfl) (env:=[.int .u64 x0,.int .u64 y1,za,za,za,za,za,za,za,za,za,za,za,za,za,za,za,za,za,za]) (by rfl) ?_
 refine zk (zd ?_)
 refine zc rfl (zg rfl rfl (zb rfl)) yD ?_
 refine zf (zi (zk (zd ?_)))
 refine zc rfl (ze rfl yg (zb rfl)) xK ?_
 refine zS hF (fun v1 hv1 hF=>?_)
 refine zM rfl (zE rfl rfl rfl (zo xn zy) (.cons (zb rfl) .nil)) (ok154 hv1) xH ?_
 refine zc rfl (zg rfl yV (zb rfl)) xw ?_
 refine zf (zi (zk (zd ?_)))
 refine zc rfl (ze rfl yw (zb rfl)) x8 ?_
 refine zS hF (fun v2 hv2 hF=>?_)
 refine zM rfl (zE rfl rfl rfl (zo xl zy) (.cons (zb rfl) .nil)) (ok154 hv2) yq ?_
 refine zc rfl (zg rfl yi (zb rfl)) xp ?_
 refine zf (zi (zk (zk (zd ?_))))
 refine zc rfl (ze rfl yP (zb rfl)) yy ?_
 refine zf (zi ?_)
 refine zH yl hF (fun hc3 hF=>?_) (fun hc3 hF=>?_)
 ·refine zk (zk (zd ?_))
  refine zc rfl (ze rfl yS (zb rfl)) yE ?_
  refine zf (zi ?_)
  refine zH yC hF (fun hc4 hF=>?_) (fun hc4 hF=>?_)
  ·refine zk (zd ?_)
   refine zc rfl (zg rfl rfl (zb rfl)) yD ?_
   refine zf (zi (zJ (zA (zA ?_))))
   obtain rfl:=Option.some.inj hF
   refine zB rfl (zC yv zD) (zz (leV.refl _) rfl ?_)
   exact ⟨rfl,rfl⟩
  ·refine zI (zi (zk (zd ?_)))
   refine zc rfl (zg rfl rfl (zb rfl)) yD ?_
   refine zf (zi (zJ (zA ?_)))
   obtain rfl:=Option.some.inj hF
   refine zB rfl (zC yv zD) (zz (leV.refl _) rfl ?_)
   exact ⟨rfl,rfl⟩
 ·refine zI (zi (zk (zk (zd ?_))))
  refine zc rfl (ze rfl yS (zb rfl)) yG ?_
  refine zf (zi ?_)
  refine zH yr hF (fun hc5 hF=>?_) (fun hc5 hF=>?_)
  ·refine zk (zd ?_)
   refine zc rfl (zg rfl rfl (zb rfl)) yD ?_
   refine zf (zi (zJ (zA ?_)))
   obtain rfl:=Option.some.inj hF
   refine zB rfl (zC yv zD) (zz (leV.refl _) rfl ?_)
   exact ⟨rfl,rfl⟩
  ·refine zI (zi (zk (zk (zd ?_))))
   refine zc rfl (ze rfl yg (zb rfl)) yN ?_
   refine zc rfl (ze rfl yw (zb rfl)) yO ?_
   refine zc rfl (zu rfl yM yL rfl) yT ?_
   refine zf (zi ?_)
   refine zH yQ hF (fun hc6 hF=>?_) (fun hc6 hF=>?_)
   ·refine zk (zd ?_)
    refine zc rfl (zg rfl rfl (zb rfl)) yD ?_
    refine zf (zi (zJ (zA ?_)))
    obtain rfl:=Option.some.inj hF
    refine zB rfl (zC yv zD) (zz (leV.refl _) rfl ?_)
    exact ⟨rfl,rfl⟩
   ·refine zI (zi (zk (zk (zd ?_))))
    refine zc rfl (ze rfl yg (zb rfl)) yZ ?_
    refine zc rfl (ze rfl yw (zb rfl)) xd ?_
    refine zc rfl (zu rfl yY xb rfl) xi ?_
    refine zf (zi ?_)
    refine zH xh hF (fun hc7 hF=>?_) (fun hc7 hF=>?_)
    ·refine zk (zd ?_)
     refine zc rfl (zg rfl rfl (zb rfl)) yD ?_
     refine zf (zi (zJ (zA ?_)))
     obtain rfl:=Option.some.inj hF
     refine zB rfl (zC yv zD) (zz (leV.refl _) rfl ?_)
     exact ⟨rfl,rfl⟩
    ·refine zI (zi (zk (zd ?_)))
     refine zc rfl (zg rfl rfl (zb rfl)) yD ?_
     refine zf (zi (zJ ?_))
     obtain rfl:=Option.some.inj hF
     refine zB rfl (zC yv zD) (zz (leV.refl _) rfl ?_)
     exact ⟨rfl,rfl⟩
/-! varve/dot.Compare -/
theorem ok123 {a0:GDot} {b1:GDot} {res:Int} {h:AH}  (hF:dotCompare a0 b1=some res):Spec Tryz.prog 123 [.agg [.int .u8 a0.actor.rep,.int .u32 a0.actor.inc,.int .u64 a0.seq],.agg [.int .u8 b1.actor.rep,.int .u32 b1.actor.inc,.int .u64 b1.seq]] h (fun rr hh=>rr=.int .i64 res∧hh=h):=by
 unfold dotCompare at hF
 refine zt Tryz.func123 rfl (by kernel_rfl) (env:=[.agg [.int .u8 a0.actor.rep,.int .u32 a0.actor.inc,.int .u64 a0.seq],.agg [.int .u8 b1.actor.rep,.int .u32 b1.actor.inc,.int .u64 b1.seq],za,za,za,za,za,za,za,za,za,za,za,za,za,za,za]) (by rfl) ?_
 refine zk (zd ?_)
 refine zc rfl (xy (n:=0) rfl yg (zb rfl) rfl rfl) yH ?_
 refine zc rfl (xy (n:=1) rfl yw (zb rfl) rfl rfl) xS ?_
 refine zc rfl (zg rfl rfl (zb rfl)) yD ?_
 refine zf (zi (zk ?_))
 refine yI [4,9,11] [] trivial mixed (by kernel_rfl) ?_
 refine zq rfl rfl (zj rfl fo55x0 yz rfl) xw ?_
 refine zq rfl rfl (zw rfl ty53.choose_spec.1 yP rfl (zL (cs':=[.int .u8 a0.actor.rep,.int .u32 a0.actor.inc]) ty53.choose_spec.2 rfl rfl) (zb rfl)) xp ?_
 refine zq rfl rfl (zj rfl fo55x0 yX rfl) xK ?_
 refine zq rfl rfl (zw rfl ty53.choose_spec.1 xn rfl (zL (cs':=[.int .u8 b1.actor.rep,.int .u32 b1.actor.inc]) ty53.choose_spec.2 rfl rfl) (zb rfl)) xH ?_
 refine zS hF (fun v1 hv1 hF=>?_)
 refine yW rfl rfl (fun _=>zE rfl rfl rfl (zo yS (zo yV zy)) (.cons (zb rfl) (.cons (zb rfl) .nil))) (by rintro _ ⟨B2,T2,rfl,hk2⟩;exact ok141 hv1) x8 ?_
 refine zq rfl rfl (zj rfl fo55x1 yz rfl) yq ?_
 refine zq rfl rfl (zw rfl qK yi rfl (zr rfl) (zb rfl)) yy ?_
 refine zq rfl rfl (zj rfl fo55x1 yX rfl) yE ?_
 refine zq rfl rfl (zw rfl qK yC rfl (zr rfl) (zb rfl)) yG ?_
 refine zS hF (fun v2 hv2 hF=>?_)
 refine yW rfl rfl (fun _=>zE rfl rfl rfl (zo yl (zo yr zy)) (.cons (zb rfl) (.cons (zb rfl) .nil))) (by rintro _ ⟨B2,T2,rfl,hk2⟩;exact ok142 hv2) yN ?_
 refine zq rfl rfl (yh (es:=([v1,v2]:List Int).map (q7 .i64)) rfl el43 ze3 rfl rfl (zT xl (zT yM ye)) (.cons (zb rfl) (.cons (zb rfl) .nil)) rfl rfl rfl) yO ?_
 refine zS hF (fun v3 hv3 hF=>?_)
 refine yW rfl rfl (fun _=>zE rfl rfl rfl (zo yL zy) (.cons (zb rfl) .nil)) (by rintro _ ⟨B2,T2,rfl,hk2⟩;exact (ok111 hv3).le (.cons (leV.osl _ _ _) leL.nil)) yT ?_
 refine zq rfl rfl (zg rfl yQ (zb rfl)) yD ?_
 refine yo ?_
 refine zi (zJ ?_)
 obtain rfl:=Option.some.inj hF
 refine zB rfl (zC yv zD) (zz (leV.refl _) rfl ?_)
 exact ⟨rfl,rfl⟩
/-! varve/dot.MayActor -/
theorem ok125 {a0:GActor} {res:Bool} {h:AH}  (hF:dotMayActor a0=some res):Spec Tryz.prog 125 [.agg [.int .u8 a0.rep,.int .u32 a0.inc]] h (fun rr hh=>rr=.bool res∧hh=h):=by
 unfold dotMayActor at hF
 refine zt Tryz.func125 rfl (by kernel_rfl) (env:=[.agg [.int .u8 a0.rep,.int .u32 a0.inc],za,za,za,za,za,za,za,za,za,za,za,za,za,za,za]) (by rfl) ?_
 refine zk (zd ?_)
 refine zc rfl (xy (n:=0) rfl yg (zb rfl) rfl rfl) qI ?_
 refine zc rfl (zg rfl rfl (zb rfl)) yH ?_
 refine zf (zi (zk (zd ?_)))
 refine zc rfl (zj rfl fo53x0 yw rfl) xS ?_
 refine zc rfl (zw rfl vb yX rfl (zr rfl) (zb rfl)) yD ?_
 refine zc rfl (zu rfl yv rfl rfl) xw ?_
 refine zc rfl (ze rfl yP (zb rfl)) xp ?_
 refine zp rfl (fun hb=>zj rfl fo53x1 yw rfl) xK ?_
 refine zp rfl (fun hb=>zw rfl ty51 (zn xn hb) rfl (zr rfl) (zb rfl)) xH ?_
 refine zp rfl (fun hb=>zu rfl (zn yV hb) rfl rfl) x8 ?_
 refine zc rfl (zG rfl yS xl rfl (zN (fun ht=>gT ht))) yq ?_
 refine zc rfl (ze rfl yi (zb rfl)) yy ?_
 refine zp rfl (fun hb=>zj rfl fo53x1 yw rfl) yE ?_
 refine zp rfl (fun hb=>zw rfl ty51 (zn yC hb) rfl (zr rfl) (zb rfl)) yG ?_
 refine zp rfl (fun hb=>zu rfl (zn yr hb) rfl rfl) yN ?_
 refine zc rfl (zG rfl yl yM rfl (zN (fun ht=>gT ht))) yO ?_
 refine zc rfl (zg rfl yL (zb rfl)) yH ?_
 refine zf (zi (zJ ?_))
 obtain rfl:=Option.some.inj hF
 refine zB rfl (zC yz zD) (zz (leV.refl _) rfl ?_)
 exact ⟨rfl,rfl⟩
/-! varve/dot.May -/
theorem ok107 {d0:GDot} {res:Bool} {h:AH}  (hF:dotMay d0=some res):Spec Tryz.prog 107 [.agg [.int .u8 d0.actor.rep,.int .u32 d0.actor.inc,.int .u64 d0.seq]] h (fun rr hh=>rr=.bool res∧hh=h):=by
 unfold dotMay at hF
 refine zt Tryz.func107 rfl (by kernel_rfl) (env:=[.agg [.int .u8 d0.actor.rep,.int .u32 d0.actor.inc,.int .u64 d0.seq],za,za,za,za,za,za,za,za,za,za,za,za,za,za,za]) (by rfl) ?_
 refine zk (zd ?_)
 refine zc rfl (xy (n:=0) rfl yg (zb rfl) rfl rfl) qI ?_
 refine zc rfl (zg rfl rfl (zb rfl)) yH ?_
 refine zf (zi (zk (zd ?_)))
 refine zc rfl (zj rfl fo55x0 yw rfl) xS ?_
 refine zc rfl (zw rfl ty53.choose_spec.1 yX rfl (zL (cs':=[.int .u8 d0.actor.rep,.int .u32 d0.actor.inc]) ty53.choose_spec.2 rfl rfl) (zb rfl)) yD ?_
 refine zS hF (fun v1 hv1 hF=>?_)
 refine zM rfl (zE rfl rfl rfl (zo yv zy) (.cons (zb rfl) .nil)) (ok125 hv1) xw ?_
 refine zc rfl (ze rfl yP (zb rfl)) xp ?_
 refine zp rfl (fun hb=>zj rfl fo55x1 yw rfl) xK ?_
 refine zp rfl (fun hb=>zw rfl qK (zn xn hb) rfl (zr rfl) (zb rfl)) xH ?_
 refine zp rfl (fun hb=>zu rfl (zn yV hb) rfl rfl) x8 ?_
 refine zc rfl (zG rfl yS xl rfl (zN (fun ht=>gT ht))) yq ?_
 refine zc rfl (ze rfl yi (zb rfl)) yy ?_
 refine zp rfl (fun hb=>zj rfl fo55x1 yw rfl) yE ?_
 refine zp rfl (fun hb=>zw rfl qK (zn yC hb) rfl (zr rfl) (zb rfl)) yG ?_
 refine zp rfl (fun hb=>zu rfl (zn yr hb) rfl rfl) yN ?_
 refine zc rfl (zG rfl yl yM rfl (zN (fun ht=>gT ht))) yO ?_
 refine zc rfl (zg rfl yL (zb rfl)) yH ?_
 refine zf (zi (zJ ?_))
 obtain rfl:=Option.some.inj hF
 refine zB rfl (zC yz zD) (zz (leV.refl _) rfl ?_)
 exact ⟨rfl,rfl⟩
/-! varve/op.drops -/
theorem ok102 {o0:GOp} {res:Bool} {h:AH}  (hF:opXdrops o0=some res):Spec Tryz.prog 102 [.agg [.int .u8 o0.kind,.sl 1 (o0.path.map zK),.int .i64 o0.n,.str o0.text,.sl 3 (o0.dots.map GDot.row)]] h (fun rr hh=>rr=.bool res∧hh=h):=by
 unfold opXdrops at hF
 refine zt Tryz.func102 rfl (by kernel_rfl) (env:=[.agg [.int .u8 o0.kind,.sl 1 (o0.path.map zK),.int .i64 o0.n,.str o0.text,.sl 3 (o0.dots.map GDot.row)],za,za,za,za,za,za,za,za,za,za,za,za,za,za,za,za,za,za,za,za,za,za,za,za,za,za,za,za,za,za,za,za,za,za,za,za,za,za,za,za,za,za,za,za,za,za]) (by rfl) ?_
 refine zk (zd ?_)
 refine zc rfl (xy (n:=0) rfl yg (zb rfl) rfl rfl) qI ?_
 refine zc rfl (zg rfl rfl (zb rfl)) yH ?_
 refine zf (zi (zk (zk (zd ?_))))
 refine zc rfl (zj rfl fo26x2 yw rfl) xw ?_
 refine zc rfl (zw rfl ty2 yP rfl (zr rfl) (zb rfl)) xp ?_
 refine zc rfl (zu rfl yS rfl rfl) xK ?_
 refine zc rfl (ze rfl xn (zb rfl)) xH ?_
 refine zp rfl (fun hb=>zj rfl fo26x3 yw rfl) x8 ?_
 refine zp rfl (fun hb=>zw rfl vt (zn xl hb) rfl (zr rfl) (zb rfl)) yq ?_
 refine xj rfl (fun hb=>vq rfl rfl rfl rfl vt (zn yi hb)) yy fun hn1=>?_
 refine zp rfl (fun hb=>zu rfl (zn yl hb) rfl rfl) yE ?_
 refine zc rfl (zG rfl yV rfl yC (zZ (fun ht=>gF ht))) yG ?_
 refine zc rfl (ze rfl yr (zb rfl)) yN ?_
 refine zp rfl (fun hb=>zj rfl fo26x4 yw rfl) yO ?_
 refine zp rfl (fun hb=>zw rfl qL (zn yL hb) rfl (zr rfl) (zb rfl)) yT ?_
 refine xj rfl (fun hb=>zQ rfl rfl rfl rfl qf (zn yQ hb) z0) yZ fun hn2=>?_
 refine zp rfl (fun hb=>zu rfl (zn yY hb) rfl rfl) xd ?_
 refine zc rfl (zG rfl yM rfl xb (zZ (fun ht=>gF ht))) xi ?_
 refine zf (zi ?_)
 refine zH xh hF (fun hc3 hF=>?_) (fun hc3 hF=>?_)
 ·refine zk (zd ?_)
  refine zc rfl (zg rfl rfl (zb rfl)) yH ?_
  refine zf (zi (zJ (zA ?_)))
  obtain rfl:=Option.some.inj hF
  refine zB rfl (zC yz zD) (zz (leV.refl _) rfl ?_)
  exact ⟨rfl,rfl⟩
 ·refine zI (zi (zk (zk (zd ?_))))
  refine zc rfl (zj rfl fo26x4 yw rfl) xA ?_
  refine zc rfl (zw rfl qL xz rfl (zr rfl) (zb rfl)) xE ?_
  refine z7 rfl (zQ rfl rfl rfl rfl qf xB z0) xI fun hn4=>?_
  replace hn4:=xg hn4
  refine zc rfl (ze rfl rfl (zb rfl)) xD ?_
  refine zf (zi (zO ?_))
  refine ym (fun (n1:Nat) (s1:Unit)=>yB [0,2,3,4,5,6,7,8,9,10,11,12,13,14,15,16,17,18,19,20,24,25,26,27,28,29,30,31,32,33,34,35,36,37,38,39,40,41,42,43,44,45,46] [(23,.int .i64 (n1:Int))]) (fun s1=>h.ext [.cells [.int .u8 o0.kind,.sl 1 (o0.path.map zK),.int .i64 o0.n,.str o0.text,.sl 3 (o0.dots.map GDot.row)]] []) hF (fun _ _=>by simp only [yB,qw,List.set_cons_succ,List.set_cons_zero];try rfl) (wk.le (by exact (.drop (.eq (.d16 (.drop (.drop (.drop (.eq (.eq (.cons (leV.of_eq rfl) (.d16 (.d4 (.drop (.drop (.drop leL.nil)))))))))))))))) ?_
  intro n1 s1 hi1 hF
  refine zk (zd ?_)
  refine zc rfl (zu rfl xu xF rfl) xM ?_
  refine zf (zi (zk ?_))
  refine yJ xN hF (fun x1 o1 hl1 hx1 hF hK1=>?_) (fun hF=>?_)
  ·refine zI (zi (zk (zO (zk (zd ?_)))))
   refine zc rfl (ze rfl xu (zb rfl)) wa ?_
   refine zc rfl (yd rfl qf xB xu wd (yA hx1)) wi ?_
   refine zc rfl (zY rfl ty55.choose_spec.1 wh (zL (cs':=[.int .u8 x1.actor.rep,.int .u32 x1.actor.inc,.int .u64 x1.seq]) ty55.choose_spec.2 rfl rfl) (zb rfl)) wj ?_
   refine zc rfl (xf (n:=1) rfl ze55 rfl) yD ?_
   refine zc rfl (zg rfl x9 (zb rfl)) xS ?_
   refine zc rfl (yk (cs':=[.int .u8 x1.actor.rep,.int .u32 x1.actor.inc,.int .u64 x1.seq]) rfl ty55.choose_spec.1 yv wm (zb rfl) rfl rfl rfl rfl rfl) rfl ?_
   refine zf (zi (zk ?_))
   refine yI [1] [] trivial mixed (by kernel_rfl) ?_
   refine zq rfl rfl (zw rfl ty55.choose_spec.1 yv rfl (zL (cs':=[.int .u8 x1.actor.rep,.int .u32 x1.actor.inc,.int .u64 x1.seq]) ty55.choose_spec.2 rfl rfl) (zb rfl)) wn ?_
   refine zS hF (fun v17 hv17 hF=>?_)
   refine yW rfl rfl (fun _=>zE rfl rfl rfl (zo wl zy) (.cons (zb rfl) .nil)) (by rintro _ ⟨B2,T2,rfl,hk2⟩;exact ok107 hv17) wD ?_
   refine zq rfl rfl (xV rfl wz rfl) wC ?_
   refine zq rfl rfl (ze rfl wM (zb rfl)) wI ?_
   refine zx rfl rfl (fun hb=>ze rfl yX (zb rfl)) wH ?_
   refine zx rfl rfl (fun hb=>zu rfl (zn wy hb) rfl rfl) wP ?_
   refine zx rfl rfl (fun hb=>ze rfl (zn wT hb) (zb rfl)) wO ?_
   refine zx rfl (zP rfl rfl rfl) (fun hb=>zj rfl fo26x4 yw rfl) wN ?_
   refine zx rfl (zP rfl rfl rfl) (fun hb=>zw rfl qL (zn wS hb) rfl (zr rfl) (zb rfl)) wG ?_
   refine zx rfl (zP rfl rfl rfl) (fun hb=>ze rfl yX (zb rfl)) wF ?_
   refine zx rfl (zP rfl rfl rfl) (fun hb=>zu rfl (zn wJ hb) rfl rfl) wZ ?_
   refine xG hF (fun hg18 hF=>?_)
   refine zx rfl (zP rfl rfl rfl) (fun hb=>yK default rfl qf (zn wu hb) (zn w6 hb) wd (hg18 hb)) wY ?_
   refine zx rfl (zP rfl rfl rfl) (fun hb=>zY rfl ty55.choose_spec.1 (zn w5 hb) (zL (cs':=[.int .u8 (((o0.dots).getD (IntKind.wrap .i64 ((n1:Int) - (1:Int))).toNat default).actor.rep),.int .u32 (((o0.dots).getD (IntKind.wrap .i64 ((n1:Int) - (1:Int))).toNat default).actor.inc),.int .u64 (((o0.dots).getD (IntKind.wrap .i64 ((n1:Int) - (1:Int))).toNat default).seq)]) ty55.choose_spec.2 rfl rfl) (zb rfl)) (sk qP) ?_
   refine zx rfl (zP rfl rfl rfl) (fun hb=>zw rfl ty55.choose_spec.1 yv rfl (zL (cs':=[.int .u8 x1.actor.rep,.int .u32 x1.actor.inc,.int .u64 x1.seq]) ty55.choose_spec.2 rfl rfl) (zb rfl)) (sk qI) ?_
   refine yn hF (fun v19 hv19 hF=>?_)
   refine ww rfl (zP rfl rfl rfl) (fun hb=>zE rfl rfl rfl (zo (zn (gk yg) hb) (zo (zn (gk yw) hb) zy)) (.cons (zb rfl) (.cons (zb rfl) .nil))) (fun hb=>ok123 (hv19 hb)) (sk yH) ?_
   refine zx rfl (zP rfl rfl rfl) (fun hb=>zu rfl (zn (gk yz) hb) rfl rfl) (sk xS) ?_
   refine zx rfl rfl (fun hb=>zG rfl (zn wK hb) (gk yX) rfl (zN (fun ht=>gT2 hb ht))) (sk yD) ?_
   refine zq rfl rfl (zG rfl wL rfl (gk yv) (zZ (fun ht=>gF ht))) (sk xw) ?_
   refine yo ?_
   refine zi ?_
   refine zH (gk yP) hF (fun hc20 hF=>?_) (fun hc20 hF=>?_)
   ·refine zk (zd ?_)
    refine zc rfl (zg rfl rfl (zb rfl)) yH ?_
    refine zf (zi (zJ ?_))
    refine zF ?_
    refine zA ?_
    refine yf ?_
    obtain rfl:=Option.some.inj hF
    replace hF:=hK1
    refine zF ?_
    refine zA ?_
    obtain rfl:=Option.some.inj hF
    refine zB rfl (zC yz zD) (zz (leV.refl _) rfl ?_)
    exact ⟨rfl,rfl⟩
   ·refine zI (yb (zi (zd ?_)))
    refine zc rfl (zu rfl xu rfl rfl) (sk xp) ?_
    refine zc rfl (ze rfl (gk yS) (zb rfl)) xD ?_
    refine zf (yu ?_)
    obtain rfl:=Option.some.inj hF
    exact ⟨(),hl1,hK1,wk.trans (wk.le (by exact (.drop (.eq (.d16 (.drop (.drop (.drop (.eq (.eq (.cons (leV.of_eq (wx (by omega) (by omega))) (.d16 (.d4 (.drop (.drop (.drop leL.nil)))))))))))))))) (xY (by simp [yj,AV.low]) rfl rfl (by simp [Blk.low,yj,AV.low]))⟩
  ·refine yF ?_
   refine zX ?_
   refine zU ?_
   refine zV ?_
   refine zi (zk (zd ?_))
   refine zc rfl (zg rfl rfl (zb rfl)) yH ?_
   refine zf (zi (zJ ?_))
   obtain rfl:=Option.some.inj hF
   refine zB rfl (zC yz zD) (zz (leV.refl _) rfl ?_)
   exact ⟨rfl,rfl⟩
/-! varve/op.of -/
theorem ok62 {k0:Int} {res:(GOpKind×Bool)} {h:AH}  (hF:opXof k0=some res):Spec Tryz.prog 62 [.int .u8 k0] h (fun rr hh=>rr=.tup [.agg [.int .u8 res.1.leaf,fvOp res.1.may],.bool res.2]∧hh=h):=by
 unfold opXof at hF
 refine zt Tryz.func62 rfl (by kernel_rfl) (env:=[.int .u8 k0,za,za,za,za,za,za,za,za,za,za,za,za,za,za,za,za,za,za,za,za]) (by rfl) ?_
 refine zk (zd ?_)
 refine zc rfl (xf (n:=0) rfl ze99 rfl) yH ?_
 refine zc rfl (zg rfl rfl (zb rfl)) xS ?_
 refine zf (zi (zk (zd ?_)))
 refine zc rfl (wR (cs':=[.int .u8 (1:Int),.fn (.func 100) [] []]) rfl su99 ze99 pl99 (zT rfl (zT rfl ye)) (.cons (zb rfl) (.cons (zb rfl) .nil)) rfl rfl) xw ?_
 refine zc rfl (wR (cs':=[.int .u8 (2:Int),.fn (.func 101) [] []]) rfl su99 ze99 pl99 (zT rfl (zT rfl ye)) (.cons (zb rfl) (.cons (zb rfl) .nil)) rfl rfl) xp ?_
 refine zc rfl (wR (cs':=[.int .u8 (3:Int),.fn (.func 101) [] []]) rfl su99 ze99 pl99 (zT rfl (zT rfl ye)) (.cons (zb rfl) (.cons (zb rfl) .nil)) rfl rfl) xK ?_
 refine zc rfl (wR (cs':=[.int .u8 (3:Int),.fn (.func 102) [] []]) rfl su99 ze99 pl99 (zT rfl (zT rfl ye)) (.cons (zb rfl) (.cons (zb rfl) .nil)) rfl rfl) xH ?_
 refine zc rfl (wR (cs':=[.int .u8 (4:Int),.fn (.func 101) [] []]) rfl su99 ze99 pl99 (zT rfl (zT rfl ye)) (.cons (zb rfl) (.cons (zb rfl) .nil)) rfl rfl) x8 ?_
 refine zc rfl (s_buildArr (cs':=[.int .u8 (0:Int),.nilf,.int .u8 (1:Int),.fn (.func 100) [] [],.int .u8 (2:Int),.fn (.func 101) [] [],.int .u8 (3:Int),.fn (.func 101) [] [],.int .u8 (3:Int),.fn (.func 102) [] [],.int .u8 (4:Int),.fn (.func 101) [] []]) rfl ty132.u ze132 ty99.choose_spec.1 (zT yP (zT yS (zT xn (zT yV (zT xl ye))))) (.cons (zb rfl) (.cons (zb rfl) (.cons (zb rfl) (.cons (zb rfl) (.cons (zb rfl) .nil))))) rfl rfl) yq ?_
 refine zc rfl (xf (n:=1) rfl ze132 rfl) yD ?_
 refine zc rfl (yk (cs':=[.int .u8 (0:Int),.nilf,.int .u8 (1:Int),.fn (.func 100) [] [],.int .u8 (2:Int),.fn (.func 101) [] [],.int .u8 (3:Int),.fn (.func 101) [] [],.int .u8 (3:Int),.fn (.func 102) [] [],.int .u8 (4:Int),.fn (.func 101) [] []]) rfl ty132 yv yi (zb rfl) rfl rfl rfl rfl rfl) rfl ?_
 refine zf (zi (zk (zk (zd ?_))))
 refine zc rfl (ze rfl yg (zb rfl)) yy ?_
 refine zc rfl (zu rfl yl rfl rfl) yE ?_
 refine zc rfl (ze rfl yC (zb rfl)) yG ?_
 refine zp rfl (fun hb=>ze rfl yg (zb rfl)) yN ?_
 refine zp rfl (fun hb=>zu rfl (zn yM hb) rfl rfl) yO ?_
 refine zc rfl (zG rfl yr rfl yL (zZ (fun ht=>gF ht))) yT ?_
 refine zf (zi ?_)
 refine zH yQ hF (fun hc1 hF=>?_) (fun hc1 hF=>?_)
 ·refine zk (zd ?_)
  refine zc rfl (wR (cs':=[.int .u8 (0:Int),.nilf]) rfl su99 ze99 pl99 ye .nil rfl rfl) yZ ?_
  refine zc rfl (yk (cs':=[.int .u8 (0:Int),.nilf]) rfl ty99.choose_spec.1 yz yY (zb rfl) rfl rfl rfl rfl rfl) rfl ?_
  refine zc rfl (zg rfl rfl (zb rfl)) xS ?_
  refine zf (zi (zJ (zA ?_)))
  obtain rfl:=Option.some.inj hF
  refine qe rfl (rl_cell ty99.choose_spec.1 yz rfl (zL (cs':=[.int .u8 (0:Int),.nilf]) ty99.choose_spec.2 rfl rfl) (zb rfl) (zC yX zD)) (zz (leV.refl _) rfl ?_)
  exact ⟨rfl,rfl⟩
 ·refine zI (zi (zk (zd ?_)))
  refine zc rfl (ze rfl yg (zb rfl)) xd ?_
  refine zS hF (fun y2 hy2 hF=>?_)
  refine zc rfl (s_idxArr rfl ty132 ty99.choose_spec.1 yv xb rfl hy2) xi ?_
  refine zc rfl (zw rfl ty99.choose_spec.1 xh rfl ((congrArg (fun b=>ldC b _ _ _) ty99.choose_spec.2).trans (ldC_arr (row:=GOpKind.row) (L:=([(GOpKind.mk (0:Int) 0),(GOpKind.mk (1:Int) 1),(GOpKind.mk (2:Int) 2),(GOpKind.mk (3:Int) 2),(GOpKind.mk (3:Int) 3),(GOpKind.mk (4:Int) 2)]:List GOpKind)) (fun _=>rfl) hy2 rfl)) (zb rfl)) xA ?_
  refine zc rfl (yk (cs':=[.int .u8 y2.leaf,fvOp y2.may]) rfl ty99.choose_spec.1 yz xz (zb rfl) rfl rfl rfl rfl rfl) rfl ?_
  refine zc rfl (zg rfl rfl (zb rfl)) xS ?_
  refine zf (zi (zJ ?_))
  obtain rfl:=Option.some.inj hF
  refine qe rfl (rl_cell ty99.choose_spec.1 yz rfl (zL (cs':=[.int .u8 y2.leaf,fvOp y2.may]) ty99.choose_spec.2 rfl rfl) (zb rfl) (zC yX zD)) (zz (leV.refl _) (by simp [AV.low,yj,fvlOp]) ?_)
  exact ⟨rfl,rfl⟩
/-! varve/op.MayPath 1 -/
theorem ok103 {s0:zR} {res:Bool} {h:AH}  (hF:opMayPathC1 s0=some res):Spec Tryz.prog 103 [.str s0] h (fun rr hh=>rr=.bool res∧hh=h):=by
 unfold opMayPathC1 at hF
 refine zt Tryz.func103 rfl (by kernel_rfl) (env:=[.str s0,za,za,za,za,za]) (by rfl) ?_
 refine zk (zd ?_)
 refine zc rfl (zg rfl rfl (zb rfl)) yH ?_
 refine zf (zi (zk (zd ?_)))
 refine zc rfl (ze rfl yg (zb rfl)) xS ?_
 refine zS hF (fun v1 hv1 hF=>?_)
 refine zM rfl (zE rfl rfl rfl (zo yX zy) (.cons (zb rfl) .nil)) (ok66 hv1) yD ?_
 refine zc rfl (xV rfl yv rfl) xw ?_
 refine zc rfl (zg rfl yP (zb rfl)) yH ?_
 refine zf (zi (zJ ?_))
 obtain rfl:=Option.some.inj hF
 refine zB rfl (zC yz zD) (zz (leV.refl _) rfl ?_)
 exact ⟨rfl,rfl⟩
/-! varve/op.MayPath -/
theorem ok63 {p0:(List zR)} {res:Bool} {h:AH}  (hF:opMayPath p0=some res):Spec Tryz.prog 63 [.sl 1 (p0.map zK)] h (fun rr hh=>rr=.bool res∧hh=h):=by
 unfold opMayPath at hF
 refine zt Tryz.func63 rfl (by kernel_rfl) (env:=[.sl 1 (p0.map zK),za,za,za,za,za,za,za,za,za,za,za,za,za,za,za]) (by rfl) ?_
 refine zk (zd ?_)
 refine zc rfl (zg rfl rfl (zb rfl)) yH ?_
 refine zf (zi (zk (zd ?_)))
 refine zc rfl (ze rfl yg (zb rfl)) xS ?_
 refine z7 rfl (zQ rfl rfl rfl rfl xc yX z0) yD fun hn1=>?_
 replace hn1:=xg hn1
 refine zc rfl (zu rfl yv rfl rfl) xw ?_
 refine zc rfl (ze rfl yP (zb rfl)) xp ?_
 refine zp rfl (fun hb=>ze rfl yg (zb rfl)) xK ?_
 refine xj rfl (fun hb=>zQ rfl rfl rfl rfl xc (zn xn hb) z0) xH fun hn2=>?_
 refine zp rfl (fun hb=>zu rfl (zn yV hb) rfl rfl) x8 ?_
 refine zc rfl (zG rfl yS xl rfl (zN (fun ht=>gT ht))) yq ?_
 refine zc rfl (ze rfl yi (zb rfl)) yy ?_
 refine zp rfl (fun hb=>ze rfl yg (zb rfl)) yE ?_
 refine yn hF (fun v3 hv3 hF=>?_)
 refine z8 rfl (fun hb=>zE rfl rfl rfl (zo (zn yC hb) (zo rfl zy)) (.cons (zb rfl) (.cons (zb rfl) .nil))) (fun hb=>ok99 (fun _ v L M hv=>ok103  hv) (hv3 hb)) yG ?_
 refine zp rfl (fun hb=>xV rfl (zn yr hb) rfl) yN ?_
 refine zc rfl (zG rfl yl yM rfl (zN (fun ht=>gT ht))) yO ?_
 refine zc rfl (zg rfl yL (zb rfl)) yH ?_
 refine zf (zi (zJ ?_))
 obtain rfl:=Option.some.inj hF
 refine zB rfl (zC yz zD) (zz (leV.refl _) rfl ?_)
 exact ⟨rfl,rfl⟩
theorem fnOpok {c:Nat} {x0:GOp} {v:Bool} (h:callOp c x0=some v):fvOp c=.fn (.func (fnOp c)) [] []:=by
  unfold callOp at h
  split at h <;> first | rfl | cases h
theorem okfvOp {c:Nat} {x0:GOp} {res:Bool} {h:AH} (hF:callOp c x0=some res):Spec Tryz.prog (fnOp c) [.agg [.int .u8 x0.kind,.sl 1 (x0.path.map zK),.int .i64 x0.n,.str x0.text,.sl 3 (x0.dots.map GDot.row)]] h (fun rr hh=>rr=.bool res∧hh=h):=by
 unfold callOp at hF
 split at hF
 ·exact ok100 hF
 ·exact ok101 hF
 ·exact ok102 hF
 ·cases hF
/-! varve/op.May -/
theorem ok35 {o0:GOp} {res:Bool} {h:AH}  (hF:opMay o0=some res):Spec Tryz.prog 35 [.agg [.int .u8 o0.kind,.sl 1 (o0.path.map zK),.int .i64 o0.n,.str o0.text,.sl 3 (o0.dots.map GDot.row)]] h (fun rr hh=>rr=.bool res∧hh=h):=by
 unfold opMay at hF
 refine zt Tryz.func35 rfl (by kernel_rfl) (env:=[.agg [.int .u8 o0.kind,.sl 1 (o0.path.map zK),.int .i64 o0.n,.str o0.text,.sl 3 (o0.dots.map GDot.row)],za,za,za,za,za,za,za,za,za,za,za,za,za,za,za,za,za,za,za,za,za,za]) (by rfl) ?_
 refine zk (zd ?_)
 refine zc rfl (xy (n:=0) rfl yg (zb rfl) rfl rfl) qI ?_
 refine zc rfl (zg rfl rfl (zb rfl)) yH ?_
 refine zf (zi (zk (zd ?_)))
 refine zc rfl (zj rfl fo26x0 yw rfl) xp ?_
 refine zc rfl (zw rfl vb yS rfl (zr rfl) (zb rfl)) xK ?_
 refine zS hF (fun v1 hv1 hF=>?_)
 refine zM rfl (zE rfl rfl rfl (zo xn zy) (.cons (zb rfl) .nil)) (ok62 hv1) xH ?_
 refine zc rfl (ze rfl yV (zb rfl)) xw ?_
 refine zc rfl (xe rfl yP rfl (zb rfl)) x8 ?_
 refine zc rfl (xe rfl yP rfl (zb rfl)) yq ?_
 refine zc rfl (xf (n:=1) rfl ze99 rfl) xS ?_
 refine zc rfl (yk (cs':=[.int .u8 v1.1.leaf,fvOp v1.1.may]) rfl ty99.choose_spec.1 yX xl (zb rfl) rfl rfl rfl rfl rfl) rfl ?_
 refine zc rfl (zg rfl yi (zb rfl)) yD ?_
 refine zf (zi (zk (zd ?_)))
 refine zc rfl (ze rfl yv (zb rfl)) yy ?_
 refine zc rfl (ze rfl yl (zb rfl)) yE ?_
 refine zp rfl (fun hb=>zj rfl fo26x1 yw rfl) yG ?_
 refine zp rfl (fun hb=>zw rfl ty23 (zn yr hb) rfl (zr rfl) (zb rfl)) yN ?_
 refine yn hF (fun v2 hv2 hF=>?_)
 refine z8 rfl (fun hb=>zE rfl rfl rfl (zo (zn yM hb) zy) (.cons (zb rfl) .nil)) (fun hb=>ok63 (hv2 hb)) yO ?_
 refine zc rfl (zG rfl yC yL rfl (zN (fun ht=>gT ht))) yT ?_
 refine zc rfl (ze rfl yQ (zb rfl)) yZ ?_
 refine zp rfl (fun hb=>zj rfl fo99x1 yX rfl) xd ?_
 refine zp rfl (fun hb=>zw rfl ty65 (zn xb hb) rfl (zr rfl) (fvtOp _ _ _)) xi ?_
 refine zp rfl (fun hb=>zw rfl ty26.choose_spec.1 yw rfl (zL (cs':=[.int .u8 o0.kind,.sl 1 (o0.path.map zK),.int .i64 o0.n,.str o0.text,.sl 3 (o0.dots.map GDot.row)]) ty26.choose_spec.2 rfl rfl) (zb rfl)) xA ?_
 refine yn hF (fun v3 hv3 hF=>?_)
 refine z8 rfl (fun hb=>zE rfl rfl (evo_eq (zn xh hb) (fnOpok (hv3 hb))) (zo (zn xz hb) zy) (.cons (zb rfl) .nil)) (fun hb=>okfvOp (hv3 hb)) xE ?_
 refine zc rfl (zG rfl yY xB rfl (zN (fun ht=>gT ht))) xI ?_
 refine zc rfl (zg rfl xF (zb rfl)) yH ?_
 refine zf (zi (zJ ?_))
 obtain rfl:=Option.some.inj hF
 refine zB rfl (zC yz zD) (zz (leV.refl _) rfl ?_)
 exact ⟨rfl,rfl⟩
/-! varve/paths.Match -/
theorem ok64 {p0:(List zR)} {path1:(List zR)} {res:Bool} {h:AH}  (hF:pathsMatch p0 path1=some res):Spec Tryz.prog 64 [.sl 1 (p0.map zK),.sl 1 (path1.map zK)] h (fun rr hh=>rr=.bool res∧hh=h):=by
 unfold pathsMatch at hF
 refine zt Tryz.func64 rfl (by kernel_rfl) (env:=[.sl 1 (p0.map zK),.sl 1 (path1.map zK),za,za,za,za,za,za,za,za,za,za,za,za,za,za,za,za,za,za,za,za,za,za,za,za,za,za,za,za,za,za,za,za,za,za,za,za,za,za,za,za,za,za,za,za,za,za,za,za,za,za,za,za,za,za,za,za]) (by rfl) ?_
 refine zk (zd ?_)
 refine zc rfl (zg rfl rfl (zb rfl)) yD ?_
 refine zf (zi (zk (zd ?_)))
 refine zc rfl (ze rfl yg (zb rfl)) yq ?_
 refine zS hF (fun v1 hv1 hF=>?_)
 refine zM rfl (zE rfl rfl rfl (zo yi zy) (.cons (zb rfl) .nil)) (ok97 hv1) yy ?_
 refine zc rfl (ze rfl yl (zb rfl)) x8 ?_
 refine zc rfl (xe rfl xl rfl (zb rfl)) yE ?_
 refine zc rfl (xe rfl xl rfl (zb rfl)) yG ?_
 refine zc rfl (zg rfl yC (zb rfl)) xw ?_
 refine zc rfl (zg rfl yr (zb rfl)) xp ?_
 refine zf (zi (zk (zk (zd ?_))))
 refine zc rfl (ze rfl yg (zb rfl)) yN ?_
 refine zS hF (fun v2 hv2 hF=>?_)
 refine zM rfl (zE rfl rfl rfl (zo yM zy) (.cons (zb rfl) .nil)) (ok60 hv2) yO ?_
 refine zc rfl (xV rfl yL rfl) yT ?_
 refine zc rfl (ze rfl yQ (zb rfl)) yZ ?_
 refine zp rfl (fun hb=>ze rfl yw (zb rfl)) xd ?_
 refine yn hF (fun v3 hv3 hF=>?_)
 refine z8 rfl (fun hb=>zE rfl rfl rfl (zo (zn xb hb) zy) (.cons (zb rfl) .nil)) (fun hb=>ok63 (hv3 hb)) xi ?_
 refine zp rfl (fun hb=>xV rfl (zn xh hb) rfl) xA ?_
 refine zc rfl (zG rfl yY rfl xz (zZ (fun ht=>gF ht))) xE ?_
 refine zc rfl (ze rfl xB (zb rfl)) xI ?_
 refine zp rfl (fun hb=>ze rfl yw (zb rfl)) xD ?_
 refine xj rfl (fun hb=>zQ rfl rfl rfl rfl xc (zn xu hb) z0) xM fun hn4=>?_
 refine zp rfl (fun hb=>ze rfl yP (zb rfl)) wa ?_
 refine xj rfl (fun hb=>zQ rfl rfl rfl rfl xc (zn x9 hb) z0) wi fun hn5=>?_
 refine zp rfl (fun hb=>zu rfl (zn xN hb) (zn wh hb) rfl) wj ?_
 refine zc rfl (zG rfl xF rfl wm (zZ (fun ht=>gF ht))) wn ?_
 refine zc rfl (ze rfl wl (zb rfl)) wD ?_
 refine zp rfl (fun hb=>ze rfl yw (zb rfl)) wC ?_
 refine xj rfl (fun hb=>zQ rfl rfl rfl rfl xc (zn wM hb) z0) wI fun hn6=>?_
 refine zp rfl (fun hb=>ze rfl yP (zb rfl)) wH ?_
 refine xj rfl (fun hb=>zQ rfl rfl rfl rfl xc (zn wy hb) z0) wP fun hn7=>?_
 refine zp rfl (fun hb=>zu rfl (zn wL hb) (zn wT hb) rfl) wO ?_
 refine zp rfl (fun hb=>ze rfl (zn wK hb) (zb rfl)) wN ?_
 refine zp (zP rfl rfl rfl) (fun hb=>ze rfl yS (zb rfl)) wG ?_
 refine zp (zP rfl rfl rfl) (fun hb=>xV rfl (zn wu hb) rfl) wF ?_
 refine zp rfl (fun hb=>zG rfl (zn wS hb) wJ rfl (zN (fun ht=>gT2 hb ht))) wZ ?_
 refine zc rfl (zG rfl wz rfl w6 (zZ (fun ht=>gF ht))) wY ?_
 refine zf (zi ?_)
 refine zH w5 hF (fun hc8 hF=>?_) (fun hc8 hF=>?_)
 ·refine zk (zd ?_)
  refine zc rfl (zg rfl rfl (zb rfl)) yD ?_
  refine zf (zi (zJ (zA ?_)))
  obtain rfl:=Option.some.inj hF
  refine zB rfl (zC yv zD) (zz (leV.refl _) rfl ?_)
  exact ⟨rfl,rfl⟩
 ·refine zI (zi (zk (zk (zd ?_))))
  refine zc rfl (ze rfl yP (zb rfl)) (sk qP) ?_
  refine z7 rfl (zQ rfl rfl rfl rfl xc (gk yg) z0) (sk qI) fun hn9=>?_
  replace hn9:=xg hn9
  refine zc rfl (ze rfl rfl (zb rfl)) (sk yH) ?_
  refine zf (zi (zO ?_))
  refine ym (fun (n1:Nat) (s1:Unit)=>yB [0,2,3,4,5,6,7,8,9,10,11,12,13,14,15,16,17,18,19,20,21,22,23,24,25,26,27,28,29,30,31,32,33,34,35,36,37,38,39,43,44,45,46,47,48,49,50,51,52,53,54,55,56,57] [(42,.int .i64 (n1:Int))]) (fun s1=>h.ext [] []) hF (fun _ _=>by simp only [yB,qw,List.set_cons_succ,List.set_cons_zero];try rfl) (wk.le (by exact (.drop (.eq (.d16 (.d16 (.d4 (.drop (.drop (.eq (.eq (.cons (leV.of_eq rfl) (.d4 (.d4 (.d4 (.drop (.drop (.drop leL.nil)))))))))))))))))) ?_
  intro n1 s1 hi1 hF
  refine zk (zd ?_)
  refine zc rfl (zu rfl (gk yz) (gk yw) rfl) (sk xS) ?_
  refine zf (zi (zk ?_))
  refine yJ (gk yX) hF (fun x1 o1 hl1 hx1 hF hK1=>?_) (fun hF=>?_)
  ·refine zI (zi (zk (zO (zk (zd ?_)))))
   refine zc rfl (ze rfl (gk yz) (zb rfl)) (sk yD) ?_
   refine zc rfl (yd rfl xc (gk yg) (gk yz) wd (yA hx1)) (sk xw) ?_
   refine zc rfl (zY rfl vt (gk yP) (zr rfl) (zb rfl)) (sk xp) ?_
   refine zc rfl (zg rfl (gk yv) (zb rfl)) xK ?_
   refine zc rfl (zg rfl (gk yS) (zb rfl)) xH ?_
   refine zf (zi (zk (zd ?_)))
   refine zc rfl (ze rfl yV (zb rfl)) (sk xK) ?_
   refine zc rfl (zu rfl (gk xn) rfl rfl) (sk xH) ?_
   refine zc rfl (ze rfl (gk yV) (zb rfl)) (sk x8) ?_
   refine zp rfl (fun hb=>ze rfl yV (zb rfl)) (sk yq) ?_
   refine zp rfl (fun hb=>ze rfl yw (zb rfl)) (sk yy) ?_
   refine zp rfl (fun hb=>ze rfl xn (zb rfl)) (sk yE) ?_
   refine xG hF (fun hg15 hF=>?_)
   refine zp rfl (fun hb=>yK default rfl xc (zn (gk yl) hb) (zn (gk yC) hb) wd (hg15 hb)) (sk yG) ?_
   refine zp rfl (fun hb=>zY rfl vt (zn (gk yr) hb) (zr rfl) (zb rfl)) (sk yN) ?_
   refine zp rfl (fun hb=>zu rfl (zn (gk yi) hb) (zn (gk yM) hb) rfl) (sk yO) ?_
   refine zc rfl (zG rfl (gk xl) (gk yL) rfl (zN (fun ht=>gT ht))) (sk yT) ?_
   refine zf (zi ?_)
   refine zH (gk yQ) hF (fun hc16 hF=>?_) (fun hc16 hF=>?_)
   ·refine zk (zd ?_)
    refine zc rfl (zg rfl rfl (zb rfl)) yD ?_
    refine zf (zi (zJ ?_))
    refine zF ?_
    refine zA ?_
    refine yf ?_
    obtain rfl:=Option.some.inj hF
    replace hF:=hK1
    refine zF ?_
    refine zA ?_
    obtain rfl:=Option.some.inj hF
    refine zB rfl (zC yv zD) (zz (leV.refl _) rfl ?_)
    exact ⟨rfl,rfl⟩
   ·refine zI (yb (zi (zd ?_)))
    refine zc rfl (zu rfl (gk yz) rfl rfl) (sk yZ) ?_
    refine zc rfl (ze rfl (gk yY) (zb rfl)) (sk yH) ?_
    refine zf (yu ?_)
    obtain rfl:=Option.some.inj hF
    exact ⟨(),hl1,hK1,wk.le (by exact (.drop (.eq (.d16 (.d16 (.d4 (.drop (.drop (.eq (.eq (.cons (leV.of_eq (wx (by omega) (by omega))) (.d4 (.d4 (.d4 (.drop (.drop (.drop leL.nil)))))))))))))))))⟩
  ·refine yF ?_
   refine zX ?_
   refine zU ?_
   refine zV ?_
   refine zi (zk (zd ?_))
   refine zc rfl (zg rfl rfl (zb rfl)) yD ?_
   refine zf (zi (zJ ?_))
   obtain rfl:=Option.some.inj hF
   refine zB rfl (zC yv zD) (zz (leV.refl _) rfl ?_)
   exact ⟨rfl,rfl⟩
/-! varve/rights.last -/
theorem ok36 {l0:(List GRule)} {rep1:Int} {path2:(List zR)} {is3:(GRule→Option Bool)} {fis3:FuncId} {ais3 kis3:List AV} {res:Int} {h:AH} (his3:∀ x0 v (L:List Blk) (M:List Nat),is3 x0=some v→Spec Tryz.prog fis3 (ais3++[.agg [.int .u8 x0.rep,.sl 1 (x0.path.map zK),.int .u8 x0.kinds,.bool x0.allow,.bool x0.read]]++kis3) (h.ext L M) (fun rr hh=>rr=.bool v∧hh=h.ext L M)) (hF:rightsXlast l0 rep1 path2 is3=some res):Spec Tryz.prog 36 [.sl 5 (l0.map GRule.row),.int .u8 rep1,.sl 1 (path2.map zK),.fn (.func fis3) ais3 kis3] h (fun rr hh=>rr=.int .i64 res∧hh=h):=by
 unfold rightsXlast at hF
 refine yp Tryz.func36 rfl (by kernel_rfl) (env:=[.sl 5 (l0.map GRule.row),.int .u8 rep1,.sl 1 (path2.map zK),.fn (.func fis3) ais3 kis3,za,za,za,za,za,za,za,za,za,za,za,za,za,za,za,za,za,za,za,za,za,za,za,za,za,za,za,za,za,za,za,za,za,za,za,za,za,za,za]) (by rfl) (fun hlow hC=>?_)
 simp only [yj,AV.low,Bool.and_eq_true,Bool.true_and,and_true] at hlow
 have hlais3:∀ n m,h.blks.length≤n→h.toks.length≤m→yj n m ais3=true:=fun n m h1 h2=>yR h1 h2 _ (by simp [hlow])
 have hlkis3:∀ n m,h.blks.length≤n→h.toks.length≤m→yj n m kis3=true:=fun n m h1 h2=>yR h1 h2 _ (by simp [hlow])
 refine zk (zd ?_)
 refine zc rfl (zg rfl rfl (zb rfl)) xH ?_
 refine zf (zi (zk (zk (zd ?_))))
 refine zc rfl (ze rfl yg (zb rfl)) yy ?_
 refine z7 rfl (zQ rfl rfl rfl rfl el22 yl z0) yE fun hn1=>?_
 replace hn1:=xg hn1
 refine zc rfl (zu rfl yC rfl rfl) yG ?_
 refine zc rfl (zg rfl yr (zb rfl)) x8 ?_
 refine zf (zi (zO ?_))
 refine qd (fun (s1:Int)=>yB [4,5,6,7,8,10,11,12,13,14,15,16,17,18,19,20,21,22,23,24,25,26,27,28,29,30,31,32,33,34,35,36,37,38,39,40,41,42] [(9,.int .i64 s1)]) (fun s1=>h.ext [] []) hF (fun _=>by simp only [yB,qw,List.set_cons_succ,List.set_cons_zero];try rfl) (wk.le (by exact (.eq (.eq (.eq (.eq (.d4 (.drop (.cons (leV.of_eq rfl) (.d16 (.d16 (.drop leL.nil)))))))))))) ?_
 intro n1 s1 o1 hF hK1
 refine zk (zk (zd ?_))
 refine zc rfl (ze rfl xl (zb rfl)) yN ?_
 refine zc rfl (zu rfl yM rfl rfl) yO ?_
 refine zf (zi ?_)
 refine zH yL hF (fun hc8 hF=>?_) (fun hc8 hF=>?_)
 ·refine zI (zi (zk (zO (zk (zd ?_)))))
  refine zc rfl (ze rfl yg (zb rfl)) xd ?_
  refine zc rfl (ze rfl xl (zb rfl)) xi ?_
  refine zS hF (fun y9 hy9 hF=>?_)
  refine zc rfl (yd rfl el22 xb xh wd hy9) xA ?_
  refine zc rfl (zY rfl ty39.choose_spec.1 xz (zL (cs':=[.int .u8 y9.rep,.sl 1 (y9.path.map zK),.int .u8 y9.kinds,.bool y9.allow,.bool y9.read]) ty39.choose_spec.2 rfl rfl) (zb rfl)) xE ?_
  refine zc rfl (xf (n:=0) rfl ze39 rfl) yq ?_
  refine zc rfl (yk (cs':=[.int .u8 y9.rep,.sl 1 (y9.path.map zK),.int .u8 y9.kinds,.bool y9.allow,.bool y9.read]) rfl ty39.choose_spec.1 yi xB (zb rfl) rfl rfl rfl rfl rfl) rfl ?_
  refine zf (zi (zk (zd ?_)))
  refine zc rfl (zj rfl qr yi rfl) xI ?_
  refine zc rfl (zw rfl vb xF rfl (zr rfl) (zb rfl)) xD ?_
  refine zc rfl (ze rfl yw (zb rfl)) xM ?_
  refine zc rfl (zu rfl xu xN rfl) wa ?_
  refine zc rfl (ze rfl x9 (zb rfl)) wi ?_
  refine zp rfl (fun hb=>zj rfl qr yi rfl) wj ?_
  refine zp rfl (fun hb=>zw rfl vb (zn wm hb) rfl (zr rfl) (zb rfl)) wn ?_
  refine zp rfl (fun hb=>zu rfl (zn wl hb) rfl rfl) wD ?_
  refine zc rfl (zG rfl wh rfl wz (zZ (fun ht=>gF ht))) wC ?_
  refine zc rfl (ze rfl wM (zb rfl)) wI ?_
  refine zp rfl (fun hb=>ze rfl yX (zb rfl)) wH ?_
  refine zp rfl (fun hb=>zw rfl ty39.choose_spec.1 yi rfl (zL (cs':=[.int .u8 y9.rep,.sl 1 (y9.path.map zK),.int .u8 y9.kinds,.bool y9.allow,.bool y9.read]) ty39.choose_spec.2 rfl rfl) (zb rfl)) wP ?_
  refine yn hF (fun v10 hv10 hF=>?_)
  refine z8 rfl (fun hb=>s_callC rfl rfl (zn wy hb) (zo (zn wT hb) zy) (.cons (zb rfl) .nil) rfl) (fun hb=>his3 _ _ _ _ (hv10 hb)) wO ?_
  refine zc rfl (zG rfl wL wK rfl (zN (fun ht=>gT ht))) wN ?_
  refine zc rfl (ze rfl wS (zb rfl)) wG ?_
  refine zp rfl (fun hb=>zj rfl fo39x1 yi rfl) wF ?_
  refine zp rfl (fun hb=>zw rfl ty23 (zn wJ hb) rfl (zr rfl) (zb rfl)) wZ ?_
  refine zp rfl (fun hb=>ze rfl yz (zb rfl)) wY ?_
  refine yn hF (fun v11 hv11 hF=>?_)
  refine z8 rfl (fun hb=>zE rfl rfl rfl (zo (zn w6 hb) (zo (zn w5 hb) zy)) (.cons (zb rfl) (.cons (zb rfl) .nil))) (fun hb=>ok64 (hv11 hb)) (sk qP) ?_
  refine zc rfl (zG rfl wu (gk yg) rfl (zN (fun ht=>gT ht))) (sk qI) ?_
  refine zf (zi ?_)
  refine zH (gk yw) hF (fun hc12 hF=>?_) (fun hc12 hF=>?_)
  ·refine zk (zd ?_)
   refine zc rfl (ze rfl xl (zb rfl)) (sk yH) ?_
   refine zc rfl (zg rfl (gk yz) (zb rfl)) xH ?_
   refine zf (zi (zJ ?_))
   refine zF ?_
   refine zA ?_
   refine yf ?_
   obtain rfl:=Option.some.inj hF
   replace hF:=hK1
   refine zF ?_
   refine zA ?_
   obtain rfl:=Option.some.inj hF
   refine zB rfl (zC yV zD) (zz (leV.refl _) rfl ?_)
   exact ⟨rfl,rfl⟩
  ·refine zI (yb (zi (zd ?_)))
   refine zc rfl (ze rfl xl (zb rfl)) yT ?_
   refine zc rfl (zu rfl yQ rfl rfl) yZ ?_
   refine zc rfl (zg rfl yY (zb rfl)) x8 ?_
   refine zf (yu ?_)
   obtain rfl:=Option.some.inj hF
   exact ⟨(IntKind.wrap .i64 (s1 - (1:Int))),hK1,wk.trans (wk.le (by exact (.eq (.eq (.eq (.eq (.d4 (.drop (.cons (leV.of_eq rfl) (.d16 (.d16 (.drop leL.nil)))))))))))) (xY (by simp [yj,AV.low,hlais3,hlkis3]) rfl rfl (by simp [Blk.low,yj,AV.low,hlais3,hlkis3]))⟩
 ·refine yF ?_
  refine zX ?_
  refine zU ?_
  obtain rfl:=Option.some.inj hF
  replace hF:=hK1
  refine zV ?_
  refine zi (zk (zd ?_))
  refine zc rfl (zg rfl rfl (zb rfl)) xH ?_
  refine zf (zi (zJ ?_))
  obtain rfl:=Option.some.inj hF
  refine zB rfl (zC yV zD) (zz (leV.refl _) rfl ?_)
  exact ⟨rfl,rfl⟩
/-! varve/rights.Why 1 -/
theorem ok37 {x0:GRule} {c0:GOp} {i0:Nat} {res:Bool} {h:AH} (hb0:h.blk i0=some (.cells [.int .u8 c0.kind,.sl 1 (c0.path.map zK),.int .i64 c0.n,.str c0.text,.sl 3 (c0.dots.map GDot.row)])) (hF:qT x0 c0=some res):Spec Tryz.prog 37 [.agg [.int .u8 x0.rep,.sl 1 (x0.path.map zK),.int .u8 x0.kinds,.bool x0.allow,.bool x0.read],.ptr i0 0] h (fun rr hh=>rr=.bool res∧hh=h):=by
 unfold qT at hF
 refine zt Tryz.func37 rfl (by kernel_rfl) (env:=[.agg [.int .u8 x0.rep,.sl 1 (x0.path.map zK),.int .u8 x0.kinds,.bool x0.allow,.bool x0.read],.ptr i0 0,za,za,za,za,za,za,za,za,za]) (by rfl) ?_
 refine zk (zd ?_)
 refine zc rfl (xy (n:=0) rfl yg (zb rfl) rfl rfl) yH ?_
 refine zc rfl (zg rfl rfl (zb rfl)) xS ?_
 refine zf (zi (zk (zd ?_)))
 refine zc rfl (zj rfl fo39x2 yz rfl) yD ?_
 refine zc rfl (zw rfl vb yv rfl (zr rfl) (zb rfl)) xw ?_
 refine zc rfl (zj rfl fo26x0 yw rfl) xp ?_
 refine zc rfl (b_load rfl vb yS hb0 (zr rfl) (zb rfl)) xK ?_
 refine xG hF (fun hm1 hF=>?_)
 refine zc rfl (zu rfl yP xn (if_neg hm1)) xH ?_
 refine zc rfl (zu rfl yV rfl rfl) x8 ?_
 refine zc rfl (zu rfl xl rfl rfl) yq ?_
 refine zc rfl (zg rfl yi (zb rfl)) xS ?_
 refine zf (zi (zJ ?_))
 obtain rfl:=Option.some.inj hF
 refine zB rfl (zC yX zD) (zz (leV.refl _) rfl ?_)
 exact ⟨rfl,rfl⟩
/-! varve/rights.Why -/
theorem ok12 {l0:(List GRule)} {rep1:Int} {o2:GOp} {res:Int} {h:AH}  (hF:rightsWhy l0 rep1 o2=some res):Spec Tryz.prog 12 [.sl 5 (l0.map GRule.row),.int .u8 rep1,.agg [.int .u8 o2.kind,.sl 1 (o2.path.map zK),.int .i64 o2.n,.str o2.text,.sl 3 (o2.dots.map GDot.row)]] h (fun rr hh=>rr=.int .i64 res∧hh=h):=by
 unfold rightsWhy at hF
 refine zt Tryz.func12 rfl (by kernel_rfl) (env:=[.sl 5 (l0.map GRule.row),.int .u8 rep1,.agg [.int .u8 o2.kind,.sl 1 (o2.path.map zK),.int .i64 o2.n,.str o2.text,.sl 3 (o2.dots.map GDot.row)],za,za,za,za,za,za,za,za,za,za,za,za,za,za,za,za,za,za]) (by rfl) ?_
 refine zk (zd ?_)
 refine zc rfl (xy (n:=0) rfl yz (zb rfl) rfl rfl) xw ?_
 refine zc rfl (zg rfl rfl (zb rfl)) xp ?_
 refine zf (zi (zk (zk (zd ?_))))
 refine zc rfl (ze rfl yg (zb rfl)) xK ?_
 refine zS hF (fun v1 hv1 hF=>?_)
 refine zM rfl (zE rfl rfl rfl (zo xn zy) (.cons (zb rfl) .nil)) (ok10 hv1) xH ?_
 refine zc rfl (xV rfl yV rfl) x8 ?_
 refine zc rfl (ze rfl xl (zb rfl)) yq ?_
 refine zp rfl (fun hb=>zw rfl ty26.choose_spec.1 yP rfl (zL (cs':=[.int .u8 o2.kind,.sl 1 (o2.path.map zK),.int .i64 o2.n,.str o2.text,.sl 3 (o2.dots.map GDot.row)]) ty26.choose_spec.2 rfl rfl) (zb rfl)) yy ?_
 refine yn hF (fun v2 hv2 hF=>?_)
 refine z8 rfl (fun hb=>zE rfl rfl rfl (zo (zn yl hb) zy) (.cons (zb rfl) .nil)) (fun hb=>ok35 (hv2 hb)) yE ?_
 refine zp rfl (fun hb=>xV rfl (zn yC hb) rfl) yG ?_
 refine zc rfl (zG rfl yi rfl yr (zZ (fun ht=>gF ht))) yN ?_
 refine zf (zi ?_)
 refine zH yM hF (fun hc3 hF=>?_) (fun hc3 hF=>?_)
 ·refine zk (zd ?_)
  refine zc rfl (zg rfl rfl (zb rfl)) xp ?_
  refine zf (zi (zJ (zA ?_)))
  obtain rfl:=Option.some.inj hF
  refine zB rfl (zC yS zD) (zz (leV.refl _) rfl ?_)
  exact ⟨rfl,rfl⟩
 ·refine zI (zi (zk (zd ?_)))
  refine zc rfl (ze rfl yg (zb rfl)) yO ?_
  refine zc rfl (ze rfl yw (zb rfl)) yT ?_
  refine zc rfl (zj rfl fo26x1 yP rfl) yZ ?_
  refine zc rfl (zw rfl ty23 yY rfl (zr rfl) (zb rfl)) xd ?_
  refine zc rfl (qS rfl rfl rfl) xi ?_
  refine zS hF (fun v4 hv4 hF=>?_)
  refine zM rfl (zE rfl rfl rfl (zo yL (zo yQ (zo xb (zo xh zy)))) (.cons (zb rfl) (.cons (zb rfl) (.cons (zb rfl) (.cons (zb rfl) .nil))))) (ok36 (fun _ v L M hv=>ok37 (blk_ext2 (j:=0) rfl) hv) hv4) xA ?_
  refine zc rfl (zg rfl xz (zb rfl)) xp ?_
  refine zf (zi (zJ ?_))
  obtain rfl:=Option.some.inj hF
  refine zB rfl (zC yS zD) (zz (leV.refl _) rfl ?_)
  exact ⟨rfl,rfl⟩
/-! varve/rights.Allows -/
theorem ok13 {l0:(List GRule)} {rep1:Int} {o2:GOp} {res:Bool} {h:AH}  (hF:qp l0 rep1 o2=some res):Spec Tryz.prog 13 [.sl 5 (l0.map GRule.row),.int .u8 rep1,.agg [.int .u8 o2.kind,.sl 1 (o2.path.map zK),.int .i64 o2.n,.str o2.text,.sl 3 (o2.dots.map GDot.row)]] h (fun rr hh=>rr=.bool res∧hh=h):=by
 unfold qp at hF
 refine zt Tryz.func13 rfl (by kernel_rfl) (env:=[.sl 5 (l0.map GRule.row),.int .u8 rep1,.agg [.int .u8 o2.kind,.sl 1 (o2.path.map zK),.int .i64 o2.n,.str o2.text,.sl 3 (o2.dots.map GDot.row)],za,za,za,za,za,za,za,za,za,za,za,za,za,za,za,za,za,za]) (by rfl) ?_
 refine zk (zd ?_)
 refine zc rfl (xy (n:=0) rfl yz (zb rfl) rfl rfl) xw ?_
 refine zc rfl (zg rfl rfl (zb rfl)) xp ?_
 refine zf (zi (zk (zd ?_)))
 refine zc rfl (ze rfl yg (zb rfl)) xH ?_
 refine zc rfl (ze rfl yw (zb rfl)) x8 ?_
 refine zc rfl (zw rfl ty26.choose_spec.1 yP rfl (zL (cs':=[.int .u8 o2.kind,.sl 1 (o2.path.map zK),.int .i64 o2.n,.str o2.text,.sl 3 (o2.dots.map GDot.row)]) ty26.choose_spec.2 rfl rfl) (zb rfl)) yq ?_
 refine zS hF (fun v1 hv1 hF=>?_)
 refine zM rfl (zE rfl rfl rfl (zo yV (zo xl (zo yi zy))) (.cons (zb rfl) (.cons (zb rfl) (.cons (zb rfl) .nil)))) (ok12 hv1) yy ?_
 refine zc rfl (zg rfl yl (zb rfl)) xK ?_
 refine zf (zi (zk (zd ?_)))
 refine zc rfl (ze rfl xn (zb rfl)) yE ?_
 refine zc rfl (zu rfl yC rfl rfl) yG ?_
 refine zc rfl (ze rfl yr (zb rfl)) yN ?_
 refine zp rfl (fun hb=>ze rfl yg (zb rfl)) yO ?_
 refine zp rfl (fun hb=>ze rfl xn (zb rfl)) yT ?_
 refine xG hF (fun hg2 hF=>?_)
 refine zp rfl (fun hb=>yK default rfl el22 (zn yL hb) (zn yQ hb) wd (hg2 hb)) yZ ?_
 refine zp rfl (fun hb=>zj rfl fo39x3 (zn yY hb) rfl) xd ?_
 refine zp rfl (fun hb=>zY rfl ty4 (zn xb hb) (zr rfl) (zb rfl)) xi ?_
 refine zc rfl (zG rfl yM xh rfl (zN (fun ht=>gT ht))) xA ?_
 refine zc rfl (zg rfl xz (zb rfl)) xp ?_
 refine zf (zi (zJ ?_))
 obtain rfl:=Option.some.inj hF
 refine zB rfl (zC yS zD) (zz (leV.refl _) rfl ?_)
 exact ⟨rfl,rfl⟩
/-! varve/varvelaw42.known -/
theorem ok6  {res:Bool} {h:AH}  (hF:vP  = some res):Spec Tryz.prog 6 [] h (fun rr hh=>rr=.bool res∧hh=h):=by
 unfold vP at hF
 refine zt Tryz.func6 rfl (by kernel_rfl) (env:=[za,za,za,za,za,za,za,za,za,za,za,za,za,za,za,za,za,za,za,za,za,za,za,za,za,za,za,za,za]) (by rfl) ?_
 refine zk (zd ?_)
 refine zc rfl (zg rfl rfl (zb rfl)) qP ?_
 refine zf (zi (zk (zd ?_)))
 refine zc rfl (yh (es:=([([42,42]:zR)]:List zR).map zK) rfl xc ze9 rfl rfl (zT rfl ye) (.cons (zb rfl) .nil) rfl rfl rfl) xS ?_
 refine zc rfl (wR (cs':=[.int .u8 (255:Int),.osl none 1 (([([42,42]:zR)]:List zR).map zK),.int .u8 (62:Int),.bool true,.bool false]) rfl su39 ze39 pl39 (zT rfl (zT yX (zT rfl (zT rfl ye)))) (.cons (zb rfl) (.cons (zb rfl) (.cons (zb rfl) (.cons (zb rfl) .nil)))) rfl rfl) yD ?_
 refine zc rfl (yh (es:=([([97]:zR),([42,42]:zR)]:List zR).map zK) rfl xc ze9 rfl rfl (zT rfl (zT rfl ye)) (.cons (zb rfl) (.cons (zb rfl) .nil)) rfl rfl rfl) xw ?_
 refine zc rfl (wR (cs':=[.int .u8 (1:Int),.osl none 1 (([([97]:zR),([42,42]:zR)]:List zR).map zK),.int .u8 (62:Int),.bool false,.bool false]) rfl su39 ze39 pl39 (zT rfl (zT yP (zT rfl ye))) (.cons (zb rfl) (.cons (zb rfl) (.cons (zb rfl) .nil))) rfl rfl) xp ?_
 refine zc rfl (yh (es:=([(GRule.mk (255:Int) ([([42,42]:zR)]:List zR) (62:Int) true false),(GRule.mk (1:Int) ([([97]:zR),([42,42]:zR)]:List zR) (62:Int) false false)]:List GRule).map GRule.row) rfl el22 ze39 rfl rfl (zT yv (zT yS ye)) (.cons (zb rfl) (.cons (zb rfl) .nil)) rfl rfl rfl) xK ?_
 refine zc rfl (zg rfl xn (zb rfl)) qI ?_
 refine zf (zi (zk (zd ?_)))
 refine zc rfl (yh (es:=([([97]:zR),([98]:zR)]:List zR).map zK) rfl xc ze9 rfl rfl (zT rfl (zT rfl ye)) (.cons (zb rfl) (.cons (zb rfl) .nil)) rfl rfl rfl) xH ?_
 refine zc rfl (wR (cs':=[.int .u8 (1:Int),.osl none 1 (([([97]:zR),([98]:zR)]:List zR).map zK),.int .i64 (0:Int),.str ([]:zR),.osl none 3 (([]:List GDot).map GDot.row)]) rfl su26 ze26 pl26 (zT rfl (zT yV ye)) (.cons (zb rfl) (.cons (zb rfl) .nil)) rfl rfl) x8 ?_
 refine zc rfl (xf (n:=0) rfl ze26 rfl) yH ?_
 refine zc rfl (yk (cs':=[.int .u8 (1:Int),.osl none 1 (([([97]:zR),([98]:zR)]:List zR).map zK),.int .i64 (0:Int),.str ([]:zR),.osl none 3 (([]:List GDot).map GDot.row)]) rfl ty26.choose_spec.1 yz xl (zb rfl) rfl rfl rfl rfl rfl) rfl ?_
 refine zf (zi (zk (zd ?_)))
 refine zc rfl (ze rfl yw (zb rfl)) yq ?_
 refine zS hF (fun v1 hv1 hF=>?_)
 refine zM rfl (zE rfl rfl rfl (zo yi zy) (.cons (zb rfl) .nil)) ((ok10 hv1).le (.cons (leV.osl _ _ _) leL.nil)) yy ?_
 refine zc rfl (ze rfl yl (zb rfl)) yE ?_
 refine zp rfl (fun hb=>ze rfl yw (zb rfl)) yG ?_
 refine zp rfl (fun hb=>zw rfl ty26.choose_spec.1 yz rfl (zL (cs':=[.int .u8 (1:Int),.osl none 1 (([([97]:zR),([98]:zR)]:List zR).map zK),.int .i64 (0:Int),.str ([]:zR),.osl none 3 (([]:List GDot).map GDot.row)]) ty26.choose_spec.2 rfl rfl) (zb rfl)) yN ?_
 refine yn hF (fun v2 hv2 hF=>?_)
 refine z8 rfl (fun hb=>zE rfl rfl rfl (zo (zn yr hb) (zo rfl (zo (zn yM hb) zy))) (.cons (zb rfl) (.cons (zb rfl) (.cons (zb rfl) .nil)))) (fun hb=>(ok13 (hv2 hb)).le (.cons (leV.osl _ _ _) (.eq (.cons (leV.agg (.eq (.cons (leV.osl _ _ _) (.eq (.eq (.cons (leV.osl _ _ _) leL.nil))))) rfl) leL.nil)))) yO ?_
 refine zp rfl (fun hb=>xV rfl (zn yL hb) rfl) yT ?_
 refine zc rfl (zG rfl yC yQ rfl (zN (fun ht=>gT ht))) yZ ?_
 refine zc rfl (ze rfl yY (zb rfl)) xd ?_
 refine zp rfl (fun hb=>ze rfl yw (zb rfl)) xi ?_
 refine zp rfl (fun hb=>zw rfl ty26.choose_spec.1 yz rfl (zL (cs':=[.int .u8 (1:Int),.osl none 1 (([([97]:zR),([98]:zR)]:List zR).map zK),.int .i64 (0:Int),.str ([]:zR),.osl none 3 (([]:List GDot).map GDot.row)]) ty26.choose_spec.2 rfl rfl) (zb rfl)) xA ?_
 refine yn hF (fun v3 hv3 hF=>?_)
 refine z8 rfl (fun hb=>zE rfl rfl rfl (zo (zn xh hb) (zo rfl (zo (zn xz hb) zy))) (.cons (zb rfl) (.cons (zb rfl) (.cons (zb rfl) .nil)))) (fun hb=>(ok13 (hv3 hb)).le (.cons (leV.osl _ _ _) (.eq (.cons (leV.agg (.eq (.cons (leV.osl _ _ _) (.eq (.eq (.cons (leV.osl _ _ _) leL.nil))))) rfl) leL.nil)))) xE ?_
 refine zc rfl (zG rfl xb xB rfl (zN (fun ht=>gT ht))) xI ?_
 refine zc rfl (ze rfl xF (zb rfl)) xD ?_
 refine zp rfl (fun hb=>ze rfl yw (zb rfl)) xM ?_
 refine zp rfl (fun hb=>zw rfl ty26.choose_spec.1 yz rfl (zL (cs':=[.int .u8 (1:Int),.osl none 1 (([([97]:zR),([98]:zR)]:List zR).map zK),.int .i64 (0:Int),.str ([]:zR),.osl none 3 (([]:List GDot).map GDot.row)]) ty26.choose_spec.2 rfl rfl) (zb rfl)) wa ?_
 refine yn hF (fun v4 hv4 hF=>?_)
 refine z8 rfl (fun hb=>zE rfl rfl rfl (zo (zn xN hb) (zo rfl (zo (zn x9 hb) zy))) (.cons (zb rfl) (.cons (zb rfl) (.cons (zb rfl) .nil)))) (fun hb=>(ok12 (hv4 hb)).le (.cons (leV.osl _ _ _) (.eq (.cons (leV.agg (.eq (.cons (leV.osl _ _ _) (.eq (.eq (.cons (leV.osl _ _ _) leL.nil))))) rfl) leL.nil)))) wi ?_
 refine zp rfl (fun hb=>zu rfl (zn wh hb) rfl rfl) wj ?_
 refine zc rfl (zG rfl xu wm rfl (zN (fun ht=>gT ht))) wn ?_
 refine zc rfl (zg rfl wl (zb rfl)) qP ?_
 refine zf (zi (zJ ?_))
 obtain rfl:=Option.some.inj hF
 refine zB rfl (zC yg zD) (zz (leV.refl _) rfl ?_)
 exact ⟨rfl,rfl⟩
/-! varve/rights.Shows 1 -/
theorem ok38 {x0:GRule} {res:Bool} {h:AH}  (hF:rightsShowsC1 x0=some res):Spec Tryz.prog 38 [.agg [.int .u8 x0.rep,.sl 1 (x0.path.map zK),.int .u8 x0.kinds,.bool x0.allow,.bool x0.read]] h (fun rr hh=>rr=.bool res∧hh=h):=by
 unfold rightsShowsC1 at hF
 refine zt Tryz.func38 rfl (by kernel_rfl) (env:=[.agg [.int .u8 x0.rep,.sl 1 (x0.path.map zK),.int .u8 x0.kinds,.bool x0.allow,.bool x0.read],za,za,za,za]) (by rfl) ?_
 refine zk (zd ?_)
 refine zc rfl (xy (n:=0) rfl yg (zb rfl) rfl rfl) qI ?_
 refine zc rfl (zg rfl rfl (zb rfl)) yH ?_
 refine zf (zi (zk (zd ?_)))
 refine zc rfl (zj rfl fo39x4 yw rfl) xS ?_
 refine zc rfl (zw rfl ty4 yX rfl (zr rfl) (zb rfl)) yD ?_
 refine zc rfl (zg rfl yv (zb rfl)) yH ?_
 refine zf (zi (zJ ?_))
 obtain rfl:=Option.some.inj hF
 refine zB rfl (zC yz zD) (zz (leV.refl _) rfl ?_)
 exact ⟨rfl,rfl⟩
/-! varve/rights.Shows -/
theorem ok14 {l0:(List GRule)} {rep1:Int} {path2:(List zR)} {res:Bool} {h:AH}  (hF:wX l0 rep1 path2=some res):Spec Tryz.prog 14 [.sl 5 (l0.map GRule.row),.int .u8 rep1,.sl 1 (path2.map zK)] h (fun rr hh=>rr=.bool res∧hh=h):=by
 unfold wX at hF
 refine zt Tryz.func14 rfl (by kernel_rfl) (env:=[.sl 5 (l0.map GRule.row),.int .u8 rep1,.sl 1 (path2.map zK),za,za,za,za,za,za,za,za,za,za,za,za,za,za,za,za,za,za,za,za,za]) (by rfl) ?_
 refine zk (zd ?_)
 refine zc rfl (zg rfl rfl (zb rfl)) xp ?_
 refine zf (zi (zk (zk (zd ?_))))
 refine zc rfl (ze rfl yg (zb rfl)) xH ?_
 refine zS hF (fun v1 hv1 hF=>?_)
 refine zM rfl (zE rfl rfl rfl (zo yV zy) (.cons (zb rfl) .nil)) (ok10 hv1) x8 ?_
 refine zc rfl (xV rfl xl rfl) yq ?_
 refine zf (zi ?_)
 refine zH yi hF (fun hc2 hF=>?_) (fun hc2 hF=>?_)
 ·refine zk (zd ?_)
  refine zc rfl (zg rfl rfl (zb rfl)) xp ?_
  refine zf (zi (zJ (zA ?_)))
  obtain rfl:=Option.some.inj hF
  refine zB rfl (zC yS zD) (zz (leV.refl _) rfl ?_)
  exact ⟨rfl,rfl⟩
 ·refine zI (zi (zk (zd ?_)))
  refine zc rfl (ze rfl yg (zb rfl)) yy ?_
  refine zc rfl (ze rfl yw (zb rfl)) yE ?_
  refine zc rfl (ze rfl yz (zb rfl)) yG ?_
  refine zS hF (fun v3 hv3 hF=>?_)
  refine zM rfl (zE rfl rfl rfl (zo yl (zo yC (zo yr (zo rfl zy)))) (.cons (zb rfl) (.cons (zb rfl) (.cons (zb rfl) (.cons (zb rfl) .nil))))) (ok36 (fun _ v L M hv=>ok38  hv) hv3) yN ?_
  refine zc rfl (zg rfl yM (zb rfl)) xK ?_
  refine zf (zi (zk (zd ?_)))
  refine zc rfl (ze rfl xn (zb rfl)) yO ?_
  refine zc rfl (zu rfl yL rfl rfl) yT ?_
  refine zc rfl (ze rfl yQ (zb rfl)) yZ ?_
  refine zp rfl (fun hb=>ze rfl yg (zb rfl)) xd ?_
  refine zp rfl (fun hb=>ze rfl xn (zb rfl)) xi ?_
  refine xG hF (fun hg4 hF=>?_)
  refine zp rfl (fun hb=>yK default rfl el22 (zn xb hb) (zn xh hb) wd (hg4 hb)) xA ?_
  refine zp rfl (fun hb=>zj rfl fo39x3 (zn xz hb) rfl) xE ?_
  refine zp rfl (fun hb=>zY rfl ty4 (zn xB hb) (zr rfl) (zb rfl)) xI ?_
  refine zc rfl (zG rfl yY xF rfl (zN (fun ht=>gT ht))) xD ?_
  refine zc rfl (zg rfl xu (zb rfl)) xp ?_
  refine zf (zi (zJ ?_))
  obtain rfl:=Option.some.inj hF
  refine zB rfl (zC yS zD) (zz (leV.refl _) rfl ?_)
  exact ⟨rfl,rfl⟩
/-! varve/leaf.isTime -/
theorem ok106 {n0:Int} {res:Bool} {h:AH}  (hF:leafXisTime n0=some res):Spec Tryz.prog 106 [.int .u64 n0] h (fun rr hh=>rr=.bool res∧hh=h):=by
 unfold leafXisTime at hF
 refine zt Tryz.func106 rfl (by kernel_rfl) (env:=[.int .u64 n0,za,za,za,za,za,za,za,za]) (by rfl) ?_
 refine zk (zd ?_)
 refine zc rfl (zg rfl rfl (zb rfl)) yH ?_
 refine zf (zi (zk (zd ?_)))
 refine zc rfl (ze rfl yg (zb rfl)) xS ?_
 refine zc rfl (zu rfl yX rfl rfl) yD ?_
 refine zc rfl (ze rfl yv (zb rfl)) xw ?_
 refine zp rfl (fun hb=>ze rfl yg (zb rfl)) xp ?_
 refine zp rfl (fun hb=>zu rfl (zn yS hb) rfl rfl) xK ?_
 refine zc rfl (zG rfl yP xn rfl (zN (fun ht=>gT ht))) xH ?_
 refine zc rfl (zg rfl yV (zb rfl)) yH ?_
 refine zf (zi (zJ ?_))
 obtain rfl:=Option.some.inj hF
 refine zB rfl (zC yz zD) (zz (leV.refl _) rfl ?_)
 exact ⟨rfl,rfl⟩
/-! varve/leaf.isText -/
theorem ok108 {s0:zR} {res:Bool} {h:AH}  (hF:leafXisText s0=some res):Spec Tryz.prog 108 [.str s0] h (fun rr hh=>rr=.bool res∧hh=h):=by
 unfold leafXisText at hF
 refine zt Tryz.func108 rfl (by kernel_rfl) (env:=[.str s0,za,za,za,za,za]) (by rfl) ?_
 refine zk (zd ?_)
 refine zc rfl (zg rfl rfl (zb rfl)) yH ?_
 refine zf (zi (zk (zd ?_)))
 refine zc rfl (ze rfl yg (zb rfl)) xS ?_
 refine z7 rfl (vq rfl rfl rfl rfl vt yX) yD fun hn1=>?_
 replace hn1:=xg hn1
 refine zc rfl (zu rfl yv rfl rfl) xw ?_
 refine zc rfl (zg rfl yP (zb rfl)) yH ?_
 refine zf (zi (zJ ?_))
 obtain rfl:=Option.some.inj hF
 refine zB rfl (zC yz zD) (zz (leV.refl _) rfl ?_)
 exact ⟨rfl,rfl⟩
/-! varve/leaf.compare -/
theorem ok144 {a0:Int} {d1:GDot} {b2:Int} {o3:GDot} {res:Int} {h:AH}  (hF:leafXcompare a0 d1 b2 o3=some res):Spec Tryz.prog 144 [.int .u64 a0,.agg [.int .u8 d1.actor.rep,.int .u32 d1.actor.inc,.int .u64 d1.seq],.int .u64 b2,.agg [.int .u8 o3.actor.rep,.int .u32 o3.actor.inc,.int .u64 o3.seq]] h (fun rr hh=>rr=.int .i64 res∧hh=h):=by
 unfold leafXcompare at hF
 refine zt Tryz.func144 rfl (by kernel_rfl) (env:=[.int .u64 a0,.agg [.int .u8 d1.actor.rep,.int .u32 d1.actor.inc,.int .u64 d1.seq],.int .u64 b2,.agg [.int .u8 o3.actor.rep,.int .u32 o3.actor.inc,.int .u64 o3.seq],za,za,za,za,za,za,za,za,za,za,za,za,za]) (by rfl) ?_
 refine zk (zd ?_)
 refine zc rfl (xy (n:=0) rfl yw (zb rfl) rfl rfl) xw ?_
 refine zc rfl (xy (n:=1) rfl yX (zb rfl) rfl rfl) xK ?_
 refine zc rfl (zg rfl rfl (zb rfl)) xH ?_
 refine zf (zi (zk ?_))
 refine yI [2,5,7] [] trivial mixed (by kernel_rfl) ?_
 refine zq rfl rfl (ze rfl yg (zb rfl)) x8 ?_
 refine zq rfl rfl (ze rfl yz (zb rfl)) yq ?_
 refine zS hF (fun v1 hv1 hF=>?_)
 refine yW rfl rfl (fun _=>zE rfl rfl rfl (zo xl (zo yi zy)) (.cons (zb rfl) (.cons (zb rfl) .nil))) (by rintro _ ⟨B2,T2,rfl,hk2⟩;exact ok142 hv1) yy ?_
 refine zq rfl rfl (zw rfl ty55.choose_spec.1 yP rfl (zL (cs':=[.int .u8 d1.actor.rep,.int .u32 d1.actor.inc,.int .u64 d1.seq]) ty55.choose_spec.2 rfl rfl) (zb rfl)) yE ?_
 refine zq rfl rfl (zw rfl ty55.choose_spec.1 xn rfl (zL (cs':=[.int .u8 o3.actor.rep,.int .u32 o3.actor.inc,.int .u64 o3.seq]) ty55.choose_spec.2 rfl rfl) (zb rfl)) yG ?_
 refine zS hF (fun v2 hv2 hF=>?_)
 refine yW rfl rfl (fun _=>zE rfl rfl rfl (zo yC (zo yr zy)) (.cons (zb rfl) (.cons (zb rfl) .nil))) (by rintro _ ⟨B2,T2,rfl,hk2⟩;exact ok123 hv2) yN ?_
 refine zq rfl rfl (yh (es:=([v1,v2]:List Int).map (q7 .i64)) rfl el43 ze3 rfl rfl (zT yl (zT yM ye)) (.cons (zb rfl) (.cons (zb rfl) .nil)) rfl rfl rfl) yO ?_
 refine zS hF (fun v3 hv3 hF=>?_)
 refine yW rfl rfl (fun _=>zE rfl rfl rfl (zo yL zy) (.cons (zb rfl) .nil)) (by rintro _ ⟨B2,T2,rfl,hk2⟩;exact (ok111 hv3).le (.cons (leV.osl _ _ _) leL.nil)) yT ?_
 refine zq rfl rfl (zg rfl yQ (zb rfl)) xH ?_
 refine yo ?_
 refine zi (zJ ?_)
 obtain rfl:=Option.some.inj hF
 refine zB rfl (zC yV zD) (zz (leV.refl _) rfl ?_)
 exact ⟨rfl,rfl⟩
/-! varve/leaf.Ahead -/
theorem ok126 {time0:Int} {d1:GDot} {other2:Int} {o3:GDot} {res:Bool} {h:AH}  (hF:leafAhead time0 d1 other2 o3=some res):Spec Tryz.prog 126 [.int .u64 time0,.agg [.int .u8 d1.actor.rep,.int .u32 d1.actor.inc,.int .u64 d1.seq],.int .u64 other2,.agg [.int .u8 o3.actor.rep,.int .u32 o3.actor.inc,.int .u64 o3.seq]] h (fun rr hh=>rr=.bool res∧hh=h):=by
 unfold leafAhead at hF
 refine zt Tryz.func126 rfl (by kernel_rfl) (env:=[.int .u64 time0,.agg [.int .u8 d1.actor.rep,.int .u32 d1.actor.inc,.int .u64 d1.seq],.int .u64 other2,.agg [.int .u8 o3.actor.rep,.int .u32 o3.actor.inc,.int .u64 o3.seq],za,za,za,za,za,za,za,za,za,za,za]) (by rfl) ?_
 refine zk (zd ?_)
 refine zc rfl (xy (n:=0) rfl yw (zb rfl) rfl rfl) xw ?_
 refine zc rfl (xy (n:=1) rfl yX (zb rfl) rfl rfl) xK ?_
 refine zc rfl (zg rfl rfl (zb rfl)) xH ?_
 refine zf (zi (zk (zd ?_)))
 refine zc rfl (ze rfl yg (zb rfl)) x8 ?_
 refine zc rfl (zw rfl ty55.choose_spec.1 yP rfl (zL (cs':=[.int .u8 d1.actor.rep,.int .u32 d1.actor.inc,.int .u64 d1.seq]) ty55.choose_spec.2 rfl rfl) (zb rfl)) yq ?_
 refine zc rfl (ze rfl yz (zb rfl)) yy ?_
 refine zc rfl (zw rfl ty55.choose_spec.1 xn rfl (zL (cs':=[.int .u8 o3.actor.rep,.int .u32 o3.actor.inc,.int .u64 o3.seq]) ty55.choose_spec.2 rfl rfl) (zb rfl)) yE ?_
 refine zS hF (fun v1 hv1 hF=>?_)
 refine zM rfl (zE rfl rfl rfl (zo xl (zo yi (zo yl (zo yC zy)))) (.cons (zb rfl) (.cons (zb rfl) (.cons (zb rfl) (.cons (zb rfl) .nil))))) (ok144 hv1) yG ?_
 refine zc rfl (zu rfl yr rfl rfl) yN ?_
 refine zc rfl (zg rfl yM (zb rfl)) xH ?_
 refine zf (zi (zJ ?_))
 obtain rfl:=Option.some.inj hF
 refine zB rfl (zC yV zD) (zz (leV.refl _) rfl ?_)
 exact ⟨rfl,rfl⟩
/-! varve/leaf.twice -/
theorem ok127 {l0:(List GItem)} {res:Bool} {h:AH}  (hF:leafXtwice l0=some res):Spec Tryz.prog 127 [.sl 5 (l0.map GItem.row)] h (fun rr hh=>rr=.bool res∧hh=h):=by
 unfold leafXtwice at hF
 refine zt Tryz.func127 rfl (by kernel_rfl) (env:=[.sl 5 (l0.map GItem.row),za,za,za,za,za,za,za,za,za,za,za,za,za,za,za,za,za,za,za,za,za,za,za,za,za]) (by rfl) ?_
 refine zk (zd ?_)
 refine zc rfl (zg rfl rfl (zb rfl)) yH ?_
 refine zf (zi (zk (zd ?_)))
 refine zc rfl (e_makeMap (n:=0) rfl rfl) xp ?_
 refine zc rfl (zg rfl yS (zb rfl)) xS ?_
 refine zf (zi (zk (zk (zd ?_))))
 refine zc rfl (ze rfl yg (zb rfl)) xK ?_
 refine z7 rfl (zQ rfl rfl rfl rfl el56 xn z0) xH fun hn1=>?_
 replace hn1:=xg hn1
 refine zc rfl (ze rfl rfl (zb rfl)) x8 ?_
 refine zf (zi (zO ?_))
 refine ym (fun (n1:Nat) (s1:List (GDot×Int))=>yB [1,2,4,5,6,10,11,12,13,14,15,16,17,18,19,20,21,22,23,24,25] [(9,.int .i64 (n1:Int))]) (fun s1=>h.ext [.mapo (s1.map (mrow (fun x=>AV.agg (GDot.row x)) (AV.int .i64))) 0] []) hF (fun _ _=>by simp only [yB,qw,List.set_cons_succ,List.set_cons_zero];try rfl) (wk.le (by exact (.eq (.drop (.drop (.eq (.drop (.drop (.drop (.eq (.eq (.cons (leV.of_eq rfl) (.d16 leL.nil))))))))))))) ?_
 intro n1 s1 hi1 hF
 refine zk (zd ?_)
 refine zc rfl (zu rfl xl yV rfl) yq ?_
 refine zf (zi (zk ?_))
 refine yJ yi hF (fun x1 o1 hl1 hx1 hF hK1=>?_) (fun hF=>?_)
 ·refine zI (zi (zk (zO (zk (zd ?_)))))
  refine zc rfl (yd rfl el56 xn xl wd (yA hx1)) yy ?_
  refine zc rfl (zY rfl ty77.choose_spec.1 yl (zL (cs':=[.int .u64 x1.time,.int .u8 x1.dot.actor.rep,.int .u32 x1.dot.actor.inc,.int .u64 x1.dot.seq,.str x1.text]) ty77.choose_spec.2 rfl rfl) (zb rfl)) yE ?_
  refine zc rfl (xf (n:=1) rfl ze77 rfl) xw ?_
  refine zc rfl (yk (cs':=[.int .u64 x1.time,.int .u8 x1.dot.actor.rep,.int .u32 x1.dot.actor.inc,.int .u64 x1.dot.seq,.str x1.text]) rfl ty77.choose_spec.1 yP yC (zb rfl) rfl rfl rfl rfl rfl) rfl ?_
  refine zf (zi ?_)
  refine r_drawnF [3] (fun _=>MapE h 0 (s1.map (mrow (fun x=>AV.agg (GDot.row x)) (AV.int .i64))) ((ment GDot.eqb (0:Int) s1 x1.dot).map (mrow (fun x=>AV.agg (GDot.row x)) (AV.int .i64)))) (fun _=>⟨_,_,rfl,.inl rfl⟩) mixed (by kernel_rfl) ?_
  refine zq rfl rfl (ze rfl yX (zb rfl)) yG ?_
  refine zq rfl rfl (zj rfl fo77x1 yP rfl) yN ?_
  refine zq rfl rfl (zw rfl ty55.choose_spec.1 yM rfl (zL (cs':=[.int .u8 x1.dot.actor.rep,.int .u32 x1.dot.actor.inc,.int .u64 x1.dot.seq]) ty55.choose_spec.2 rfl rfl) (zb rfl)) yO ?_
  refine draw_okN rfl rfl (e_lookupF (m:=s1) (k:=x1.dot) (d:=(0:Int)) (j:=0) (kv:=(fun x=>AV.agg (GDot.row x))) (vv:=(AV.int .i64)) rfl Tryz.underlying166 kq55 az3 yr yL) yT ?_
  refine zq rfl rfl (zu rfl yQ rfl rfl) yZ ?_
  refine wq rfl (FOk.all ⟨_,_,rfl,.inr rfl⟩) (by kernel_rfl) rfl (e_entry (m:=s1) (k:=x1.dot) (d:=(0:Int)) (j:=0) (kv:=(fun x=>AV.agg (GDot.row x))) (vv:=(AV.int .i64)) rfl Tryz.underlying166 kq55 az3 yr rfl yL rfl) xd ?_
  refine zq rfl rfl (xe rfl xb rfl (zb rfl)) xi ?_
  refine wq rfl (FOk.skip (by kernel_rfl)) (by kernel_rfl) rfl (e_entryStore (m:=s1) (k:=x1.dot) (d:=(0:Int)) (v:=(IntKind.wrap .i64 ((vU GDot.eqb (0:Int) s1 x1.dot)+(1:Int)))) (j:=0) (eq:=GDot.eqb) (kv:=(fun x=>AV.agg (GDot.row x))) (vv:=(AV.int .i64)) rfl yr rfl xh rfl yY rfl) rfl ?_
  refine yo ?_
  refine yb (zi (zd ?_))
  refine zc rfl (zu rfl xl rfl rfl) xA ?_
  refine zc rfl (ze rfl xz (zb rfl)) x8 ?_
  refine zf (yu ?_)
  obtain rfl:=Option.some.inj hF
  exact ⟨(mput GDot.eqb s1 x1.dot (IntKind.wrap .i64 ((vU GDot.eqb (0:Int) s1 x1.dot)+(1:Int)))),hl1,hK1,wk.trans (wk.le (by exact (.eq (.drop (.drop (.eq (.drop (.drop (.drop (.eq (.eq (.cons (leV.of_eq (wx (by omega) (by omega))) (.d16 leL.nil))))))))))))) (xY (by simp [yj,AV.low]) rfl rfl (by simp [Blk.low,yj,AV.low,GDot.row,mrow]))⟩
 ·refine yF ?_
  refine zX ?_
  refine zU ?_
  refine zV ?_
  refine zi (zk (zd ?_))
  refine zc rfl (ze rfl yX (zb rfl)) xE ?_
  refine ops_mlen (m:=s1) (j:=0) (kv:=(fun x=>AV.agg (GDot.row x))) (vv:=(AV.int .i64)) rfl rfl rfl rfl rfl Tryz.underlying166 xB rfl xI ?_
  refine zc rfl (ze rfl yg (zb rfl)) xD ?_
  refine z7 rfl (zQ rfl rfl rfl rfl el56 xu z0) xM fun hn7=>?_
  replace hn7:=xg hn7
  refine zc rfl (zu rfl xF xN rfl) wa ?_
  refine zc rfl (zg rfl x9 (zb rfl)) yH ?_
  refine zf (zi (zJ ?_))
  obtain rfl:=Option.some.inj hF
  refine zB rfl (zC yz zD) (zz (leV.refl _) rfl ?_)
  exact ⟨rfl,rfl⟩
/-! varve/leaf.items -/
theorem ok109 {l0:(List GItem)} {timed1:Bool} {res:Bool} {h:AH}  (hF:leafXitems l0 timed1=some res):Spec Tryz.prog 109 [.sl 5 (l0.map GItem.row),.bool timed1] h (fun rr hh=>rr=.bool res∧hh=h):=by
 unfold leafXitems at hF
 refine zt Tryz.func109 rfl (by kernel_rfl) (env:=[.sl 5 (l0.map GItem.row),.bool timed1,za,za,za,za,za,za,za,za,za,za,za,za,za,za,za,za,za,za,za,za,za,za,za,za,za,za,za,za,za,za,za,za,za,za,za,za,za,za,za,za,za,za,za,za,za,za,za,za,za,za,za,za,za,za,za,za,za,za,za,za,za,za,za,za]) (by rfl) ?_
 refine zk (zd ?_)
 refine zc rfl (zg rfl rfl (zb rfl)) yD ?_
 refine zf (zi (zk (zk (zd ?_))))
 refine zc rfl (ze rfl yg (zb rfl)) xK ?_
 refine z7 rfl (zQ rfl rfl rfl rfl el56 xn z0) xH fun hn1=>?_
 replace hn1:=xg hn1
 refine zc rfl (ze rfl rfl (zb rfl)) x8 ?_
 refine zf (zi (zO ?_))
 refine ym (fun (n1:Nat) (s1:Unit)=>yB [2,3,4,5,6,10,11,12,13,14,15,16,17,18,19,20,21,22,23,24,25,26,27,28,29,30,31,32,33,34,35,36,37,38,39,40,41,42,43,44,45,46,47,48,49,50,51,52,53,54,55,56,57,58,59,60,61,62,63,64,65] [(9,.int .i64 (n1:Int))]) (fun s1=>h.ext [] []) hF (fun _ _=>by simp only [yB,qw,List.set_cons_succ,List.set_cons_zero];try rfl) (wk.le (by exact (.eq (.eq (.d4 (.drop (.eq (.eq (.cons (leV.of_eq rfl) (.d16 (.d16 (.d16 (.d4 (.d4 leL.nil)))))))))))))) ?_
 intro n1 s1 hi1 hF
 refine zk (zd ?_)
 refine zc rfl (zu rfl xl yV rfl) yq ?_
 refine zf (zi (zk ?_))
 refine yJ yi hF (fun x1 o1 hl1 hx1 hF hK1=>?_) (fun hF=>?_)
 ·refine zI (zi (zk (zO (zk (zd ?_)))))
  refine zc rfl (ze rfl xl (zb rfl)) yy ?_
  refine zc rfl (yd rfl el56 xn xl wd (yA hx1)) yE ?_
  refine zc rfl (zY rfl ty77.choose_spec.1 yC (zL (cs':=[.int .u64 x1.time,.int .u8 x1.dot.actor.rep,.int .u32 x1.dot.actor.inc,.int .u64 x1.dot.seq,.str x1.text]) ty77.choose_spec.2 rfl rfl) (zb rfl)) yG ?_
  refine zc rfl (xf (n:=0) rfl ze77 rfl) xp ?_
  refine zc rfl (zg rfl yl (zb rfl)) xw ?_
  refine zc rfl (yk (cs':=[.int .u64 x1.time,.int .u8 x1.dot.actor.rep,.int .u32 x1.dot.actor.inc,.int .u64 x1.dot.seq,.str x1.text]) rfl ty77.choose_spec.1 yS yr (zb rfl) rfl rfl rfl rfl rfl) rfl ?_
  refine zf (zi (zk (zk (zd ?_))))
  refine zc rfl (zj rfl fo77x1 yS rfl) yN ?_
  refine zc rfl (zw rfl ty55.choose_spec.1 yM rfl (zL (cs':=[.int .u8 x1.dot.actor.rep,.int .u32 x1.dot.actor.inc,.int .u64 x1.dot.seq]) ty55.choose_spec.2 rfl rfl) (zb rfl)) yO ?_
  refine zS hF (fun v13 hv13 hF=>?_)
  refine zM rfl (zE rfl rfl rfl (zo yL zy) (.cons (zb rfl) .nil)) (ok107 hv13) yT ?_
  refine zc rfl (xV rfl yQ rfl) yZ ?_
  refine zc rfl (ze rfl yY (zb rfl)) xd ?_
  refine zp rfl (fun hb=>zj rfl fo77x2 yS rfl) xi ?_
  refine zp rfl (fun hb=>zw rfl vt (zn xh hb) rfl (zr rfl) (zb rfl)) xA ?_
  refine yn hF (fun v14 hv14 hF=>?_)
  refine z8 rfl (fun hb=>zE rfl rfl rfl (zo (zn xz hb) zy) (.cons (zb rfl) .nil)) (fun hb=>ok108 (hv14 hb)) xE ?_
  refine zp rfl (fun hb=>xV rfl (zn xB hb) rfl) xI ?_
  refine zc rfl (zG rfl xb rfl xF (zZ (fun ht=>gF ht))) xD ?_
  refine zc rfl (ze rfl xu (zb rfl)) xM ?_
  refine zp rfl (fun hb=>ze rfl yw (zb rfl)) wa ?_
  refine zp rfl (fun hb=>zj rfl fo77x0 yS rfl) wi ?_
  refine zp rfl (fun hb=>zw rfl qK (zn wh hb) rfl (zr rfl) (zb rfl)) wj ?_
  refine yn hF (fun v15 hv15 hF=>?_)
  refine z8 rfl (fun hb=>zE rfl rfl rfl (zo (zn wm hb) zy) (.cons (zb rfl) .nil)) (fun hb=>ok106 (hv15 hb)) wn ?_
  refine zp rfl (fun hb=>zu rfl (zn x9 hb) (zn wl hb) (bin_boolN ty4)) wD ?_
  refine zc rfl (zG rfl xN rfl wz (zZ (fun ht=>gF ht))) wC ?_
  refine zc rfl (ze rfl wM (zb rfl)) wI ?_
  refine zp rfl (fun hb=>ze rfl yw (zb rfl)) wH ?_
  refine zp rfl (fun hb=>xV rfl (zn wy hb) rfl) wP ?_
  refine zp rfl (fun hb=>ze rfl (zn wT hb) (zb rfl)) wO ?_
  refine zp (zP rfl rfl rfl) (fun hb=>zj rfl fo77x0 yS rfl) wN ?_
  refine zp (zP rfl rfl rfl) (fun hb=>zw rfl qK (zn wS hb) rfl (zr rfl) (zb rfl)) wG ?_
  refine zp (zP rfl rfl rfl) (fun hb=>zu rfl (zn wu hb) rfl rfl) wF ?_
  refine zp rfl (fun hb=>zG rfl (zn wK hb) wJ rfl (zN (fun ht=>gT2 hb ht))) wZ ?_
  refine zc rfl (zG rfl wL rfl w6 (zZ (fun ht=>gF ht))) wY ?_
  refine zf (zi ?_)
  refine zH w5 hF (fun hc16 hF=>?_) (fun hc16 hF=>?_)
  ·refine zk (zd ?_)
   refine zc rfl (zg rfl rfl (zb rfl)) yD ?_
   refine zf (zi (zJ (zA ?_)))
   refine zF ?_
   refine zA ?_
   refine yf ?_
   obtain rfl:=Option.some.inj hF
   replace hF:=hK1
   refine zF ?_
   refine zA ?_
   obtain rfl:=Option.some.inj hF
   refine zB rfl (zC yv zD) (zz (leV.refl _) rfl ?_)
   exact ⟨rfl,rfl⟩
  ·refine zI (zi (zk ?_))
   refine yI [] [] trivial mixed (by kernel_rfl) ?_
   refine zq rfl rfl (ze rfl yP (zb rfl)) (sk qP) ?_
   refine zq rfl rfl (zu rfl (gk yg) rfl rfl) (sk qI) ?_
   refine zq rfl rfl (ze rfl (gk yw) (zb rfl)) (sk yH) ?_
   refine zx rfl rfl (fun hb=>ze rfl yg (zb rfl)) (sk xS) ?_
   refine zx rfl rfl (fun hb=>ze rfl yP (zb rfl)) (sk yD) ?_
   refine zx rfl rfl (fun hb=>zu rfl (zn (gk yv) hb) rfl rfl) (sk xw) ?_
   refine xG hF (fun hg17 hF=>?_)
   refine zx rfl rfl (fun hb=>yK default rfl el56 (zn (gk yX) hb) (zn (gk yP) hb) wd (hg17 hb)) (sk xp) ?_
   refine zx rfl rfl (fun hb=>zj rfl fo77x0 (zn (gk yS) hb) rfl) (sk xK) ?_
   refine zx rfl rfl (fun hb=>zY rfl qK (zn (gk xn) hb) (zr rfl) (zb rfl)) (sk xH) ?_
   refine zx rfl rfl (fun hb=>ze rfl yg (zb rfl)) (sk x8) ?_
   refine zx rfl rfl (fun hb=>ze rfl yP (zb rfl)) (sk yq) ?_
   refine zx rfl rfl (fun hb=>zu rfl (zn (gk yi) hb) rfl rfl) (sk yy) ?_
   refine xG hF (fun hg18 hF=>?_)
   refine zx rfl rfl (fun hb=>yK default rfl el56 (zn (gk xl) hb) (zn (gk yl) hb) wd (hg18 hb)) (sk yE) ?_
   refine zx rfl rfl (fun hb=>zj rfl fo77x1 (zn (gk yC) hb) rfl) (sk yG) ?_
   refine zx rfl rfl (fun hb=>zY rfl ty55.choose_spec.1 (zn (gk yr) hb) (zL (cs':=[.int .u8 (((l0).getD (IntKind.wrap .i64 ((n1:Int) - (1:Int))).toNat default).dot.actor.rep),.int .u32 (((l0).getD (IntKind.wrap .i64 ((n1:Int) - (1:Int))).toNat default).dot.actor.inc),.int .u64 (((l0).getD (IntKind.wrap .i64 ((n1:Int) - (1:Int))).toNat default).dot.seq)]) ty55.choose_spec.2 rfl rfl) (zb rfl)) (sk yN) ?_
   refine zx rfl rfl (fun hb=>zj rfl fo77x0 yS rfl) (sk yO) ?_
   refine zx rfl rfl (fun hb=>zw rfl qK (zn (gk yL) hb) rfl (zr rfl) (zb rfl)) (sk yT) ?_
   refine zx rfl rfl (fun hb=>zj rfl fo77x1 yS rfl) (sk yZ) ?_
   refine zx rfl rfl (fun hb=>zw rfl ty55.choose_spec.1 (zn (gk yY) hb) rfl (zL (cs':=[.int .u8 x1.dot.actor.rep,.int .u32 x1.dot.actor.inc,.int .u64 x1.dot.seq]) ty55.choose_spec.2 rfl rfl) (zb rfl)) (sk xd) ?_
   refine yn hF (fun v19 hv19 hF=>?_)
   refine ww rfl rfl (fun hb=>zE rfl rfl rfl (zo (zn (gk yV) hb) (zo (zn (gk yM) hb) (zo (zn (gk yQ) hb) (zo (zn (gk xb) hb) zy)))) (.cons (zb rfl) (.cons (zb rfl) (.cons (zb rfl) (.cons (zb rfl) .nil))))) (fun hb=>ok126 (hv19 hb)) (sk xi) ?_
   refine zx rfl rfl (fun hb=>xV rfl (zn (gk xh) hb) rfl) (sk xA) ?_
   refine zq rfl rfl (zG rfl (gk yz) (gk xz) rfl (zN (fun ht=>gT ht))) (sk xE) ?_
   refine yo ?_
   refine zi ?_
   refine zH (gk xB) hF (fun hc20 hF=>?_) (fun hc20 hF=>?_)
   ·refine zk (zd ?_)
    refine zc rfl (zg rfl rfl (zb rfl)) yD ?_
    refine zf (zi (zJ ?_))
    refine zF ?_
    refine zA ?_
    refine yf ?_
    obtain rfl:=Option.some.inj hF
    replace hF:=hK1
    refine zF ?_
    refine zA ?_
    obtain rfl:=Option.some.inj hF
    refine zB rfl (zC yv zD) (zz (leV.refl _) rfl ?_)
    exact ⟨rfl,rfl⟩
   ·refine zI (yb (zi (zd ?_)))
    refine zc rfl (zu rfl xl rfl rfl) (sk xI) ?_
    refine zc rfl (ze rfl (gk xF) (zb rfl)) x8 ?_
    refine zf (yu ?_)
    obtain rfl:=Option.some.inj hF
    exact ⟨(),hl1,hK1,wk.trans (wk.le (by exact (.eq (.eq (.d4 (.drop (.eq (.eq (.cons (leV.of_eq (wx (by omega) (by omega))) (.d16 (.d16 (.d16 (.d4 (.d4 leL.nil)))))))))))))) (xY (by simp [yj,AV.low]) rfl rfl (by simp [Blk.low,yj,AV.low]))⟩
 ·refine yF ?_
  refine zX ?_
  refine zU ?_
  refine zV ?_
  refine zi (zk (zd ?_))
  refine zc rfl (ze rfl yg (zb rfl)) (sk xD) ?_
  refine zS hF (fun v21 hv21 hF=>?_)
  refine zM rfl (zE rfl rfl rfl (zo (gk xu) zy) (.cons (zb rfl) .nil)) (ok127 hv21) (sk xM) ?_
  refine zc rfl (xV rfl (gk xN) rfl) (sk wa) ?_
  refine zc rfl (zg rfl (gk x9) (zb rfl)) yD ?_
  refine zf (zi (zJ ?_))
  obtain rfl:=Option.some.inj hF
  refine zB rfl (zC yv zD) (zz (leV.refl _) rfl ?_)
  exact ⟨rfl,rfl⟩
/-! slices.IndexFunc[[]varve/api.Item,varve/api.Item] -/
theorem ok155 {s0:(List GItem)} {f1:(GItem→Option Bool)} {ff1:FuncId} {af1 kf1:List AV} {res:Int} {h:AH} (hf1:∀ x0 v (L:List Blk) (M:List Nat),f1 x0=some v→Spec Tryz.prog ff1 (af1++[.agg [.int .u64 x0.time,.int .u8 x0.dot.actor.rep,.int .u32 x0.dot.actor.inc,.int .u64 x0.dot.seq,.str x0.text]]++kf1) (h.ext L M) (fun rr hh=>rr=.bool v∧hh=h.ext L M)) (hF:vW s0 f1=some res):Spec Tryz.prog 155 [.sl 5 (s0.map GItem.row),.fn (.func ff1) af1 kf1] h (fun rr hh=>rr=.int .i64 res∧hh=h):=by
 unfold vW at hF
 refine yp Tryz.func155 rfl (by kernel_rfl) (env:=[.sl 5 (s0.map GItem.row),.fn (.func ff1) af1 kf1,za,za,za,za,za,za,za,za,za,za,za,za,za,za,za,za,za]) (by rfl) (fun hlow hC=>?_)
 simp only [yj,AV.low,Bool.and_eq_true,Bool.true_and,and_true] at hlow
 have hlaf1:∀ n m,h.blks.length≤n→h.toks.length≤m→yj n m af1=true:=fun n m h1 h2=>yR h1 h2 _ (by simp [hlow])
 have hlkf1:∀ n m,h.blks.length≤n→h.toks.length≤m→yj n m kf1=true:=fun n m h1 h2=>yR h1 h2 _ (by simp [hlow])
 refine zk (zd ?_)
 refine zc rfl (zg rfl rfl (zb rfl)) yD ?_
 refine zf (zi (zk (zk (zd ?_))))
 refine zc rfl (ze rfl yg (zb rfl)) xp ?_
 refine z7 rfl (zQ rfl rfl rfl rfl el56 yS z0) xK fun hn1=>?_
 replace hn1:=xg hn1
 refine zc rfl (ze rfl rfl (zb rfl)) xH ?_
 refine zf (zi (zO ?_))
 refine ym (fun (n1:Nat) (s1:Unit)=>yB [2,3,4,5,6,9,10,11,12,13,14,15,16,17,18] [(8,.int .i64 (n1:Int))]) (fun s1=>h.ext [] []) hF (fun _ _=>by simp only [yB,qw,List.set_cons_succ,List.set_cons_zero];try rfl) (wk.le (by exact (.eq (.eq (.d4 (.drop (.eq (.cons (leV.of_eq rfl) (.d4 (.d4 (.drop (.drop leL.nil)))))))))))) ?_
 intro n1 s1 hi1 hF
 refine zk (zd ?_)
 refine zc rfl (zu rfl yV xn rfl) x8 ?_
 refine zf (zi (zk ?_))
 refine yJ xl hF (fun x1 o1 hl1 hx1 hF hK1=>?_) (fun hF=>?_)
 ·refine zI (zi (zk (zO (zk (zd ?_)))))
  refine zc rfl (ze rfl yV (zb rfl)) yq ?_
  refine zc rfl (zg rfl yi (zb rfl)) xw ?_
  refine zf (zi (zk (zd ?_)))
  refine zc rfl (ze rfl yw (zb rfl)) yy ?_
  refine zc rfl (ze rfl yg (zb rfl)) yE ?_
  refine zc rfl (ze rfl yP (zb rfl)) yG ?_
  refine zc rfl (yd rfl el56 yC yr wd (yA hx1)) yN ?_
  refine zc rfl (zY rfl ty77.choose_spec.1 yM (zL (cs':=[.int .u64 x1.time,.int .u8 x1.dot.actor.rep,.int .u32 x1.dot.actor.inc,.int .u64 x1.dot.seq,.str x1.text]) ty77.choose_spec.2 rfl rfl) (zb rfl)) yO ?_
  refine zS hF (fun v7 hv7 hF=>?_)
  refine zM rfl (s_callC rfl rfl yl (zo yL zy) (.cons (zb rfl) .nil) rfl) (hf1 _ _ _ _ hv7) yT ?_
  refine zf (zi ?_)
  refine zH yQ hF (fun hc8 hF=>?_) (fun hc8 hF=>?_)
  ·refine zk (zd ?_)
   refine zc rfl (ze rfl yP (zb rfl)) yZ ?_
   refine zc rfl (zg rfl yY (zb rfl)) yD ?_
   refine zf (zi (zJ ?_))
   refine zF ?_
   refine zA ?_
   refine yf ?_
   obtain rfl:=Option.some.inj hF
   replace hF:=hK1
   refine zF ?_
   refine zA ?_
   obtain rfl:=Option.some.inj hF
   refine zB rfl (zC yv zD) (zz (leV.refl _) rfl ?_)
   exact ⟨rfl,rfl⟩
  ·refine zI (yb (zi (zd ?_)))
   refine zc rfl (zu rfl yV rfl rfl) xd ?_
   refine zc rfl (ze rfl xb (zb rfl)) xH ?_
   refine zf (yu ?_)
   obtain rfl:=Option.some.inj hF
   exact ⟨(),hl1,hK1,wk.le (by exact (.eq (.eq (.d4 (.drop (.eq (.cons (leV.of_eq (wx (by omega) (by omega))) (.d4 (.d4 (.drop (.drop leL.nil)))))))))))⟩
 ·refine yF ?_
  refine zX ?_
  refine zU ?_
  refine zV ?_
  refine zi (zk (zd ?_))
  refine zc rfl (zg rfl rfl (zb rfl)) yD ?_
  refine zf (zi (zJ ?_))
  obtain rfl:=Option.some.inj hF
  refine zB rfl (zC yv zD) (zz (leV.refl _) rfl ?_)
  exact ⟨rfl,rfl⟩
/-! slices.ContainsFunc[[]varve/api.Item,varve/api.Item] -/
theorem ok145 {s0:(List GItem)} {f1:(GItem→Option Bool)} {ff1:FuncId} {af1 kf1:List AV} {res:Bool} {h:AH} (hf1:∀ x0 v (L:List Blk) (M:List Nat),f1 x0=some v→Spec Tryz.prog ff1 (af1++[.agg [.int .u64 x0.time,.int .u8 x0.dot.actor.rep,.int .u32 x0.dot.actor.inc,.int .u64 x0.dot.seq,.str x0.text]]++kf1) (h.ext L M) (fun rr hh=>rr=.bool v∧hh=h.ext L M)) (hF:wQ s0 f1=some res):Spec Tryz.prog 145 [.sl 5 (s0.map GItem.row),.fn (.func ff1) af1 kf1] h (fun rr hh=>rr=.bool res∧hh=h):=by
 unfold wQ at hF
 refine yp Tryz.func145 rfl (by kernel_rfl) (env:=[.sl 5 (s0.map GItem.row),.fn (.func ff1) af1 kf1,za,za,za,za,za,za,za]) (by rfl) (fun hlow hC=>?_)
 simp only [yj,AV.low,Bool.and_eq_true,Bool.true_and,and_true] at hlow
 have hlaf1:∀ n m,h.blks.length≤n→h.toks.length≤m→yj n m af1=true:=fun n m h1 h2=>yR h1 h2 _ (by simp [hlow])
 have hlkf1:∀ n m,h.blks.length≤n→h.toks.length≤m→yj n m kf1=true:=fun n m h1 h2=>yR h1 h2 _ (by simp [hlow])
 refine zk (zd ?_)
 refine zc rfl (zg rfl rfl (zb rfl)) yD ?_
 refine zf (zi (zk (zd ?_)))
 refine zc rfl (ze rfl yg (zb rfl)) xw ?_
 refine zc rfl (ze rfl yw (zb rfl)) xp ?_
 refine zS hF (fun v1 hv1 hF=>?_)
 refine zM rfl (zE rfl rfl rfl (zo yP (zo yS zy)) (.cons (zb rfl) (.cons (zb rfl) .nil))) (ok155 (fun x0 v L M hv=>by rw [vG];exact hf1 x0 v _ _ hv) hv1) xK ?_
 refine zc rfl (zu rfl xn rfl rfl) xH ?_
 refine zc rfl (zg rfl yV (zb rfl)) yD ?_
 refine zf (zi (zJ ?_))
 obtain rfl:=Option.some.inj hF
 refine zB rfl (zC yv zD) (zz (leV.refl _) rfl ?_)
 exact ⟨rfl,rfl⟩
end Go.Vv
