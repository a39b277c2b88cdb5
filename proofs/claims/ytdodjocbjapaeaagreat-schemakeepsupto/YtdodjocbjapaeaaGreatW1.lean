/- Each function that the law reaches computes what its reading says; printed by a program. -/
import Derived.Test.YtdodjocbjapaeaaGreatVvSh
import Derived.Test.YtdodjocbjapaeaaGreatVvMl
import Derived.Test.YtdodjocbjapaeaaGreatVvRb
import Derived.Test.YtdodjocbjapaeaaGreatVvSo
import Derived.Test.YtdodjocbjapaeaaGreatVvPt
import Derived.Test.YtdodjocbjapaeaaGreatVvIn
import Derived.Test.YtdodjocbjapaeaaGreatVvZ
import Derived.Test.YtdodjocbjapaeaaGreatVvAn
import Derived.Test.YtdodjocbjapaeaaGreatVvLb
import Derived.Test.YtdodjocbjapaeaaGreatVvLc
import Derived.Test.YtdodjocbjapaeaaGreatVvMr
import Derived.Test.YtdodjocbjapaeaaGreatVvIt
import Derived.Test.YtdodjocbjapaeaaGreatVvRd
import Derived.Test.YtdodjocbjapaeaaGreatD
import Derived.Test.YtdodjocbjapaeaaGreatProg
namespace Go.Vv
open Go Go.Proofs
set_option maxRecDepth 100000
set_option synthInstance.maxSize 100000
set_option synthInstance.maxHeartbeats 1000000
set_option maxHeartbeats 1000000
set_option linter.unusedSimpArgs false
set_option linter.unusedVariables false
section
variable {v a0 a1 a2 a3 a4 a5 a6 a7 a8 a9 a10 a11 a12 a13 a14 a15 a16 a17 a18 a19 a20 a21 a22 a23 a24 a25 a26 a27 a28 a29 a30 a31 a32 a33 a34 a35 a36 a37 a38 a39:AV} {r q:List AV} {t:Nat}
theorem gt0:z7 (a0::r) (.tmp 0)=some a0:=rfl
theorem st0:x9 (some 0) (a0::r) v=some (v::r):=rfl
theorem gt1:z7 (a0::a1::r) (.tmp 1)=some a1:=rfl
theorem st1:x9 (some 1) (a0::a1::r) v=some (a0::v::r):=rfl
theorem gt2:z7 (a0::a1::a2::r) (.tmp 2)=some a2:=rfl
theorem st2:x9 (some 2) (a0::a1::a2::r) v=some (a0::a1::v::r):=rfl
theorem gt3:z7 (a0::a1::a2::a3::r) (.tmp 3)=some a3:=rfl
theorem st3:x9 (some 3) (a0::a1::a2::a3::r) v=some (a0::a1::a2::v::r):=rfl
theorem gt4:z7 (a0::a1::a2::a3::a4::r) (.tmp 4)=some a4:=rfl
theorem st4:x9 (some 4) (a0::a1::a2::a3::a4::r) v=some (a0::a1::a2::a3::v::r):=rfl
theorem gt5:z7 (a0::a1::a2::a3::a4::a5::r) (.tmp 5)=some a5:=rfl
theorem st5:x9 (some 5) (a0::a1::a2::a3::a4::a5::r) v=some (a0::a1::a2::a3::a4::v::r):=rfl
theorem gt6:z7 (a0::a1::a2::a3::a4::a5::a6::r) (.tmp 6)=some a6:=rfl
theorem st6:x9 (some 6) (a0::a1::a2::a3::a4::a5::a6::r) v=some (a0::a1::a2::a3::a4::a5::v::r):=rfl
theorem gt7:z7 (a0::a1::a2::a3::a4::a5::a6::a7::r) (.tmp 7)=some a7:=rfl
theorem st7:x9 (some 7) (a0::a1::a2::a3::a4::a5::a6::a7::r) v=some (a0::a1::a2::a3::a4::a5::a6::v::r):=rfl
theorem gt8:z7 (a0::a1::a2::a3::a4::a5::a6::a7::a8::r) (.tmp 8)=some a8:=rfl
theorem st8:x9 (some 8) (a0::a1::a2::a3::a4::a5::a6::a7::a8::r) v=some (a0::a1::a2::a3::a4::a5::a6::a7::v::r):=rfl
theorem gt9:z7 (a0::a1::a2::a3::a4::a5::a6::a7::a8::a9::r) (.tmp 9)=some a9:=rfl
theorem st9:x9 (some 9) (a0::a1::a2::a3::a4::a5::a6::a7::a8::a9::r) v=some (a0::a1::a2::a3::a4::a5::a6::a7::a8::v::r):=rfl
theorem vi:z7 (a0::a1::a2::a3::a4::a5::a6::a7::a8::a9::a10::r) (.tmp 10)=some a10:=rfl
theorem st10:x9 (some 10) (a0::a1::a2::a3::a4::a5::a6::a7::a8::a9::a10::r) v=some (a0::a1::a2::a3::a4::a5::a6::a7::a8::a9::v::r):=rfl
theorem vh:z7 (a0::a1::a2::a3::a4::a5::a6::a7::a8::a9::a10::a11::r) (.tmp 11)=some a11:=rfl
theorem st11:x9 (some 11) (a0::a1::a2::a3::a4::a5::a6::a7::a8::a9::a10::a11::r) v=some (a0::a1::a2::a3::a4::a5::a6::a7::a8::a9::a10::v::r):=rfl
theorem qe:z7 (a0::a1::a2::a3::a4::a5::a6::a7::a8::a9::a10::a11::a12::r) (.tmp 12)=some a12:=rfl
theorem st12:x9 (some 12) (a0::a1::a2::a3::a4::a5::a6::a7::a8::a9::a10::a11::a12::r) v=some (a0::a1::a2::a3::a4::a5::a6::a7::a8::a9::a10::a11::v::r):=rfl
theorem vt:z7 (a0::a1::a2::a3::a4::a5::a6::a7::a8::a9::a10::a11::a12::a13::r) (.tmp 13)=some a13:=rfl
theorem st13:x9 (some 13) (a0::a1::a2::a3::a4::a5::a6::a7::a8::a9::a10::a11::a12::a13::r) v=some (a0::a1::a2::a3::a4::a5::a6::a7::a8::a9::a10::a11::a12::v::r):=rfl
theorem gt14:z7 (a0::a1::a2::a3::a4::a5::a6::a7::a8::a9::a10::a11::a12::a13::a14::r) (.tmp 14)=some a14:=rfl
theorem st14:x9 (some 14) (a0::a1::a2::a3::a4::a5::a6::a7::a8::a9::a10::a11::a12::a13::a14::r) v=some (a0::a1::a2::a3::a4::a5::a6::a7::a8::a9::a10::a11::a12::a13::v::r):=rfl
theorem gt15:z7 (a0::a1::a2::a3::a4::a5::a6::a7::a8::a9::a10::a11::a12::a13::a14::a15::r) (.tmp 15)=some a15:=rfl
theorem st15:x9 (some 15) (a0::a1::a2::a3::a4::a5::a6::a7::a8::a9::a10::a11::a12::a13::a14::a15::r) v=some (a0::a1::a2::a3::a4::a5::a6::a7::a8::a9::a10::a11::a12::a13::a14::v::r):=rfl
theorem vr:z7 (a0::a1::a2::a3::a4::a5::a6::a7::a8::a9::a10::a11::a12::a13::a14::a15::a16::r) (.tmp 16)=some a16:=rfl
theorem st16:x9 (some 16) (a0::a1::a2::a3::a4::a5::a6::a7::a8::a9::a10::a11::a12::a13::a14::a15::a16::r) v=some (a0::a1::a2::a3::a4::a5::a6::a7::a8::a9::a10::a11::a12::a13::a14::a15::v::r):=rfl
theorem gt17:z7 (a0::a1::a2::a3::a4::a5::a6::a7::a8::a9::a10::a11::a12::a13::a14::a15::a16::a17::r) (.tmp 17)=some a17:=rfl
theorem st17:x9 (some 17) (a0::a1::a2::a3::a4::a5::a6::a7::a8::a9::a10::a11::a12::a13::a14::a15::a16::a17::r) v=some (a0::a1::a2::a3::a4::a5::a6::a7::a8::a9::a10::a11::a12::a13::a14::a15::a16::v::r):=rfl
theorem gt18:z7 (a0::a1::a2::a3::a4::a5::a6::a7::a8::a9::a10::a11::a12::a13::a14::a15::a16::a17::a18::r) (.tmp 18)=some a18:=rfl
theorem st18:x9 (some 18) (a0::a1::a2::a3::a4::a5::a6::a7::a8::a9::a10::a11::a12::a13::a14::a15::a16::a17::a18::r) v=some (a0::a1::a2::a3::a4::a5::a6::a7::a8::a9::a10::a11::a12::a13::a14::a15::a16::a17::v::r):=rfl
theorem wW:z7 (a0::a1::a2::a3::a4::a5::a6::a7::a8::a9::a10::a11::a12::a13::a14::a15::a16::a17::a18::a19::r) (.tmp 19)=some a19:=rfl
theorem st19:x9 (some 19) (a0::a1::a2::a3::a4::a5::a6::a7::a8::a9::a10::a11::a12::a13::a14::a15::a16::a17::a18::a19::r) v=some (a0::a1::a2::a3::a4::a5::a6::a7::a8::a9::a10::a11::a12::a13::a14::a15::a16::a17::a18::v::r):=rfl
theorem gt20:z7 (a0::a1::a2::a3::a4::a5::a6::a7::a8::a9::a10::a11::a12::a13::a14::a15::a16::a17::a18::a19::a20::r) (.tmp 20)=some a20:=rfl
theorem st20:x9 (some 20) (a0::a1::a2::a3::a4::a5::a6::a7::a8::a9::a10::a11::a12::a13::a14::a15::a16::a17::a18::a19::a20::r) v=some (a0::a1::a2::a3::a4::a5::a6::a7::a8::a9::a10::a11::a12::a13::a14::a15::a16::a17::a18::a19::v::r):=rfl
theorem gt21:z7 (a0::a1::a2::a3::a4::a5::a6::a7::a8::a9::a10::a11::a12::a13::a14::a15::a16::a17::a18::a19::a20::a21::r) (.tmp 21)=some a21:=rfl
theorem st21:x9 (some 21) (a0::a1::a2::a3::a4::a5::a6::a7::a8::a9::a10::a11::a12::a13::a14::a15::a16::a17::a18::a19::a20::a21::r) v=some (a0::a1::a2::a3::a4::a5::a6::a7::a8::a9::a10::a11::a12::a13::a14::a15::a16::a17::a18::a19::a20::v::r):=rfl
theorem gt22:z7 (a0::a1::a2::a3::a4::a5::a6::a7::a8::a9::a10::a11::a12::a13::a14::a15::a16::a17::a18::a19::a20::a21::a22::r) (.tmp 22)=some a22:=rfl
theorem st22:x9 (some 22) (a0::a1::a2::a3::a4::a5::a6::a7::a8::a9::a10::a11::a12::a13::a14::a15::a16::a17::a18::a19::a20::a21::a22::r) v=some (a0::a1::a2::a3::a4::a5::a6::a7::a8::a9::a10::a11::a12::a13::a14::a15::a16::a17::a18::a19::a20::a21::v::r):=rfl
theorem gt23:z7 (a0::a1::a2::a3::a4::a5::a6::a7::a8::a9::a10::a11::a12::a13::a14::a15::a16::a17::a18::a19::a20::a21::a22::a23::r) (.tmp 23)=some a23:=rfl
theorem st23:x9 (some 23) (a0::a1::a2::a3::a4::a5::a6::a7::a8::a9::a10::a11::a12::a13::a14::a15::a16::a17::a18::a19::a20::a21::a22::a23::r) v=some (a0::a1::a2::a3::a4::a5::a6::a7::a8::a9::a10::a11::a12::a13::a14::a15::a16::a17::a18::a19::a20::a21::a22::v::r):=rfl
theorem gt24:z7 (a0::a1::a2::a3::a4::a5::a6::a7::a8::a9::a10::a11::a12::a13::a14::a15::a16::a17::a18::a19::a20::a21::a22::a23::a24::r) (.tmp 24)=some a24:=rfl
theorem st24:x9 (some 24) (a0::a1::a2::a3::a4::a5::a6::a7::a8::a9::a10::a11::a12::a13::a14::a15::a16::a17::a18::a19::a20::a21::a22::a23::a24::r) v=some (a0::a1::a2::a3::a4::a5::a6::a7::a8::a9::a10::a11::a12::a13::a14::a15::a16::a17::a18::a19::a20::a21::a22::a23::v::r):=rfl
theorem gt25:z7 (a0::a1::a2::a3::a4::a5::a6::a7::a8::a9::a10::a11::a12::a13::a14::a15::a16::a17::a18::a19::a20::a21::a22::a23::a24::a25::r) (.tmp 25)=some a25:=rfl
theorem st25:x9 (some 25) (a0::a1::a2::a3::a4::a5::a6::a7::a8::a9::a10::a11::a12::a13::a14::a15::a16::a17::a18::a19::a20::a21::a22::a23::a24::a25::r) v=some (a0::a1::a2::a3::a4::a5::a6::a7::a8::a9::a10::a11::a12::a13::a14::a15::a16::a17::a18::a19::a20::a21::a22::a23::a24::v::r):=rfl
theorem gt26:z7 (a0::a1::a2::a3::a4::a5::a6::a7::a8::a9::a10::a11::a12::a13::a14::a15::a16::a17::a18::a19::a20::a21::a22::a23::a24::a25::a26::r) (.tmp 26)=some a26:=rfl
theorem st26:x9 (some 26) (a0::a1::a2::a3::a4::a5::a6::a7::a8::a9::a10::a11::a12::a13::a14::a15::a16::a17::a18::a19::a20::a21::a22::a23::a24::a25::a26::r) v=some (a0::a1::a2::a3::a4::a5::a6::a7::a8::a9::a10::a11::a12::a13::a14::a15::a16::a17::a18::a19::a20::a21::a22::a23::a24::a25::v::r):=rfl
theorem gt27:z7 (a0::a1::a2::a3::a4::a5::a6::a7::a8::a9::a10::a11::a12::a13::a14::a15::a16::a17::a18::a19::a20::a21::a22::a23::a24::a25::a26::a27::r) (.tmp 27)=some a27:=rfl
theorem st27:x9 (some 27) (a0::a1::a2::a3::a4::a5::a6::a7::a8::a9::a10::a11::a12::a13::a14::a15::a16::a17::a18::a19::a20::a21::a22::a23::a24::a25::a26::a27::r) v=some (a0::a1::a2::a3::a4::a5::a6::a7::a8::a9::a10::a11::a12::a13::a14::a15::a16::a17::a18::a19::a20::a21::a22::a23::a24::a25::a26::v::r):=rfl
theorem gt28:z7 (a0::a1::a2::a3::a4::a5::a6::a7::a8::a9::a10::a11::a12::a13::a14::a15::a16::a17::a18::a19::a20::a21::a22::a23::a24::a25::a26::a27::a28::r) (.tmp 28)=some a28:=rfl
theorem st28:x9 (some 28) (a0::a1::a2::a3::a4::a5::a6::a7::a8::a9::a10::a11::a12::a13::a14::a15::a16::a17::a18::a19::a20::a21::a22::a23::a24::a25::a26::a27::a28::r) v=some (a0::a1::a2::a3::a4::a5::a6::a7::a8::a9::a10::a11::a12::a13::a14::a15::a16::a17::a18::a19::a20::a21::a22::a23::a24::a25::a26::a27::v::r):=rfl
theorem gt29:z7 (a0::a1::a2::a3::a4::a5::a6::a7::a8::a9::a10::a11::a12::a13::a14::a15::a16::a17::a18::a19::a20::a21::a22::a23::a24::a25::a26::a27::a28::a29::r) (.tmp 29)=some a29:=rfl
theorem st29:x9 (some 29) (a0::a1::a2::a3::a4::a5::a6::a7::a8::a9::a10::a11::a12::a13::a14::a15::a16::a17::a18::a19::a20::a21::a22::a23::a24::a25::a26::a27::a28::a29::r) v=some (a0::a1::a2::a3::a4::a5::a6::a7::a8::a9::a10::a11::a12::a13::a14::a15::a16::a17::a18::a19::a20::a21::a22::a23::a24::a25::a26::a27::a28::v::r):=rfl
theorem gt30:z7 (a0::a1::a2::a3::a4::a5::a6::a7::a8::a9::a10::a11::a12::a13::a14::a15::a16::a17::a18::a19::a20::a21::a22::a23::a24::a25::a26::a27::a28::a29::a30::r) (.tmp 30)=some a30:=rfl
theorem st30:x9 (some 30) (a0::a1::a2::a3::a4::a5::a6::a7::a8::a9::a10::a11::a12::a13::a14::a15::a16::a17::a18::a19::a20::a21::a22::a23::a24::a25::a26::a27::a28::a29::a30::r) v=some (a0::a1::a2::a3::a4::a5::a6::a7::a8::a9::a10::a11::a12::a13::a14::a15::a16::a17::a18::a19::a20::a21::a22::a23::a24::a25::a26::a27::a28::a29::v::r):=rfl
theorem gt31:z7 (a0::a1::a2::a3::a4::a5::a6::a7::a8::a9::a10::a11::a12::a13::a14::a15::a16::a17::a18::a19::a20::a21::a22::a23::a24::a25::a26::a27::a28::a29::a30::a31::r) (.tmp 31)=some a31:=rfl
theorem st31:x9 (some 31) (a0::a1::a2::a3::a4::a5::a6::a7::a8::a9::a10::a11::a12::a13::a14::a15::a16::a17::a18::a19::a20::a21::a22::a23::a24::a25::a26::a27::a28::a29::a30::a31::r) v=some (a0::a1::a2::a3::a4::a5::a6::a7::a8::a9::a10::a11::a12::a13::a14::a15::a16::a17::a18::a19::a20::a21::a22::a23::a24::a25::a26::a27::a28::a29::a30::v::r):=rfl
theorem gt32:z7 (a0::a1::a2::a3::a4::a5::a6::a7::a8::a9::a10::a11::a12::a13::a14::a15::a16::a17::a18::a19::a20::a21::a22::a23::a24::a25::a26::a27::a28::a29::a30::a31::a32::r) (.tmp 32)=some a32:=rfl
theorem st32:x9 (some 32) (a0::a1::a2::a3::a4::a5::a6::a7::a8::a9::a10::a11::a12::a13::a14::a15::a16::a17::a18::a19::a20::a21::a22::a23::a24::a25::a26::a27::a28::a29::a30::a31::a32::r) v=some (a0::a1::a2::a3::a4::a5::a6::a7::a8::a9::a10::a11::a12::a13::a14::a15::a16::a17::a18::a19::a20::a21::a22::a23::a24::a25::a26::a27::a28::a29::a30::a31::v::r):=rfl
theorem gt33:z7 (a0::a1::a2::a3::a4::a5::a6::a7::a8::a9::a10::a11::a12::a13::a14::a15::a16::a17::a18::a19::a20::a21::a22::a23::a24::a25::a26::a27::a28::a29::a30::a31::a32::a33::r) (.tmp 33)=some a33:=rfl
theorem st33:x9 (some 33) (a0::a1::a2::a3::a4::a5::a6::a7::a8::a9::a10::a11::a12::a13::a14::a15::a16::a17::a18::a19::a20::a21::a22::a23::a24::a25::a26::a27::a28::a29::a30::a31::a32::a33::r) v=some (a0::a1::a2::a3::a4::a5::a6::a7::a8::a9::a10::a11::a12::a13::a14::a15::a16::a17::a18::a19::a20::a21::a22::a23::a24::a25::a26::a27::a28::a29::a30::a31::a32::v::r):=rfl
theorem gt34:z7 (a0::a1::a2::a3::a4::a5::a6::a7::a8::a9::a10::a11::a12::a13::a14::a15::a16::a17::a18::a19::a20::a21::a22::a23::a24::a25::a26::a27::a28::a29::a30::a31::a32::a33::a34::r) (.tmp 34)=some a34:=rfl
theorem st34:x9 (some 34) (a0::a1::a2::a3::a4::a5::a6::a7::a8::a9::a10::a11::a12::a13::a14::a15::a16::a17::a18::a19::a20::a21::a22::a23::a24::a25::a26::a27::a28::a29::a30::a31::a32::a33::a34::r) v=some (a0::a1::a2::a3::a4::a5::a6::a7::a8::a9::a10::a11::a12::a13::a14::a15::a16::a17::a18::a19::a20::a21::a22::a23::a24::a25::a26::a27::a28::a29::a30::a31::a32::a33::v::r):=rfl
theorem gt35:z7 (a0::a1::a2::a3::a4::a5::a6::a7::a8::a9::a10::a11::a12::a13::a14::a15::a16::a17::a18::a19::a20::a21::a22::a23::a24::a25::a26::a27::a28::a29::a30::a31::a32::a33::a34::a35::r) (.tmp 35)=some a35:=rfl
theorem st35:x9 (some 35) (a0::a1::a2::a3::a4::a5::a6::a7::a8::a9::a10::a11::a12::a13::a14::a15::a16::a17::a18::a19::a20::a21::a22::a23::a24::a25::a26::a27::a28::a29::a30::a31::a32::a33::a34::a35::r) v=some (a0::a1::a2::a3::a4::a5::a6::a7::a8::a9::a10::a11::a12::a13::a14::a15::a16::a17::a18::a19::a20::a21::a22::a23::a24::a25::a26::a27::a28::a29::a30::a31::a32::a33::a34::v::r):=rfl
theorem gt36:z7 (a0::a1::a2::a3::a4::a5::a6::a7::a8::a9::a10::a11::a12::a13::a14::a15::a16::a17::a18::a19::a20::a21::a22::a23::a24::a25::a26::a27::a28::a29::a30::a31::a32::a33::a34::a35::a36::r) (.tmp 36)=some a36:=rfl
theorem st36:x9 (some 36) (a0::a1::a2::a3::a4::a5::a6::a7::a8::a9::a10::a11::a12::a13::a14::a15::a16::a17::a18::a19::a20::a21::a22::a23::a24::a25::a26::a27::a28::a29::a30::a31::a32::a33::a34::a35::a36::r) v=some (a0::a1::a2::a3::a4::a5::a6::a7::a8::a9::a10::a11::a12::a13::a14::a15::a16::a17::a18::a19::a20::a21::a22::a23::a24::a25::a26::a27::a28::a29::a30::a31::a32::a33::a34::a35::v::r):=rfl
theorem gt37:z7 (a0::a1::a2::a3::a4::a5::a6::a7::a8::a9::a10::a11::a12::a13::a14::a15::a16::a17::a18::a19::a20::a21::a22::a23::a24::a25::a26::a27::a28::a29::a30::a31::a32::a33::a34::a35::a36::a37::r) (.tmp 37)=some a37:=rfl
theorem st37:x9 (some 37) (a0::a1::a2::a3::a4::a5::a6::a7::a8::a9::a10::a11::a12::a13::a14::a15::a16::a17::a18::a19::a20::a21::a22::a23::a24::a25::a26::a27::a28::a29::a30::a31::a32::a33::a34::a35::a36::a37::r) v=some (a0::a1::a2::a3::a4::a5::a6::a7::a8::a9::a10::a11::a12::a13::a14::a15::a16::a17::a18::a19::a20::a21::a22::a23::a24::a25::a26::a27::a28::a29::a30::a31::a32::a33::a34::a35::a36::v::r):=rfl
theorem gt38:z7 (a0::a1::a2::a3::a4::a5::a6::a7::a8::a9::a10::a11::a12::a13::a14::a15::a16::a17::a18::a19::a20::a21::a22::a23::a24::a25::a26::a27::a28::a29::a30::a31::a32::a33::a34::a35::a36::a37::a38::r) (.tmp 38)=some a38:=rfl
theorem st38:x9 (some 38) (a0::a1::a2::a3::a4::a5::a6::a7::a8::a9::a10::a11::a12::a13::a14::a15::a16::a17::a18::a19::a20::a21::a22::a23::a24::a25::a26::a27::a28::a29::a30::a31::a32::a33::a34::a35::a36::a37::a38::r) v=some (a0::a1::a2::a3::a4::a5::a6::a7::a8::a9::a10::a11::a12::a13::a14::a15::a16::a17::a18::a19::a20::a21::a22::a23::a24::a25::a26::a27::a28::a29::a30::a31::a32::a33::a34::a35::a36::a37::v::r):=rfl
theorem gt39:z7 (a0::a1::a2::a3::a4::a5::a6::a7::a8::a9::a10::a11::a12::a13::a14::a15::a16::a17::a18::a19::a20::a21::a22::a23::a24::a25::a26::a27::a28::a29::a30::a31::a32::a33::a34::a35::a36::a37::a38::a39::r) (.tmp 39)=some a39:=rfl
theorem st39:x9 (some 39) (a0::a1::a2::a3::a4::a5::a6::a7::a8::a9::a10::a11::a12::a13::a14::a15::a16::a17::a18::a19::a20::a21::a22::a23::a24::a25::a26::a27::a28::a29::a30::a31::a32::a33::a34::a35::a36::a37::a38::a39::r) v=some (a0::a1::a2::a3::a4::a5::a6::a7::a8::a9::a10::a11::a12::a13::a14::a15::a16::a17::a18::a19::a20::a21::a22::a23::a24::a25::a26::a27::a28::a29::a30::a31::a32::a33::a34::a35::a36::a37::a38::v::r):=rfl
theorem gk (h:z7 r (.tmp t)=some v):z7 (a0::a1::a2::a3::a4::a5::a6::a7::a8::a9::a10::a11::a12::a13::a14::a15::a16::a17::a18::a19::a20::a21::a22::a23::a24::a25::a26::a27::a28::a29::a30::a31::a32::a33::a34::a35::a36::a37::a38::a39::r) (.tmp (t+40))=some v:=h
theorem sk (h:x9 (some t) r v=some q):x9 (some (t+40)) (a0::a1::a2::a3::a4::a5::a6::a7::a8::a9::a10::a11::a12::a13::a14::a15::a16::a17::a18::a19::a20::a21::a22::a23::a24::a25::a26::a27::a28::a29::a30::a31::a32::a33::a34::a35::a36::a37::a38::a39::r) v=some (a0::a1::a2::a3::a4::a5::a6::a7::a8::a9::a10::a11::a12::a13::a14::a15::a16::a17::a18::a19::a20::a21::a22::a23::a24::a25::a26::a27::a28::a29::a30::a31::a32::a33::a34::a35::a36::a37::a38::a39::q):=congrArg (fun x=>some (a0::a1::a2::a3::a4::a5::a6::a7::a8::a9::a10::a11::a12::a13::a14::a15::a16::a17::a18::a19::a20::a21::a22::a23::a24::a25::a26::a27::a28::a29::a30::a31::a32::a33::a34::a35::a36::a37::a38::a39::x)) (Option.some.inj h)
end
def fvOp:Nat→AV
  | 1=>.fn (.func 117) [] []
  | 2=>.fn (.func 118) [] []
  | 3=>.fn (.func 119) [] []
  | _=>.nilf
def fnOp:Nat→FuncId
  | 1=>117
  | 2=>118
  | 3=>119
  | _=>0
theorem fvlOp (c n m:Nat):(fvOp c).low n m=true:=by unfold fvOp;split <;> rfl
theorem fvtOp (P:Program) (t:TypeId) (c:Nat):tyfix P t (fvOp c)=fvOp c:=by unfold fvOp;split <;> rfl
abbrev GField.row (x:GField):List AV:=[.sl 1 (x.path.map zI),.int .u8 x.types,.int .i64 x.min,.int .i64 x.max,.int .i64 x.items]
abbrev GActor.row (x:GActor):List AV:=[.int .u8 x.rep,.int .u32 x.inc]
abbrev GDot.row (x:GDot):List AV:=[.int .u8 x.actor.rep,.int .u32 x.actor.inc,.int .u64 x.seq]
abbrev GItem.row (x:GItem):List AV:=[.int .u64 x.time,.int .u8 x.dot.actor.rep,.int .u32 x.dot.actor.inc,.int .u64 x.dot.seq,.str x.text]
abbrev GLeaf.row (x:GLeaf):List AV:=[.int .u8 x.typ,.int .i64 x.n,.int .u64 x.time,.int .u8 x.dot.actor.rep,.int .u32 x.dot.actor.inc,.int .u64 x.dot.seq,.str x.text,.sl 5 (x.items.map GItem.row),.sl 3 (x.tombs.map GDot.row)]
mutual
def GNode.row:GNode→List AV
  | ⟨name,leaves,subs⟩=>[.str name,.sl 9 (leaves.map GLeaf.row),.sl 3 (GNode.rows subs)]
def GNode.rows:List GNode→List (List AV)
  | []=>[]
  | x::r=>x.row::GNode.rows r
end
theorem GNode.rows_eq (l:List GNode):GNode.rows l=l.map GNode.row:=by
  induction l with
  | nil=>rfl
  | cons x r ih=>simp only [GNode.rows,List.map_cons,ih]
theorem GNode.row_eq (x:GNode):x.row=[.str x.name,.sl 9 (x.leaves.map GLeaf.row),.sl 3 (x.subs.map GNode.row)]:=by
  cases x;simp only [GNode.row,GNode.rows_eq]
abbrev GOp.row (x:GOp):List AV:=[.int .u8 x.kind,.sl 1 (x.path.map zI),.int .i64 x.n,.str x.text,.sl 3 (x.dots.map GDot.row)]
abbrev GOpKind.row (x:GOpKind):List AV:=[.int .u8 x.leaf,fvOp x.may]
abbrev GEvent.row (x:GEvent):List AV:=[.int .u8 x.dot.actor.rep,.int .u32 x.dot.actor.inc,.int .u64 x.dot.seq,.int .u64 x.time,.int .u8 x.op.kind,.sl 1 (x.op.path.map zI),.int .i64 x.op.n,.str x.op.text,.sl 3 (x.op.dots.map GDot.row)]
abbrev GRow.row (x:GRow):List AV:=[.sl 1 (x.path.map zI),.int .u8 x.leaf.typ,.int .i64 x.leaf.n,.int .u64 x.leaf.time,.int .u8 x.leaf.dot.actor.rep,.int .u32 x.leaf.dot.actor.inc,.int .u64 x.leaf.dot.seq,.str x.leaf.text,.sl 5 (x.leaf.items.map GItem.row),.sl 3 (x.leaf.tombs.map GDot.row)]
abbrev GBreach.row (x:GBreach):List AV:=[.sl 1 (x.path.map zI),.int .u8 x.typ,.int .i64 x.e]
abbrev GEdit.row (x:GEdit):List AV:=[.sl 1 (x.path.map zI),.int .u8 x.typ,.bool x.had,.bool x.has,.int .u8 x.was.typ,.int .i64 x.was.n,.int .u64 x.was.time,.int .u8 x.was.dot.actor.rep,.int .u32 x.was.dot.actor.inc,.int .u64 x.was.dot.seq,.str x.was.text,.sl 5 (x.was.items.map GItem.row),.sl 3 (x.was.tombs.map GDot.row),.int .u8 x.is.typ,.int .i64 x.is.n,.int .u64 x.is.time,.int .u8 x.is.dot.actor.rep,.int .u32 x.is.dot.actor.inc,.int .u64 x.is.dot.seq,.str x.is.text,.sl 5 (x.is.items.map GItem.row),.sl 3 (x.is.tombs.map GDot.row)]
instance el22:El Tryz.prog 22 53 5:=mkEl Tryz.underlying22 (by kernel_rfl)
instance fo53x0:Fo Tryz.prog 53 0 0 31 1:=wa (by kernel_rfl) (by kernel_rfl)
instance ty31:Ty Tryz.prog 31 (.slice 9) 1:=qq Tryz.underlying31 (by kernel_rfl)
instance el31:El Tryz.prog 31 9 1:=mkEl Tryz.underlying31 (by kernel_rfl)
instance ty9:Ty Tryz.prog 9 .string 1:=qq Tryz.underlying9 (by kernel_rfl)
instance el24:El Tryz.prog 24 61 3:=mkEl Tryz.underlying24 (by kernel_rfl)
theorem mixed:Tryz.prog.follows .mixedOrders=true:=by kernel_rfl
instance fo61x0:Fo Tryz.prog 61 0 0 9 1:=wa (by kernel_rfl) (by kernel_rfl)
instance fo61x2:Fo Tryz.prog 61 2 2 24 1:=wa (by kernel_rfl) (by kernel_rfl)
instance ty24:Ty Tryz.prog 24 (.slice 61) 1:=qq Tryz.underlying24 (by kernel_rfl)
instance fo61x1:Fo Tryz.prog 61 1 1 59 1:=wa (by kernel_rfl) (by kernel_rfl)
instance ty59:Ty Tryz.prog 59 (.slice 58) 1:=qq Tryz.underlying59 (by kernel_rfl)
instance el59:El Tryz.prog 59 58 9:=mkEl Tryz.underlying59 (by kernel_rfl)
theorem ty58:∃ d,Ty Tryz.prog 58 d 9∧zV d=true:=⟨_,qq Tryz.underlying58 (by kernel_rfl),by kernel_rfl⟩
instance:TA Tryz.prog 58 9:=⟨ty58⟩
theorem qF:xb Tryz.prog 58=some [.int .u8 0,.int .i64 0,.int .u64 0,.int .u8 0,.int .u32 0,.int .u64 0,.str [],.osl none 5 [],.osl none 3 []]:=by kernel_rfl
instance:ZE Tryz.prog 58 [.int .u8 0,.int .i64 0,.int .u64 0,.int .u8 0,.int .u32 0,.int .u64 0,.str [],.osl none 5 [],.osl none 3 []]:=⟨qF⟩
instance fo58x4:Fo Tryz.prog 58 4 6 9 1:=wa (by kernel_rfl) (by kernel_rfl)
instance fo58x6:Fo Tryz.prog 58 6 8 32 1:=wa (by kernel_rfl) (by kernel_rfl)
instance ty32:Ty Tryz.prog 32 (.slice 30) 1:=qq Tryz.underlying32 (by kernel_rfl)
instance el32:El Tryz.prog 32 30 3:=mkEl Tryz.underlying32 (by kernel_rfl)
instance fo58x5:Fo Tryz.prog 58 5 7 56 1:=wa (by kernel_rfl) (by kernel_rfl)
instance ty56:Ty Tryz.prog 56 (.slice 98) 1:=qq Tryz.underlying56 (by kernel_rfl)
instance el56:El Tryz.prog 56 98 5:=mkEl Tryz.underlying56 (by kernel_rfl)
instance fo98x2:Fo Tryz.prog 98 2 4 9 1:=wa (by kernel_rfl) (by kernel_rfl)
instance fo34x4:Fo Tryz.prog 34 4 4 32 1:=wa (by kernel_rfl) (by kernel_rfl)
instance fo34x1:Fo Tryz.prog 34 1 1 31 1:=wa (by kernel_rfl) (by kernel_rfl)
instance fo34x3:Fo Tryz.prog 34 3 3 9 1:=wa (by kernel_rfl) (by kernel_rfl)
instance ty4:Ty Tryz.prog 4 .bool 1:=qq Tryz.underlying4 (by kernel_rfl)
instance fo53x1:Fo Tryz.prog 53 1 1 5 1:=wa (by kernel_rfl) (by kernel_rfl)
instance ty5:Ty Tryz.prog 5 (.int .u8) 1:=qq Tryz.underlying5 (by kernel_rfl)
instance fo53x2:Fo Tryz.prog 53 2 2 2 1:=wa (by kernel_rfl) (by kernel_rfl)
instance ty2:Ty Tryz.prog 2 (.int .i64) 1:=qq Tryz.underlying2 (by kernel_rfl)
instance fo53x3:Fo Tryz.prog 53 3 3 2 1:=wa (by kernel_rfl) (by kernel_rfl)
instance fo53x4:Fo Tryz.prog 53 4 4 3 1:=wa (by kernel_rfl) (by kernel_rfl)
instance ty3:Ty Tryz.prog 3 (.int .i64) 1:=qq Tryz.underlying3 (by kernel_rfl)
theorem ty53:∃ d,Ty Tryz.prog 53 d 5∧zV d=true:=⟨_,qq Tryz.underlying53 (by kernel_rfl),by kernel_rfl⟩
instance:TA Tryz.prog 53 5:=⟨ty53⟩
instance fo30x0:Fo Tryz.prog 30 0 0 27 2:=wa (by kernel_rfl) (by kernel_rfl)
instance fo27x0:Fo Tryz.prog 27 0 0 5 1:=wa (by kernel_rfl) (by kernel_rfl)
instance fo27x1:Fo Tryz.prog 27 1 1 25 1:=wa (by kernel_rfl) (by kernel_rfl)
instance ty25:Ty Tryz.prog 25 (.int .u32) 1:=qq Tryz.underlying25 (by kernel_rfl)
instance fo30x1:Fo Tryz.prog 30 1 2 28 1:=wa (by kernel_rfl) (by kernel_rfl)
instance ty28:Ty Tryz.prog 28 (.int .u64) 1:=qq Tryz.underlying28 (by kernel_rfl)
theorem ty30:∃ d,Ty Tryz.prog 30 d 3∧zV d=true:=⟨_,qq Tryz.underlying30 (by kernel_rfl),by kernel_rfl⟩
instance:TA Tryz.prog 30 3:=⟨ty30⟩
theorem pk30:PK Tryz.prog 30 [.i,.i,.i]:=mkPK (by kernel_rfl) (by kernel_rfl) (by kernel_rfl)
instance fo98x1:Fo Tryz.prog 98 1 1 30 3:=wa (by kernel_rfl) (by kernel_rfl)
theorem ty27:∃ d,Ty Tryz.prog 27 d 2∧zV d=true:=⟨_,qq Tryz.underlying27 (by kernel_rfl),by kernel_rfl⟩
instance:TA Tryz.prog 27 2:=⟨ty27⟩
instance fo58x0:Fo Tryz.prog 58 0 0 5 1:=wa (by kernel_rfl) (by kernel_rfl)
instance fo58x1:Fo Tryz.prog 58 1 1 2 1:=wa (by kernel_rfl) (by kernel_rfl)
noncomputable def sf30:Array Field:=match Tryz.prog.underlying 30 with | some (.struct fs)=>fs | _=>#[]
theorem su30:Tryz.prog.underlying 30=some (.struct sf30):=by kernel_rfl
theorem ze30:xb Tryz.prog 30=some [.int .u8 0,.int .u32 0,.int .u64 0]:=by kernel_rfl
instance:ZE Tryz.prog 30 [.int .u8 0,.int .u32 0,.int .u64 0]:=⟨ze30⟩
theorem pl30:xS Tryz.prog sf30=some [(0,2),(2,1)]:=by kernel_rfl
instance fo58x2:Fo Tryz.prog 58 2 2 28 1:=wa (by kernel_rfl) (by kernel_rfl)
instance fo58x3:Fo Tryz.prog 58 3 3 30 3:=wa (by kernel_rfl) (by kernel_rfl)
theorem ty98:∃ d,Ty Tryz.prog 98 d 5∧zV d=true:=⟨_,qq Tryz.underlying98 (by kernel_rfl),by kernel_rfl⟩
instance:TA Tryz.prog 98 5:=⟨ty98⟩
theorem ze98:xb Tryz.prog 98=some [.int .u64 0,.int .u8 0,.int .u32 0,.int .u64 0,.str []]:=by kernel_rfl
instance:ZE Tryz.prog 98 [.int .u64 0,.int .u8 0,.int .u32 0,.int .u64 0,.str []]:=⟨ze98⟩
instance fo98x0:Fo Tryz.prog 98 0 0 28 1:=wa (by kernel_rfl) (by kernel_rfl)
theorem ty61:∃ d,Ty Tryz.prog 61 d 3∧zV d=true:=⟨_,qq Tryz.underlying61 (by kernel_rfl),by kernel_rfl⟩
instance:TA Tryz.prog 61 3:=⟨ty61⟩
theorem qE:xb Tryz.prog 61=some [.str [],.osl none 9 [],.osl none 3 []]:=by kernel_rfl
instance:ZE Tryz.prog 61 [.str [],.osl none 9 [],.osl none 3 []]:=⟨qE⟩
instance el181:El Tryz.prog 181 3 1:=mkEl Tryz.underlying181 (by kernel_rfl)
theorem ze3:xb Tryz.prog 3=some [.int .i64 0]:=by kernel_rfl
instance:ZE Tryz.prog 3 [.int .i64 0]:=⟨ze3⟩
theorem pk98:PK Tryz.prog 98 [.i,.i,.i,.i,.s]:=mkPK (by kernel_rfl) (by kernel_rfl) (by kernel_rfl)
theorem kq30:KQ Tryz.prog 30 (fun x=>AV.agg (GDot.row x)) GDot.eqb:=.struct su30 pk30 (fun _ _=>rfl) (fun a=>by simp [GDot.eqb])
theorem az3:qX Tryz.prog 3=some ((AV.int .i64) (0:Int)):=by kernel_rfl
noncomputable def sf58:Array Field:=match Tryz.prog.underlying 58 with | some (.struct fs)=>fs | _=>#[]
theorem su58:Tryz.prog.underlying 58=some (.struct sf58):=by kernel_rfl
theorem pl58:xS Tryz.prog sf58=some [(0,1),(1,1),(2,1),(3,3),(6,1),(7,1),(8,1)]:=by kernel_rfl
theorem ze53:xb Tryz.prog 53=some [.osl none 1 [],.int .u8 0,.int .i64 0,.int .i64 0,.int .i64 0]:=by kernel_rfl
instance:ZE Tryz.prog 53 [.osl none 1 [],.int .u8 0,.int .i64 0,.int .i64 0,.int .i64 0]:=⟨ze53⟩
noncomputable def sf53:Array Field:=match Tryz.prog.underlying 53 with | some (.struct fs)=>fs | _=>#[]
theorem su53:Tryz.prog.underlying 53=some (.struct sf53):=by kernel_rfl
theorem pl53:xS Tryz.prog sf53=some [(0,1),(1,1),(2,1),(3,1),(4,1)]:=by kernel_rfl
theorem azf40:qX Tryz.prog 40=some .nilf:=by kernel_rfl
instance fo34x2:Fo Tryz.prog 34 2 2 2 1:=wa (by kernel_rfl) (by kernel_rfl)
theorem ze109:xb Tryz.prog 109=some [.int .u8 0,.nilf]:=by kernel_rfl
instance:ZE Tryz.prog 109 [.int .u8 0,.nilf]:=⟨ze109⟩
noncomputable def sf109:Array Field:=match Tryz.prog.underlying 109 with | some (.struct fs)=>fs | _=>#[]
theorem su109:Tryz.prog.underlying 109=some (.struct sf109):=by kernel_rfl
theorem pl109:xS Tryz.prog sf109=some [(0,1),(1,1)]:=by kernel_rfl
instance ty157:Ty Tryz.prog 157 (.array 6 109) 12:=qq Tryz.underlying157 (by kernel_rfl)
theorem ze157:xb Tryz.prog 157=some [.int .u8 0,.nilf,.int .u8 0,.nilf,.int .u8 0,.nilf,.int .u8 0,.nilf,.int .u8 0,.nilf,.int .u8 0,.nilf]:=by kernel_rfl
instance:ZE Tryz.prog 157 [.int .u8 0,.nilf,.int .u8 0,.nilf,.int .u8 0,.nilf,.int .u8 0,.nilf,.int .u8 0,.nilf,.int .u8 0,.nilf]:=⟨ze157⟩
theorem ty109:∃ d,Ty Tryz.prog 109 d 2∧zV d=true:=⟨_,qq Tryz.underlying109 (by kernel_rfl),by kernel_rfl⟩
instance:TA Tryz.prog 109 2:=⟨ty109⟩
instance fo34x0:Fo Tryz.prog 34 0 0 5 1:=wa (by kernel_rfl) (by kernel_rfl)
instance fo109x1:Fo Tryz.prog 109 1 1 100 1:=wa (by kernel_rfl) (by kernel_rfl)
instance ty100:Ty Tryz.prog 100 (.func #[34] #[4] false) 1:=qq Tryz.underlying100 (by kernel_rfl)
theorem ty34:∃ d,Ty Tryz.prog 34 d 5∧zV d=true:=⟨_,qq Tryz.underlying34 (by kernel_rfl),by kernel_rfl⟩
instance:TA Tryz.prog 34 5:=⟨ty34⟩
instance fo36x0:Fo Tryz.prog 36 0 0 30 3:=wa (by kernel_rfl) (by kernel_rfl)
instance fo36x1:Fo Tryz.prog 36 1 3 28 1:=wa (by kernel_rfl) (by kernel_rfl)
instance fo36x2:Fo Tryz.prog 36 2 4 34 5:=wa (by kernel_rfl) (by kernel_rfl)
instance ty165:Ty Tryz.prog 165 (.int .u64) 1:=qq Tryz.underlying165 (by kernel_rfl)
instance fo109x0:Fo Tryz.prog 109 0 0 5 1:=wa (by kernel_rfl) (by kernel_rfl)
theorem ty36:∃ d,Ty Tryz.prog 36 d 9∧zV d=true:=⟨_,qq Tryz.underlying36 (by kernel_rfl),by kernel_rfl⟩
instance:TA Tryz.prog 36 9:=⟨ty36⟩
noncomputable def sf147:Array Field:=match Tryz.prog.underlying 147 with | some (.struct fs)=>fs | _=>#[]
theorem su147:Tryz.prog.underlying 147=some (.struct sf147):=by kernel_rfl
theorem ze147:xb Tryz.prog 147=some [.int .u8 0,.int .i64 0,.int .u64 0,.int .u8 0,.int .u32 0,.int .u64 0,.str [],.osl none 5 [],.osl none 3 []]:=by kernel_rfl
instance:ZE Tryz.prog 147 [.int .u8 0,.int .i64 0,.int .u64 0,.int .u8 0,.int .u32 0,.int .u64 0,.str [],.osl none 5 [],.osl none 3 []]:=⟨ze147⟩
theorem pl147:xS Tryz.prog sf147=some [(0,9)]:=by kernel_rfl
instance fo147x0:Fo Tryz.prog 147 0 0 58 9:=wa (by kernel_rfl) (by kernel_rfl)
noncomputable def sf98:Array Field:=match Tryz.prog.underlying 98 with | some (.struct fs)=>fs | _=>#[]
theorem su98:Tryz.prog.underlying 98=some (.struct sf98):=by kernel_rfl
theorem pl98:xS Tryz.prog sf98=some [(0,1),(1,3),(4,1)]:=by kernel_rfl
theorem azf142:qX Tryz.prog 142=some .nilf:=by kernel_rfl
noncomputable def sf61:Array Field:=match Tryz.prog.underlying 61 with | some (.struct fs)=>fs | _=>#[]
theorem su61:Tryz.prog.underlying 61=some (.struct sf61):=by kernel_rfl
theorem pl61:xS Tryz.prog sf61=some [(0,1),(1,1),(2,1)]:=by kernel_rfl
instance el23:El Tryz.prog 23 61 3:=mkEl Tryz.underlying23 (by kernel_rfl)
instance el66:El Tryz.prog 66 69 10:=mkEl Tryz.underlying66 (by kernel_rfl)
theorem ze69:xb Tryz.prog 69=some [.osl none 1 [],.int .u8 0,.int .i64 0,.int .u64 0,.int .u8 0,.int .u32 0,.int .u64 0,.str [],.osl none 5 [],.osl none 3 []]:=by kernel_rfl
instance:ZE Tryz.prog 69 [.osl none 1 [],.int .u8 0,.int .i64 0,.int .u64 0,.int .u8 0,.int .u32 0,.int .u64 0,.str [],.osl none 5 [],.osl none 3 []]:=⟨ze69⟩
theorem ty69:∃ d,Ty Tryz.prog 69 d 10∧zV d=true:=⟨_,qq Tryz.underlying69 (by kernel_rfl),by kernel_rfl⟩
instance:TA Tryz.prog 69 10:=⟨ty69⟩
instance ty66:Ty Tryz.prog 66 (.slice 69) 1:=qq Tryz.underlying66 (by kernel_rfl)
theorem ze9:xb Tryz.prog 9=some [.str []]:=by kernel_rfl
instance:ZE Tryz.prog 9 [.str []]:=⟨ze9⟩
instance ty123:Ty Tryz.prog 123 (.func #[69] #[4] false) 1:=qq Tryz.underlying123 (by kernel_rfl)
noncomputable def sf69:Array Field:=match Tryz.prog.underlying 69 with | some (.struct fs)=>fs | _=>#[]
theorem su69:Tryz.prog.underlying 69=some (.struct sf69):=by kernel_rfl
theorem pl69:xS Tryz.prog sf69=some [(0,1),(1,9)]:=by kernel_rfl
instance el44:El Tryz.prog 44 64 3:=mkEl Tryz.underlying44 (by kernel_rfl)
instance fo69x0:Fo Tryz.prog 69 0 0 31 1:=wa (by kernel_rfl) (by kernel_rfl)
instance fo69x1:Fo Tryz.prog 69 1 1 58 9:=wa (by kernel_rfl) (by kernel_rfl)
noncomputable def sf64:Array Field:=match Tryz.prog.underlying 64 with | some (.struct fs)=>fs | _=>#[]
theorem su64:Tryz.prog.underlying 64=some (.struct sf64):=by kernel_rfl
theorem ze64:xb Tryz.prog 64=some [.osl none 1 [],.int .u8 0,.int .i64 0]:=by kernel_rfl
instance:ZE Tryz.prog 64 [.osl none 1 [],.int .u8 0,.int .i64 0]:=⟨ze64⟩
theorem pl64:xS Tryz.prog sf64=some [(0,1),(1,1),(2,1)]:=by kernel_rfl
noncomputable def sf27:Array Field:=match Tryz.prog.underlying 27 with | some (.struct fs)=>fs | _=>#[]
theorem su27:Tryz.prog.underlying 27=some (.struct sf27):=by kernel_rfl
theorem ze27:xb Tryz.prog 27=some [.int .u8 0,.int .u32 0]:=by kernel_rfl
instance:ZE Tryz.prog 27 [.int .u8 0,.int .u32 0]:=⟨ze27⟩
theorem pl27:xS Tryz.prog sf27=some [(0,1),(1,1)]:=by kernel_rfl
noncomputable def sf34:Array Field:=match Tryz.prog.underlying 34 with | some (.struct fs)=>fs | _=>#[]
theorem su34:Tryz.prog.underlying 34=some (.struct sf34):=by kernel_rfl
theorem ze34:xb Tryz.prog 34=some [.int .u8 0,.osl none 1 [],.int .i64 0,.str [],.osl none 3 []]:=by kernel_rfl
instance:ZE Tryz.prog 34 [.int .u8 0,.osl none 1 [],.int .i64 0,.str [],.osl none 3 []]:=⟨ze34⟩
theorem pl34:xS Tryz.prog sf34=some [(0,1),(1,1),(2,1),(3,1),(4,1)]:=by kernel_rfl
noncomputable def sf36:Array Field:=match Tryz.prog.underlying 36 with | some (.struct fs)=>fs | _=>#[]
theorem su36:Tryz.prog.underlying 36=some (.struct sf36):=by kernel_rfl
theorem ze36:xb Tryz.prog 36=some [.int .u8 0,.int .u32 0,.int .u64 0,.int .u64 0,.int .u8 0,.osl none 1 [],.int .i64 0,.str [],.osl none 3 []]:=by kernel_rfl
instance:ZE Tryz.prog 36 [.int .u8 0,.int .u32 0,.int .u64 0,.int .u64 0,.int .u8 0,.osl none 1 [],.int .i64 0,.str [],.osl none 3 []]:=⟨ze36⟩
theorem pl36:xS Tryz.prog sf36=some [(0,3),(3,1),(4,5)]:=by kernel_rfl
instance fo64x2:Fo Tryz.prog 64 2 2 41 1:=wa (by kernel_rfl) (by kernel_rfl)
instance ty41:Ty Tryz.prog 41 (.int .i64) 1:=qq Tryz.underlying41 (by kernel_rfl)
instance fo72x0:Fo Tryz.prog 72 0 0 31 1:=wa (by kernel_rfl) (by kernel_rfl)
instance fo72x1:Fo Tryz.prog 72 1 1 5 1:=wa (by kernel_rfl) (by kernel_rfl)
instance el65:El Tryz.prog 65 72 22:=mkEl Tryz.underlying65 (by kernel_rfl)
theorem ty72:∃ d,Ty Tryz.prog 72 d 22∧zV d=true:=⟨_,qq Tryz.underlying72 (by kernel_rfl),by kernel_rfl⟩
instance:TA Tryz.prog 72 22:=⟨ty72⟩
theorem ze72:xb Tryz.prog 72=some [.osl none 1 [],.int .u8 0,.bool false,.bool false,.int .u8 0,.int .i64 0,.int .u64 0,.int .u8 0,.int .u32 0,.int .u64 0,.str [],.osl none 5 [],.osl none 3 [],.int .u8 0,.int .i64 0,.int .u64 0,.int .u8 0,.int .u32 0,.int .u64 0,.str [],.osl none 5 [],.osl none 3 []]:=by kernel_rfl
instance:ZE Tryz.prog 72 [.osl none 1 [],.int .u8 0,.bool false,.bool false,.int .u8 0,.int .i64 0,.int .u64 0,.int .u8 0,.int .u32 0,.int .u64 0,.str [],.osl none 5 [],.osl none 3 [],.int .u8 0,.int .i64 0,.int .u64 0,.int .u8 0,.int .u32 0,.int .u64 0,.str [],.osl none 5 [],.osl none 3 []]:=⟨ze72⟩
instance fo72x2:Fo Tryz.prog 72 2 2 4 1:=wa (by kernel_rfl) (by kernel_rfl)
instance fo72x3:Fo Tryz.prog 72 3 3 4 1:=wa (by kernel_rfl) (by kernel_rfl)
instance fo72x4:Fo Tryz.prog 72 4 4 58 9:=wa (by kernel_rfl) (by kernel_rfl)
instance fo72x5:Fo Tryz.prog 72 5 13 58 9:=wa (by kernel_rfl) (by kernel_rfl)
noncomputable def sf72:Array Field:=match Tryz.prog.underlying 72 with | some (.struct fs)=>fs | _=>#[]
theorem su72:Tryz.prog.underlying 72=some (.struct sf72):=by kernel_rfl
theorem pl72:xS Tryz.prog sf72=some [(0,1),(1,1),(2,1),(3,1),(4,9),(13,9)]:=by kernel_rfl
theorem ok13 {l0:(List GField)} {res:Bool} {h:AH}  (hF:ref43Great l0=some res):Spec Tryz.prog 13 [.sl 5 (l0.map GField.row)] h (yb (.bool res) h):=by
 unfold ref43Great at hF;refine za Tryz.func13 rfl (by kernel_rfl) (yk 41 rfl) (R.r ?_);refine zA (fun (n1:Nat) (s1:Unit)=>zG [1,2,4,5,6,7,8,9,10,11,12,13,14,15,16,17,18,19,20,21,22,23,24,25,26,27,28,29,30,31,32,33,34,35,36,37,38,39,40] [(3,.int .i64 (n1:Int))]) (fun s1=>h.ext [] []) hF (fun _ _=>by simp only [zG,wD,List.set_cons_succ,List.set_cons_zero];try rfl) (wk.le LEL.o) ?_;intro n1 s1 hi1 hF;refine R.r ?_;refine ln fun hn26=>?_;replace hn26:=zY hn26;refine R.r ?_;refine zJ gt8 hF (fun x1 o1 hl1 hx1 hF hK1=>?_) (fun hF=>?_)
 ·refine R.r ?_;refine ix (zz hx1) (R.r ?_);refine ln fun hn27=>?_;replace hn27:=zY hn27;refine R.r ?_;refine zd gt17 hF (fun hc28 hF=>?_) (fun hc28 hF=>?_)
  ·refine R.r ?_;cases hF;replace hF:=hK1;refine R.r ?_;cases hF;exact fz rfl rfl
  ·refine R.r ?_;refine zA (fun (n2:Nat) (s2:Unit)=>zG [1,2,5,6,7,8,9,10,11,12,13,14,15,16,17,18,19,20,21,22,23,24,25,26,27,28,29,30,31,32,33,34,35,36,37,38,39,40] [(4,.int .i64 (n2:Int))]) (fun s2=>h.ext [] []) hF (fun _ _=>by simp only [zG,wD,List.set_cons_succ,List.set_cons_zero];try rfl) (wk.le LEL.o) ?_;intro n2 s2 hi2 hF;refine R.r ?_;refine ix (zz hx1) (R.r ?_);refine ln fun hn36=>?_;replace hn36:=zY hn36;refine R.r ?_;refine zJ gt25 hF (fun x2 o2 hl2 hx2 hF hK2=>?_) (fun hF=>?_)
   ·refine R.r ?_;refine ix (zz hx1) (R.r ?_);refine ix (zz hx2) (R.r ?_);refine ln fun hn37=>?_;replace hn37:=zY hn37;refine R.r ?_;refine zd gt37 hF (fun hc38 hF=>?_) (fun hc38 hF=>?_)
    ·refine R.r ?_;cases hF;replace hF:=hK2;refine R.r ?_;cases hF;replace hF:=hK1;refine R.r ?_;cases hF;exact fz rfl rfl
    ·refine R.r ?_;cases hF;exact ⟨(),hl2,hK2,wk.le (by exact (.eq (.drop (.drop (.eq (.cons (leV.of_eq (y4 (by omega) (by omega))) (.d16 (.d16 (.d4 leL.nil)))))))))⟩
   ·refine R.r ?_;cases hF;exact ⟨(),hl1,hK1,wk.le (by exact (.eq (.drop (.drop (.cons (leV.of_eq (y4 (by omega) (by omega))) (.d16 (.d16 (.d4 (.drop leL.nil)))))))))⟩
 ·refine R.r ?_;refine ln fun hn39=>?_;replace hn39:=zY hn39;refine R.r ?_;cases hF;exact fz rfl rfl
theorem ok34N (n:Nat):∀ {t0:(List GNode)} {deep1:Int} {res:Int} {h:AH} , xc n t0 deep1=some res→Spec Tryz.prog 34 [.sl 3 (t0.map GNode.row),.int .i64 deep1] h (yb (.int .i64 res) h):=by
 induction n with
 | zero=>intro t0 deep1 res h  hF;simp [xc] at hF
 | succ n ih =>
  intro t0 deep1 res h  hF;unfold xc at hF;refine za Tryz.func34 rfl (by kernel_rfl) (yk 84 rfl) (R.r ?_);refine xD (fun (s1:Int×Int)=>zG [2,3,4,7,8,9,10,11,12,13,14,15,16,17,18,19,20,21,22,23,24,25,26,27,28,29,30,31,32,33,34,35,36,37,38,39,40,41,42,43,44,45,46,47,48,49,50,51,52,53,54,55,56,57,58,59,60,61,62,63,64,65,66,67,68,69,70,71,72,73,74,75,76,77,78,79,80,81,82,83] [(5,.int .i64 s1.1),(6,.int .i64 s1.2)]) (fun s1=>h.ext [] []) hF (fun _=>by simp only [zG,wD,List.set_cons_succ,List.set_cons_zero];try rfl) (wk.le LEL.o) ?_;intro n1 s1 o1 hF hK1;refine R.r ?_;refine ln fun hn66=>?_;replace hn66:=zY hn66;refine R.r ?_;refine zd gt17 hF (fun hc67 hF=>?_) (fun hc67 hF=>?_)
  ·refine R.r ?_;refine zt [16] [] trivial mixed (by kernel_rfl) (R.r ?_);refine ze hF (fun y68 hy68 hF=>?_);refine zx rfl rfl (yi rfl el24 gt22 gt23 isl hy68 (GNode.row_eq _)) st24 (R.r ?_);refine draw_len rfl rfl (s_lenStr rfl rfl rfl rfl ty9 gt26) st27 (R.r ?_);refine ze hF (fun y70 hy70 hF=>?_);refine zx rfl rfl (yi rfl el24 gt29 gt30 isl hy70 (GNode.row_eq _)) st31 (R.r ?_);refine ze hF (fun v71 hv71 hF=>?_);refine zy rfl rfl (fun _=>sc rfl) (by rintro _ ⟨B2,T2,rfl,hk2⟩;exact ih hv71) st36 (R.r ?_);refine xD (fun (s2:Int×Int)=>zG [2,3,4,8,9,10,11,12,13,14,15,16,17,18,19,20,21,22,23,24,25,26,27,28,29,30,31,32,33,34,35,36,37,38,39,40,41,42,43,44,45,46,47,48,49,50,51,52,53,54,55,56,57,58,59,60,61,62,63,64,65,66,67,68,69,70,71,72,73,74,75,76,77,78,79,80,81,82,83] [(5,.int .i64 s2.1),(7,.int .i64 s2.2)]) (fun s2=>h.ext [] []) hF (fun _=>by simp only [zG,wD,List.set_cons_succ,List.set_cons_zero];try rfl) (wk.le LEL.o) ?_;intro n2 s2 o2 hF hK2;refine R.r ?_;refine ze hF (fun y102 hy102 hF=>?_);refine zc rfl (yi rfl el24 gt39 (gk gt0) isl hy102 (GNode.row_eq _)) (sk st1) (R.r ?_);refine ln fun hn103=>?_;replace hn103:=zY hn103;refine R.r ?_;refine zd (gk gt5) hF (fun hc104 hF=>?_) (fun hc104 hF=>?_)
   ·refine R.r ?_;refine ze hF (fun y105 hy105 hF=>?_);refine zc rfl (yi rfl el24 (gk gt8) (gk gt9) isl hy105 (GNode.row_eq _)) (sk st10) (R.r ?_);refine ze hF (fun y106 hy106 hF=>?_);refine ix hy106 (R.r ?_);refine ln fun hn107=>?_;replace hn107:=zY hn107;refine R.r ?_;refine ln fun hn108=>?_;replace hn108:=zY hn108;refine R.r ?_;refine zA (fun (n3:Nat) (s3:Int)=>zG [2,3,4,10,11,12,13,14,15,16,17,18,19,20,21,22,23,24,25,26,27,28,29,30,31,32,33,34,35,36,37,38,39,40,41,42,43,44,45,46,47,48,49,50,51,52,53,54,55,56,57,58,59,60,61,62,63,64,65,66,67,68,69,70,71,72,73,74,75,76,77,78,79,80,81,82,83] [(5,.int .i64 s3),(9,.int .i64 (n3:Int))]) (fun s3=>h.ext [.cells (GLeaf.row y106)] []) hF (fun _ _=>by simp only [zG,wD,List.set_cons_succ,List.set_cons_zero];try rfl) (wk.le LEL.o) ?_;intro n3 s3 hi3 hF;refine R.r ?_;refine ln fun hn125=>?_;replace hn125:=zY hn125;refine R.r ?_;refine zJ (gk gt30) hF (fun x3 o3 hl3 hx3 hF hK3=>?_) (fun hF=>?_)
    ·refine R.r ?_;refine ix (zz hx3) (R.r ?_);refine ln fun hn126=>?_;replace hn126:=zY hn126;refine R.r ?_;cases hF;exact ⟨(IntKind.wrap .i64 ((IntKind.wrap .i64 (s3+(1:Int)))+((x3.text).length:Int))),hl3,hK3,wk.le (by exact (.eq (.eq (.drop (.drop (.drop (.cons (leV.of_eq rfl) (.eq (.eq (.eq (.cons (leV.of_eq (y4 (by omega) (by omega))) (.d16 (.d16 (.d16 (.d16 (.d4 (.d4 (.drop (.drop leL.nil)))))))))))))))))))⟩
    ·refine R.r ?_;cases hF;exact ⟨(s3,(IntKind.wrap .i64 (s2.2+(1:Int)))),hK2,wk.trans (wk.le LEL.o) (yj (by simp [zu,AV.low]) rfl rfl (by simp [Blk.low,zu,AV.low]))⟩
   ·refine R.r ?_;cases hF;replace hF:=hK2;refine R.r ?_;cases hF;exact ⟨(s2.1,(IntKind.wrap .i64 (s1.2+(1:Int)))),hK1,wk.le LEL.o⟩
  ·refine R.r ?_;cases hF;replace hF:=hK1;refine R.r ?_;cases hF;exact fz rfl rfl
theorem ok34 {t0:(List GNode)} {deep1:Int} {res:Int} {h:AH}  (hF:ref07Xsize t0 deep1=some res):Spec Tryz.prog 34 [.sl 3 (t0.map GNode.row),.int .i64 deep1] h (yb (.int .i64 res) h):=by
 obtain ⟨n,hn⟩:=anyN_is hF;exact ok34N n hn
theorem ok14 {t0:(List GNode)} {res:Bool} {h:AH}  (hF:ref07Great t0=some res):Spec Tryz.prog 14 [.sl 3 (t0.map GNode.row)] h (yb (.bool res) h):=by
 unfold ref07Great at hF;refine za Tryz.func14 rfl (by kernel_rfl) (yk 6 rfl) (R.r ?_);refine ze hF (fun v1 hv1 hF=>?_);refine cp (ok34 hv1) (R.r ?_);cases hF;exact fz rfl rfl
theorem ok4 {l0:(List GField)} {t1:(List GNode)} {o2:GOp} {res:Bool} {h:AH}  (hF:law43Xgreat l0 t1 o2=some res):Spec Tryz.prog 4 [.sl 5 (l0.map GField.row),.sl 3 (t1.map GNode.row),.agg (GOp.row o2)] h (yb (.bool res) h):=by
 unfold law43Xgreat at hF;refine za Tryz.func4 rfl (by kernel_rfl) (yk 31 rfl) (R.r ?_);refine ze hF (fun v1 hv1 hF=>?_);refine cp (ok13 hv1) (R.r ?_);refine zM hF (fun v2 hv2 hF=>?_);refine zw rfl sc (fun hb=>ok14 (hv2 hb)) st11 (R.r ?_);refine lng fun hn3=>?_;refine R.r ?_;refine lng fun hn4=>?_;refine R.r ?_;refine lng fun hn5=>?_;refine R.r ?_;cases hF;exact fz rfl rfl
theorem ok122 {r0:Int} {res:Bool} {h:AH}  (hF:qO r0=some res):Spec Tryz.prog 122 [.int .i32 r0] h (yb (.bool res) h):=by
 unfold qO at hF;refine za Tryz.func122 rfl (by kernel_rfl) (yk 25 rfl) (R.r ?_);cases hF;exact fz rfl rfl
theorem ok175 {s0:zk} {f1:(Int→Option Bool)} {ff1:FuncId} {af1 kf1:List AV} {truth2:Bool} {res:Int} {h:AH} (hf1:∀ x0 v (L:List Blk) (M:List Nat),f1 x0=some v→Spec Tryz.prog ff1 (af1++[.int .i32 x0]++kf1) (h.ext L M) (yb (.bool v) (h.ext L M))) (hF:wF s0 f1 truth2=some res):Spec Tryz.prog 175 [.str s0,.fn (.func ff1) af1 kf1,.bool truth2] h (yb (.int .i64 res) h):=by
 unfold wF at hF;refine zF Tryz.func175 rfl (by kernel_rfl) (yk 21 rfl) (fun hlow hC=>?_);simp only [zu,AV.low,Bool.and_eq_true,Bool.true_and,and_true] at hlow;have hlaf1:∀ n m,h.blks.length≤n→h.toks.length≤m→zu n m af1=true:=fun n m h1 h2=>zS h1 h2 _ (by simp [hlow]);have hlkf1:∀ n m,h.blks.length≤n→h.toks.length≤m→zu n m kf1=true:=fun n m h1 h2=>zS h1 h2 _ (by simp [hlow]);refine R.r ?_;refine zc rfl (e_range (n:=0) rfl ty9 gt9 rfl) st10 (R.r ?_);refine xD (fun (s1:Nat)=>zG [0,3,4,5,6,7,8,9,11,12,13,14,15,16,17,18,19,20] []) (fun s1=>h.ext [.siter s0 s1] []) hF (fun _=>by simp only [zG,wD,List.set_cons_succ,List.set_cons_zero];try rfl) (wk.le LEL.o) ?_;intro n1 s1 o1 hF hK1;refine R.r ?_;refine ops_nextF rfl rfl vi rfl st11 st11 hF (fun hp5 hF=>?_) (fun hF=>?_)
 ·refine R.r ?_;refine r_cond qe (fun _=>?_) (fun hh=>by cases hh);refine R.r ?_;refine ze hF (fun v6 hv6 hF=>?_);refine yD rfl (scC rfl) (hf1 _ _ _ _ hv6) st17 (R.r ?_);refine zc rfl (vT rfl gt17 gt18 (bin_boolE ty4)) st19 (R.r ?_);refine zd wW hF (fun hc7 hF=>?_) (fun hc7 hF=>?_)
  ·refine R.r ?_;cases hF;replace hF:=hK1;refine R.r ?_;cases hF;exact fz rfl rfl
  ·refine R.r ?_;cases hF;exact ⟨(s1+(dec s0 s1).2),hK1,wk.le LEL.o⟩
 ·refine R.r ?_;refine r_cond qe (fun hh=>by cases hh) (fun _=>?_);refine R.r ?_;cases hF;replace hF:=hK1;refine R.r ?_;cases hF;exact fz rfl rfl
theorem ok149 {s0:zk} {f1:(Int→Option Bool)} {ff1:FuncId} {af1 kf1:List AV} {res:Int} {h:AH} (hf1:∀ x0 v (L:List Blk) (M:List Nat),f1 x0=some v→Spec Tryz.prog ff1 (af1++[.int .i32 x0]++kf1) (h.ext L M) (yb (.bool v) (h.ext L M))) (hF:wZ s0 f1=some res):Spec Tryz.prog 149 [.str s0,.fn (.func ff1) af1 kf1] h (yb (.int .i64 res) h):=by
 unfold wZ at hF;refine zF Tryz.func149 rfl (by kernel_rfl) (yk 8 rfl) (fun hlow hC=>?_);simp only [zu,AV.low,Bool.and_eq_true,Bool.true_and,and_true] at hlow;have hlaf1:∀ n m,h.blks.length≤n→h.toks.length≤m→zu n m af1=true:=fun n m h1 h2=>zS h1 h2 _ (by simp [hlow]);have hlkf1:∀ n m,h.blks.length≤n→h.toks.length≤m→zu n m kf1=true:=fun n m h1 h2=>zS h1 h2 _ (by simp [hlow]);refine R.r ?_;refine ze hF (fun v1 hv1 hF=>?_);refine cp (ok175 (fun x0 v L M hv=>by rw [yT];exact hf1 x0 v _ _ hv) hv1) (R.r ?_);cases hF;exact fz rfl rfl
theorem ok123 {s0:zk} {f1:(Int→Option Bool)} {ff1:FuncId} {af1 kf1:List AV} {res:Bool} {h:AH} (hf1:∀ x0 v (L:List Blk) (M:List Nat),f1 x0=some v→Spec Tryz.prog ff1 (af1++[.int .i32 x0]++kf1) (h.ext L M) (yb (.bool v) (h.ext L M))) (hF:xl s0 f1=some res):Spec Tryz.prog 123 [.str s0,.fn (.func ff1) af1 kf1] h (yb (.bool res) h):=by
 unfold xl at hF;refine zF Tryz.func123 rfl (by kernel_rfl) (yk 9 rfl) (fun hlow hC=>?_);simp only [zu,AV.low,Bool.and_eq_true,Bool.true_and,and_true] at hlow;have hlaf1:∀ n m,h.blks.length≤n→h.toks.length≤m→zu n m af1=true:=fun n m h1 h2=>zS h1 h2 _ (by simp [hlow]);have hlkf1:∀ n m,h.blks.length≤n→h.toks.length≤m→zu n m kf1=true:=fun n m h1 h2=>zS h1 h2 _ (by simp [hlow]);refine R.r ?_;refine ze hF (fun v1 hv1 hF=>?_);refine cp (ok149 (fun x0 v L M hv=>by rw [yT];exact hf1 x0 v _ _ hv) hv1) (R.r ?_);cases hF;exact fz rfl rfl
theorem ok73 {s0:zk} {res:Bool} {h:AH}  (hF:opIsName s0=some res):Spec Tryz.prog 73 [.str s0] h (yb (.bool res) h):=by
 unfold opIsName at hF;refine za Tryz.func73 rfl (by kernel_rfl) (yk 18 rfl) (R.r ?_);refine ln fun hn1=>?_;replace hn1:=zY hn1;refine R.r ?_;refine lng fun hn2=>?_;refine R.r ?_;refine zM hF (fun v3 hv3 hF=>?_);refine zw rfl sc (fun hb=>ok123 (fun _ v L M hv=>ok122  hv) (hv3 hb)) st15 (R.r ?_);cases hF;exact fz rfl rfl
theorem ok72 {s0:zk} {res:Bool} {h:AH}  (hF:wH s0=some res):Spec Tryz.prog 72 [.str s0] h (yb (.bool res) h):=by
 unfold wH at hF;refine za Tryz.func72 rfl (by kernel_rfl) (yk 10 rfl) (R.r ?_);refine zM hF (fun v1 hv1 hF=>?_);refine zw rfl sc (fun hb=>ok73 (hv1 hb)) st7 (R.r ?_);cases hF;exact fz rfl rfl
theorem ok124 {s0:(List zk)} {f1:(zk→Option Bool)} {ff1:FuncId} {af1 kf1:List AV} {res:Int} {h:AH} (hf1:∀ x0 v (L:List Blk) (M:List Nat),f1 x0=some v→Spec Tryz.prog ff1 (af1++[.str x0]++kf1) (h.ext L M) (yb (.bool v) (h.ext L M))) (hF:xH s0 f1=some res):Spec Tryz.prog 124 [.sl 1 (s0.map zI),.fn (.func ff1) af1 kf1] h (yb (.int .i64 res) h):=by
 unfold xH at hF;refine zF Tryz.func124 rfl (by kernel_rfl) (yk 19 rfl) (fun hlow hC=>?_);simp only [zu,AV.low,Bool.and_eq_true,Bool.true_and,and_true] at hlow;have hlaf1:∀ n m,h.blks.length≤n→h.toks.length≤m→zu n m af1=true:=fun n m h1 h2=>zS h1 h2 _ (by simp [hlow]);have hlkf1:∀ n m,h.blks.length≤n→h.toks.length≤m→zu n m kf1=true:=fun n m h1 h2=>zS h1 h2 _ (by simp [hlow]);refine R.r ?_;refine ln fun hn1=>?_;replace hn1:=zY hn1;refine R.r ?_;refine zA (fun (n1:Nat) (s1:Unit)=>zG [2,3,4,5,6,9,10,11,12,13,14,15,16,17,18] [(8,.int .i64 (n1:Int))]) (fun s1=>h.ext [] []) hF (fun _ _=>by simp only [zG,wD,List.set_cons_succ,List.set_cons_zero];try rfl) (wk.le LEL.o) ?_;intro n1 s1 hi1 hF;refine R.r ?_;refine zJ gt9 hF (fun x1 o1 hl1 hx1 hF hK1=>?_) (fun hF=>?_)
 ·refine R.r ?_;refine ix (zz hx1) (R.r ?_);refine ze hF (fun v7 hv7 hF=>?_);refine yD rfl (scC rfl) (hf1 _ _ _ _ hv7) st16 (R.r ?_);refine zd vr hF (fun hc8 hF=>?_) (fun hc8 hF=>?_)
  ·refine R.r ?_;cases hF;replace hF:=hK1;refine R.r ?_;cases hF;exact fz rfl rfl
  ·refine R.r ?_;cases hF;exact ⟨(),hl1,hK1,wk.le (by exact (.eq (.eq (.d4 (.drop (.eq (.cons (leV.of_eq (y4 (by omega) (by omega))) (.d4 (.d4 (.drop (.drop leL.nil)))))))))))⟩
 ·refine R.r ?_;cases hF;exact fz rfl rfl
theorem ok74 {s0:(List zk)} {f1:(zk→Option Bool)} {ff1:FuncId} {af1 kf1:List AV} {res:Bool} {h:AH} (hf1:∀ x0 v (L:List Blk) (M:List Nat),f1 x0=some v→Spec Tryz.prog ff1 (af1++[.str x0]++kf1) (h.ext L M) (yb (.bool v) (h.ext L M))) (hF:yp s0 f1=some res):Spec Tryz.prog 74 [.sl 1 (s0.map zI),.fn (.func ff1) af1 kf1] h (yb (.bool res) h):=by
 unfold yp at hF;refine zF Tryz.func74 rfl (by kernel_rfl) (yk 9 rfl) (fun hlow hC=>?_);simp only [zu,AV.low,Bool.and_eq_true,Bool.true_and,and_true] at hlow;have hlaf1:∀ n m,h.blks.length≤n→h.toks.length≤m→zu n m af1=true:=fun n m h1 h2=>zS h1 h2 _ (by simp [hlow]);have hlkf1:∀ n m,h.blks.length≤n→h.toks.length≤m→zu n m kf1=true:=fun n m h1 h2=>zS h1 h2 _ (by simp [hlow]);refine R.r ?_;refine ze hF (fun v1 hv1 hF=>?_);refine cp (ok124 (fun x0 v L M hv=>by rw [yT];exact hf1 x0 v _ _ hv) hv1) (R.r ?_);cases hF;exact fz rfl rfl
theorem ok71 {p0:(List zk)} {res:((List zk)×Bool)} {h:AH}  (hF:vX p0=some res):Spec Tryz.prog 71 [.sl 1 (p0.map zI)] h (yb (.tup [.sl 1 (res.1.map zI),.bool res.2]) h):=by
 unfold vX at hF;refine za Tryz.func71 rfl (by kernel_rfl) (yk 22 rfl) (R.r ?_);refine ln fun hn1=>?_;replace hn1:=zY hn1;refine R.r ?_;refine yd hF (fun hg2 hF=>?_);refine gix hg2 (R.r ?_);refine zd vr hF (fun hc3 hF=>?_) (fun hc3 hF=>?_)
 ·refine R.r ?_;refine ze hF (fun m4 hm4 hF=>?_);refine zc rfl (xR rfl el31 gt17 (.inl rfl) .none (.some wW) hm4) st20 (R.r ?_);cases hF;exact fz rfl rfl
 ·refine R.r ?_;cases hF;exact fz rfl rfl
theorem ok36 {p0:(List zk)} {res:Bool} {h:AH}  (hF:xj p0=some res):Spec Tryz.prog 36 [.sl 1 (p0.map zI)] h (yb (.bool res) h):=by
 unfold xj at hF;refine za Tryz.func36 rfl (by kernel_rfl) (yk 28 rfl) (R.r ?_);refine ze hF (fun v1 hv1 hF=>?_);refine cp (ok71 hv1) (R.r ?_);refine ln fun hn2=>?_;replace hn2:=zY hn2;refine R.r ?_;refine lng fun hn3=>?_;refine R.r ?_;refine zM hF (fun v4 hv4 hF=>?_);refine zw rfl sc (fun hb=>ok74 (fun _ v L M hv=>ok72  hv) (hv4 hb)) st25 (R.r ?_);cases hF;exact fz rfl rfl
theorem ok17 {f0:GField} {res:Bool} {h:AH}  (hF:qZ f0=some res):Spec Tryz.prog 17 [.agg (GField.row f0)] h (yb (.bool res) h):=by
 unfold qZ at hF;refine za Tryz.func17 rfl (by kernel_rfl) (yk 29 rfl) (R.r ?_);refine ze hF (fun v1 hv1 hF=>?_);refine cp (ok36 hv1) (R.r ?_);cases hF;exact fz rfl rfl
theorem ok16 {f0:GField} {res:Bool} {h:AH}  (hF:vR f0=some res):Spec Tryz.prog 16 [.agg (GField.row f0)] h (yb (.bool res) h):=by
 unfold vR at hF;refine za Tryz.func16 rfl (by kernel_rfl) (yk 6 rfl) (R.r ?_);refine ze hF (fun v1 hv1 hF=>?_);refine cp (ok17 hv1) (R.r ?_);cases hF;exact fz rfl rfl
theorem ok35 {s0:(List GField)} {f1:(GField→Option Bool)} {ff1:FuncId} {af1 kf1:List AV} {res:Int} {h:AH} (hf1:∀ x0 v (L:List Blk) (M:List Nat),f1 x0=some v→Spec Tryz.prog ff1 (af1++[.agg (GField.row x0)]++kf1) (h.ext L M) (yb (.bool v) (h.ext L M))) (hF:yy s0 f1=some res):Spec Tryz.prog 35 [.sl 5 (s0.map GField.row),.fn (.func ff1) af1 kf1] h (yb (.int .i64 res) h):=by
 unfold yy at hF;refine zF Tryz.func35 rfl (by kernel_rfl) (yk 19 rfl) (fun hlow hC=>?_);simp only [zu,AV.low,Bool.and_eq_true,Bool.true_and,and_true] at hlow;have hlaf1:∀ n m,h.blks.length≤n→h.toks.length≤m→zu n m af1=true:=fun n m h1 h2=>zS h1 h2 _ (by simp [hlow]);have hlkf1:∀ n m,h.blks.length≤n→h.toks.length≤m→zu n m kf1=true:=fun n m h1 h2=>zS h1 h2 _ (by simp [hlow]);refine R.r ?_;refine ln fun hn1=>?_;replace hn1:=zY hn1;refine R.r ?_;refine zA (fun (n1:Nat) (s1:Unit)=>zG [2,3,4,5,6,9,10,11,12,13,14,15,16,17,18] [(8,.int .i64 (n1:Int))]) (fun s1=>h.ext [] []) hF (fun _ _=>by simp only [zG,wD,List.set_cons_succ,List.set_cons_zero];try rfl) (wk.le LEL.o) ?_;intro n1 s1 hi1 hF;refine R.r ?_;refine zJ gt9 hF (fun x1 o1 hl1 hx1 hF hK1=>?_) (fun hF=>?_)
 ·refine R.r ?_;refine ix (zz hx1) (R.r ?_);refine ze hF (fun v7 hv7 hF=>?_);refine yD rfl (scC rfl) (hf1 _ _ _ _ hv7) st16 (R.r ?_);refine zd vr hF (fun hc8 hF=>?_) (fun hc8 hF=>?_)
  ·refine R.r ?_;cases hF;replace hF:=hK1;refine R.r ?_;cases hF;exact fz rfl rfl
  ·refine R.r ?_;cases hF;exact ⟨(),hl1,hK1,wk.le (by exact (.eq (.eq (.d4 (.drop (.eq (.cons (leV.of_eq (y4 (by omega) (by omega))) (.d4 (.d4 (.drop (.drop leL.nil)))))))))))⟩
 ·refine R.r ?_;cases hF;exact fz rfl rfl
theorem ok15 {s0:(List GField)} {f1:(GField→Option Bool)} {ff1:FuncId} {af1 kf1:List AV} {res:Bool} {h:AH} (hf1:∀ x0 v (L:List Blk) (M:List Nat),f1 x0=some v→Spec Tryz.prog ff1 (af1++[.agg (GField.row x0)]++kf1) (h.ext L M) (yb (.bool v) (h.ext L M))) (hF:yP s0 f1=some res):Spec Tryz.prog 15 [.sl 5 (s0.map GField.row),.fn (.func ff1) af1 kf1] h (yb (.bool res) h):=by
 unfold yP at hF;refine zF Tryz.func15 rfl (by kernel_rfl) (yk 9 rfl) (fun hlow hC=>?_);simp only [zu,AV.low,Bool.and_eq_true,Bool.true_and,and_true] at hlow;have hlaf1:∀ n m,h.blks.length≤n→h.toks.length≤m→zu n m af1=true:=fun n m h1 h2=>zS h1 h2 _ (by simp [hlow]);have hlkf1:∀ n m,h.blks.length≤n→h.toks.length≤m→zu n m kf1=true:=fun n m h1 h2=>zS h1 h2 _ (by simp [hlow]);refine R.r ?_;refine ze hF (fun v1 hv1 hF=>?_);refine cp (ok35 (fun x0 v L M hv=>by rw [yT];exact hf1 x0 v _ _ hv) hv1) (R.r ?_);cases hF;exact fz rfl rfl
theorem ok5 {l0:(List GField)} {res:Bool} {h:AH}  (hF:vS l0=some res):Spec Tryz.prog 5 [.sl 5 (l0.map GField.row)] h (yb (.bool res) h):=by
 unfold vS at hF;refine za Tryz.func5 rfl (by kernel_rfl) (yk 11 rfl) (R.r ?_);refine ln fun hn1=>?_;replace hn1:=zY hn1;refine R.r ?_;refine zM hF (fun v2 hv2 hF=>?_);refine zw rfl sc (fun hb=>ok15 (fun _ v L M hv=>ok16  hv) (hv2 hb)) st8 (R.r ?_);cases hF;exact fz rfl rfl
theorem ok37 {s0:zk} {res:Bool} {h:AH}  (hF:vV s0=some res):Spec Tryz.prog 37 [.str s0] h (yb (.bool res) h):=by
 unfold vV at hF;refine za Tryz.func37 rfl (by kernel_rfl) (yk 45 rfl) (R.r ?_);refine ln fun hn1=>?_;replace hn1:=zY hn1;refine R.r ?_;refine lng fun hn2=>?_;refine R.r ?_;refine zd qe hF (fun hc3 hF=>?_) (fun hc3 hF=>?_)
 ·refine R.r ?_;cases hF;exact fz rfl rfl
 ·refine R.r ?_;refine zA (fun (n1:Nat) (s1:Unit)=>zG [1,2,4,5,6,7,8,9,10,11,12,13,14,15,16,17,18,19,20,21,22,23,24,25,26,27,28,29,30,31,32,33,34,35,36,37,38,39,40,41,42,43,44] [(3,.int .i64 (n1:Int))]) (fun s1=>h.ext [] []) hF (fun _ _=>by simp only [zG,wD,List.set_cons_succ,List.set_cons_zero];try rfl) (wk.le LEL.o) ?_;intro n1 s1 hi1 hF;refine R.r ?_;refine ln fun hn10=>?_;replace hn10:=zY hn10;refine R.r ?_;refine zJ vr hF (fun x1 o1 hl1 hx1 hF hK1=>?_) (fun hF=>?_)
  ·refine R.r ?_;refine zc rfl (s_idxStr rfl ty9 wW gt20 (zz hx1)) st21 (R.r ?_);refine zd (gk gt4) hF (fun hc11 hF=>?_) (fun hc11 hF=>?_)
   ·refine R.r ?_;cases hF;replace hF:=hK1;refine R.r ?_;cases hF;exact fz rfl rfl
   ·refine R.r ?_;cases hF;exact ⟨(),hl1,hK1,wk.le (by exact (.eq (.drop (.drop (.cons (leV.of_eq (y4 (by omega) (by omega))) (.d16 (.d16 (.d4 (.d4 (.drop leL.nil))))))))))⟩
  ·refine R.r ?_;cases hF;exact fz rfl rfl
theorem ok76 {a0:GDot} {b1:GDot} {res:Bool} {h:AH}  (hF:vd a0 b1=some res):Spec Tryz.prog 76 [.agg (GDot.row a0),.agg (GDot.row b1)] h (yb (.bool res) h):=by
 unfold vd at hF;refine za Tryz.func76 rfl (by kernel_rfl) (yk 38 rfl) (R.r ?_);refine zd vh hF (fun hc1 hF=>?_) (fun hc1 hF=>?_)
 ·refine R.r ?_;cases hF;exact fz rfl rfl
 ·refine R.r ?_;refine zd gt25 hF (fun hc2 hF=>?_) (fun hc2 hF=>?_)
  ·refine R.r ?_;cases hF;exact fz rfl rfl
  ·refine R.r ?_;cases hF;exact fz rfl rfl
theorem ok66 {time0:Int} {d1:GDot} {other2:Int} {o3:GDot} {res:Bool} {h:AH}  (hF:wN time0 d1 other2 o3=some res):Spec Tryz.prog 66 [.int .u64 time0,.agg (GDot.row d1),.int .u64 other2,.agg (GDot.row o3)] h (yb (.bool res) h):=by
 unfold wN at hF;refine za Tryz.func66 rfl (by kernel_rfl) (yk 18 rfl) (R.r ?_);refine zd vh hF (fun hc1 hF=>?_) (fun hc1 hF=>?_)
 ·refine R.r ?_;cases hF;exact fz rfl rfl
 ·refine R.r ?_;refine ze hF (fun v2 hv2 hF=>?_);refine cp (ok76 hv2) (R.r ?_);cases hF;exact fz rfl rfl
theorem ok67 {l0:(List GDot)} {d1:GDot} {res:Bool} {h:AH}  (hF:va l0 d1=some res):Spec Tryz.prog 67 [.sl 3 (l0.map GDot.row),.agg (GDot.row d1)] h (yb (.bool res) h):=by
 unfold va at hF;refine za Tryz.func67 rfl (by kernel_rfl) (yk 18 rfl) (R.r ?_);refine zA (fun (n1:Nat) (s1:Unit)=>zG [1,2,4,6,7,8,9,10,11,12,13,14,15,16,17] [(5,.int .i64 (n1:Int))]) (fun s1=>h.ext [.cells (GDot.row d1)] []) hF (fun _ _=>by simp only [zG,wD,List.set_cons_succ,List.set_cons_zero];try rfl) (wk.le LEL.o) ?_;intro n1 s1 hi1 hF;refine R.r ?_;refine ln fun hn10=>?_;replace hn10:=zY hn10;refine R.r ?_;refine zJ gt9 hF (fun x1 o1 hl1 hx1 hF hK1=>?_) (fun hF=>?_)
 ·refine R.r ?_;refine zt [] [] trivial mixed (by kernel_rfl) (R.r ?_);refine dix (zz hx1) (R.r ?_);refine zx rfl rfl (vT rfl gt15 vr (bin_eq pk30 rfl)) st17 (R.r ?_);refine zd gt17 hF (fun hc11 hF=>?_) (fun hc11 hF=>?_)
  ·refine R.r ?_;cases hF;replace hF:=hK1;refine R.r ?_;cases hF;exact fz rfl rfl
  ·refine R.r ?_;cases hF;exact ⟨(),hl1,hK1,wk.le (by exact (.eq (.drop (.drop (.eq (.drop (.cons (leV.of_eq (y4 (by omega) (by omega))) (.d4 (.d4 (.d4 leL.nil))))))))))⟩
 ·refine R.r ?_;cases hF;exact fz rfl rfl
theorem ok75 {l0:(List GItem)} {d1:GDot} {res:Int} {h:AH}  (hF:ref05Item l0 d1=some res):Spec Tryz.prog 75 [.sl 5 (l0.map GItem.row),.agg (GDot.row d1)] h (yb (.int .i64 res) h):=by
 unfold ref05Item at hF;refine za Tryz.func75 rfl (by kernel_rfl) (yk 20 rfl) (R.r ?_);refine zA (fun (n1:Nat) (s1:Unit)=>zG [1,2,4,6,7,8,9,10,11,12,13,14,15,16,17,18,19] [(5,.int .i64 (n1:Int))]) (fun s1=>h.ext [.cells (GDot.row d1)] []) hF (fun _ _=>by simp only [zG,wD,List.set_cons_succ,List.set_cons_zero];try rfl) (wk.le LEL.o) ?_;intro n1 s1 hi1 hF;refine R.r ?_;refine ln fun hn10=>?_;replace hn10:=zY hn10;refine R.r ?_;refine zJ gt9 hF (fun x1 o1 hl1 hx1 hF hK1=>?_) (fun hF=>?_)
 ·refine R.r ?_;refine zt [] [] trivial mixed (by kernel_rfl) (R.r ?_);refine dix (zz hx1) (R.r ?_);refine zx rfl rfl (vT rfl vr gt17 (bin_eq pk30 rfl)) st18 (R.r ?_);refine zd gt18 hF (fun hc11 hF=>?_) (fun hc11 hF=>?_)
  ·refine R.r ?_;cases hF;replace hF:=hK1;refine R.r ?_;cases hF;exact fz rfl rfl
  ·refine R.r ?_;cases hF;exact ⟨(),hl1,hK1,wk.le (by exact (.eq (.drop (.drop (.eq (.drop (.cons (leV.of_eq (y4 (by omega) (by omega))) (.d4 (.d4 (.d4 (.drop (.drop leL.nil))))))))))))⟩
 ·refine R.r ?_;cases hF;exact fz rfl rfl
theorem ok120 {a0:GActor} {res:Bool} {h:AH}  (hF:vl a0=some res):Spec Tryz.prog 120 [.agg (GActor.row a0)] h (yb (.bool res) h):=by
 unfold vl at hF;refine za Tryz.func120 rfl (by kernel_rfl) (yk 16 rfl) (R.r ?_);cases hF;exact fz rfl rfl
theorem ok62 {d0:GDot} {res:Bool} {h:AH}  (hF:ql d0=some res):Spec Tryz.prog 62 [.agg (GDot.row d0)] h (yb (.bool res) h):=by
 unfold ql at hF;refine za Tryz.func62 rfl (by kernel_rfl) (yk 16 rfl) (R.r ?_);refine ze hF (fun v1 hv1 hF=>?_);refine cp (ok120 hv1) (R.r ?_);cases hF;exact fz rfl rfl
theorem ok38 {l0:GLeaf} {res:Bool} {h:AH}  (hF:ref05May l0=some res):Spec Tryz.prog 38 [.agg (GLeaf.row l0)] h (yb (.bool res) h):=by
 unfold ref05May at hF;refine za Tryz.func38 rfl (by kernel_rfl) (yk 205 rfl) (R.r ?_);refine lng fun hn1=>?_;refine R.r ?_;refine lng fun hn2=>?_;refine R.r ?_;refine zd (gk gt6) hF (fun hc3 hF=>?_) (fun hc3 hF=>?_)
 ·refine R.r ?_;cases hF;exact fz rfl rfl
 ·refine R.r ?_;refine zc rfl (zR (cs':=[.int .u8 (0:Int),.int .u32 (0:Int),.int .u64 (0:Int)]) rfl su30 ze30 pl30 zg .nil rfl rfl) (sk st7) ?_;refine zc rfl (e_alloc (n:=1) rfl ze30 rfl) st3 ?_;refine zc rfl (zT (cs':=[.int .u8 (0:Int),.int .u32 (0:Int),.int .u64 (0:Int)]) rfl ty30.choose_spec.1 gt3 (gk gt7) (zb rfl) rfl rfl rfl rfl rfl) rfl ?_;refine ops_nil (q_seq ?_);refine r_join (fun (s1:Unit)=>zG [0,2,3,4,5,6,7,8,9,10,11,12,13,14,15,16,17,18,19,20,21,22,23,24,25,26,27,28,29,30,31,32,33,34,35,36,37,38,39,40,41,42,43,44,45,46,47,48,49,50,51,52,53,54,55,56,57,58,59,60,61,62,63,64,65,66,67,68,69,70,71,72,73,74,75,76,77,78,79,80,81,82,83,84,85,86,87,88,89,90,91,92,93,94,95,96,97,98,99,100,101,102,103,104,105,106,107,108,109,110,111,112,113,114,115,116,117,118,119,120,121,122,123,124,125,126,127,128,129,130,131,132,133,134,135,136,137,138,139,140,141,142,143,144,145,146,147,148,149,150,151,152,153,154,155,156,157,158,159,160,161,162,163,164,165,166,167,168,169,170,171,172,173,174,175,176,177,178,179,180,181,182,183,184,185,186,187,188,189,190,191,192,193,194,195,196,197,198,199,200,201,202,203,204] []) (fun s1=>h.ext [.cells (GLeaf.row l0),.cells [.int .u8 (0:Int),.int .u32 (0:Int),.int .u64 (0:Int)]] []) hF (fun _=>by simp only [zG,wD,List.set_cons_succ,List.set_cons_zero];try rfl) (fun o1 hF hK1=>?_) (fun s1 hF=>?_)
  ·refine R.r ?_;refine zd (gk gt15) hF (fun hc9 hF=>?_) (fun hc9 hF=>?_)
   ·refine R.r ?_;refine qN rfl (fun hb=>vT rfl (yh (gk gt21) hb) (yh (gk gt22) hb) (bin_ne pk30 rfl)) (sk st23) (R.r ?_);refine zd (gk gt29) hF (fun hc10 hF=>?_) (fun hc10 hF=>?_)
    ·refine R.r ?_;refine q_join_ret ?_;cases hF;replace hF:=hK1;cases hF;exact fz rfl rfl
    ·refine R.r ?_;refine q_join ?_;cases hF;exact ⟨(),hK1,wk.le LEL.o⟩
   ·refine R.r ?_;refine zM hF (fun v11 hv11 hF=>?_);refine zw rfl sc (fun hb=>ok62 (hv11 hb)) (sk st36) (R.r ?_);refine lng fun hn12=>?_;refine R.r ?_;refine zd (gk (gk gt4)) hF (fun hc13 hF=>?_) (fun hc13 hF=>?_)
    ·refine R.r ?_;refine q_join_ret ?_;cases hF;replace hF:=hK1;cases hF;exact fz rfl rfl
    ·refine R.r ?_;refine q_join ?_;cases hF;exact ⟨(),hK1,wk.le LEL.o⟩
  ·refine R.r ?_;refine zA (fun (n2:Nat) (s2:Unit)=>zG [0,2,3,5,6,7,8,9,10,11,12,13,14,15,16,17,18,19,20,21,22,23,24,25,26,27,28,29,30,31,32,33,34,35,36,37,38,39,40,41,42,43,44,45,46,47,48,49,50,51,52,53,54,55,56,57,58,59,60,61,62,63,64,65,66,67,68,69,70,71,72,73,74,75,76,77,78,79,80,81,82,83,84,85,86,87,88,89,90,91,92,93,94,95,96,97,98,99,100,101,102,103,104,105,106,107,108,109,110,111,112,113,114,115,116,117,118,119,120,121,122,123,124,125,126,127,128,129,130,131,132,133,134,135,136,137,138,139,140,141,142,143,144,145,146,147,148,149,150,151,152,153,154,155,156,157,158,159,160,161,162,163,164,165,166,167,168,169,170,171,172,173,174,175,176,177,178,179,180,181,182,183,184,185,186,187,188,189,190,191,192,193,194,195,196,197,198,199,200,201,202,203,204] [(4,.int .i64 (n2:Int))]) (fun s2=>h.ext [.cells (GLeaf.row l0),.cells [.int .u8 (0:Int),.int .u32 (0:Int),.int .u64 (0:Int)]] []) hF (fun _ _=>by simp only [zG,wD,List.set_cons_succ,List.set_cons_zero];try rfl) (wk.le LEL.o) ?_;intro n2 s2 hi2 hF;refine R.r ?_;refine ln fun hn40=>?_;replace hn40:=zY hn40;refine R.r ?_;refine zJ (gk (gk gt9)) hF (fun x2 o2 hl2 hx2 hF hK2=>?_) (fun hF=>?_)
   ·refine R.r ?_;refine ix (zz hx2) (R.r ?_);refine ze hF (fun v41 hv41 hF=>?_);refine cp (ok62 hv41) (R.r ?_);refine lng fun hn42=>?_;refine R.r ?_;refine zM hF (fun v43 hv43 hF=>?_);refine zw rfl sc (fun hb=>ok75 (hv43 hb)) (sk (sk (sk st17))) (R.r ?_);refine zM hF (fun v44 hv44 hF=>?_);refine zw rfl sc (fun hb=>ok67 (hv44 hb)) (sk (sk (sk st26))) (R.r ?_);refine zd (gk (gk (gk gt27))) hF (fun hc45 hF=>?_) (fun hc45 hF=>?_)
    ·refine R.r ?_;cases hF;replace hF:=hK2;refine R.r ?_;cases hF;exact fz rfl rfl
    ·refine R.r ?_;refine zt [] [] trivial mixed (by kernel_rfl) (R.r ?_);refine yd hF (fun hg46 hF=>?_);refine dgix hg46 (R.r ?_);refine yd hF (fun hg47 hF=>?_);refine dgix hg47 (R.r ?_);refine zM hF (fun v48 hv48 hF=>?_);refine yI rfl rfl sc (fun hb=>ok66 (hv48 hb)) (sk (sk (sk (sk st9)))) (R.r ?_);refine zd (gk (gk (gk (gk vh)))) hF (fun hc49 hF=>?_) (fun hc49 hF=>?_)
     ·refine R.r ?_;cases hF;replace hF:=hK2;refine R.r ?_;cases hF;exact fz rfl rfl
     ·refine R.r ?_;cases hF;exact ⟨(),hl2,hK2,wk.trans (wk.le (by exact (.drop (.eq (.drop (.drop (.cons (leV.of_eq (y4 (by omega) (by omega))) (.d16 (.d16 (.d16 (.d16 (.d16 (.d16 (.d16 (.d16 (.d16 (.d16 (.d16 (.d16 (.d4 (.d4 leL.nil))))))))))))))))))))) (yj (by simp [zu,AV.low]) rfl rfl (by simp [Blk.low,zu,AV.low]))⟩
   ·refine R.r ?_;refine zA (fun (n3:Nat) (s3:Unit)=>zG [0,2,3,4,5,7,8,9,10,11,12,13,14,15,16,17,18,19,20,21,22,23,24,25,26,27,28,29,30,31,32,33,34,35,36,37,38,39,40,41,42,43,44,45,46,47,48,49,50,51,52,53,54,55,56,57,58,59,60,61,62,63,64,65,66,67,68,69,70,71,72,73,74,75,76,77,78,79,80,81,82,83,84,85,86,87,88,89,90,91,92,93,94,95,96,97,98,99,100,101,102,103,104,105,106,107,108,109,110,111,112,113,114,115,116,117,118,119,120,121,122,123,124,125,126,127,128,129,130,131,132,133,134,135,136,137,138,139,140,141,142,143,144,145,146,147,148,149,150,151,152,153,154,155,156,157,158,159,160,161,162,163,164,165,166,167,168,169,170,171,172,173,174,175,176,177,178,179,180,181,182,183,184,185,186,187,188,189,190,191,192,193,194,195,196,197,198,199,200,201,202,203,204] [(6,.int .i64 (n3:Int))]) (fun s3=>h.ext [.cells (GLeaf.row l0),.cells [.int .u8 (0:Int),.int .u32 (0:Int),.int .u64 (0:Int)]] []) hF (fun _ _=>by simp only [zG,wD,List.set_cons_succ,List.set_cons_zero];try rfl) (wk.le LEL.o) ?_;intro n3 s3 hi3 hF;refine R.r ?_;refine ln fun hn72=>?_;replace hn72:=zY hn72;refine R.r ?_;refine zJ (gk (gk (gk (gk vr)))) hF (fun x3 o3 hl3 hx3 hF hK3=>?_) (fun hF=>?_)
    ·refine R.r ?_;refine zt [5] [] trivial mixed (by kernel_rfl) (R.r ?_);refine dix (zz hx3) (R.r ?_);refine ze hF (fun v73 hv73 hF=>?_);refine zy rfl rfl (fun _=>sc rfl) (by rintro _ ⟨B2,T2,rfl,hk2⟩;exact ok62 hv73) (sk (sk (sk (sk st24)))) (R.r ?_);refine yd hF (fun hg74 hF=>?_);refine dgix hg74 (R.r ?_);refine yd hF (fun hg75 hF=>?_);refine dgix hg75 (R.r ?_);refine zM hF (fun v76 hv76 hF=>?_);refine yI rfl (aG_gv rfl rfl rfl) sc (fun hb=>ok76 (hv76 hb)) (sk (sk (sk (sk (sk st1))))) (R.r ?_);refine zd (gk (gk (gk (gk (gk gt4))))) hF (fun hc77 hF=>?_) (fun hc77 hF=>?_)
     ·refine R.r ?_;cases hF;replace hF:=hK3;refine R.r ?_;cases hF;exact fz rfl rfl
     ·refine R.r ?_;cases hF;exact ⟨(),hl3,hK3,wk.le (by exact (.drop (.eq (.d4 (.cons (leV.of_eq (y4 (by omega) (by omega))) (.d16 (.d16 (.d16 (.d16 (.d16 (.d16 (.d16 (.d16 (.d16 (.d16 (.d16 (.d16 (.d4 (.drop (.drop leL.nil))))))))))))))))))))⟩
    ·refine R.r ?_;cases hF;exact fz rfl rfl
theorem ok18N (n:Nat):∀ {t0:(List GNode)} {deep1:Int} {res:Bool} {h:AH} , wM n t0 deep1=some res→Spec Tryz.prog 18 [.sl 3 (t0.map GNode.row),.int .i64 deep1] h (yb (.bool res) h):=by
 induction n with
 | zero=>intro t0 deep1 res h  hF;simp [wM] at hF
 | succ n ih =>
  intro t0 deep1 res h  hF;unfold wM at hF;refine za Tryz.func18 rfl (by kernel_rfl) (yk 95 rfl) (R.r ?_);refine zA (fun (n1:Nat) (s1:Unit)=>zG [2,3,4,6,7,8,9,10,11,12,13,14,15,16,17,18,19,20,21,22,23,24,25,26,27,28,29,30,31,32,33,34,35,36,37,38,39,40,41,42,43,44,45,46,47,48,49,50,51,52,53,54,55,56,57,58,59,60,61,62,63,64,65,66,67,68,69,70,71,72,73,74,75,76,77,78,79,80,81,82,83,84,85,86,87,88,89,90,91,92,93,94] [(5,.int .i64 (n1:Int))]) (fun s1=>h.ext [] []) hF (fun _ _=>by simp only [zG,wD,List.set_cons_succ,List.set_cons_zero];try rfl) (wk.le LEL.o) ?_;intro n1 s1 hi1 hF;refine R.r ?_;refine ln fun hn30=>?_;replace hn30:=zY hn30;refine R.r ?_;refine zJ vh hF (fun x1 o1 hl1 hx1 hF hK1=>?_) (fun hF=>?_)
  ·refine R.r ?_;refine zc rfl (yi rfl el24 gt14 gt15 isl (zz hx1) (GNode.row_eq _)) st16 (R.r ?_);refine zt [] [] trivial mixed (by kernel_rfl) (R.r ?_);refine zM hF (fun v31 hv31 hF=>?_);refine yI rfl rfl sc (fun hb=>ok37 (hv31 hb)) st23 (R.r ?_);refine yd hF (fun hg32 hF=>?_);refine qy rfl (aG_gv rfl rfl rfl) (fun hb=>wo default rfl el24 (yh gt30 hb) (yh gt32 hb) isl (hg32 hb) (GNode.row_eq _)) st33 (R.r ?_);refine qU rfl rfl (fun hb=>wG rfl rfl rfl rfl el59 (yh (gk gt3) hb) qt) (sk st4) (R.r ?_);refine qU rfl (aG_gv rfl rfl rfl) (fun hb=>wG rfl rfl rfl rfl el24 (yh (gk gt8) hb) qt) (sk st9) (R.r ?_);refine zM hF (fun v35 hv35 hF=>?_);refine yI rfl rfl sc (fun hb=>ih (hv35 hb)) (sk st18) (R.r ?_);refine zd (gk gt20) hF (fun hc36 hF=>?_) (fun hc36 hF=>?_)
   ·refine R.r ?_;cases hF;replace hF:=hK1;refine R.r ?_;cases hF;exact fz rfl rfl
   ·refine R.r ?_;refine zA (fun (n2:Nat) (s2:Unit)=>zG [2,3,4,8,9,10,11,12,13,14,15,16,17,18,19,20,21,22,23,24,25,26,27,28,29,30,31,32,33,34,35,36,37,38,39,40,41,42,43,44,45,46,47,48,49,50,51,52,53,54,55,56,57,58,59,60,61,62,63,64,65,66,67,68,69,70,71,72,73,74,75,76,77,78,79,80,81,82,83,84,85,86,87,88,89,90,91,92,93,94] [(7,.int .i64 (n2:Int))]) (fun s2=>h.ext [.cells [.str x1.name,.sl 9 (x1.leaves.map GLeaf.row),.sl 3 (x1.subs.map GNode.row)]] []) hF (fun _ _=>by simp only [zG,wD,List.set_cons_succ,List.set_cons_zero];try rfl) (wk.le LEL.o) ?_;intro n2 s2 hi2 hF;refine R.r ?_;refine ln fun hn49=>?_;replace hn49:=zY hn49;refine R.r ?_;refine zJ (gk gt25) hF (fun x2 o2 hl2 hx2 hF hK2=>?_) (fun hF=>?_)
    ·refine R.r ?_;refine zt [5] [] trivial mixed (by kernel_rfl) (R.r ?_);refine dix (zz hx2) (R.r ?_);refine ze hF (fun v50 hv50 hF=>?_);refine zy rfl rfl (fun _=>sc rfl) (by rintro _ ⟨B2,T2,rfl,hk2⟩;exact ok38 hv50) (sk st33) (R.r ?_);refine yd hF (fun hg51 hF=>?_);refine dgix hg51 (R.r ?_);refine yd hF (fun hg52 hF=>?_);refine dgix hg52 (R.r ?_);refine zd (gk (gk gt14)) hF (fun hc53 hF=>?_) (fun hc53 hF=>?_)
     ·refine R.r ?_;cases hF;replace hF:=hK2;refine R.r ?_;cases hF;replace hF:=hK1;refine R.r ?_;cases hF;exact fz rfl rfl
     ·refine R.r ?_;cases hF;exact ⟨(),hl2,hK2,wk.le (by exact (.eq (.eq (.drop (.drop (.drop (.eq (.eq (.cons (leV.of_eq (y4 (by omega) (by omega))) (.d16 (.d16 (.d16 (.d16 (.d16 (.d4 (.drop (.drop (.drop leL.nil))))))))))))))))))⟩
    ·refine R.r ?_;cases hF;exact ⟨(),hl1,hK1,wk.trans (wk.le (by exact (.eq (.eq (.drop (.drop (.drop (.cons (leV.of_eq (y4 (by omega) (by omega))) (.d16 (.d16 (.d16 (.d16 (.d16 (.d4 (.d4 (.drop leL.nil)))))))))))))))) (yj (by simp [zu,AV.low]) rfl rfl (by simp [Blk.low,zu,AV.low]))⟩
  ·refine R.r ?_;cases hF;exact fz rfl rfl
theorem ok18 {t0:(List GNode)} {deep1:Int} {res:Bool} {h:AH}  (hF:ref07Xmay t0 deep1=some res):Spec Tryz.prog 18 [.sl 3 (t0.map GNode.row),.int .i64 deep1] h (yb (.bool res) h):=by
 obtain ⟨n,hn⟩:=anyN_is hF;exact ok18N n hn
theorem ok6 {t0:(List GNode)} {res:Bool} {h:AH}  (hF:ref07May t0=some res):Spec Tryz.prog 6 [.sl 3 (t0.map GNode.row)] h (yb (.bool res) h):=by
 unfold ref07May at hF;refine za Tryz.func6 rfl (by kernel_rfl) (yk 5 rfl) (R.r ?_);refine ze hF (fun v1 hv1 hF=>?_);refine cp (ok18 hv1) (R.r ?_);cases hF;exact fz rfl rfl
theorem ok102 {a0:GActor} {res:Bool} {h:AH}  (hF:dotMayActor a0=some res):Spec Tryz.prog 102 [.agg (GActor.row a0)] h (yb (.bool res) h):=by
 unfold dotMayActor at hF;refine za Tryz.func102 rfl (by kernel_rfl) (yk 16 rfl) (R.r ?_);cases hF;exact fz rfl rfl
theorem ok50 {d0:GDot} {res:Bool} {h:AH}  (hF:dotMay d0=some res):Spec Tryz.prog 50 [.agg (GDot.row d0)] h (yb (.bool res) h):=by
 unfold dotMay at hF;refine za Tryz.func50 rfl (by kernel_rfl) (yk 16 rfl) (R.r ?_);refine ze hF (fun v1 hv1 hF=>?_);refine cp (ok102 hv1) (R.r ?_);cases hF;exact fz rfl rfl
theorem ok203 {x0:Int} {res:Bool} {h:AH}  (hF:wB x0=some res):Spec Tryz.prog 203 [.int .u32 x0] h (yb (.bool res) h):=by
 unfold wB at hF;refine za Tryz.func203 rfl (by kernel_rfl) (yk 6 rfl) (R.r ?_);cases hF;exact fz rfl rfl
theorem ok194 {x0:Int} {y1:Int} {res:Int} {h:AH}  (hF:wi x0 y1=some res):Spec Tryz.prog 194 [.int .u32 x0,.int .u32 y1] h (yb (.int .i64 res) h):=by
 unfold wi at hF;refine za Tryz.func194 rfl (by kernel_rfl) (yk 20 rfl) (R.r ?_);refine ze hF (fun v1 hv1 hF=>?_);refine cp (ok203 hv1) (R.r ?_);refine ze hF (fun v2 hv2 hF=>?_);refine cp (ok203 hv2) (R.r ?_);refine zd vh hF (fun hc3 hF=>?_) (fun hc3 hF=>?_)
 ·refine R.r ?_;refine zd qe hF (fun hc4 hF=>?_) (fun hc4 hF=>?_)
  ·refine R.r ?_;cases hF;exact fz rfl rfl
  ·refine R.r ?_;cases hF;exact fz rfl rfl
 ·refine R.r ?_;refine zd vt hF (fun hc5 hF=>?_) (fun hc5 hF=>?_)
  ·refine R.r ?_;cases hF;exact fz rfl rfl
  ·refine R.r ?_;refine zd vr hF (fun hc6 hF=>?_) (fun hc6 hF=>?_)
   ·refine R.r ?_;cases hF;exact fz rfl rfl
   ·refine R.r ?_;refine zd wW hF (fun hc7 hF=>?_) (fun hc7 hF=>?_)
    ·refine R.r ?_;cases hF;exact fz rfl rfl
    ·refine R.r ?_;cases hF;exact fz rfl rfl
theorem ok135 {x0:Int} {res:Bool} {h:AH}  (hF:wX x0=some res):Spec Tryz.prog 135 [.int .u8 x0] h (yb (.bool res) h):=by
 unfold wX at hF;refine za Tryz.func135 rfl (by kernel_rfl) (yk 6 rfl) (R.r ?_);cases hF;exact fz rfl rfl
theorem ok100 {x0:Int} {y1:Int} {res:Int} {h:AH}  (hF:yV x0 y1=some res):Spec Tryz.prog 100 [.int .u8 x0,.int .u8 y1] h (yb (.int .i64 res) h):=by
 unfold yV at hF;refine za Tryz.func100 rfl (by kernel_rfl) (yk 20 rfl) (R.r ?_);refine ze hF (fun v1 hv1 hF=>?_);refine cp (ok135 hv1) (R.r ?_);refine ze hF (fun v2 hv2 hF=>?_);refine cp (ok135 hv2) (R.r ?_);refine zd vh hF (fun hc3 hF=>?_) (fun hc3 hF=>?_)
 ·refine R.r ?_;refine zd qe hF (fun hc4 hF=>?_) (fun hc4 hF=>?_)
  ·refine R.r ?_;cases hF;exact fz rfl rfl
  ·refine R.r ?_;cases hF;exact fz rfl rfl
 ·refine R.r ?_;refine zd vt hF (fun hc5 hF=>?_) (fun hc5 hF=>?_)
  ·refine R.r ?_;cases hF;exact fz rfl rfl
  ·refine R.r ?_;refine zd vr hF (fun hc6 hF=>?_) (fun hc6 hF=>?_)
   ·refine R.r ?_;cases hF;exact fz rfl rfl
   ·refine R.r ?_;refine zd wW hF (fun hc7 hF=>?_) (fun hc7 hF=>?_)
    ·refine R.r ?_;cases hF;exact fz rfl rfl
    ·refine R.r ?_;cases hF;exact fz rfl rfl
theorem ok130 {vals0:(List Int)} {res:Int} {h:AH}  (hF:cmpOrInt vals0=some res):Spec Tryz.prog 130 [.sl 1 (vals0.map (intRow .i64))] h (yb (.int .i64 res) h):=by
 unfold cmpOrInt at hF;refine za Tryz.func130 rfl (by kernel_rfl) (yk 18 rfl) (R.r ?_);refine ln fun hn1=>?_;replace hn1:=zY hn1;refine R.r ?_;refine zA (fun (n1:Nat) (s1:Unit)=>zG [0,1,2,4,5,9,10,11,12,13,14,15,16,17] [(8,.int .i64 (n1:Int))]) (fun s1=>h.ext [] []) hF (fun _ _=>by simp only [zG,wD,List.set_cons_succ,List.set_cons_zero];try rfl) (wk.le LEL.o) ?_;intro n1 s1 hi1 hF;refine R.r ?_;refine zJ gt9 hF (fun x1 o1 hl1 hx1 hF hK1=>?_) (fun hF=>?_)
 ·refine R.r ?_;refine ix (zz hx1) (R.r ?_);refine zd gt14 hF (fun hc6 hF=>?_) (fun hc6 hF=>?_)
  ·refine R.r ?_;cases hF;replace hF:=hK1;refine R.r ?_;cases hF;exact fz rfl rfl
  ·refine R.r ?_;cases hF;exact ⟨(),hl1,hK1,wk.le (by exact (.drop (.drop (.drop (.eq (.drop (.drop (.eq (.eq (.cons (leV.of_eq (y4 (by omega) (by omega))) (.d4 (.d4 (.drop leL.nil)))))))))))))⟩
 ·refine R.r ?_;cases hF;exact fz rfl rfl
end Go.Vv
