/- Each function that the law reaches computes what its reading says; printed by a program. -/
import Derived.Test.YtmpfjlkfmckohaaGreatVvSh
import Derived.Test.YtmpfjlkfmckohaaGreatVvMl
import Derived.Test.YtmpfjlkfmckohaaGreatVvRb
import Derived.Test.YtmpfjlkfmckohaaGreatVvSo
import Derived.Test.YtmpfjlkfmckohaaGreatVvIn
import Derived.Test.YtmpfjlkfmckohaaGreatVvU
import Derived.Test.YtmpfjlkfmckohaaGreatD
import Derived.Test.YtmpfjlkfmckohaaGreatProg
set_option linter.all false
namespace Go.Vv
open Go Go.Proofs
set_option maxRecDepth 100000
set_option synthInstance.maxSize 100000
set_option synthInstance.maxHeartbeats 1000000
set_option maxHeartbeats 1000000
variable {h:AH} {f1:(Int->Option Bool)} {ff1:FuncId} {af1 kf1:List AV} {res:Bool} {x0 y1:Int}
section
variable {v a0 a1 a2 a3 a4 a5 a6 a7 a8 a9 a10 a11 a12 a13 a14 a15 a16 a17 a18 a19 a20 a21 a22 a23 a24 a25 a26 a27 a28 a29 a30 a31 a32 a33 a34 a35 a36 a37 a38 a39:AV} {r q:List AV} {t:Nat}
abbrev Sp:=Spec Tryz.prog
theorem y8:yh (a0::r) (.tmp 0)=some a0:=rfl
theorem st0:xG (some 0) (a0::r) v=some (v::r):=rfl
theorem gt1:yh (a0::a1::r) (.tmp 1)=some a1:=rfl
theorem st1:xG (some 1) (a0::a1::r) v=some (a0::v::r):=rfl
theorem gt2:yh (a0::a1::a2::r) (.tmp 2)=some a2:=rfl
theorem st2:xG (some 2) (a0::a1::a2::r) v=some (a0::a1::v::r):=rfl
theorem gt3:yh (a0::a1::a2::a3::r) (.tmp 3)=some a3:=rfl
theorem st3:xG (some 3) (a0::a1::a2::a3::r) v=some (a0::a1::a2::v::r):=rfl
theorem vG:yh (a0::a1::a2::a3::a4::r) (.tmp 4)=some a4:=rfl
theorem vh:xG (some 4) (a0::a1::a2::a3::a4::r) v=some (a0::a1::a2::a3::v::r):=rfl
theorem vW:yh (a0::a1::a2::a3::a4::a5::r) (.tmp 5)=some a5:=rfl
theorem st5:xG (some 5) (a0::a1::a2::a3::a4::a5::r) v=some (a0::a1::a2::a3::a4::v::r):=rfl
theorem gt6:yh (a0::a1::a2::a3::a4::a5::a6::r) (.tmp 6)=some a6:=rfl
theorem st6:xG (some 6) (a0::a1::a2::a3::a4::a5::a6::r) v=some (a0::a1::a2::a3::a4::a5::v::r):=rfl
theorem gt7:yh (a0::a1::a2::a3::a4::a5::a6::a7::r) (.tmp 7)=some a7:=rfl
theorem st7:xG (some 7) (a0::a1::a2::a3::a4::a5::a6::a7::r) v=some (a0::a1::a2::a3::a4::a5::a6::v::r):=rfl
theorem gt8:yh (a0::a1::a2::a3::a4::a5::a6::a7::a8::r) (.tmp 8)=some a8:=rfl
theorem st8:xG (some 8) (a0::a1::a2::a3::a4::a5::a6::a7::a8::r) v=some (a0::a1::a2::a3::a4::a5::a6::a7::v::r):=rfl
theorem gt9:yh (a0::a1::a2::a3::a4::a5::a6::a7::a8::a9::r) (.tmp 9)=some a9:=rfl
theorem st9:xG (some 9) (a0::a1::a2::a3::a4::a5::a6::a7::a8::a9::r) v=some (a0::a1::a2::a3::a4::a5::a6::a7::a8::v::r):=rfl
theorem x8:yh (a0::a1::a2::a3::a4::a5::a6::a7::a8::a9::a10::r) (.tmp 10)=some a10:=rfl
theorem wZ:xG (some 10) (a0::a1::a2::a3::a4::a5::a6::a7::a8::a9::a10::r) v=some (a0::a1::a2::a3::a4::a5::a6::a7::a8::a9::v::r):=rfl
theorem w8:yh (a0::a1::a2::a3::a4::a5::a6::a7::a8::a9::a10::a11::r) (.tmp 11)=some a11:=rfl
theorem vF:xG (some 11) (a0::a1::a2::a3::a4::a5::a6::a7::a8::a9::a10::a11::r) v=some (a0::a1::a2::a3::a4::a5::a6::a7::a8::a9::a10::v::r):=rfl
theorem gt12:yh (a0::a1::a2::a3::a4::a5::a6::a7::a8::a9::a10::a11::a12::r) (.tmp 12)=some a12:=rfl
theorem st12:xG (some 12) (a0::a1::a2::a3::a4::a5::a6::a7::a8::a9::a10::a11::a12::r) v=some (a0::a1::a2::a3::a4::a5::a6::a7::a8::a9::a10::a11::v::r):=rfl
theorem gt13:yh (a0::a1::a2::a3::a4::a5::a6::a7::a8::a9::a10::a11::a12::a13::r) (.tmp 13)=some a13:=rfl
theorem st13:xG (some 13) (a0::a1::a2::a3::a4::a5::a6::a7::a8::a9::a10::a11::a12::a13::r) v=some (a0::a1::a2::a3::a4::a5::a6::a7::a8::a9::a10::a11::a12::v::r):=rfl
theorem gt14:yh (a0::a1::a2::a3::a4::a5::a6::a7::a8::a9::a10::a11::a12::a13::a14::r) (.tmp 14)=some a14:=rfl
theorem st14:xG (some 14) (a0::a1::a2::a3::a4::a5::a6::a7::a8::a9::a10::a11::a12::a13::a14::r) v=some (a0::a1::a2::a3::a4::a5::a6::a7::a8::a9::a10::a11::a12::a13::v::r):=rfl
theorem gt15:yh (a0::a1::a2::a3::a4::a5::a6::a7::a8::a9::a10::a11::a12::a13::a14::a15::r) (.tmp 15)=some a15:=rfl
theorem st15:xG (some 15) (a0::a1::a2::a3::a4::a5::a6::a7::a8::a9::a10::a11::a12::a13::a14::a15::r) v=some (a0::a1::a2::a3::a4::a5::a6::a7::a8::a9::a10::a11::a12::a13::a14::v::r):=rfl
theorem gt16:yh (a0::a1::a2::a3::a4::a5::a6::a7::a8::a9::a10::a11::a12::a13::a14::a15::a16::r) (.tmp 16)=some a16:=rfl
theorem st16:xG (some 16) (a0::a1::a2::a3::a4::a5::a6::a7::a8::a9::a10::a11::a12::a13::a14::a15::a16::r) v=some (a0::a1::a2::a3::a4::a5::a6::a7::a8::a9::a10::a11::a12::a13::a14::a15::v::r):=rfl
theorem gt17:yh (a0::a1::a2::a3::a4::a5::a6::a7::a8::a9::a10::a11::a12::a13::a14::a15::a16::a17::r) (.tmp 17)=some a17:=rfl
theorem st17:xG (some 17) (a0::a1::a2::a3::a4::a5::a6::a7::a8::a9::a10::a11::a12::a13::a14::a15::a16::a17::r) v=some (a0::a1::a2::a3::a4::a5::a6::a7::a8::a9::a10::a11::a12::a13::a14::a15::a16::v::r):=rfl
theorem gt18:yh (a0::a1::a2::a3::a4::a5::a6::a7::a8::a9::a10::a11::a12::a13::a14::a15::a16::a17::a18::r) (.tmp 18)=some a18:=rfl
theorem st18:xG (some 18) (a0::a1::a2::a3::a4::a5::a6::a7::a8::a9::a10::a11::a12::a13::a14::a15::a16::a17::a18::r) v=some (a0::a1::a2::a3::a4::a5::a6::a7::a8::a9::a10::a11::a12::a13::a14::a15::a16::a17::v::r):=rfl
theorem gt19:yh (a0::a1::a2::a3::a4::a5::a6::a7::a8::a9::a10::a11::a12::a13::a14::a15::a16::a17::a18::a19::r) (.tmp 19)=some a19:=rfl
theorem st19:xG (some 19) (a0::a1::a2::a3::a4::a5::a6::a7::a8::a9::a10::a11::a12::a13::a14::a15::a16::a17::a18::a19::r) v=some (a0::a1::a2::a3::a4::a5::a6::a7::a8::a9::a10::a11::a12::a13::a14::a15::a16::a17::a18::v::r):=rfl
theorem gt20:yh (a0::a1::a2::a3::a4::a5::a6::a7::a8::a9::a10::a11::a12::a13::a14::a15::a16::a17::a18::a19::a20::r) (.tmp 20)=some a20:=rfl
theorem st20:xG (some 20) (a0::a1::a2::a3::a4::a5::a6::a7::a8::a9::a10::a11::a12::a13::a14::a15::a16::a17::a18::a19::a20::r) v=some (a0::a1::a2::a3::a4::a5::a6::a7::a8::a9::a10::a11::a12::a13::a14::a15::a16::a17::a18::a19::v::r):=rfl
theorem gt21:yh (a0::a1::a2::a3::a4::a5::a6::a7::a8::a9::a10::a11::a12::a13::a14::a15::a16::a17::a18::a19::a20::a21::r) (.tmp 21)=some a21:=rfl
theorem st21:xG (some 21) (a0::a1::a2::a3::a4::a5::a6::a7::a8::a9::a10::a11::a12::a13::a14::a15::a16::a17::a18::a19::a20::a21::r) v=some (a0::a1::a2::a3::a4::a5::a6::a7::a8::a9::a10::a11::a12::a13::a14::a15::a16::a17::a18::a19::a20::v::r):=rfl
theorem gt22:yh (a0::a1::a2::a3::a4::a5::a6::a7::a8::a9::a10::a11::a12::a13::a14::a15::a16::a17::a18::a19::a20::a21::a22::r) (.tmp 22)=some a22:=rfl
theorem st22:xG (some 22) (a0::a1::a2::a3::a4::a5::a6::a7::a8::a9::a10::a11::a12::a13::a14::a15::a16::a17::a18::a19::a20::a21::a22::r) v=some (a0::a1::a2::a3::a4::a5::a6::a7::a8::a9::a10::a11::a12::a13::a14::a15::a16::a17::a18::a19::a20::a21::v::r):=rfl
theorem gt23:yh (a0::a1::a2::a3::a4::a5::a6::a7::a8::a9::a10::a11::a12::a13::a14::a15::a16::a17::a18::a19::a20::a21::a22::a23::r) (.tmp 23)=some a23:=rfl
theorem st23:xG (some 23) (a0::a1::a2::a3::a4::a5::a6::a7::a8::a9::a10::a11::a12::a13::a14::a15::a16::a17::a18::a19::a20::a21::a22::a23::r) v=some (a0::a1::a2::a3::a4::a5::a6::a7::a8::a9::a10::a11::a12::a13::a14::a15::a16::a17::a18::a19::a20::a21::a22::v::r):=rfl
theorem gt24:yh (a0::a1::a2::a3::a4::a5::a6::a7::a8::a9::a10::a11::a12::a13::a14::a15::a16::a17::a18::a19::a20::a21::a22::a23::a24::r) (.tmp 24)=some a24:=rfl
theorem st24:xG (some 24) (a0::a1::a2::a3::a4::a5::a6::a7::a8::a9::a10::a11::a12::a13::a14::a15::a16::a17::a18::a19::a20::a21::a22::a23::a24::r) v=some (a0::a1::a2::a3::a4::a5::a6::a7::a8::a9::a10::a11::a12::a13::a14::a15::a16::a17::a18::a19::a20::a21::a22::a23::v::r):=rfl
theorem gt25:yh (a0::a1::a2::a3::a4::a5::a6::a7::a8::a9::a10::a11::a12::a13::a14::a15::a16::a17::a18::a19::a20::a21::a22::a23::a24::a25::r) (.tmp 25)=some a25:=rfl
theorem st25:xG (some 25) (a0::a1::a2::a3::a4::a5::a6::a7::a8::a9::a10::a11::a12::a13::a14::a15::a16::a17::a18::a19::a20::a21::a22::a23::a24::a25::r) v=some (a0::a1::a2::a3::a4::a5::a6::a7::a8::a9::a10::a11::a12::a13::a14::a15::a16::a17::a18::a19::a20::a21::a22::a23::a24::v::r):=rfl
theorem gt26:yh (a0::a1::a2::a3::a4::a5::a6::a7::a8::a9::a10::a11::a12::a13::a14::a15::a16::a17::a18::a19::a20::a21::a22::a23::a24::a25::a26::r) (.tmp 26)=some a26:=rfl
theorem st26:xG (some 26) (a0::a1::a2::a3::a4::a5::a6::a7::a8::a9::a10::a11::a12::a13::a14::a15::a16::a17::a18::a19::a20::a21::a22::a23::a24::a25::a26::r) v=some (a0::a1::a2::a3::a4::a5::a6::a7::a8::a9::a10::a11::a12::a13::a14::a15::a16::a17::a18::a19::a20::a21::a22::a23::a24::a25::v::r):=rfl
theorem gt27:yh (a0::a1::a2::a3::a4::a5::a6::a7::a8::a9::a10::a11::a12::a13::a14::a15::a16::a17::a18::a19::a20::a21::a22::a23::a24::a25::a26::a27::r) (.tmp 27)=some a27:=rfl
theorem st27:xG (some 27) (a0::a1::a2::a3::a4::a5::a6::a7::a8::a9::a10::a11::a12::a13::a14::a15::a16::a17::a18::a19::a20::a21::a22::a23::a24::a25::a26::a27::r) v=some (a0::a1::a2::a3::a4::a5::a6::a7::a8::a9::a10::a11::a12::a13::a14::a15::a16::a17::a18::a19::a20::a21::a22::a23::a24::a25::a26::v::r):=rfl
theorem gt28:yh (a0::a1::a2::a3::a4::a5::a6::a7::a8::a9::a10::a11::a12::a13::a14::a15::a16::a17::a18::a19::a20::a21::a22::a23::a24::a25::a26::a27::a28::r) (.tmp 28)=some a28:=rfl
theorem st28:xG (some 28) (a0::a1::a2::a3::a4::a5::a6::a7::a8::a9::a10::a11::a12::a13::a14::a15::a16::a17::a18::a19::a20::a21::a22::a23::a24::a25::a26::a27::a28::r) v=some (a0::a1::a2::a3::a4::a5::a6::a7::a8::a9::a10::a11::a12::a13::a14::a15::a16::a17::a18::a19::a20::a21::a22::a23::a24::a25::a26::a27::v::r):=rfl
theorem gt29:yh (a0::a1::a2::a3::a4::a5::a6::a7::a8::a9::a10::a11::a12::a13::a14::a15::a16::a17::a18::a19::a20::a21::a22::a23::a24::a25::a26::a27::a28::a29::r) (.tmp 29)=some a29:=rfl
theorem st29:xG (some 29) (a0::a1::a2::a3::a4::a5::a6::a7::a8::a9::a10::a11::a12::a13::a14::a15::a16::a17::a18::a19::a20::a21::a22::a23::a24::a25::a26::a27::a28::a29::r) v=some (a0::a1::a2::a3::a4::a5::a6::a7::a8::a9::a10::a11::a12::a13::a14::a15::a16::a17::a18::a19::a20::a21::a22::a23::a24::a25::a26::a27::a28::v::r):=rfl
theorem gt30:yh (a0::a1::a2::a3::a4::a5::a6::a7::a8::a9::a10::a11::a12::a13::a14::a15::a16::a17::a18::a19::a20::a21::a22::a23::a24::a25::a26::a27::a28::a29::a30::r) (.tmp 30)=some a30:=rfl
theorem st30:xG (some 30) (a0::a1::a2::a3::a4::a5::a6::a7::a8::a9::a10::a11::a12::a13::a14::a15::a16::a17::a18::a19::a20::a21::a22::a23::a24::a25::a26::a27::a28::a29::a30::r) v=some (a0::a1::a2::a3::a4::a5::a6::a7::a8::a9::a10::a11::a12::a13::a14::a15::a16::a17::a18::a19::a20::a21::a22::a23::a24::a25::a26::a27::a28::a29::v::r):=rfl
theorem gt31:yh (a0::a1::a2::a3::a4::a5::a6::a7::a8::a9::a10::a11::a12::a13::a14::a15::a16::a17::a18::a19::a20::a21::a22::a23::a24::a25::a26::a27::a28::a29::a30::a31::r) (.tmp 31)=some a31:=rfl
theorem st31:xG (some 31) (a0::a1::a2::a3::a4::a5::a6::a7::a8::a9::a10::a11::a12::a13::a14::a15::a16::a17::a18::a19::a20::a21::a22::a23::a24::a25::a26::a27::a28::a29::a30::a31::r) v=some (a0::a1::a2::a3::a4::a5::a6::a7::a8::a9::a10::a11::a12::a13::a14::a15::a16::a17::a18::a19::a20::a21::a22::a23::a24::a25::a26::a27::a28::a29::a30::v::r):=rfl
theorem gt32:yh (a0::a1::a2::a3::a4::a5::a6::a7::a8::a9::a10::a11::a12::a13::a14::a15::a16::a17::a18::a19::a20::a21::a22::a23::a24::a25::a26::a27::a28::a29::a30::a31::a32::r) (.tmp 32)=some a32:=rfl
theorem st32:xG (some 32) (a0::a1::a2::a3::a4::a5::a6::a7::a8::a9::a10::a11::a12::a13::a14::a15::a16::a17::a18::a19::a20::a21::a22::a23::a24::a25::a26::a27::a28::a29::a30::a31::a32::r) v=some (a0::a1::a2::a3::a4::a5::a6::a7::a8::a9::a10::a11::a12::a13::a14::a15::a16::a17::a18::a19::a20::a21::a22::a23::a24::a25::a26::a27::a28::a29::a30::a31::v::r):=rfl
theorem gt33:yh (a0::a1::a2::a3::a4::a5::a6::a7::a8::a9::a10::a11::a12::a13::a14::a15::a16::a17::a18::a19::a20::a21::a22::a23::a24::a25::a26::a27::a28::a29::a30::a31::a32::a33::r) (.tmp 33)=some a33:=rfl
theorem st33:xG (some 33) (a0::a1::a2::a3::a4::a5::a6::a7::a8::a9::a10::a11::a12::a13::a14::a15::a16::a17::a18::a19::a20::a21::a22::a23::a24::a25::a26::a27::a28::a29::a30::a31::a32::a33::r) v=some (a0::a1::a2::a3::a4::a5::a6::a7::a8::a9::a10::a11::a12::a13::a14::a15::a16::a17::a18::a19::a20::a21::a22::a23::a24::a25::a26::a27::a28::a29::a30::a31::a32::v::r):=rfl
theorem gt34:yh (a0::a1::a2::a3::a4::a5::a6::a7::a8::a9::a10::a11::a12::a13::a14::a15::a16::a17::a18::a19::a20::a21::a22::a23::a24::a25::a26::a27::a28::a29::a30::a31::a32::a33::a34::r) (.tmp 34)=some a34:=rfl
theorem st34:xG (some 34) (a0::a1::a2::a3::a4::a5::a6::a7::a8::a9::a10::a11::a12::a13::a14::a15::a16::a17::a18::a19::a20::a21::a22::a23::a24::a25::a26::a27::a28::a29::a30::a31::a32::a33::a34::r) v=some (a0::a1::a2::a3::a4::a5::a6::a7::a8::a9::a10::a11::a12::a13::a14::a15::a16::a17::a18::a19::a20::a21::a22::a23::a24::a25::a26::a27::a28::a29::a30::a31::a32::a33::v::r):=rfl
theorem gt35:yh (a0::a1::a2::a3::a4::a5::a6::a7::a8::a9::a10::a11::a12::a13::a14::a15::a16::a17::a18::a19::a20::a21::a22::a23::a24::a25::a26::a27::a28::a29::a30::a31::a32::a33::a34::a35::r) (.tmp 35)=some a35:=rfl
theorem st35:xG (some 35) (a0::a1::a2::a3::a4::a5::a6::a7::a8::a9::a10::a11::a12::a13::a14::a15::a16::a17::a18::a19::a20::a21::a22::a23::a24::a25::a26::a27::a28::a29::a30::a31::a32::a33::a34::a35::r) v=some (a0::a1::a2::a3::a4::a5::a6::a7::a8::a9::a10::a11::a12::a13::a14::a15::a16::a17::a18::a19::a20::a21::a22::a23::a24::a25::a26::a27::a28::a29::a30::a31::a32::a33::a34::v::r):=rfl
theorem gt36:yh (a0::a1::a2::a3::a4::a5::a6::a7::a8::a9::a10::a11::a12::a13::a14::a15::a16::a17::a18::a19::a20::a21::a22::a23::a24::a25::a26::a27::a28::a29::a30::a31::a32::a33::a34::a35::a36::r) (.tmp 36)=some a36:=rfl
theorem st36:xG (some 36) (a0::a1::a2::a3::a4::a5::a6::a7::a8::a9::a10::a11::a12::a13::a14::a15::a16::a17::a18::a19::a20::a21::a22::a23::a24::a25::a26::a27::a28::a29::a30::a31::a32::a33::a34::a35::a36::r) v=some (a0::a1::a2::a3::a4::a5::a6::a7::a8::a9::a10::a11::a12::a13::a14::a15::a16::a17::a18::a19::a20::a21::a22::a23::a24::a25::a26::a27::a28::a29::a30::a31::a32::a33::a34::a35::v::r):=rfl
theorem gt37:yh (a0::a1::a2::a3::a4::a5::a6::a7::a8::a9::a10::a11::a12::a13::a14::a15::a16::a17::a18::a19::a20::a21::a22::a23::a24::a25::a26::a27::a28::a29::a30::a31::a32::a33::a34::a35::a36::a37::r) (.tmp 37)=some a37:=rfl
theorem st37:xG (some 37) (a0::a1::a2::a3::a4::a5::a6::a7::a8::a9::a10::a11::a12::a13::a14::a15::a16::a17::a18::a19::a20::a21::a22::a23::a24::a25::a26::a27::a28::a29::a30::a31::a32::a33::a34::a35::a36::a37::r) v=some (a0::a1::a2::a3::a4::a5::a6::a7::a8::a9::a10::a11::a12::a13::a14::a15::a16::a17::a18::a19::a20::a21::a22::a23::a24::a25::a26::a27::a28::a29::a30::a31::a32::a33::a34::a35::a36::v::r):=rfl
theorem gt38:yh (a0::a1::a2::a3::a4::a5::a6::a7::a8::a9::a10::a11::a12::a13::a14::a15::a16::a17::a18::a19::a20::a21::a22::a23::a24::a25::a26::a27::a28::a29::a30::a31::a32::a33::a34::a35::a36::a37::a38::r) (.tmp 38)=some a38:=rfl
theorem st38:xG (some 38) (a0::a1::a2::a3::a4::a5::a6::a7::a8::a9::a10::a11::a12::a13::a14::a15::a16::a17::a18::a19::a20::a21::a22::a23::a24::a25::a26::a27::a28::a29::a30::a31::a32::a33::a34::a35::a36::a37::a38::r) v=some (a0::a1::a2::a3::a4::a5::a6::a7::a8::a9::a10::a11::a12::a13::a14::a15::a16::a17::a18::a19::a20::a21::a22::a23::a24::a25::a26::a27::a28::a29::a30::a31::a32::a33::a34::a35::a36::a37::v::r):=rfl
theorem gt39:yh (a0::a1::a2::a3::a4::a5::a6::a7::a8::a9::a10::a11::a12::a13::a14::a15::a16::a17::a18::a19::a20::a21::a22::a23::a24::a25::a26::a27::a28::a29::a30::a31::a32::a33::a34::a35::a36::a37::a38::a39::r) (.tmp 39)=some a39:=rfl
theorem st39:xG (some 39) (a0::a1::a2::a3::a4::a5::a6::a7::a8::a9::a10::a11::a12::a13::a14::a15::a16::a17::a18::a19::a20::a21::a22::a23::a24::a25::a26::a27::a28::a29::a30::a31::a32::a33::a34::a35::a36::a37::a38::a39::r) v=some (a0::a1::a2::a3::a4::a5::a6::a7::a8::a9::a10::a11::a12::a13::a14::a15::a16::a17::a18::a19::a20::a21::a22::a23::a24::a25::a26::a27::a28::a29::a30::a31::a32::a33::a34::a35::a36::a37::a38::v::r):=rfl
theorem gk (h:yh r (.tmp t)=some v):yh (a0::a1::a2::a3::a4::a5::a6::a7::a8::a9::a10::a11::a12::a13::a14::a15::a16::a17::a18::a19::a20::a21::a22::a23::a24::a25::a26::a27::a28::a29::a30::a31::a32::a33::a34::a35::a36::a37::a38::a39::r) (.tmp (t+40))=some v:=h
theorem sk (h:xG (some t) r v=some q):xG (some (t+40)) (a0::a1::a2::a3::a4::a5::a6::a7::a8::a9::a10::a11::a12::a13::a14::a15::a16::a17::a18::a19::a20::a21::a22::a23::a24::a25::a26::a27::a28::a29::a30::a31::a32::a33::a34::a35::a36::a37::a38::a39::r) v=some (a0::a1::a2::a3::a4::a5::a6::a7::a8::a9::a10::a11::a12::a13::a14::a15::a16::a17::a18::a19::a20::a21::a22::a23::a24::a25::a26::a27::a28::a29::a30::a31::a32::a33::a34::a35::a36::a37::a38::a39::q):=congrArg (λx=>some (a0::a1::a2::a3::a4::a5::a6::a7::a8::a9::a10::a11::a12::a13::a14::a15::a16::a17::a18::a19::a20::a21::a22::a23::a24::a25::a26::a27::a28::a29::a30::a31::a32::a33::a34::a35::a36::a37::a38::a39::x)) (uj h)
end

abbrev GL.row (x:GL):List AV:=[.int .u8 x.rep,.int .u32 x.inc]
abbrev GF.row (x:GF):List AV:=[.int .u8 x.actor.rep,.int .u32 x.actor.inc,.int .u64 x.seq]
abbrev GJ.row (x:GJ):List AV:=[.int .u64 x.time,.int .u8 x.dot.actor.rep,.int .u32 x.dot.actor.inc,.int .u64 x.dot.seq,.str x.text]
abbrev GE.row (x:GE):List AV:=[.int .u8 x.typ,.int .i64 x.n,.int .u64 x.time,.int .u8 x.dot.actor.rep,.int .u32 x.dot.actor.inc,.int .u64 x.dot.seq,.str x.text,.sl 5 (x.items.map GJ.row),.sl 3 (x.tombs.map GF.row)]
mutual
def GA.row:GA->List AV
  | ⟨name,leaves,subs⟩=>[.str name,.sl 9 (leaves.map GE.row),.sl 3 (GA.rows subs)]
def GA.rows:List GA->List (List AV)
  | []=>[]
  | x::r=>x.row::GA.rows r
end
theorem GA.rows_eq (l:List GA):GA.rows l=l.map GA.row:=by
  induction l with
  | nil=>rfl
  | cons x r ih=>simp only [GA.rows,uy,ih]
theorem GA.row_eq (x:GA):x.row=[.str x.name,.sl 9 (x.leaves.map GE.row),.sl 3 (x.subs.map GA.row)]:=by
  cases x;simp only [GA.row,GA.rows_eq]
abbrev GK.row (x:GK):List AV:=[.sl 1 (x.path.map zI),.int .u8 x.leaf.typ,.int .i64 x.leaf.n,.int .u64 x.leaf.time,.int .u8 x.leaf.dot.actor.rep,.int .u32 x.leaf.dot.actor.inc,.int .u64 x.leaf.dot.seq,.str x.leaf.text,.sl 5 (x.leaf.items.map GJ.row),.sl 3 (x.leaf.tombs.map GF.row)]
abbrev GC.row (x:GC):List AV:=[.sl 1 (x.path.map zI),.int .u8 x.typ,.bool x.had,.bool x.has,.int .u8 x.was.typ,.int .i64 x.was.n,.int .u64 x.was.time,.int .u8 x.was.dot.actor.rep,.int .u32 x.was.dot.actor.inc,.int .u64 x.was.dot.seq,.str x.was.text,.sl 5 (x.was.items.map GJ.row),.sl 3 (x.was.tombs.map GF.row),.int .u8 x.is.typ,.int .i64 x.is.n,.int .u64 x.is.time,.int .u8 x.is.dot.actor.rep,.int .u32 x.is.dot.actor.inc,.int .u64 x.is.dot.seq,.str x.is.text,.sl 5 (x.is.items.map GJ.row),.sl 3 (x.is.tombs.map GF.row)]
abbrev GH.row (x:GH):List AV:=[.int .i64 x.watch,.int .u64 x.num,.sl 1 (x.edit.path.map zI),.int .u8 x.edit.typ,.bool x.edit.had,.bool x.edit.has,.int .u8 x.edit.was.typ,.int .i64 x.edit.was.n,.int .u64 x.edit.was.time,.int .u8 x.edit.was.dot.actor.rep,.int .u32 x.edit.was.dot.actor.inc,.int .u64 x.edit.was.dot.seq,.str x.edit.was.text,.sl 5 (x.edit.was.items.map GJ.row),.sl 3 (x.edit.was.tombs.map GF.row),.int .u8 x.edit.is.typ,.int .i64 x.edit.is.n,.int .u64 x.edit.is.time,.int .u8 x.edit.is.dot.actor.rep,.int .u32 x.edit.is.dot.actor.inc,.int .u64 x.edit.is.dot.seq,.str x.edit.is.text,.sl 5 (x.edit.is.items.map GJ.row),.sl 3 (x.edit.is.tombs.map GF.row)]
abbrev GI.row (x:GI):List AV:=[.sl 1 (x.p.map zI),.int .u64 x.missed]
instance el29:El Tryz.prog 29 9 1:=mkEl Tryz.underlying29 (by kernel_rfl)
instance ty9:Ty Tryz.prog 9 .string 1:=qe Tryz.underlying9 (by kernel_rfl)
instance ty4:Ty Tryz.prog 4 .bool 1:=qe Tryz.underlying4 (by kernel_rfl)
theorem ze9:xw Tryz.prog 9=some [.str []]:=by kernel_rfl
instance:ZE Tryz.prog 9 [.str []]:=⟨ze9⟩
instance el46:El Tryz.prog 46 97 5:=mkEl Tryz.underlying46 (by kernel_rfl)
theorem ze97:xw Tryz.prog 97=some [.int .u64 0,.int .u8 0,.int .u32 0,.int .u64 0,.str []]:=by kernel_rfl
instance:ZE Tryz.prog 97 [.int .u64 0,.int .u8 0,.int .u32 0,.int .u64 0,.str []]:=⟨ze97⟩
instance el47:El Tryz.prog 47 45 3:=mkEl Tryz.underlying47 (by kernel_rfl)
theorem ze45:xw Tryz.prog 45=some [.int .u8 0,.int .u32 0,.int .u64 0]:=by kernel_rfl
instance:ZE Tryz.prog 45 [.int .u8 0,.int .u32 0,.int .u64 0]:=⟨ze45⟩
theorem ze49:xw Tryz.prog 49=some [.int .u8 0,.int .i64 0,.int .u64 0,.int .u8 0,.int .u32 0,.int .u64 0,.str [],.osl none 5 [],.osl none 3 []]:=by kernel_rfl
instance:ZE Tryz.prog 49 [.int .u8 0,.int .i64 0,.int .u64 0,.int .u8 0,.int .u32 0,.int .u64 0,.str [],.osl none 5 [],.osl none 3 []]:=⟨ze49⟩
theorem mixed:Tryz.prog.follows .mixedOrders=true:=by kernel_rfl
theorem wv {Q:Exit->List AV->AH->Prop} {env:List AV} {B:List Blk} {T:List Nat} {id:Nat} {l:List Oper} (hd:drawOk ⟨l⟩ []=true) (a:zR Tryz.prog ⟨l⟩ [] (λn=>KeepB h (lk [] n)) (Q .normal) 0 l env (h.ext B T)):wM Tryz.prog (.region id ⟨l⟩ true) Q env (h.ext B T):=yB [] [] trivial mixed hd a
instance fo49x5:Fo Tryz.prog 49 5 7 46 1:=wG (by kernel_rfl) (by kernel_rfl)
instance ty46:Ty Tryz.prog 46 (.slice 97) 1:=qe Tryz.underlying46 (by kernel_rfl)
instance fo49x6:Fo Tryz.prog 49 6 8 47 1:=wG (by kernel_rfl) (by kernel_rfl)
instance ty47:Ty Tryz.prog 47 (.slice 45) 1:=qe Tryz.underlying47 (by kernel_rfl)
theorem ty49:∃d,Ty Tryz.prog 49 d 9/\z8 d=true:=⟨_,qe Tryz.underlying49 (by kernel_rfl),by kernel_rfl⟩
instance:TA Tryz.prog 49 9:=⟨ty49⟩
instance ty33:Ty Tryz.prog 33 (.slice 70) 1:=qe Tryz.underlying33 (by kernel_rfl)
instance el33:El Tryz.prog 33 70 3:=mkEl Tryz.underlying33 (by kernel_rfl)
theorem ty70:∃d,Ty Tryz.prog 70 d 3/\z8 d=true:=⟨_,qe Tryz.underlying70 (by kernel_rfl),by kernel_rfl⟩
instance:TA Tryz.prog 70 3:=⟨ty70⟩
theorem ze70:xw Tryz.prog 70=some [.str [],.osl none 9 [],.osl none 3 []]:=by kernel_rfl
instance:ZE Tryz.prog 70 [.str [],.osl none 9 [],.osl none 3 []]:=⟨ze70⟩
instance ty29:Ty Tryz.prog 29 (.slice 9) 1:=qe Tryz.underlying29 (by kernel_rfl)
instance fo70x0:Fo Tryz.prog 70 0 0 9 1:=wG (by kernel_rfl) (by kernel_rfl)
instance fo70x1:Fo Tryz.prog 70 1 1 68 1:=wG (by kernel_rfl) (by kernel_rfl)
instance ty68:Ty Tryz.prog 68 (.slice 49) 1:=qe Tryz.underlying68 (by kernel_rfl)
instance el68:El Tryz.prog 68 49 9:=mkEl Tryz.underlying68 (by kernel_rfl)
instance ty160:Ty Tryz.prog 160 (.func #[101] #[4] false) 1:=qe Tryz.underlying160 (by kernel_rfl)
noncomputable def sf101:Array Field:=match Tryz.prog.underlying 101 with | some (.struct fs)=>fs | _=>#[]
theorem su101:Tryz.prog.underlying 101=some (.struct sf101):=by kernel_rfl
theorem ze101:xw Tryz.prog 101=some [.osl none 1 [],.int .u8 0,.int .i64 0,.int .u64 0,.int .u8 0,.int .u32 0,.int .u64 0,.str [],.osl none 5 [],.osl none 3 []]:=by kernel_rfl
instance:ZE Tryz.prog 101 [.osl none 1 [],.int .u8 0,.int .i64 0,.int .u64 0,.int .u8 0,.int .u32 0,.int .u64 0,.str [],.osl none 5 [],.osl none 3 []]:=⟨ze101⟩
theorem pl101:vi Tryz.prog sf101=some [(0,1),(1,9)]:=by kernel_rfl
instance fo70x2:Fo Tryz.prog 70 2 2 33 1:=wG (by kernel_rfl) (by kernel_rfl)
theorem ty101:∃d,Ty Tryz.prog 101 d 10/\z8 d=true:=⟨_,qe Tryz.underlying101 (by kernel_rfl),by kernel_rfl⟩
instance:TA Tryz.prog 101 10:=⟨ty101⟩
instance el98:El Tryz.prog 98 101 10:=mkEl Tryz.underlying98 (by kernel_rfl)
instance ty98:Ty Tryz.prog 98 (.slice 101) 1:=qe Tryz.underlying98 (by kernel_rfl)
instance fo43x0:Fo Tryz.prog 43 0 0 5 1:=wG (by kernel_rfl) (by kernel_rfl)
instance ty5:Ty Tryz.prog 5 (.int .u8) 1:=qe Tryz.underlying5 (by kernel_rfl)
instance fo43x1:Fo Tryz.prog 43 1 1 41 1:=wG (by kernel_rfl) (by kernel_rfl)
instance ty41:Ty Tryz.prog 41 (.int .u32) 1:=qe Tryz.underlying41 (by kernel_rfl)
instance fo45x0:Fo Tryz.prog 45 0 0 43 2:=wG (by kernel_rfl) (by kernel_rfl)
theorem ty43:∃d,Ty Tryz.prog 43 d 2/\z8 d=true:=⟨_,qe Tryz.underlying43 (by kernel_rfl),by kernel_rfl⟩
instance:TA Tryz.prog 43 2:=⟨ty43⟩
instance fo45x1:Fo Tryz.prog 45 1 2 37 1:=wG (by kernel_rfl) (by kernel_rfl)
instance ty37:Ty Tryz.prog 37 (.int .u64) 1:=qe Tryz.underlying37 (by kernel_rfl)
theorem ty97:∃d,Ty Tryz.prog 97 d 5/\z8 d=true:=⟨_,qe Tryz.underlying97 (by kernel_rfl),by kernel_rfl⟩
instance:TA Tryz.prog 97 5:=⟨ty97⟩
instance fo97x1:Fo Tryz.prog 97 1 1 45 3:=wG (by kernel_rfl) (by kernel_rfl)
theorem ty45:∃d,Ty Tryz.prog 45 d 3/\z8 d=true:=⟨_,qe Tryz.underlying45 (by kernel_rfl),by kernel_rfl⟩
instance:TA Tryz.prog 45 3:=⟨ty45⟩
noncomputable def sf45:Array Field:=match Tryz.prog.underlying 45 with | some (.struct fs)=>fs | _=>#[]
theorem su45:Tryz.prog.underlying 45=some (.struct sf45):=by kernel_rfl
theorem pk45:PK Tryz.prog 45 [.i,.i,.i]:=mkPK (by kernel_rfl) (by kernel_rfl) (by kernel_rfl)
theorem kq45:KQ Tryz.prog 45 (λx=>AV.agg (GF.row x)) GF.eqb:=.struct su45 pk45 (λ_ _=>rfl) (λa=>by simp [GF.eqb])
theorem az3:qq Tryz.prog 3=some ((AV.int .i64) (0:Int)):=by kernel_rfl
instance el73:El Tryz.prog 73 3 1:=mkEl Tryz.underlying73 (by kernel_rfl)
instance ty3:Ty Tryz.prog 3 (.int .i64) 1:=qe Tryz.underlying3 (by kernel_rfl)
theorem ze3:xw Tryz.prog 3=some [.int .i64 0]:=by kernel_rfl
instance:ZE Tryz.prog 3 [.int .i64 0]:=⟨ze3⟩
instance fo97x2:Fo Tryz.prog 97 2 4 9 1:=wG (by kernel_rfl) (by kernel_rfl)
instance fo97x0:Fo Tryz.prog 97 0 0 37 1:=wG (by kernel_rfl) (by kernel_rfl)
theorem pk97:PK Tryz.prog 97 [.i,.i,.i,.i,.s]:=mkPK (by kernel_rfl) (by kernel_rfl) (by kernel_rfl)
instance fo49x0:Fo Tryz.prog 49 0 0 5 1:=wG (by kernel_rfl) (by kernel_rfl)
instance fo49x1:Fo Tryz.prog 49 1 1 2 1:=wG (by kernel_rfl) (by kernel_rfl)
instance ty2:Ty Tryz.prog 2 (.int .i64) 1:=qe Tryz.underlying2 (by kernel_rfl)
instance fo49x2:Fo Tryz.prog 49 2 2 37 1:=wG (by kernel_rfl) (by kernel_rfl)
instance fo49x3:Fo Tryz.prog 49 3 3 45 3:=wG (by kernel_rfl) (by kernel_rfl)
instance fo49x4:Fo Tryz.prog 49 4 6 9 1:=wG (by kernel_rfl) (by kernel_rfl)
noncomputable def sf49:Array Field:=match Tryz.prog.underlying 49 with | some (.struct fs)=>fs | _=>#[]
theorem su49:Tryz.prog.underlying 49=some (.struct sf49):=by kernel_rfl
theorem pl49:vi Tryz.prog sf49=some [(0,1),(1,1),(2,1),(3,3),(6,1),(7,1),(8,1)]:=by kernel_rfl
theorem pl45:vi Tryz.prog sf45=some [(0,2),(2,1)]:=by kernel_rfl
instance el23:El Tryz.prog 23 5 1:=mkEl Tryz.underlying23 (by kernel_rfl)
theorem ze5:xw Tryz.prog 5=some [.int .u8 0]:=by kernel_rfl
instance:ZE Tryz.prog 5 [.int .u8 0]:=⟨ze5⟩
abbrev lit0x:List AV:=[.int .u8 (0:Int),.int .i64 (0:Int),.int .u64 (0:Int),.int .u8 (0:Int),.int .u32 (0:Int),.int .u64 (0:Int),.str ([]:zj),.osl none 5 (([]:List GJ).map GJ.row),.osl none 3 (([]:List GF).map GF.row)]
abbrev lit1x:List AV:=[.int .i64 0,.int .u64 0,.osl none 1 [],.int .u8 0,.bool false,.bool false,.int .u8 0,.int .i64 0,.int .u64 0,.int .u8 0,.int .u32 0,.int .u64 0,.str [],.osl none 5 [],.osl none 3 [],.int .u8 0,.int .i64 0,.int .u64 0,.int .u8 0,.int .u32 0,.int .u64 0,.str [],.osl none 5 [],.osl none 3 []]
abbrev lit2x:List AV:=[.osl none 1 [],.int .u8 0,.bool false,.bool false,.int .u8 0,.int .i64 0,.int .u64 0,.int .u8 0,.int .u32 0,.int .u64 0,.str [],.osl none 5 [],.osl none 3 [],.int .u8 0,.int .i64 0,.int .u64 0,.int .u8 0,.int .u32 0,.int .u64 0,.str [],.osl none 5 [],.osl none 3 []]
theorem ze51:xw Tryz.prog 51=some lit2x:=by kernel_rfl
instance:ZE Tryz.prog 51 lit2x:=⟨ze51⟩
instance fo51x0:Fo Tryz.prog 51 0 0 29 1:=wG (by kernel_rfl) (by kernel_rfl)
instance fo51x4:Fo Tryz.prog 51 4 4 49 9:=wG (by kernel_rfl) (by kernel_rfl)
instance fo51x5:Fo Tryz.prog 51 5 13 49 9:=wG (by kernel_rfl) (by kernel_rfl)
theorem ty51:∃d,Ty Tryz.prog 51 d 22/\z8 d=true:=⟨_,qe Tryz.underlying51 (by kernel_rfl),by kernel_rfl⟩
instance:TA Tryz.prog 51 22:=⟨ty51⟩
instance fo51x1:Fo Tryz.prog 51 1 1 5 1:=wG (by kernel_rfl) (by kernel_rfl)
instance el40:El Tryz.prog 40 51 22:=mkEl Tryz.underlying40 (by kernel_rfl)
instance fo51x2:Fo Tryz.prog 51 2 2 4 1:=wG (by kernel_rfl) (by kernel_rfl)
instance fo51x3:Fo Tryz.prog 51 3 3 4 1:=wG (by kernel_rfl) (by kernel_rfl)
instance fo101x0:Fo Tryz.prog 101 0 0 29 1:=wG (by kernel_rfl) (by kernel_rfl)
instance fo101x1:Fo Tryz.prog 101 1 1 49 9:=wG (by kernel_rfl) (by kernel_rfl)
noncomputable def sf51:Array Field:=match Tryz.prog.underlying 51 with | some (.struct fs)=>fs | _=>#[]
theorem su51:Tryz.prog.underlying 51=some (.struct sf51):=by kernel_rfl
theorem pl51:vi Tryz.prog sf51=some [(0,1),(1,1),(2,1),(3,1),(4,9),(13,9)]:=by kernel_rfl
theorem kq9:KQ Tryz.prog 9 AV.str (λa b=>a==b):=.str ty9
theorem az51:qq Tryz.prog 51=some ((λx=>AV.agg (GC.row x)) (GC.mk ([]:List zj) (0:Int) false false zP zP)):=by kernel_rfl
noncomputable def sf70:Array Field:=match Tryz.prog.underlying 70 with | some (.struct fs)=>fs | _=>#[]
theorem su70:Tryz.prog.underlying 70=some (.struct sf70):=by kernel_rfl
theorem pl70:vi Tryz.prog sf70=some [(0,1),(1,1),(2,1)]:=by kernel_rfl
instance el31:El Tryz.prog 31 53 24:=mkEl Tryz.underlying31 (by kernel_rfl)
theorem ze53:xw Tryz.prog 53=some lit1x:=by kernel_rfl
instance:ZE Tryz.prog 53 lit1x:=⟨ze53⟩
noncomputable def sf63:Array Field:=match Tryz.prog.underlying 63 with | some (.struct fs)=>fs | _=>#[]
theorem su63:Tryz.prog.underlying 63=some (.struct sf63):=by kernel_rfl
theorem ze63:xw Tryz.prog 63=some [.nilm,.int .i64 0,.int .u64 0,.osl none 3 [],.osl none 24 []]:=by kernel_rfl
instance:ZE Tryz.prog 63 [.nilm,.int .i64 0,.int .u64 0,.osl none 3 [],.osl none 24 []]:=⟨ze63⟩
theorem pl63:vi Tryz.prog sf63=some [(0,1),(1,1),(2,1),(3,1),(4,1)]:=by kernel_rfl
instance ty24:Ty Tryz.prog 24 (.pointer 63) 1:=qe Tryz.underlying24 (by kernel_rfl)
instance fo63x0:Fo Tryz.prog 63 0 0 61 1:=wG (by kernel_rfl) (by kernel_rfl)
instance ty61:Ty Tryz.prog 61 (.map 3 67) 1:=qe Tryz.underlying61 (by kernel_rfl)
instance fo63x1:Fo Tryz.prog 63 1 1 3 1:=wG (by kernel_rfl) (by kernel_rfl)
noncomputable def sf67:Array Field:=match Tryz.prog.underlying 67 with | some (.struct fs)=>fs | _=>#[]
theorem su67:Tryz.prog.underlying 67=some (.struct sf67):=by kernel_rfl
theorem ze67:xw Tryz.prog 67=some [.osl none 1 [],.int .u64 0]:=by kernel_rfl
instance:ZE Tryz.prog 67 [.osl none 1 [],.int .u64 0]:=⟨ze67⟩
theorem pl67:vi Tryz.prog sf67=some [(0,1),(1,1)]:=by kernel_rfl
theorem kq3:KQ Tryz.prog 3 (AV.int .i64) (λa b=>a==b):=.int ty3
instance fo63x3:Fo Tryz.prog 63 3 3 33 1:=wG (by kernel_rfl) (by kernel_rfl)
theorem az67:qq Tryz.prog 67=some ((λx=>AV.agg (GI.row x)) (GI.mk ([]:List zj) (0:Int))):=by kernel_rfl
instance fo67x0:Fo Tryz.prog 67 0 0 29 1:=wG (by kernel_rfl) (by kernel_rfl)
theorem ty67:∃d,Ty Tryz.prog 67 d 2/\z8 d=true:=⟨_,qe Tryz.underlying67 (by kernel_rfl),by kernel_rfl⟩
instance:TA Tryz.prog 67 2:=⟨ty67⟩
instance fo63x4:Fo Tryz.prog 63 4 4 31 1:=wG (by kernel_rfl) (by kernel_rfl)
instance ty31:Ty Tryz.prog 31 (.slice 53) 1:=qe Tryz.underlying31 (by kernel_rfl)
instance fo67x1:Fo Tryz.prog 67 1 1 37 1:=wG (by kernel_rfl) (by kernel_rfl)
instance fo63x2:Fo Tryz.prog 63 2 2 37 1:=wG (by kernel_rfl) (by kernel_rfl)
noncomputable def sf53:Array Field:=match Tryz.prog.underlying 53 with | some (.struct fs)=>fs | _=>#[]
theorem su53:Tryz.prog.underlying 53=some (.struct sf53):=by kernel_rfl
theorem pl53:vi Tryz.prog sf53=some [(0,1),(1,1),(2,22)]:=by kernel_rfl
instance fo53x2:Fo Tryz.prog 53 2 2 51 22:=wG (by kernel_rfl) (by kernel_rfl)
instance ty141:Ty Tryz.prog 141 (.int .u64) 1:=qe Tryz.underlying141 (by kernel_rfl)
instance el22:El Tryz.prog 22 33 1:=mkEl Tryz.underlying22 (by kernel_rfl)
theorem ty53:∃d,Ty Tryz.prog 53 d 24/\z8 d=true:=⟨_,qe Tryz.underlying53 (by kernel_rfl),by kernel_rfl⟩
instance:TA Tryz.prog 53 24:=⟨ty53⟩
instance fo53x0:Fo Tryz.prog 53 0 0 3 1:=wG (by kernel_rfl) (by kernel_rfl)
instance fo53x1:Fo Tryz.prog 53 1 1 37 1:=wG (by kernel_rfl) (by kernel_rfl)
abbrev GLeafRw (x:GE) (p q:AV):List AV:=[.int .u8 x.typ,.int .i64 x.n,.int .u64 x.time,.int .u8 x.dot.actor.rep,.int .u32 x.dot.actor.inc,.int .u64 x.dot.seq,.str x.text,p,q]
theorem ok34 {f:(List zj)} {res:((List zj)×Bool)}  (a:vz f=some res):Sp 34 [.sl 1 (f.map zI)] h (yW (.tup [.sl 1 (res.1.map zI),.bool res.2]) h):=by
 unfold vz at a;refine zd Tryz.func34 rfl (by kernel_rfl) (xR 22 rfl) (R.r ?_);refine ln λb=>?_;replace b:=yA b;apply R.r;refine xU a (λd a=>gix d (R.r ?_));refine zt gg a (λc a=>?_) (λc a=>?_)
 ·apply R.r;refine zq a (λg e a=>za rfl (vI rfl el29 gg (.inl rfl) .none (.some gg) e) ss (R.r ?_));cases a;exact fz rfl rfl
 ·apply R.r;cases a;exact fz rfl rfl
theorem ok133 {f:zj} {b:Bool} {res:Int} (s:∀x0 v (L:List Blk) (M:List Nat),f1 x0=some v->Sp ff1 (af1++[.int .i32 x0]++kf1) (h.ext L M) (yW (.bool v) (h.ext L M))) (a:ww f f1 b=some res):Sp 133 [.str f,.fn (.func ff1) af1 kf1,.bool b] h (yW (.int .i64 res) h):=by
 unfold ww at a;refine z1 Tryz.func133 rfl (by kernel_rfl) (xR 21 rfl) (λc w=>?_);simp only [zG,AV.low,ud,uZ,tR] at c;have k:∀n m,h.blks.length<=n->h.toks.length<=m->zG n m af1=true:=λn m j g=>yp j g _ (by simp [c]);have i:∀n m,h.blks.length<=n->h.toks.length<=m->zG n m kf1=true:=λn m j g=>yp j g _ (by simp [c]);apply R.r;refine za rfl (e_range (n:=0) rfl ty9 gg rfl) ss (R.r ?_);refine r_loopWF (λ(e:Nat)=>zJ 3 7 (zJ 11 10 [(0,.any)])) (λe=>h.ext [.siter f e] []) a (λ_=>by simp only [zJ,qB,um,un];try rfl) (wk.le LEL.o) ?_;intro z e y a d;apply R.r;refine ops_nextF rfl rfl gg rfl ss ss a (λu a=>?_) (λa=>?_)
 ·apply R.r;refine vK gg (λ_=>?_) (λhh=>by cases hh);apply R.r;refine zq a (λx p a=>yq rfl (scC rfl) (s _ _ _ _ p) ss (R.r ?_));refine za rfl (zN rfl gg gg (bin_boolE ty4)) ss (R.r ?_);refine zt gg a (λl a=>?_) (λl a=>?_)
  ·apply R.r;cases a;replace a:=d;apply R.r;cases a;exact fz rfl rfl
  ·apply R.r;cases a;exact ⟨(e+(dec f e).2),d,wk.le LEL.o⟩
 ·apply R.r;refine vK gg (λhh=>by cases hh) (λ_=>R.r ?_);cases a;replace a:=d;apply R.r;cases a;exact fz rfl rfl
theorem ok94 {j:zj} {res:Int} (d:∀x0 v (L:List Blk) (M:List Nat),f1 x0=some v->Sp ff1 (af1++[.int .i32 x0]++kf1) (h.ext L M) (yW (.bool v) (h.ext L M))) (b:wN j f1=some res):Sp 94 [.str j,.fn (.func ff1) af1 kf1] h (yW (.int .i64 res) h):=by
 unfold wN at b;refine z1 Tryz.func94 rfl (by kernel_rfl) (xR 8 rfl) (λa l=>?_);simp only [zG,AV.low,ud,uZ,tR] at a;have c:∀n m,h.blks.length<=n->h.toks.length<=m->zG n m af1=true:=λn m i e=>yp i e _ (by simp [a]);have f:∀n m,h.blks.length<=n->h.toks.length<=m->zG n m kf1=true:=λn m i e=>yp i e _ (by simp [a]);apply R.r;refine zq b (λo g b=>cp (ok133 (λx0 v L M k=>by rw [xd];exact d x0 v _ _ k) g) (R.r ?_));cases b;exact fz rfl rfl
theorem ok72 {j:zj} (d:∀x0 v (L:List Blk) (M:List Nat),f1 x0=some v->Sp ff1 (af1++[.int .i32 x0]++kf1) (h.ext L M) (yW (.bool v) (h.ext L M))) (b:xj j f1=some res):Sp 72 [.str j,.fn (.func ff1) af1 kf1] h (yW (.bool res) h):=by
 unfold xj at b;refine z1 Tryz.func72 rfl (by kernel_rfl) (xR 9 rfl) (λa l=>?_);simp only [zG,AV.low,ud,uZ,tR] at a;have c:∀n m,h.blks.length<=n->h.toks.length<=m->zG n m af1=true:=λn m i e=>yp i e _ (by simp [a]);have f:∀n m,h.blks.length<=n->h.toks.length<=m->zG n m kf1=true:=λn m i e=>yp i e _ (by simp [a]);apply R.r;refine zq b (λo g b=>cp (ok94 (λx0 v L M k=>by rw [xd];exact d x0 v _ _ k) g) (R.r ?_));cases b;exact fz rfl rfl
theorem ok71 {b:Int}  (a:qd b=some res):Sp 71 [.int .i32 b] h (yW (.bool res) h):=by
 unfold qd at a;refine zd Tryz.func71 rfl (by kernel_rfl) (xR 25 rfl) (R.r ?_);cases a;exact fz rfl rfl
theorem ok36 {d:zj}  (b:opIsName d=some res):Sp 36 [.str d] h (yW (.bool res) h):=by
 unfold opIsName at b;refine zd Tryz.func36 rfl (by kernel_rfl) (xR 18 rfl) (R.r ?_);refine ln λa=>?_;replace a:=yA a;apply R.r;refine lng λg=>R.r ?_;refine yE b (λv3 c b=>zZ rfl sc (λf=>ok72 (λ_ v L M e=>ok71  e) (c f)) ss (R.r ?_));cases b;exact fz rfl rfl
theorem ok35 {c:zj}  (a:wy c=some res):Sp 35 [.str c] h (yW (.bool res) h):=by
 unfold wy at a;refine zd Tryz.func35 rfl (by kernel_rfl) (xR 10 rfl) (R.r ?_);refine yE a (λe b a=>zZ rfl sc (λd=>ok36 (b d)) ss (R.r ?_));cases a;exact fz rfl rfl
theorem ok73 {u:(List zj)} {f1:(zj->Option Bool)} {res:Int} (s:∀x0 v (L:List Blk) (M:List Nat),f1 x0=some v->Sp ff1 (af1++[.str x0]++kf1) (h.ext L M) (yW (.bool v) (h.ext L M))) (a:xz u f1=some res):Sp 73 [.sl 1 (u.map zI),.fn (.func ff1) af1 kf1] h (yW (.int .i64 res) h):=by
 unfold xz at a;refine z1 Tryz.func73 rfl (by kernel_rfl) (xR 19 rfl) (λb z=>?_);simp only [zG,AV.low,ud,uZ,tR] at b;have j:∀n m,h.blks.length<=n->h.toks.length<=m->zG n m af1=true:=λn m g e=>yp g e _ (by simp [b]);have f:∀n m,h.blks.length<=n->h.toks.length<=m->zG n m kf1=true:=λn m g e=>yp g e _ (by simp [b]);apply R.r;refine ln λc=>?_;replace c:=yA c;apply R.r;refine zY (λ(x:Nat) (w:Unit)=>zJ 2 5 (zJ 9 10 [(8,.int .i64 (x:Int))])) (λw=>h.ext [] []) a (λ_ _=>by simp only [zJ,qB,um,un];try rfl) (wk.le LEL.o) ?_;intro x w y a;apply R.r;refine ya gg a (λC B p i a d=>?_) (λa=>?_)
 ·apply R.r;refine ix (yb i) (R.r ?_);refine zq a (λA l a=>yq rfl (scC rfl) (s _ _ _ _ l) ss (R.r ?_));refine zt gg a (λk a=>?_) (λk a=>?_)
  ·apply R.r;cases a;replace a:=d;apply R.r;cases a;exact fz rfl rfl
  ·apply R.r;cases a;exact ⟨(),p,d,wk.le (by exact (.eq (.eq (.d4 (.drop (.eq (.cons (leV.of_eq (xC (by omega) (by omega))) (.d4 (.d4 (.drop (.drop leL.nil)))))))))))⟩
 ·apply R.r;cases a;exact fz rfl rfl
theorem ok37 {j:(List zj)} {f1:(zj->Option Bool)} (d:∀x0 v (L:List Blk) (M:List Nat),f1 x0=some v->Sp ff1 (af1++[.str x0]++kf1) (h.ext L M) (yW (.bool v) (h.ext L M))) (b:yx j f1=some res):Sp 37 [.sl 1 (j.map zI),.fn (.func ff1) af1 kf1] h (yW (.bool res) h):=by
 unfold yx at b;refine z1 Tryz.func37 rfl (by kernel_rfl) (xR 9 rfl) (λa l=>?_);simp only [zG,AV.low,ud,uZ,tR] at a;have c:∀n m,h.blks.length<=n->h.toks.length<=m->zG n m af1=true:=λn m i e=>yp i e _ (by simp [a]);have f:∀n m,h.blks.length<=n->h.toks.length<=m->zG n m kf1=true:=λn m i e=>yp i e _ (by simp [a]);apply R.r;refine zq b (λo g b=>cp (ok73 (λx0 v L M k=>by rw [xd];exact d x0 v _ _ k) g) (R.r ?_));cases b;exact fz rfl rfl
theorem ok16 {e:(List zj)}  (a:yG e=some res):Sp 16 [.sl 1 (e.map zI)] h (yW (.bool res) h):=by
 unfold yG at a;refine zd Tryz.func16 rfl (by kernel_rfl) (xR 28 rfl) (R.r ?_);refine zq a (λj c a=>cp (ok34 c) (R.r ?_));refine ln λb=>?_;replace b:=yA b;apply R.r;refine lng λi=>R.r ?_;refine yE a (λv4 d a=>zZ rfl sc (λg=>ok37 (λ_ v L M f=>ok35  f) (d g)) ss (R.r ?_));cases a;exact fz rfl rfl
theorem ok17 {d:(List zj)} {res:(List zj)}  (a:z7 d=some res):Sp 17 [.sl 1 (d.map zI)] h (OwnK h 1 res.length (res.map zI)):=by
 unfold z7 at a;refine zd Tryz.func17 rfl (by kernel_rfl) (xR 8 rfl) (R.r ?_);refine ops_nilqE rfl rfl el29 gg isl rfl (λ_=>ss) a (λf e a=>R.r ?_);refine zt gg a (λb a=>?_) (λb a=>?_)
 ·apply R.r;cases a;refine fr rfl (fin_own0 (row:=zI) (L:=([]:List zj)) ?_);exact ⟨rfl,rfl⟩
 ·apply R.r;refine za rfl (zL (es:=([]:List zj).map zI) rfl el29 ze9 rfl rfl zC .nil rfl rfl rfl) ss (R.r ?_);refine xU a (λc a=>za rfl (e_appN (m:=0) (T':=[((([]:List zj)++d)).length]) rfl rfl rfl rfl el29 el29 gg gg (zb rfl) (zb rfl) wP c rfl rfl) ss (R.r ?_));cases a;refine fr rfl (fin_own ?_);exact ⟨rfl,rfl⟩
theorem ok58 {d:(List GJ)} {res:(List GJ)}  (a:yS d=some res):Sp 58 [.sl 5 (d.map GJ.row)] h (OwnK h 5 res.length (res.map GJ.row)):=by
 unfold yS at a;refine zd Tryz.func58 rfl (by kernel_rfl) (xR 8 rfl) (R.r ?_);refine ops_nilqE rfl rfl el46 gg isl rfl (λ_=>ss) a (λf e a=>R.r ?_);refine zt gg a (λb a=>?_) (λb a=>?_)
 ·apply R.r;cases a;refine fr rfl (fin_own0 (row:=GJ.row) (L:=([]:List GJ)) ?_);exact ⟨rfl,rfl⟩
 ·apply R.r;refine za rfl (zL (es:=([]:List GJ).map GJ.row) rfl el46 ze97 rfl rfl zC .nil rfl rfl rfl) ss (R.r ?_);refine xU a (λc a=>za rfl (e_appN (m:=0) (T':=[((([]:List GJ)++d)).length]) rfl rfl rfl rfl el46 el46 gg gg (zb rfl) (zb rfl) wP c rfl rfl) ss (R.r ?_));cases a;refine fr rfl (fin_own ?_);exact ⟨rfl,rfl⟩
theorem ok59 {d:(List GF)} {res:(List GF)}  (a:yY d=some res):Sp 59 [.sl 3 (d.map GF.row)] h (OwnK h 3 res.length (res.map GF.row)):=by
 unfold yY at a;refine zd Tryz.func59 rfl (by kernel_rfl) (xR 8 rfl) (R.r ?_);refine ops_nilqE rfl rfl el47 gg isl rfl (λ_=>ss) a (λf e a=>R.r ?_);refine zt gg a (λb a=>?_) (λb a=>?_)
 ·apply R.r;cases a;refine fr rfl (fin_own0 (row:=GF.row) (L:=([]:List GF)) ?_);exact ⟨rfl,rfl⟩
 ·apply R.r;refine za rfl (zL (es:=([]:List GF).map GF.row) rfl el47 ze45 rfl rfl zC .nil rfl rfl rfl) ss (R.r ?_);refine xU a (λc a=>za rfl (e_appN (m:=0) (T':=[((([]:List GF)++d)).length]) rfl rfl rfl rfl el47 el47 gg gg (zb rfl) (zb rfl) wP c rfl rfl) ss (R.r ?_));cases a;refine fr rfl (fin_own ?_);exact ⟨rfl,rfl⟩
theorem ok81 {b:GE} {res:GE}  (a:pathsXown b=some res):Sp 81 [.agg (GE.row b)] h (yW (.agg (GE.row res)) h):=by
 unfold pathsXown at a;refine zd Tryz.func81 rfl (by kernel_rfl) (xR 12 rfl) (R.r ?_);refine wv (by kernel_rfl) (R.r ?_);refine zq a (λc e a=>yO rfl FOk.nil (by rfl) rfl (sc rfl) (xn (T':=[c.length]) (ok58 e) (m:=0) rfl rfl) ss (R.r ?_));refine zq a (λf d a=>yO rfl FOk.nil (by rfl) rfl (sc rfl) (xn (T':=[c.length,f.length]) (ok59 d) (m:=1) rfl rfl) ss (R.r ?_));refine zS rfl FOk.nil (by kernel_rfl) rfl (zQ (cs':=(GLeafRw b (wL h 0 5 (c.map GJ.row)) (.sl 3 (b.tombs.map GF.row)))) rfl ty46 gg gg (zb rfl) rfl rfl rfl rfl rfl) rfl (R.r ?_);refine zS rfl FOk.nil (by kernel_rfl) rfl (zQ (cs':=(GLeafRw b (wL h 0 5 (c.map GJ.row)) (wL h 1 3 (f.map GF.row)))) rfl ty47 gg gg (zb rfl) rfl rfl rfl rfl rfl) rfl (R.r ?_);cases a;exact fe rfl rfl (leV.agg (.eq (.eq (.eq (.eq (.eq (.eq (.eq (.cons (leV.osl _ _ _) (.cons (leV.osl _ _ _) leL.nil))))))))) rfl)
theorem ok75 {t0:(List GA)} {a:(List zj)} {res:((List GA)×(List zj))}  (b:qb t0 a=some res):Sp 75 [.sl 3 (t0.map GA.row),.sl 1 (a.map zI)] h (CloK h 96 [.cells [.sl 3 (res.1.map GA.row)],.cells [.sl 1 (res.2.map zI)]]):=by
 unfold qb at b;refine zd Tryz.func75 rfl (by kernel_rfl) (xR 6 rfl) (R.r ?_);refine za rfl (vX rfl rfl rfl) ss (R.r ?_);cases b;refine fr rfl (fin_clo (bs:=[.cells [.sl 3 (t0.map GA.row)],.cells [.sl 1 (a.map zI)]]) (by simp [AV.low,zG]) rfl (by simp [Blk.low,zG,AV.low]) ?_);exact ⟨rfl,rfl⟩
theorem ok96N (n:Nat):∀{S:Type} {Hy:S->AH} {nb nt:Nat} {w:S->GK->Option (Bool×S)} {i:Nat} {c0:(List GA)} {T:Nat} {c1:(List zj)} {W:Nat} {I:S} {res:S} (d:∀s,(Hy s).blks.length=nb) (c:∀s,(Hy s).toks.length=nt) (E:∀s,(Hy s).closed nb nt) (z:i < nb) (hy:∀s x b s' L M,w s x=some (b,s')->SpecY Tryz.prog i [.agg (GK.row x)] ((Hy s).ext L M) (yW (.bool b) ((Hy s').ext L M))) (F:∀s,(Hy s).blk T=some (.cells [.sl 3 (c0.map GA.row)])) (H:∀s,(Hy s).blk W=some (.cells [.sl 1 (c1.map zI)])),xS n S w c0 c1 I=some res->Sp 96 [.yld i,.ptr T 0,.ptr W 0] (Hy I) (yW (.tup []) (Hy res)):=by
 induction n with
 | zero=>intro S Hy nb nt w i c0 T c1 W I res d c E z hy F H a;simp [xS] at a
 | succ n ih =>
  intro S Hy nb nt w i c0 T c1 W I res d c E z hy F H a;unfold xS at a;refine zd Tryz.func96 rfl (by kernel_rfl) (xR 48 rfl) ?_;have u:∀k,i < nb+k:=λk=>tg z (tO _ _);have l:=blk_lt (F I) (d I);have f:∀k,T < nb+k:=λk=>tg l (tO _ _);have p:=blk_lt (H I) (d I);have g:∀k,W < nb+k:=λk=>tg p (tO _ _);refine zn (zc ?_);refine za rfl (n_box (d _) (n:=0) rfl gg (zb rfl) rfl rfl) ss (R.r ?_);refine za rfl (b_load rfl ty33 gg (F _) (zA rfl) (zb rfl)) ss ?_;refine ln λP=>?_;replace P:=yA P;apply R.r;refine zY (λ(n1:Nat) (s1:S)=>zJ 0 2 (zJ 4 6 (zJ 13 35 [(12,.int .i64 (n1:Int))]))) (λs1=>(Hy s1).ext [.cells [.yld i]] []) a (λ_ _=>by simp only [zJ,qB,um,un];try rfl) (wk.le LEL.o) ?_;intro n1 s1 hi1 a;apply R.r;refine ya gg a (λe o1 hl1 hx1 a N=>?_) (λa=>?_)
  ·apply R.r;refine za rfl (yR rfl el33 gg gg isl (yb hx1) (GA.row_eq _)) ss ?_;refine za rfl (qj rfl ty70.choose_spec.1 gg (yP (cs':=[.str e.name,.sl 9 (e.leaves.map GE.row),.sl 3 (e.subs.map GA.row)]) ty70.choose_spec.2 rfl rfl) (zb rfl)) ss ?_;refine za rfl (n_alloc (d _) (n:=1) rfl ze70 rfl) ss ?_;refine za rfl (n_store (d _) (cs':=[.str e.name,.sl 9 (e.leaves.map GE.row),.sl 3 (e.subs.map GA.row)]) rfl ty70.choose_spec.1 gg gg (zb rfl) rfl rfl rfl rfl rfl) rfl (R.r ?_);refine wv (by kernel_rfl) ?_;refine zp rfl rfl (b_load rfl ty29 gg (H _) (zA rfl) (zb rfl)) ss ?_;refine zq a (λv37 X a=>yO rfl FOk.nil (by rfl) rfl (sc rfl) (n_own (c _) (T':=[v37.length]) (ok17 X) (m:=0) rfl rfl) ss (R.r ?_));refine zp rfl rfl (n_load (d _) rfl ty9 gg rfl (zA rfl) (zb rfl)) ss ?_;refine zp rfl rfl (zL (es:=([e.name]:List zj).map zI) rfl el29 ze9 rfl rfl (zx gg zC) (.cons (zb rfl) .nil) rfl rfl rfl) ss ?_;refine xU a (λhm38 a=>draw_okH rfl FOk.nil (by rfl) rfl (n_appT (c _) (j:=0) (T':=[((v37++([e.name]:List zj))).length]) rfl rfl rfl rfl el29 el29 gg gg (zb rfl) (zb rfl) w5 hm38 rfl rfl) ss (R.r ?_));refine za rfl (n_load (d _) rfl ty68 gg rfl (zA rfl) (zb rfl)) ss ?_;refine ln λJ=>?_;replace J:=yA J;apply R.r;refine zY (λ(n2:Nat) (s2:S)=>zJ 0 2 (zJ 7 3 (zJ 13 10 (zJ 26 22 [(4,.any),(25,.int .i64 (n2:Int))])))) (λs2=>(Hy s2).ext [.cells [.yld i],.cells [.str e.name,.sl 9 (e.leaves.map GE.row),.sl 3 (e.subs.map GA.row)]] [((v37++([e.name]:List zj))).length]) a (λ_ _=>by simp only [zJ,qB,um,un];try rfl) (wk.le LEL.o) ?_;intro n2 s2 hi2 a;apply R.r;refine ya gg a (λx2 o2 hl2 hx2 a hK2=>?_) (λa=>?_)
   ·apply R.r;refine ix (yb hx2) ?_;refine za rfl (qj rfl ty49.choose_spec.1 gg (yP (cs':=(GE.row x2)) ty49.choose_spec.2 rfl rfl) (zb rfl)) ss ?_;refine za rfl (n_alloc (d _) (n:=2) rfl ze49 rfl) ss ?_;refine za rfl (n_store (d _) (cs':=(GE.row x2)) rfl ty49.choose_spec.1 gg gg (zb rfl) rfl rfl rfl rfl rfl) rfl (R.r ?_);refine yB [4] [] trivial mixed (by kernel_rfl) ?_;refine zp rfl rfl (n_load (d _) rfl ty160 gg rfl (zA rfl) (zb rfl)) ss (R.r ?_);refine zq a (λY V a=>yO rfl (FOk.cons (.inr (yj trivial)) FOk.nil) (by rfl) rfl (sc rfl) (n_own (c _) (T':=[((v37++([e.name]:List zj))).length,Y.length]) ((ok17 V).le (.cons (leV.osl _ _ _) leL.nil)) (m:=1) rfl rfl) ss ?_);refine zp rfl rfl (n_load (d _) rfl ty49.choose_spec.1 gg rfl (yP (cs':=(GE.row x2)) ty49.choose_spec.2 rfl rfl) (zb rfl)) ss ?_;refine zq a (λC hv52 a=>zO rfl rfl (λ_=>sc rfl) (by rintro _ ⟨B2,T2,rfl,hk2⟩;exact ok81 hv52) ss ?_);refine zp rfl rfl (xc (cs':=[.osl (some (nt+1)) 1 (Y.map zI),.int .u8 C.typ,.int .i64 C.n,.int .u64 C.time,.int .u8 C.dot.actor.rep,.int .u32 C.dot.actor.inc,.int .u64 C.dot.seq,.str C.text,.sl 5 (C.items.map GJ.row),.sl 3 (C.tombs.map GF.row)]) rfl su101 ze101 pl101 (zx gg (zx gg zC)) (.cons (zb rfl) (.cons (zb rfl) .nil)) rfl rfl) ss ?_;refine zq a (λv53 Q a=>draw_round rfl (FOk.cons (.inl (by kernel_rfl)) FOk.nil) (by kernel_rfl) rfl (s_yield rfl rfl gg (zr gg zB) (.cons (zb rfl) .nil)) ((hy _ _ _ _ _ _ Q).le (.cons (leV.agg (.cons (leV.osl _ _ _) (.eq (.eq (.eq (.eq (.eq (.eq (.eq (.eq (.eq leL.nil)))))))))) rfl) leL.nil)) ss (R.r ?_));refine zt gg a (λhc54 a=>?_) (λhc54 a=>?_)
    ·apply R.r;cases a;replace a:=hK2;apply R.r;cases a;replace a:=N;apply R.r;cases a;refine fr rfl (fin_exts (d _) (c _) (d _) (c _) (E _) (leV.refl _) rfl ?_);exact ⟨rfl,rfl⟩
    ·apply R.r;cases a;exact ⟨v53.2,hl2,hK2,wk.trans (wk.le (by exact (.drop (.drop (.eq (.eq (.drop (.eq (.eq (.drop (.drop (.drop (.eq (.eq (.eq (.d4 (.d4 (.drop (.drop (.eq (.eq (.cons (leV.of_eq (xC (by omega) (by omega))) (.d16 (.d4 (.drop (.drop leL.nil)))))))))))))))))))))))))) (wk_ext3s (d _) (c _) (d _) (c _) (E _) (by simp [zG,AV.low,z,u,l,f,p,g]) rfl rfl (by simp [Blk.low,zG,AV.low,z,u,l,f,p,g]))⟩
   ·apply R.r;refine za rfl (n_load (d _) rfl ty33 gg rfl (zA rfl) (zb rfl)) ss (R.r ?_);refine zq a (λv55 hv55 a=>xI rfl (sc rfl) (clo_ext (d _) (n:=2) (B':=[.cells [.yld i],.cells [.str e.name,.sl 9 (e.leaves.map GE.row),.sl 3 (e.subs.map GA.row)],.cells [.sl 3 (v55.1.map GA.row)],.cells [.sl 1 (v55.2.map zI)]]) (caps:=[.ptr (nb+2) 0,.ptr (nb+3) 0]) ((ok75 hv55).le (.eq (.cons (leV.osl _ _ _) leL.nil))) rfl rfl rfl) ss (R.r ?_));refine r_range (λ(D:S)=>(Hy D)) (λ(D:S)=>[.cells [.yld i],.cells [.str e.name,.sl 9 (e.leaves.map GE.row),.sl 3 (e.subs.map GA.row)],.cells [.sl 3 (v55.1.map GA.row)],.cells [.sl 1 (v55.2.map zI)]]) (λ(D:S)=>[((v37++([e.name]:List zj))).length]) s2 a (wk.le (by exact (.drop (.drop (.eq (.eq (.d4 (.drop (.drop (.eq (.eq (.eq (.d16 (.d4 (.d4 (.d4 (.eq (.d4 (.drop (.drop leL.nil)))))))))))))))))))) (λ_=>(d _)) rfl rfl rfl (λ_=>rfl) rfl gg rfl (λO K r3 hr3q=>?_) (λD H1 U a=>?_) (λj3 D H1 U a=>?_)
    ·have y:∀q1 q2,(O q1 q2).low (nb+5) (nt+1)=true:=by intro q1 q2;rw [K];simp [Blk.low,zG,AV.low,z,u,l,f,p,g]
     refine Spec.mono (ih (Hy:=(fam (λ(D:S)=>(Hy D)) (λ(D:S)=>[.cells [.yld i],.cells [.str e.name,.sl 9 (e.leaves.map GE.row),.sl 3 (e.subs.map GA.row)],.cells [.sl 3 (v55.1.map GA.row)],.cells [.sl 1 (v55.2.map zI)]]) (λ(D:S)=>[((v37++([e.name]:List zj))).length]) O)) (nb:=nb+5) (nt:=nt+1) (λ_=>by simp only [fam];rw [ext_len (d _)];rfl) (λ_=>by simp only [fam];rw [ext_tlen (c _)];rfl) (λ_=>closed_ext (E _) (tO _ _) (tO _ _) (by simp only [tV,tf,rN,tL,uh,uC,Nat.reduceAdd,uV,y] <;> simp [Blk.low,zG,AV.low,z,u,l,f,p,g])) (tX _) (y_body K (xs:=λ(x:GK)=>[.agg (GK.row x)]) (λ_=>(d _)) (λ_=>rfl) rfl (λ_=>rfl) (λ_=>by simp only [setL,um,un];try rfl) (λD x3 o3 L3 M3 H1 U a=>?_)) (λ_=>by simp only [fam];exact n_blk (j:=2) (d _) rfl) (λ_=>by simp only [fam];exact n_blk (j:=3) (d _) rfl) hr3q) (λ_ _ h=>h.2);obtain rfl:H1=(((Hy D).ext ([.cells [.yld i],.cells [.str e.name,.sl 9 (e.leaves.map GE.row),.sl 3 (e.subs.map GA.row)],.cells [.sl 3 (v55.1.map GA.row)],.cells [.sl 1 (v55.2.map zI)]]++[O .ready none]) [((v37++([e.name]:List zj))).length]).ext L3 M3).ext [] []:=U;refine zc ?_;refine za rfl (n_alloc (qK (d _) rfl) (n:=0) rfl ze101 rfl) ss ?_;refine za rfl (n_store (qK (d _) rfl) (cs':=(GK.row x3)) rfl ty101.choose_spec.1 gg gg (zb rfl) rfl rfl rfl rfl rfl) rfl (R.r ?_);refine q_assign (d _) rfl (R.r ?_);refine za rfl (d_load (d _) rfl ty160 gg rfl (zA rfl) (zb rfl)) ss ?_;refine za rfl (n_load (qK (d _) rfl) rfl ty101.choose_spec.1 gg rfl (yP (cs':=(GK.row x3)) ty101.choose_spec.2 rfl rfl) (zb rfl)) ss ?_;refine zq a (λv64 Z a=>ops_round rfl (s_yield rfl rfl gg (zr gg zB) (.cons (zb rfl) .nil)) (SpecY.deep λA B=>hy _ _ _ _ A B Z) ss (R.r ?_));refine zt gg a (λhc65 a=>?_) (λhc65 a=>?_)
     ·apply R.r;cases a;exact q_roundR (E _) (d _) (c _) (d _) (c _) rfl rfl rfl rfl rfl rfl rfl (by simp only [tV,tf,rN,tL,uh,uC,Nat.reduceAdd,uV,y] <;> simp [Blk.low,zG,AV.low,z,u,l,f,p,g])
     ·apply R.r;cases a;exact q_roundN (E _) (d _) (c _) (d _) (c _) rfl rfl rfl rfl rfl rfl rfl (by simp only [tV,tf,rN,tL,uh,uC,Nat.reduceAdd,uV,y] <;> simp [Blk.low,zG,AV.low,z,u,l,f,p,g])
    ·obtain rfl:H1=(Hy D).ext [.cells [.yld i],.cells [.str e.name,.sl 9 (e.leaves.map GE.row),.sl 3 (e.subs.map GA.row)],.cells [.sl 3 (v55.1.map GA.row)],.cells [.sl 1 (v55.2.map zI)],.dead] [((v37++([e.name]:List zj))).length]:=U;apply R.r;cases a;exact ⟨D,hl1,N,wk.trans (wk.le (by exact (.drop (.drop (.eq (.eq (.d4 (.drop (.drop (.eq (.eq (.cons (leV.of_eq (xC (by omega) (by omega))) (.d16 (.d16 (.drop (.drop (.drop leL.nil))))))))))))))))) (wk_ext3s (d _) (c _) (d _) (c _) (E _) (by simp [zG,AV.low,z,u,l,f,p,g]) rfl rfl (by simp [Blk.low,zG,AV.low,z,u,l,f,p,g]))⟩
    ·obtain rfl:H1=(Hy D).ext [.cells [.yld i],.cells [.str e.name,.sl 9 (e.leaves.map GE.row),.sl 3 (e.subs.map GA.row)],.cells [.sl 3 (v55.1.map GA.row)],.cells [.sl 1 (v55.2.map zI)],.dead] [((v37++([e.name]:List zj))).length]:=U;refine jmp1 (G:=λj=>jumpQ _ j _ _) a (λa=>jmp_ret ?_);apply R.r;cases a;replace a:=N;apply R.r;cases a;refine fr rfl (fin_exts (d _) (c _) (d _) (c _) (E _) (leV.refl _) rfl ?_);exact ⟨rfl,rfl⟩
  ·apply R.r;cases a;refine fr rfl (fin_exts (d _) (c _) (d _) (c _) (E _) (leV.refl _) rfl ?_);exact ⟨rfl,rfl⟩
theorem ok96 {S:Type} {Hy:S->AH} {nb nt:Nat} {a:S->GK->Option (Bool×S)} {c:Nat} {k:(List GA)} {m:Nat} {l:(List zj)} {o:Nat} {j:S} {res:S} (z:∀s,(Hy s).blks.length=nb) (d:∀s,(Hy s).toks.length=nt) (p:∀s,(Hy s).closed nb nt) (e:c < nb) (w:∀s x b i L M,a s x=some (b,i)->SpecY Tryz.prog c [.agg (GK.row x)] ((Hy s).ext L M) (yW (.bool b) ((Hy i).ext L M))) (f:∀s,(Hy s).blk m=some (.cells [.sl 3 (k.map GA.row)])) (g:∀s,(Hy s).blk o=some (.cells [.sl 1 (l.map zI)])) (u:pathsXrowsC1 S a k l j=some res):Sp 96 [.yld c,.ptr m 0,.ptr o 0] (Hy j) (yW (.tup []) (Hy res)):=by
 obtain ⟨n,y⟩:=anyN_is u;exact ok96N n z d p e w f g y
theorem ok95 {H:(List GK)} {u:(S:Type)->(S->GK->Option (Bool×S))->S->Option S} {i:FuncId} {g f:List AV} {res:(List GK)} (z:∀(S:Type) (Hy:S->AH) (nb nt:Nat),(∀s,(Hy s).blks.length=nb)->(∀s,(Hy s).toks.length=nt)->(∀s,(Hy s).closed nb nt)->(∀s,∃L M,Hy s=h.ext L M)->∀(y:S->GK->Option (Bool×S)) (w:Nat),w < nb->(∀s x b B L M,y s x=some (b,B)->SpecY Tryz.prog w [.agg (GK.row x)] ((Hy s).ext L M) (yW (.bool b) ((Hy B).ext L M)))->∀s B,u S y s=some B->Sp i (g++[.yld w]++f) (Hy s) (yW (.tup []) (Hy B))) (l:wd H u=some res):Sp 95 [.osl none 10 (H.map GK.row),.fn (.func i) g f] h (yW (.sl 10 (res.map GK.row)) h):=by
 unfold wd at l;refine z1 Tryz.func95 rfl (by kernel_rfl) (xR 13 rfl) (λk I=>?_);simp only [zG,AV.low,ud,uZ,tR] at k;have c:∀n m,h.blks.length<=n->h.toks.length<=m->zG n m g=true:=λn m F E=>yp F E _ (by simp [k]);have a:∀n m,h.blks.length<=n->h.toks.length<=m->zG n m f=true:=λn m F E=>yp F E _ (by simp [k]);apply R.r;refine r_range (λ(d:(List GK))=>h) (λ(d:(List GK))=>[.cells [wL h 0 10 (d.map GK.row)]]) (λ(d:(List GK))=>[d.length]) H l (wk.trans (wk_tokB (j:=0) rfl y8 rfl st0 rfl rfl) (wk.le (by exact (.drop (.drop (.eq (.drop (.drop (.drop (.eq (.d4 (.drop (.drop leL.nil))))))))))))) (λ_=>rfl) rfl rfl rfl (λ_=>rfl) rfl gt6 rfl (λo p O D=>?_) (λd H1 C l=>?_) (λN d H1 C l=>?_)
 ·have e:∀J K,(o J K).low (h.blks.length+2) (h.toks.length+1)=true:=by intro J K;rw [p];simp [Blk.low,zG,AV.low,c,a]
  refine Spec.mono (z _ (fam (λ(d:(List GK))=>h) (λ(d:(List GK))=>[.cells [wL h 0 10 (d.map GK.row)]]) (λ(d:(List GK))=>[d.length]) o) (h.blks.length+2) (h.toks.length+1) (λ_=>by simp only [fam];rw [ext_len rfl];rfl) (λ_=>by simp only [fam];rw [ext_tlen rfl];rfl) (λ_=>closed_ext I (tO _ _) (tO _ _) (by simp only [tV,tf,rN,tL,uh,uC,Nat.reduceAdd,uV,e] <;> simp [Blk.low,zG,AV.low,c,a])) (λ_=>⟨_,_,rfl⟩) _ _ (tX _) (y_body p (xs:=λ(x:GK)=>[.agg (GK.row x)]) (λ_=>rfl) (λ_=>rfl) rfl (λ_=>rfl) (λ_=>by simp only [setL,um,un];try rfl) (λd A P L1 M1 H1 C l=>?_)) _ _ D) (λ_ _ h=>h.2);obtain rfl:H1=((h.ext ([.cells [wL h 0 10 (d.map GK.row)]]++[o .ready none]) [d.length]).ext L1 M1).ext [] []:=C;refine zc ?_;refine za rfl (n_alloc (qK rfl rfl) (n:=0) rfl ze101 rfl) ss ?_;refine za rfl (n_store (qK rfl rfl) (cs':=(GK.row A)) rfl ty101.choose_spec.1 gg gg (zb rfl) rfl rfl rfl rfl rfl) rfl (R.r ?_);refine q_assign rfl rfl (R.r ?_);refine za rfl (d_load rfl rfl ty98 gg rfl (zA rfl) (zb rfl)) ss ?_;refine za rfl (n_load (qK rfl rfl) rfl ty101.choose_spec.1 gg rfl (yP (cs':=(GK.row A)) ty101.choose_spec.2 rfl rfl) (zb rfl)) ss ?_;refine za rfl (zL (es:=([A]:List GK).map GK.row) rfl el98 ze101 rfl rfl (zx gg zC) (.cons (zb rfl) .nil) rfl rfl rfl) ss ?_;refine xU l (λG l=>za rfl (d_appT (j:=0) (T':=[((d++([A]:List GK))).length]) rfl rfl rfl rfl rfl el98 el98 gg gg (zb rfl) (zb rfl) w5 G rfl rfl) ss ?_);refine za rfl (d_store (A':=[.cells [wL h 0 10 ((d++([A]:List GK)).map GK.row)]]++[o .busy none]) (cs':=[wL h 0 10 ((d++([A]:List GK)).map GK.row)]) rfl rfl ty98 gg gg (zb rfl) rfl rfl rfl rfl rfl rfl) rfl (R.r ?_);cases l;exact q_roundN I rfl rfl rfl rfl rfl rfl rfl rfl rfl rfl rfl (by simp only [tV,tf,rN,tL,uh,uC,Nat.reduceAdd,uV,e] <;> simp [Blk.low,zG,AV.low,c,a])
 ·obtain rfl:H1=h.ext [.cells [wL h 0 10 (d.map GK.row)],.dead] [d.length]:=C;apply R.r;cases l;exact fe rfl rfl (leV.osl _ _ _)
 ·obtain rfl:H1=h.ext [.cells [wL h 0 10 (d.map GK.row)],.dead] [d.length]:=C;cases l
theorem ok74 {i:(S:Type)->(S->GK->Option (Bool×S))->S->Option S} {g:FuncId} {c a:List AV} {res:(List GK)} (k:∀(S:Type) (Hy:S->AH) (nb nt:Nat),(∀s,(Hy s).blks.length=nb)->(∀s,(Hy s).toks.length=nt)->(∀s,(Hy s).closed nb nt)->(∀s,∃L M,Hy s=h.ext L M)->∀(y:S->GK->Option (Bool×S)) (f:Nat),f < nb->(∀s x b j L M,y s x=some (b,j)->SpecY Tryz.prog f [.agg (GK.row x)] ((Hy s).ext L M) (yW (.bool b) ((Hy j).ext L M)))->∀s j,i S y s=some j->Sp g (c++[.yld f]++a) (Hy s) (yW (.tup []) (Hy j))) (l:wO i=some res):Sp 74 [.fn (.func g) c a] h (yW (.sl 10 (res.map GK.row)) h):=by
 unfold wO at l;refine z1 Tryz.func74 rfl (by kernel_rfl) (xR 5 rfl) (λd C=>?_);simp only [zG,AV.low,ud,uZ,tR] at d;have p:∀n m,h.blks.length<=n->h.toks.length<=m->zG n m c=true:=λn m A w=>yp A w _ (by simp [d]);have o:∀n m,h.blks.length<=n->h.toks.length<=m->zG n m a=true:=λn m A w=>yp A w _ (by simp [d]);apply R.r;refine zq l (λG z l=>cp (ok95 (λS Hy nb nt F u C D y f B E s j l=>k S Hy nb nt F u C (λs=>by obtain ⟨L,M,e⟩:=D s;exact ⟨_,_,by rw [e,xd]⟩) y f B E s j l) z) (R.r ?_));cases l;exact fz rfl rfl
theorem ok108 {a:Int}  (b:qF a=some res):Sp 108 [.int .u64 a] h (yW (.bool res) h):=by
 unfold qF at b;refine zd Tryz.func108 rfl (by kernel_rfl) (xR 9 rfl) (R.r ?_);cases b;exact fz rfl rfl
theorem ok140 {a0:GL}  (a:dotMayActor a0=some res):Sp 140 [.agg (GL.row a0)] h (yW (.bool res) h):=by
 unfold dotMayActor at a;refine zd Tryz.func140 rfl (by kernel_rfl) (xR 16 rfl) (R.r ?_);cases a;exact fz rfl rfl
theorem ok109 {c:GF}  (a:dotMay c=some res):Sp 109 [.agg (GF.row c)] h (yW (.bool res) h):=by
 unfold dotMay at a;refine zd Tryz.func109 rfl (by kernel_rfl) (xR 16 rfl) (R.r ?_);refine zq a (λd b a=>cp (ok140 b) (R.r ?_));cases a;exact fz rfl rfl
theorem ok110 {b:zj}  (c:vB b=some res):Sp 110 [.str b] h (yW (.bool res) h):=by
 unfold vB at c;refine zd Tryz.func110 rfl (by kernel_rfl) (xR 6 rfl) (R.r ?_);refine ln λa=>?_;replace a:=yA a;apply R.r;cases c;exact fz rfl rfl
theorem ok142 {p:(List GJ)}  (b:leafXtwice p=some res):Sp 142 [.sl 5 (p.map GJ.row)] h (yW (.bool res) h):=by
 unfold leafXtwice at b;refine zd Tryz.func142 rfl (by kernel_rfl) (xR 26 rfl) (R.r ?_);refine za rfl (e_makeMap (n:=0) rfl rfl) ss (R.r ?_);refine ln λe=>?_;replace e:=yA e;apply R.r;refine zY (λ(s:Nat) (a:List (GF×Int))=>zJ 1 2 (zJ 4 3 (zJ 10 16 [(9,.int .i64 (s:Int))]))) (λa=>h.ext [.mapo (a.map (yd (λx=>AV.agg (GF.row x)) (AV.int .i64))) 0] []) b (λ_ _=>by simp only [zJ,qB,um,un];try rfl) (wk.le LEL.o) ?_;intro s a u b;apply R.r;refine ya gg b (λc w g l b i=>?_) (λb=>?_)
 ·apply R.r;refine ix (yb l) (R.r ?_);refine r_drawnF [3] (λ_=>MapE h 0 (a.map (yd (λx=>AV.agg (GF.row x)) (AV.int .i64))) ((ment GF.eqb (0:Int) a c.dot).map (yd (λx=>AV.agg (GF.row x)) (AV.int .i64)))) (λ_=>⟨_,_,rfl,.inl rfl⟩) mixed (by kernel_rfl) (R.r ?_);refine vR rfl rfl (e_lookupF (m:=a) (k:=c.dot) (d:=(0:Int)) (j:=0) (kv:=(λx=>AV.agg (GF.row x))) (vv:=(AV.int .i64)) rfl Tryz.underlying208 kq45 az3 gg gg) ss (R.r ?_);refine zS rfl (FOk.all ⟨_,_,rfl,.inr rfl⟩) (by kernel_rfl) rfl (e_entry (m:=a) (k:=c.dot) (d:=(0:Int)) (j:=0) (kv:=(λx=>AV.agg (GF.row x))) (vv:=(AV.int .i64)) rfl Tryz.underlying208 kq45 az3 gg rfl gg rfl) ss (R.r ?_);refine zS rfl (FOk.skip (by kernel_rfl)) (by kernel_rfl) rfl (e_entryStore (m:=a) (k:=c.dot) (d:=(0:Int)) (v:=(IntKind.wrap .i64 ((zo GF.eqb (0:Int) a c.dot)+(1:Int)))) (j:=0) (eq:=GF.eqb) (kv:=(λx=>AV.agg (GF.row x))) (vv:=(AV.int .i64)) rfl gg rfl gg rfl gg rfl rfl) rfl (R.r ?_);cases b;exact ⟨(mput GF.eqb a c.dot (IntKind.wrap .i64 ((zo GF.eqb (0:Int) a c.dot)+(1:Int)))),g,i,wk.trans (wk.le (by exact (.eq (.drop (.drop (.eq (.drop (.drop (.drop (.eq (.eq (.cons (leV.of_eq (xC (by omega) (by omega))) (.d16 leL.nil))))))))))))) (yk (by simp [zG,AV.low]) rfl rfl (by simp [Blk.low,zG,AV.low,GF.row,yd]))⟩
 ·apply R.r;refine ops_mlen (m:=a) (j:=0) (kv:=(λx=>AV.agg (GF.row x))) (vv:=(AV.int .i64)) rfl rfl rfl rfl rfl Tryz.underlying208 gg rfl ss (R.r ?_);refine ln λf=>?_;replace f:=yA f;apply R.r;cases b;exact fz rfl rfl
theorem ok83 {b:(List Int)} {res:Int}  (a:qL b=some res):Sp 83 [.sl 1 (b.map (intRow .i64))] h (yW (.int .i64 res) h):=by
 unfold qL at a;refine zd Tryz.func83 rfl (by kernel_rfl) (xR 18 rfl) (R.r ?_);refine ln λc=>?_;replace c:=yA c;apply R.r;refine zY (λ(i:Nat) (j:Unit)=>zJ 0 3 (zJ 4 2 (zJ 9 9 [(8,.int .i64 (i:Int))]))) (λj=>h.ext [] []) a (λ_ _=>by simp only [zJ,qB,um,un];try rfl) (wk.le LEL.o) ?_;intro i j k a;apply R.r;refine ya gg a (λl m e g a d=>?_) (λa=>?_)
 ·apply R.r;refine ix (yb g) (R.r ?_);refine zt gg a (λf a=>?_) (λf a=>?_)
  ·apply R.r;cases a;replace a:=d;apply R.r;cases a;exact fz rfl rfl
  ·apply R.r;cases a;exact ⟨(),e,d,wk.le (by exact (.drop (.drop (.drop (.eq (.drop (.drop (.eq (.eq (.cons (leV.of_eq (xC (by omega) (by omega))) (.d4 (.d4 (.drop leL.nil)))))))))))))⟩
 ·apply R.r;cases a;exact fz rfl rfl
theorem ok163  (a:wq x0=some res):Sp 163 [.int .u64 x0] h (yW (.bool res) h):=by
 unfold wq at a;refine zd Tryz.func163 rfl (by kernel_rfl) (xR 6 rfl) (R.r ?_);cases a;exact fz rfl rfl
theorem ok157 {res:Int}  (a:xu x0 y1=some res):Sp 157 [.int .u64 x0,.int .u64 y1] h (yW (.int .i64 res) h):=by
 unfold xu at a;refine zd Tryz.func157 rfl (by kernel_rfl) (xR 20 rfl) (R.r ?_);refine zq a (λk f a=>cp (ok163 f) (R.r ?_));refine zq a (λj c a=>cp (ok163 c) (R.r ?_));refine zt gg a (λi a=>?_) (λi a=>?_)
 ·apply R.r;refine zt gg a (λd a=>?_) (λd a=>?_)
  ·apply R.r;cases a;exact fz rfl rfl
  ·apply R.r;cases a;exact fz rfl rfl
 ·apply R.r;refine zt gg a (λb a=>?_) (λb a=>?_)
  ·apply R.r;cases a;exact fz rfl rfl
  ·apply R.r;refine zt gg a (λe a=>?_) (λe a=>?_)
   ·apply R.r;cases a;exact fz rfl rfl
   ·apply R.r;refine zt gg a (λg a=>?_) (λg a=>?_)
    ·apply R.r;cases a;exact fz rfl rfl
    ·apply R.r;cases a;exact fz rfl rfl
theorem ok165  (a:wr x0=some res):Sp 165 [.int .u32 x0] h (yW (.bool res) h):=by
 unfold wr at a;refine zd Tryz.func165 rfl (by kernel_rfl) (xR 6 rfl) (R.r ?_);cases a;exact fz rfl rfl
theorem ok162 {res:Int}  (a:x7 x0 y1=some res):Sp 162 [.int .u32 x0,.int .u32 y1] h (yW (.int .i64 res) h):=by
 unfold x7 at a;refine zd Tryz.func162 rfl (by kernel_rfl) (xR 20 rfl) (R.r ?_);refine zq a (λk f a=>cp (ok165 f) (R.r ?_));refine zq a (λj c a=>cp (ok165 c) (R.r ?_));refine zt gg a (λi a=>?_) (λi a=>?_)
 ·apply R.r;refine zt gg a (λd a=>?_) (λd a=>?_)
  ·apply R.r;cases a;exact fz rfl rfl
  ·apply R.r;cases a;exact fz rfl rfl
 ·apply R.r;refine zt gg a (λb a=>?_) (λb a=>?_)
  ·apply R.r;cases a;exact fz rfl rfl
  ·apply R.r;refine zt gg a (λe a=>?_) (λe a=>?_)
   ·apply R.r;cases a;exact fz rfl rfl
   ·apply R.r;refine zt gg a (λg a=>?_) (λg a=>?_)
    ·apply R.r;cases a;exact fz rfl rfl
    ·apply R.r;cases a;exact fz rfl rfl
theorem ok93  (a:wJ x0=some res):Sp 93 [.int .u8 x0] h (yW (.bool res) h):=by
 unfold wJ at a;refine zd Tryz.func93 rfl (by kernel_rfl) (xR 6 rfl) (R.r ?_);cases a;exact fz rfl rfl
theorem ok69 {res:Int}  (a:xh x0 y1=some res):Sp 69 [.int .u8 x0,.int .u8 y1] h (yW (.int .i64 res) h):=by
 unfold xh at a;refine zd Tryz.func69 rfl (by kernel_rfl) (xR 20 rfl) (R.r ?_);refine zq a (λk f a=>cp (ok93 f) (R.r ?_));refine zq a (λj c a=>cp (ok93 c) (R.r ?_));refine zt gg a (λi a=>?_) (λi a=>?_)
 ·apply R.r;refine zt gg a (λd a=>?_) (λd a=>?_)
  ·apply R.r;cases a;exact fz rfl rfl
  ·apply R.r;cases a;exact fz rfl rfl
 ·apply R.r;refine zt gg a (λb a=>?_) (λb a=>?_)
  ·apply R.r;cases a;exact fz rfl rfl
  ·apply R.r;refine zt gg a (λe a=>?_) (λe a=>?_)
   ·apply R.r;cases a;exact fz rfl rfl
   ·apply R.r;refine zt gg a (λg a=>?_) (λg a=>?_)
    ·apply R.r;cases a;exact fz rfl rfl
    ·apply R.r;cases a;exact fz rfl rfl
theorem ok156 {a0:GL} {f:GL} {res:Int}  (a:qI a0 f=some res):Sp 156 [.agg (GL.row a0),.agg (GL.row f)] h (yW (.int .i64 res) h):=by
 unfold qI at a;refine zd Tryz.func156 rfl (by kernel_rfl) (xR 17 rfl) (R.r ?_);refine yB [4,9,11] [] trivial mixed (by kernel_rfl) (R.r ?_);refine zq a (λi e a=>zO rfl rfl (λ_=>sc rfl) (by rintro _ ⟨B2,T2,rfl,b⟩;exact ok69 e) ss (R.r ?_));refine zq a (λg c a=>zO rfl rfl (λ_=>sc rfl) (by rintro _ ⟨B2,T2,rfl,b⟩;exact ok162 c) ss ?_);refine zp rfl rfl (zL (es:=([i,g]:List Int).map (intRow .i64)) rfl el73 ze3 rfl rfl (zx gg (zx gg zC)) (.cons (zb rfl) (.cons (zb rfl) .nil)) rfl rfl rfl) ss ?_;refine zq a (λv3 d a=>zO rfl rfl (λ_=>sc rfl) (by rintro _ ⟨B2,T2,rfl,b⟩;exact (ok83 d).le (.cons (leV.osl _ _ _) leL.nil)) ss (R.r ?_));cases a;exact fz rfl rfl
theorem ok143 {a0:GF} {f:GF} {res:Int}  (a:ql a0 f=some res):Sp 143 [.agg (GF.row a0),.agg (GF.row f)] h (yW (.int .i64 res) h):=by
 unfold ql at a;refine zd Tryz.func143 rfl (by kernel_rfl) (xR 17 rfl) (R.r ?_);refine yB [4,9,11] [] trivial mixed (by kernel_rfl) (R.r ?_);refine zq a (λi e a=>zO rfl rfl (λ_=>sc rfl) (by rintro _ ⟨B2,T2,rfl,b⟩;exact ok156 e) ss (R.r ?_));refine zq a (λg c a=>zO rfl rfl (λ_=>sc rfl) (by rintro _ ⟨B2,T2,rfl,b⟩;exact ok157 c) ss ?_);refine zp rfl rfl (zL (es:=([i,g]:List Int).map (intRow .i64)) rfl el73 ze3 rfl rfl (zx gg (zx gg zC)) (.cons (zb rfl) (.cons (zb rfl) .nil)) rfl rfl rfl) ss ?_;refine zq a (λv3 d a=>zO rfl rfl (λ_=>sc rfl) (by rintro _ ⟨B2,T2,rfl,b⟩;exact (ok83 d).le (.cons (leV.osl _ _ _) leL.nil)) ss (R.r ?_));cases a;exact fz rfl rfl
theorem ok155 {a0:Int} {g:GF} {i:Int} {f:GF} {res:Int}  (a:leafXcompare a0 g i f=some res):Sp 155 [.int .u64 a0,.agg (GF.row g),.int .u64 i,.agg (GF.row f)] h (yW (.int .i64 res) h):=by
 unfold leafXcompare at a;refine zd Tryz.func155 rfl (by kernel_rfl) (xR 17 rfl) (R.r ?_);refine yB [2,5,7] [] trivial mixed (by kernel_rfl) (R.r ?_);refine zq a (λk e a=>zO rfl rfl (λ_=>sc rfl) (by rintro _ ⟨B2,T2,rfl,b⟩;exact ok157 e) ss (R.r ?_));refine zq a (λj c a=>zO rfl rfl (λ_=>sc rfl) (by rintro _ ⟨B2,T2,rfl,b⟩;exact ok143 c) ss ?_);refine zp rfl rfl (zL (es:=([k,j]:List Int).map (intRow .i64)) rfl el73 ze3 rfl rfl (zx gg (zx gg zC)) (.cons (zb rfl) (.cons (zb rfl) .nil)) rfl rfl rfl) ss ?_;refine zq a (λv3 d a=>zO rfl rfl (λ_=>sc rfl) (by rintro _ ⟨B2,T2,rfl,b⟩;exact (ok83 d).le (.cons (leV.osl _ _ _) leL.nil)) ss (R.r ?_));cases a;exact fz rfl rfl
theorem ok141 {b:Int} {f:GF} {a:Int} {e:GF}  (c:leafAhead b f a e=some res):Sp 141 [.int .u64 b,.agg (GF.row f),.int .u64 a,.agg (GF.row e)] h (yW (.bool res) h):=by
 unfold leafAhead at c;refine zd Tryz.func141 rfl (by kernel_rfl) (xR 15 rfl) (R.r ?_);refine zq c (λg d c=>cp (ok155 d) (R.r ?_));cases c;exact fz rfl rfl
theorem ok111 {w:(List GJ)} {b:Bool}  (a:qh w b=some res):Sp 111 [.sl 5 (w.map GJ.row),.bool b] h (yW (.bool res) h):=by
 unfold qh at a;refine zd Tryz.func111 rfl (by kernel_rfl) (xR 66 rfl) (R.r ?_);refine ln λe=>?_;replace e:=yA e;apply R.r;refine zY (λ(y:Nat) (x:Unit)=>zJ 2 5 (zJ 10 56 [(9,.int .i64 (y:Int))])) (λx=>h.ext [] []) a (λ_ _=>by simp only [zJ,qB,um,un];try rfl) (wk.le LEL.o) ?_;intro y x z a;apply R.r;refine ya gg a (λG F u s a d=>?_) (λa=>?_)
 ·apply R.r;refine ix (yb s) (R.r ?_);refine zq a (λA p a=>cp (ok109 p) (R.r ?_));refine yE a (λE f a=>zZ rfl sc (λc=>ok110 (f c)) ss (R.r ?_));refine yE a (λC g a=>zZ rfl sc (λc=>ok108 (g c)) ss ?_);refine ym rfl (λc=>zN rfl (zX gg c) (zX gg c) (bin_boolN ty4)) ss (R.r ?_);refine zt gg a (λl a=>?_) (λl a=>?_)
  ·apply R.r;cases a;replace a:=d;apply R.r;cases a;exact fz rfl rfl
  ·apply R.r;refine wv (by kernel_rfl) (R.r ?_);refine xU a (λn a=>dgix n (R.r ?_));refine xU a (λm a=>dgix m (R.r ?_));refine yE a (λD k a=>qk rfl rfl sc (λc=>ok141 (k c)) ss (R.r ?_));refine zt gg a (λj a=>?_) (λj a=>?_)
   ·apply R.r;cases a;replace a:=d;apply R.r;cases a;exact fz rfl rfl
   ·apply R.r;cases a;exact ⟨(),u,d,wk.trans (wk.le (by exact (.eq (.eq (.d4 (.drop (.eq (.eq (.cons (leV.of_eq (xC (by omega) (by omega))) (.d16 (.d16 (.d16 (.d4 (.d4 leL.nil)))))))))))))) (yk (by simp [zG,AV.low]) rfl rfl (by simp [Blk.low,zG,AV.low]))⟩
 ·apply R.r;refine zq a (λB i a=>cp (ok142 i) (R.r ?_));cases a;exact fz rfl rfl
theorem ok164 {u:(List GJ)} {f1:(GJ->Option Bool)} {res:Int} (s:∀x0 v (L:List Blk) (M:List Nat),f1 x0=some v->Sp ff1 (af1++[.agg (GJ.row x0)]++kf1) (h.ext L M) (yW (.bool v) (h.ext L M))) (a:xY u f1=some res):Sp 164 [.sl 5 (u.map GJ.row),.fn (.func ff1) af1 kf1] h (yW (.int .i64 res) h):=by
 unfold xY at a;refine z1 Tryz.func164 rfl (by kernel_rfl) (xR 19 rfl) (λb z=>?_);simp only [zG,AV.low,ud,uZ,tR] at b;have j:∀n m,h.blks.length<=n->h.toks.length<=m->zG n m af1=true:=λn m g e=>yp g e _ (by simp [b]);have f:∀n m,h.blks.length<=n->h.toks.length<=m->zG n m kf1=true:=λn m g e=>yp g e _ (by simp [b]);apply R.r;refine ln λc=>?_;replace c:=yA c;apply R.r;refine zY (λ(x:Nat) (w:Unit)=>zJ 2 5 (zJ 9 10 [(8,.int .i64 (x:Int))])) (λw=>h.ext [] []) a (λ_ _=>by simp only [zJ,qB,um,un];try rfl) (wk.le LEL.o) ?_;intro x w y a;apply R.r;refine ya gg a (λC B p i a d=>?_) (λa=>?_)
 ·apply R.r;refine ix (yb i) (R.r ?_);refine zq a (λA l a=>yq rfl (scC rfl) (s _ _ _ _ l) ss (R.r ?_));refine zt gg a (λk a=>?_) (λk a=>?_)
  ·apply R.r;cases a;replace a:=d;apply R.r;cases a;exact fz rfl rfl
  ·apply R.r;cases a;exact ⟨(),p,d,wk.le (by exact (.eq (.eq (.d4 (.drop (.eq (.cons (leV.of_eq (xC (by omega) (by omega))) (.d4 (.d4 (.drop (.drop leL.nil)))))))))))⟩
 ·apply R.r;cases a;exact fz rfl rfl
theorem ok158 {j:(List GJ)} {f1:(GJ->Option Bool)} (d:∀x0 v (L:List Blk) (M:List Nat),f1 x0=some v->Sp ff1 (af1++[.agg (GJ.row x0)]++kf1) (h.ext L M) (yW (.bool v) (h.ext L M))) (b:yQ j f1=some res):Sp 158 [.sl 5 (j.map GJ.row),.fn (.func ff1) af1 kf1] h (yW (.bool res) h):=by
 unfold yQ at b;refine z1 Tryz.func158 rfl (by kernel_rfl) (xR 9 rfl) (λa l=>?_);simp only [zG,AV.low,ud,uZ,tR] at a;have c:∀n m,h.blks.length<=n->h.toks.length<=m->zG n m af1=true:=λn m i e=>yp i e _ (by simp [a]);have f:∀n m,h.blks.length<=n->h.toks.length<=m->zG n m kf1=true:=λn m i e=>yp i e _ (by simp [a]);apply R.r;refine zq b (λo g b=>cp (ok164 (λx0 v L M k=>by rw [xd];exact d x0 v _ _ k) g) (R.r ?_));cases b;exact fz rfl rfl
theorem ok159 {x0:GJ} {b:GF} {c:Nat} (a:h.blk c=some (.cells (GF.row b))) (d:leafXhasC1 x0 b=some res):Sp 159 [.agg (GJ.row x0),.ptr c 0] h (yW (.bool res) h):=by
 unfold leafXhasC1 at d;refine zd Tryz.func159 rfl (by kernel_rfl) (xR 8 rfl) (R.r ?_);refine za rfl (b_load rfl ty45.choose_spec.1 gg a (yP (cs':=(GF.row b)) ty45.choose_spec.2 rfl rfl) (zb rfl)) ss ?_;refine za rfl (zN rfl gg gg (bin_eq pk45 rfl)) ss (R.r ?_);cases d;exact fz rfl rfl
theorem ok144 {c:(List GJ)} {d:GF}  (a:leafXhas c d=some res):Sp 144 [.sl 5 (c.map GJ.row),.agg (GF.row d)] h (yW (.bool res) h):=by
 unfold leafXhas at a;refine zd Tryz.func144 rfl (by kernel_rfl) (xR 8 rfl) (R.r ?_);refine za rfl (vX rfl rfl rfl) ss ?_;refine zq a (λf b a=>cp (ok158 (λ_ v L M e=>ok159 (blk_ext2 (j:=0) rfl) e) b) (R.r ?_));cases a;exact fz rfl rfl
theorem ok112 {l:GE}  (a:leafXtombs l=some res):Sp 112 [.agg (GE.row l)] h (yW (.bool res) h):=by
 unfold leafXtombs at a;refine zd Tryz.func112 rfl (by kernel_rfl) (xR 38 rfl) (R.r ?_);refine ln λc=>?_;replace c:=yA c;apply R.r;refine zY (λ(p:Nat) (n:Unit)=>zJ 2 4 (zJ 9 29 [(0,.any),(8,.int .i64 (p:Int))])) (λn=>h.ext [.cells (GE.row l)] []) a (λ_ _=>by simp only [zJ,qB,um,un];try rfl) (wk.le LEL.o) ?_;intro p n s a;apply R.r;refine ya gg a (λz y m k a i=>?_) (λa=>?_)
 ·apply R.r;refine ix (yb k) (R.r ?_);refine yB [1] [] trivial mixed (by kernel_rfl) (R.r ?_);refine zq a (λx f a=>zO rfl rfl (λ_=>sc rfl) (by rintro _ ⟨B2,T2,rfl,u⟩;exact ok109 f) ss (R.r ?_));refine xU a (λg a=>dgix g (R.r ?_));refine yE a (λw e a=>qk rfl (aG_gv rfl rfl rfl) sc (λj=>ok143 (e j)) ss (R.r ?_));refine yE a (λv22 b a=>qk rfl rfl sc (λj=>ok144 (b j)) ss (R.r ?_));refine zt gg a (λd a=>?_) (λd a=>?_)
  ·apply R.r;cases a;replace a:=i;apply R.r;cases a;exact fz rfl rfl
  ·apply R.r;cases a;exact ⟨(),m,i,wk.trans (wk.le (by exact (.drop (.eq (.d4 (.eq (.eq (.cons (leV.of_eq (xC (by omega) (by omega))) (.d16 (.d4 (.d4 (.d4 (.drop leL.nil))))))))))))) (yk (by simp [zG,AV.low]) rfl rfl (by simp [Blk.low,zG,AV.low]))⟩
 ·apply R.r;cases a;exact fz rfl rfl
theorem ok49 {f:(List GJ)} {i:(List GJ)}  (a:wj f i=some res):Sp 49 [.sl 5 (f.map GJ.row),.sl 5 (i.map GJ.row)] h (yW (.bool res) h):=by
 unfold wj at a;refine zd Tryz.func49 rfl (by kernel_rfl) (xR 26 rfl) (R.r ?_);refine ln λd=>?_;replace d:=yA d;apply R.r;refine ln λg=>?_;replace g:=yA g;apply R.r;refine zt gg a (λm a=>?_) (λm a=>?_)
 ·apply R.r;cases a;exact fz rfl rfl
 ·apply R.r;refine ln λb=>?_;replace b:=yA b;apply R.r;refine zY (λ(p:Nat) (n:Unit)=>zJ 2 10 (zJ 14 12 [(13,.int .i64 (p:Int))])) (λn=>h.ext [] []) a (λ_ _=>by simp only [zJ,qB,um,un];try rfl) (wk.le LEL.o) ?_;intro p n s a;apply R.r;refine ya gg a (λx w l k a j=>?_) (λa=>?_)
  ·apply R.r;refine wv (by kernel_rfl) (R.r ?_);refine dix (yb k) (R.r ?_);refine zq a (λu c a=>dix c (R.r ?_));refine zp rfl rfl (zN rfl gg gg (bin_ne pk97 rfl)) ss (R.r ?_);refine zt gg a (λe a=>?_) (λe a=>?_)
   ·apply R.r;cases a;replace a:=j;apply R.r;cases a;exact fz rfl rfl
   ·apply R.r;cases a;exact ⟨(),l,j,wk.le (by exact (.eq (.eq (.d4 (.d4 (.drop (.drop (.eq (.cons (leV.of_eq (xC (by omega) (by omega))) (.d4 (.d4 (.d4 leL.nil))))))))))))⟩
  ·apply R.r;cases a;exact fz rfl rfl
theorem ok50 {f:(List GF)} {i:(List GF)}  (a:wB f i=some res):Sp 50 [.sl 3 (f.map GF.row),.sl 3 (i.map GF.row)] h (yW (.bool res) h):=by
 unfold wB at a;refine zd Tryz.func50 rfl (by kernel_rfl) (xR 26 rfl) (R.r ?_);refine ln λd=>?_;replace d:=yA d;apply R.r;refine ln λg=>?_;replace g:=yA g;apply R.r;refine zt gg a (λm a=>?_) (λm a=>?_)
 ·apply R.r;cases a;exact fz rfl rfl
 ·apply R.r;refine ln λb=>?_;replace b:=yA b;apply R.r;refine zY (λ(p:Nat) (n:Unit)=>zJ 2 10 (zJ 14 12 [(13,.int .i64 (p:Int))])) (λn=>h.ext [] []) a (λ_ _=>by simp only [zJ,qB,um,un];try rfl) (wk.le LEL.o) ?_;intro p n s a;apply R.r;refine ya gg a (λx w l k a j=>?_) (λa=>?_)
  ·apply R.r;refine wv (by kernel_rfl) (R.r ?_);refine dix (yb k) (R.r ?_);refine zq a (λu c a=>dix c (R.r ?_));refine zp rfl rfl (zN rfl gg gg (bin_ne pk45 rfl)) ss (R.r ?_);refine zt gg a (λe a=>?_) (λe a=>?_)
   ·apply R.r;cases a;replace a:=j;apply R.r;cases a;exact fz rfl rfl
   ·apply R.r;cases a;exact ⟨(),l,j,wk.le (by exact (.eq (.eq (.d4 (.d4 (.drop (.drop (.eq (.cons (leV.of_eq (xC (by omega) (by omega))) (.d4 (.d4 (.d4 leL.nil))))))))))))⟩
  ·apply R.r;cases a;exact fz rfl rfl
theorem ok28 {a0:GE} {e:GE}  (b:y6 a0 e=some res):Sp 28 [.agg (GE.row a0),.agg (GE.row e)] h (yW (.bool res) h):=by
 unfold y6 at b;refine zd Tryz.func28 rfl (by kernel_rfl) (xR 52 rfl) (R.r ?_);refine ym rfl (λa=>zN rfl (zX gg a) (zX gg a) (bin_eq pk45 rfl)) ss (R.r ?_);refine yE b (λg d b=>zZ rfl sc (λa=>ok49 (d a)) ss (R.r ?_));refine yE b (λf c b=>zZ rfl sc (λa=>ok50 (c a)) ss (R.r ?_));cases b;exact fz rfl rfl
theorem ok82 {b:GE}  (a:leafMay b=some res):Sp 82 [.agg (GE.row b)] h (yW (.bool res) h):=by
 unfold leafMay at a;refine zd Tryz.func82 rfl (by kernel_rfl) (xR 89 rfl) (R.r ?_);refine za rfl (xc (cs':=[.int .u8 b.typ,.int .i64 (0:Int),.int .u64 (0:Int),.int .u8 (0:Int),.int .u32 (0:Int),.int .u64 (0:Int),.str ([]:zj),.osl none 5 (([]:List GJ).map GJ.row),.osl none 3 (([]:List GF).map GF.row)]) rfl su49 ze49 pl49 (zx gg zC) (.cons (zb rfl) .nil) rfl rfl) ss (R.r ?_);refine zt gg a (λz a=>?_) (λz a=>?_)
 ·apply R.r;refine zq a (λG o a=>cp ((ok28 o).le (.eq (.cons (leV.agg (.eq (.eq (.eq (.eq (.eq (.eq (.eq (.cons (leV.osl _ _ _) (.cons (leV.osl _ _ _) leL.nil))))))))) rfl) leL.nil))) (R.r ?_));cases a;exact fz rfl rfl
 ·apply R.r;refine zt gg a (λy a=>?_) (λy a=>?_)
  ·apply R.r;refine yB [3,5] [(3,[(0,.cells (GE.row b))]),(5,[(0,.cells (GE.row b))])] ⟨⟨rfl,trivial⟩,⟨rfl,trivial⟩,trivial⟩ mixed (by kernel_rfl) (R.r ?_);refine vR rfl rfl (by rintro _ ⟨B2,T2,rfl,c⟩;exact zF rfl ty45.choose_spec.1 gg (keeps1 c) (yP (cs':=(GF.row b.dot)) ty45.choose_spec.2 rfl rfl) (zb rfl)) ss (R.r ?_);refine vR rfl rfl (by rintro _ ⟨B2,T2,rfl,c⟩;exact zF rfl ty9 gg (keeps1 c) (zA rfl) (zb rfl)) ss (R.r ?_);refine zS rfl (FOk.cons (.inr (yj ⟨rfl,trivial⟩)) (FOk.cons (.inr (yj ⟨rfl,trivial⟩)) FOk.nil)) (by kernel_rfl) rfl (zQ (cs':=[.int .u8 b.typ,.int .i64 (0:Int),.int .u64 b.time,.int .u8 (0:Int),.int .u32 (0:Int),.int .u64 (0:Int),.str ([]:zj),.osl none 5 (([]:List GJ).map GJ.row),.osl none 3 (([]:List GF).map GF.row)]) rfl ty37 gg gg (zb rfl) rfl rfl rfl rfl rfl) rfl (R.r ?_);refine zS rfl (FOk.cons (.inr (yj ⟨rfl,trivial⟩)) (FOk.cons (.inr (yj ⟨rfl,trivial⟩)) FOk.nil)) (by kernel_rfl) rfl (zQ (cs':=[.int .u8 b.typ,.int .i64 (0:Int),.int .u64 b.time,.int .u8 b.dot.actor.rep,.int .u32 b.dot.actor.inc,.int .u64 b.dot.seq,.str ([]:zj),.osl none 5 (([]:List GJ).map GJ.row),.osl none 3 (([]:List GF).map GF.row)]) rfl ty45.choose_spec.1 gg gg (zb rfl) rfl rfl rfl rfl rfl) rfl (R.r ?_);refine zS rfl (FOk.cons (.inr (yj ⟨rfl,trivial⟩)) (FOk.cons (.inr (yj ⟨rfl,trivial⟩)) FOk.nil)) (by kernel_rfl) rfl (zQ (cs':=[.int .u8 b.typ,.int .i64 (0:Int),.int .u64 b.time,.int .u8 b.dot.actor.rep,.int .u32 b.dot.actor.inc,.int .u64 b.dot.seq,.str b.text,.osl none 5 (([]:List GJ).map GJ.row),.osl none 3 (([]:List GF).map GF.row)]) rfl ty9 gg gg (zb rfl) rfl rfl rfl rfl rfl) rfl (R.r ?_);refine yE a (λv4 n a=>zZ rfl sc (λd=>ok108 (n d)) ss (R.r ?_));refine yE a (λv5 w a=>zZ (aG_gv rfl rfl rfl) sc (λd=>ok109 (w d)) ss (R.r ?_));refine yE a (λF x a=>zZ (aG_gv rfl rfl rfl) sc (λd=>ok110 (x d)) ss (R.r ?_));refine ym (aG_gv rfl rfl rfl) (λd=>xc (cs':=[.int .u8 (0:Int),.int .u32 (0:Int),.int .u64 (0:Int)]) rfl su45 ze45 pl45 zC .nil rfl rfl) ss ?_;refine ym (aG_gv rfl rfl rfl) (λd=>zN rfl (zX gg d) (zX gg d) (bin_ne pk45 rfl)) ss (R.r ?_);refine zt gg a (λu a=>?_) (λu a=>?_)
   ·apply R.r;cases a;exact fz rfl rfl
   ·apply R.r;refine zq a (λH p a=>cp ((ok28 p).le (.eq (.cons (leV.agg (.eq (.eq (.eq (.eq (.eq (.eq (.eq (.cons (leV.osl _ _ _) (.cons (leV.osl _ _ _) leL.nil))))))))) rfl) leL.nil))) (R.r ?_));cases a;exact fz rfl rfl
  ·apply R.r;refine zt gg a (λs a=>?_) (λs a=>?_)
   ·apply R.r;refine yB [3] [(3,[(0,.cells (GE.row b))])] ⟨⟨rfl,trivial⟩,trivial⟩ mixed (by kernel_rfl) (R.r ?_);refine vR rfl rfl (by rintro _ ⟨B2,T2,rfl,c⟩;exact zF rfl ty47 gg (keeps1 c) (zA rfl) (zb rfl)) ss (R.r ?_);refine zS rfl (FOk.cons (.inr (yj ⟨rfl,trivial⟩)) FOk.nil) (by kernel_rfl) rfl (zQ (cs':=[.int .u8 b.typ,.int .i64 (0:Int),.int .u64 (0:Int),.int .u8 (0:Int),.int .u32 (0:Int),.int .u64 (0:Int),.str ([]:zj),.sl 5 (b.items.map GJ.row),.osl none 3 (([]:List GF).map GF.row)]) rfl ty46 gg gg (zb rfl) rfl rfl rfl rfl rfl) rfl (R.r ?_);refine zS rfl (FOk.cons (.inr (yj ⟨rfl,trivial⟩)) FOk.nil) (by kernel_rfl) rfl (zQ (cs':=[.int .u8 b.typ,.int .i64 (0:Int),.int .u64 (0:Int),.int .u8 (0:Int),.int .u32 (0:Int),.int .u64 (0:Int),.str ([]:zj),.sl 5 (b.items.map GJ.row),.sl 3 (b.tombs.map GF.row)]) rfl ty47 gg gg (zb rfl) rfl rfl rfl rfl rfl) rfl (R.r ?_);refine zq a (λB g a=>cp (ok111 g) (R.r ?_));refine yE a (λE l a=>zZ rfl sc (λd=>ok112 (l d)) ss (R.r ?_));refine zt gg a (λk a=>?_) (λk a=>?_)
    ·apply R.r;cases a;exact fz rfl rfl
    ·apply R.r;refine zq a (λA m a=>cp (ok28 m) (R.r ?_));cases a;exact fz rfl rfl
   ·apply R.r;refine zt gg a (λe a=>?_) (λe a=>?_)
    ·apply R.r;refine zq a (λC f a=>cp (ok111 f) (R.r ?_));refine zt gg a (λj a=>?_) (λj a=>?_)
     ·apply R.r;cases a;exact fz rfl rfl
     ·apply R.r;refine zq a (λD i a=>cp ((ok28 i).le (.eq (.cons (leV.agg (.eq (.eq (.eq (.eq (.eq (.eq (.eq (.eq (.cons (leV.osl _ _ _) leL.nil))))))))) rfl) leL.nil))) (R.r ?_));cases a;exact fz rfl rfl
    ·apply R.r;cases a;exact fz rfl rfl
end Go.Vv
