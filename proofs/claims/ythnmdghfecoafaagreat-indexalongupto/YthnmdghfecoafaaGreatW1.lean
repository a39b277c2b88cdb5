/- Each function that the law reaches computes what its reading says; printed by a program. -/
import Derived.Test.YthnmdghfecoafaaGreatVvIt
import Derived.Test.YthnmdghfecoafaaGreatVvMr
import Derived.Test.YthnmdghfecoafaaGreatVvRo
import Derived.Test.YthnmdghfecoafaaGreatVvSo
import Derived.Test.YthnmdghfecoafaaGreatVvSs
import Derived.Test.YthnmdghfecoafaaGreatVvT
import Derived.Test.YthnmdghfecoafaaGreatD
import Derived.Test.YthnmdghfecoafaaGreatProg
set_option linter.all false
namespace Go.Vv
open Go Go.Proofs
set_option maxRecDepth 100000
set_option synthInstance.maxSize 100000
set_option synthInstance.maxHeartbeats 1000000
set_option maxHeartbeats 1000000
variable {h:AH} {deep1 x0 y1:Int} {res:Bool} {f1:(Int->Option Bool)} {ff1:FuncId} {af1 kf1:List AV}
section
variable {v a0 a1 a2 a3 a4 a5 a6 a7 a8 a9 a10 a11 a12 a13 a14 a15 a16 a17 a18 a19 a20 a21 a22 a23 a24 a25 a26 a27 a28 a29 a30 a31 a32 a33 a34 a35 a36 a37 a38 a39:AV} {r q:List AV} {t:Nat}
abbrev Sp:=Spec Tryz.prog
theorem xW:yk (a0::r) (.tmp 0)=some a0:=rfl
theorem st0:xO (some 0) (a0::r) v=some (v::r):=rfl
theorem gt1:yk (a0::a1::r) (.tmp 1)=some a1:=rfl
theorem st1:xO (some 1) (a0::a1::r) v=some (a0::v::r):=rfl
theorem gt2:yk (a0::a1::a2::r) (.tmp 2)=some a2:=rfl
theorem st2:xO (some 2) (a0::a1::a2::r) v=some (a0::a1::v::r):=rfl
theorem gt3:yk (a0::a1::a2::a3::r) (.tmp 3)=some a3:=rfl
theorem st3:xO (some 3) (a0::a1::a2::a3::r) v=some (a0::a1::a2::v::r):=rfl
theorem w5:yk (a0::a1::a2::a3::a4::r) (.tmp 4)=some a4:=rfl
theorem st4:xO (some 4) (a0::a1::a2::a3::a4::r) v=some (a0::a1::a2::a3::v::r):=rfl
theorem gt5:yk (a0::a1::a2::a3::a4::a5::r) (.tmp 5)=some a5:=rfl
theorem st5:xO (some 5) (a0::a1::a2::a3::a4::a5::r) v=some (a0::a1::a2::a3::a4::v::r):=rfl
theorem vh:yk (a0::a1::a2::a3::a4::a5::a6::r) (.tmp 6)=some a6:=rfl
theorem st6:xO (some 6) (a0::a1::a2::a3::a4::a5::a6::r) v=some (a0::a1::a2::a3::a4::a5::v::r):=rfl
theorem qI:yk (a0::a1::a2::a3::a4::a5::a6::a7::r) (.tmp 7)=some a7:=rfl
theorem st7:xO (some 7) (a0::a1::a2::a3::a4::a5::a6::a7::r) v=some (a0::a1::a2::a3::a4::a5::a6::v::r):=rfl
theorem gt8:yk (a0::a1::a2::a3::a4::a5::a6::a7::a8::r) (.tmp 8)=some a8:=rfl
theorem st8:xO (some 8) (a0::a1::a2::a3::a4::a5::a6::a7::a8::r) v=some (a0::a1::a2::a3::a4::a5::a6::a7::v::r):=rfl
theorem gt9:yk (a0::a1::a2::a3::a4::a5::a6::a7::a8::a9::r) (.tmp 9)=some a9:=rfl
theorem st9:xO (some 9) (a0::a1::a2::a3::a4::a5::a6::a7::a8::a9::r) v=some (a0::a1::a2::a3::a4::a5::a6::a7::a8::v::r):=rfl
theorem vJ:yk (a0::a1::a2::a3::a4::a5::a6::a7::a8::a9::a10::r) (.tmp 10)=some a10:=rfl
theorem vD:xO (some 10) (a0::a1::a2::a3::a4::a5::a6::a7::a8::a9::a10::r) v=some (a0::a1::a2::a3::a4::a5::a6::a7::a8::a9::v::r):=rfl
theorem vd:yk (a0::a1::a2::a3::a4::a5::a6::a7::a8::a9::a10::a11::r) (.tmp 11)=some a11:=rfl
theorem vg:xO (some 11) (a0::a1::a2::a3::a4::a5::a6::a7::a8::a9::a10::a11::r) v=some (a0::a1::a2::a3::a4::a5::a6::a7::a8::a9::a10::v::r):=rfl
theorem qS:yk (a0::a1::a2::a3::a4::a5::a6::a7::a8::a9::a10::a11::a12::r) (.tmp 12)=some a12:=rfl
theorem st12:xO (some 12) (a0::a1::a2::a3::a4::a5::a6::a7::a8::a9::a10::a11::a12::r) v=some (a0::a1::a2::a3::a4::a5::a6::a7::a8::a9::a10::a11::v::r):=rfl
theorem vR:yk (a0::a1::a2::a3::a4::a5::a6::a7::a8::a9::a10::a11::a12::a13::r) (.tmp 13)=some a13:=rfl
theorem st13:xO (some 13) (a0::a1::a2::a3::a4::a5::a6::a7::a8::a9::a10::a11::a12::a13::r) v=some (a0::a1::a2::a3::a4::a5::a6::a7::a8::a9::a10::a11::a12::v::r):=rfl
theorem gt14:yk (a0::a1::a2::a3::a4::a5::a6::a7::a8::a9::a10::a11::a12::a13::a14::r) (.tmp 14)=some a14:=rfl
theorem st14:xO (some 14) (a0::a1::a2::a3::a4::a5::a6::a7::a8::a9::a10::a11::a12::a13::a14::r) v=some (a0::a1::a2::a3::a4::a5::a6::a7::a8::a9::a10::a11::a12::a13::v::r):=rfl
theorem wR:yk (a0::a1::a2::a3::a4::a5::a6::a7::a8::a9::a10::a11::a12::a13::a14::a15::r) (.tmp 15)=some a15:=rfl
theorem qe:xO (some 15) (a0::a1::a2::a3::a4::a5::a6::a7::a8::a9::a10::a11::a12::a13::a14::a15::r) v=some (a0::a1::a2::a3::a4::a5::a6::a7::a8::a9::a10::a11::a12::a13::a14::v::r):=rfl
theorem gt16:yk (a0::a1::a2::a3::a4::a5::a6::a7::a8::a9::a10::a11::a12::a13::a14::a15::a16::r) (.tmp 16)=some a16:=rfl
theorem qY:xO (some 16) (a0::a1::a2::a3::a4::a5::a6::a7::a8::a9::a10::a11::a12::a13::a14::a15::a16::r) v=some (a0::a1::a2::a3::a4::a5::a6::a7::a8::a9::a10::a11::a12::a13::a14::a15::v::r):=rfl
theorem qR:yk (a0::a1::a2::a3::a4::a5::a6::a7::a8::a9::a10::a11::a12::a13::a14::a15::a16::a17::r) (.tmp 17)=some a17:=rfl
theorem qX:xO (some 17) (a0::a1::a2::a3::a4::a5::a6::a7::a8::a9::a10::a11::a12::a13::a14::a15::a16::a17::r) v=some (a0::a1::a2::a3::a4::a5::a6::a7::a8::a9::a10::a11::a12::a13::a14::a15::a16::v::r):=rfl
theorem gt18:yk (a0::a1::a2::a3::a4::a5::a6::a7::a8::a9::a10::a11::a12::a13::a14::a15::a16::a17::a18::r) (.tmp 18)=some a18:=rfl
theorem st18:xO (some 18) (a0::a1::a2::a3::a4::a5::a6::a7::a8::a9::a10::a11::a12::a13::a14::a15::a16::a17::a18::r) v=some (a0::a1::a2::a3::a4::a5::a6::a7::a8::a9::a10::a11::a12::a13::a14::a15::a16::a17::v::r):=rfl
theorem gt19:yk (a0::a1::a2::a3::a4::a5::a6::a7::a8::a9::a10::a11::a12::a13::a14::a15::a16::a17::a18::a19::r) (.tmp 19)=some a19:=rfl
theorem st19:xO (some 19) (a0::a1::a2::a3::a4::a5::a6::a7::a8::a9::a10::a11::a12::a13::a14::a15::a16::a17::a18::a19::r) v=some (a0::a1::a2::a3::a4::a5::a6::a7::a8::a9::a10::a11::a12::a13::a14::a15::a16::a17::a18::v::r):=rfl
theorem gt20:yk (a0::a1::a2::a3::a4::a5::a6::a7::a8::a9::a10::a11::a12::a13::a14::a15::a16::a17::a18::a19::a20::r) (.tmp 20)=some a20:=rfl
theorem st20:xO (some 20) (a0::a1::a2::a3::a4::a5::a6::a7::a8::a9::a10::a11::a12::a13::a14::a15::a16::a17::a18::a19::a20::r) v=some (a0::a1::a2::a3::a4::a5::a6::a7::a8::a9::a10::a11::a12::a13::a14::a15::a16::a17::a18::a19::v::r):=rfl
theorem gt21:yk (a0::a1::a2::a3::a4::a5::a6::a7::a8::a9::a10::a11::a12::a13::a14::a15::a16::a17::a18::a19::a20::a21::r) (.tmp 21)=some a21:=rfl
theorem st21:xO (some 21) (a0::a1::a2::a3::a4::a5::a6::a7::a8::a9::a10::a11::a12::a13::a14::a15::a16::a17::a18::a19::a20::a21::r) v=some (a0::a1::a2::a3::a4::a5::a6::a7::a8::a9::a10::a11::a12::a13::a14::a15::a16::a17::a18::a19::a20::v::r):=rfl
theorem gt22:yk (a0::a1::a2::a3::a4::a5::a6::a7::a8::a9::a10::a11::a12::a13::a14::a15::a16::a17::a18::a19::a20::a21::a22::r) (.tmp 22)=some a22:=rfl
theorem st22:xO (some 22) (a0::a1::a2::a3::a4::a5::a6::a7::a8::a9::a10::a11::a12::a13::a14::a15::a16::a17::a18::a19::a20::a21::a22::r) v=some (a0::a1::a2::a3::a4::a5::a6::a7::a8::a9::a10::a11::a12::a13::a14::a15::a16::a17::a18::a19::a20::a21::v::r):=rfl
theorem gt23:yk (a0::a1::a2::a3::a4::a5::a6::a7::a8::a9::a10::a11::a12::a13::a14::a15::a16::a17::a18::a19::a20::a21::a22::a23::r) (.tmp 23)=some a23:=rfl
theorem st23:xO (some 23) (a0::a1::a2::a3::a4::a5::a6::a7::a8::a9::a10::a11::a12::a13::a14::a15::a16::a17::a18::a19::a20::a21::a22::a23::r) v=some (a0::a1::a2::a3::a4::a5::a6::a7::a8::a9::a10::a11::a12::a13::a14::a15::a16::a17::a18::a19::a20::a21::a22::v::r):=rfl
theorem gt24:yk (a0::a1::a2::a3::a4::a5::a6::a7::a8::a9::a10::a11::a12::a13::a14::a15::a16::a17::a18::a19::a20::a21::a22::a23::a24::r) (.tmp 24)=some a24:=rfl
theorem st24:xO (some 24) (a0::a1::a2::a3::a4::a5::a6::a7::a8::a9::a10::a11::a12::a13::a14::a15::a16::a17::a18::a19::a20::a21::a22::a23::a24::r) v=some (a0::a1::a2::a3::a4::a5::a6::a7::a8::a9::a10::a11::a12::a13::a14::a15::a16::a17::a18::a19::a20::a21::a22::a23::v::r):=rfl
theorem qJ:yk (a0::a1::a2::a3::a4::a5::a6::a7::a8::a9::a10::a11::a12::a13::a14::a15::a16::a17::a18::a19::a20::a21::a22::a23::a24::a25::r) (.tmp 25)=some a25:=rfl
theorem st25:xO (some 25) (a0::a1::a2::a3::a4::a5::a6::a7::a8::a9::a10::a11::a12::a13::a14::a15::a16::a17::a18::a19::a20::a21::a22::a23::a24::a25::r) v=some (a0::a1::a2::a3::a4::a5::a6::a7::a8::a9::a10::a11::a12::a13::a14::a15::a16::a17::a18::a19::a20::a21::a22::a23::a24::v::r):=rfl
theorem gt26:yk (a0::a1::a2::a3::a4::a5::a6::a7::a8::a9::a10::a11::a12::a13::a14::a15::a16::a17::a18::a19::a20::a21::a22::a23::a24::a25::a26::r) (.tmp 26)=some a26:=rfl
theorem st26:xO (some 26) (a0::a1::a2::a3::a4::a5::a6::a7::a8::a9::a10::a11::a12::a13::a14::a15::a16::a17::a18::a19::a20::a21::a22::a23::a24::a25::a26::r) v=some (a0::a1::a2::a3::a4::a5::a6::a7::a8::a9::a10::a11::a12::a13::a14::a15::a16::a17::a18::a19::a20::a21::a22::a23::a24::a25::v::r):=rfl
theorem gt27:yk (a0::a1::a2::a3::a4::a5::a6::a7::a8::a9::a10::a11::a12::a13::a14::a15::a16::a17::a18::a19::a20::a21::a22::a23::a24::a25::a26::a27::r) (.tmp 27)=some a27:=rfl
theorem st27:xO (some 27) (a0::a1::a2::a3::a4::a5::a6::a7::a8::a9::a10::a11::a12::a13::a14::a15::a16::a17::a18::a19::a20::a21::a22::a23::a24::a25::a26::a27::r) v=some (a0::a1::a2::a3::a4::a5::a6::a7::a8::a9::a10::a11::a12::a13::a14::a15::a16::a17::a18::a19::a20::a21::a22::a23::a24::a25::a26::v::r):=rfl
theorem gt28:yk (a0::a1::a2::a3::a4::a5::a6::a7::a8::a9::a10::a11::a12::a13::a14::a15::a16::a17::a18::a19::a20::a21::a22::a23::a24::a25::a26::a27::a28::r) (.tmp 28)=some a28:=rfl
theorem st28:xO (some 28) (a0::a1::a2::a3::a4::a5::a6::a7::a8::a9::a10::a11::a12::a13::a14::a15::a16::a17::a18::a19::a20::a21::a22::a23::a24::a25::a26::a27::a28::r) v=some (a0::a1::a2::a3::a4::a5::a6::a7::a8::a9::a10::a11::a12::a13::a14::a15::a16::a17::a18::a19::a20::a21::a22::a23::a24::a25::a26::a27::v::r):=rfl
theorem gt29:yk (a0::a1::a2::a3::a4::a5::a6::a7::a8::a9::a10::a11::a12::a13::a14::a15::a16::a17::a18::a19::a20::a21::a22::a23::a24::a25::a26::a27::a28::a29::r) (.tmp 29)=some a29:=rfl
theorem st29:xO (some 29) (a0::a1::a2::a3::a4::a5::a6::a7::a8::a9::a10::a11::a12::a13::a14::a15::a16::a17::a18::a19::a20::a21::a22::a23::a24::a25::a26::a27::a28::a29::r) v=some (a0::a1::a2::a3::a4::a5::a6::a7::a8::a9::a10::a11::a12::a13::a14::a15::a16::a17::a18::a19::a20::a21::a22::a23::a24::a25::a26::a27::a28::v::r):=rfl
theorem gt30:yk (a0::a1::a2::a3::a4::a5::a6::a7::a8::a9::a10::a11::a12::a13::a14::a15::a16::a17::a18::a19::a20::a21::a22::a23::a24::a25::a26::a27::a28::a29::a30::r) (.tmp 30)=some a30:=rfl
theorem st30:xO (some 30) (a0::a1::a2::a3::a4::a5::a6::a7::a8::a9::a10::a11::a12::a13::a14::a15::a16::a17::a18::a19::a20::a21::a22::a23::a24::a25::a26::a27::a28::a29::a30::r) v=some (a0::a1::a2::a3::a4::a5::a6::a7::a8::a9::a10::a11::a12::a13::a14::a15::a16::a17::a18::a19::a20::a21::a22::a23::a24::a25::a26::a27::a28::a29::v::r):=rfl
theorem gt31:yk (a0::a1::a2::a3::a4::a5::a6::a7::a8::a9::a10::a11::a12::a13::a14::a15::a16::a17::a18::a19::a20::a21::a22::a23::a24::a25::a26::a27::a28::a29::a30::a31::r) (.tmp 31)=some a31:=rfl
theorem st31:xO (some 31) (a0::a1::a2::a3::a4::a5::a6::a7::a8::a9::a10::a11::a12::a13::a14::a15::a16::a17::a18::a19::a20::a21::a22::a23::a24::a25::a26::a27::a28::a29::a30::a31::r) v=some (a0::a1::a2::a3::a4::a5::a6::a7::a8::a9::a10::a11::a12::a13::a14::a15::a16::a17::a18::a19::a20::a21::a22::a23::a24::a25::a26::a27::a28::a29::a30::v::r):=rfl
theorem gt32:yk (a0::a1::a2::a3::a4::a5::a6::a7::a8::a9::a10::a11::a12::a13::a14::a15::a16::a17::a18::a19::a20::a21::a22::a23::a24::a25::a26::a27::a28::a29::a30::a31::a32::r) (.tmp 32)=some a32:=rfl
theorem st32:xO (some 32) (a0::a1::a2::a3::a4::a5::a6::a7::a8::a9::a10::a11::a12::a13::a14::a15::a16::a17::a18::a19::a20::a21::a22::a23::a24::a25::a26::a27::a28::a29::a30::a31::a32::r) v=some (a0::a1::a2::a3::a4::a5::a6::a7::a8::a9::a10::a11::a12::a13::a14::a15::a16::a17::a18::a19::a20::a21::a22::a23::a24::a25::a26::a27::a28::a29::a30::a31::v::r):=rfl
theorem gt33:yk (a0::a1::a2::a3::a4::a5::a6::a7::a8::a9::a10::a11::a12::a13::a14::a15::a16::a17::a18::a19::a20::a21::a22::a23::a24::a25::a26::a27::a28::a29::a30::a31::a32::a33::r) (.tmp 33)=some a33:=rfl
theorem st33:xO (some 33) (a0::a1::a2::a3::a4::a5::a6::a7::a8::a9::a10::a11::a12::a13::a14::a15::a16::a17::a18::a19::a20::a21::a22::a23::a24::a25::a26::a27::a28::a29::a30::a31::a32::a33::r) v=some (a0::a1::a2::a3::a4::a5::a6::a7::a8::a9::a10::a11::a12::a13::a14::a15::a16::a17::a18::a19::a20::a21::a22::a23::a24::a25::a26::a27::a28::a29::a30::a31::a32::v::r):=rfl
theorem gt34:yk (a0::a1::a2::a3::a4::a5::a6::a7::a8::a9::a10::a11::a12::a13::a14::a15::a16::a17::a18::a19::a20::a21::a22::a23::a24::a25::a26::a27::a28::a29::a30::a31::a32::a33::a34::r) (.tmp 34)=some a34:=rfl
theorem st34:xO (some 34) (a0::a1::a2::a3::a4::a5::a6::a7::a8::a9::a10::a11::a12::a13::a14::a15::a16::a17::a18::a19::a20::a21::a22::a23::a24::a25::a26::a27::a28::a29::a30::a31::a32::a33::a34::r) v=some (a0::a1::a2::a3::a4::a5::a6::a7::a8::a9::a10::a11::a12::a13::a14::a15::a16::a17::a18::a19::a20::a21::a22::a23::a24::a25::a26::a27::a28::a29::a30::a31::a32::a33::v::r):=rfl
theorem gt35:yk (a0::a1::a2::a3::a4::a5::a6::a7::a8::a9::a10::a11::a12::a13::a14::a15::a16::a17::a18::a19::a20::a21::a22::a23::a24::a25::a26::a27::a28::a29::a30::a31::a32::a33::a34::a35::r) (.tmp 35)=some a35:=rfl
theorem st35:xO (some 35) (a0::a1::a2::a3::a4::a5::a6::a7::a8::a9::a10::a11::a12::a13::a14::a15::a16::a17::a18::a19::a20::a21::a22::a23::a24::a25::a26::a27::a28::a29::a30::a31::a32::a33::a34::a35::r) v=some (a0::a1::a2::a3::a4::a5::a6::a7::a8::a9::a10::a11::a12::a13::a14::a15::a16::a17::a18::a19::a20::a21::a22::a23::a24::a25::a26::a27::a28::a29::a30::a31::a32::a33::a34::v::r):=rfl
theorem gt36:yk (a0::a1::a2::a3::a4::a5::a6::a7::a8::a9::a10::a11::a12::a13::a14::a15::a16::a17::a18::a19::a20::a21::a22::a23::a24::a25::a26::a27::a28::a29::a30::a31::a32::a33::a34::a35::a36::r) (.tmp 36)=some a36:=rfl
theorem st36:xO (some 36) (a0::a1::a2::a3::a4::a5::a6::a7::a8::a9::a10::a11::a12::a13::a14::a15::a16::a17::a18::a19::a20::a21::a22::a23::a24::a25::a26::a27::a28::a29::a30::a31::a32::a33::a34::a35::a36::r) v=some (a0::a1::a2::a3::a4::a5::a6::a7::a8::a9::a10::a11::a12::a13::a14::a15::a16::a17::a18::a19::a20::a21::a22::a23::a24::a25::a26::a27::a28::a29::a30::a31::a32::a33::a34::a35::v::r):=rfl
theorem gt37:yk (a0::a1::a2::a3::a4::a5::a6::a7::a8::a9::a10::a11::a12::a13::a14::a15::a16::a17::a18::a19::a20::a21::a22::a23::a24::a25::a26::a27::a28::a29::a30::a31::a32::a33::a34::a35::a36::a37::r) (.tmp 37)=some a37:=rfl
theorem st37:xO (some 37) (a0::a1::a2::a3::a4::a5::a6::a7::a8::a9::a10::a11::a12::a13::a14::a15::a16::a17::a18::a19::a20::a21::a22::a23::a24::a25::a26::a27::a28::a29::a30::a31::a32::a33::a34::a35::a36::a37::r) v=some (a0::a1::a2::a3::a4::a5::a6::a7::a8::a9::a10::a11::a12::a13::a14::a15::a16::a17::a18::a19::a20::a21::a22::a23::a24::a25::a26::a27::a28::a29::a30::a31::a32::a33::a34::a35::a36::v::r):=rfl
theorem gt38:yk (a0::a1::a2::a3::a4::a5::a6::a7::a8::a9::a10::a11::a12::a13::a14::a15::a16::a17::a18::a19::a20::a21::a22::a23::a24::a25::a26::a27::a28::a29::a30::a31::a32::a33::a34::a35::a36::a37::a38::r) (.tmp 38)=some a38:=rfl
theorem st38:xO (some 38) (a0::a1::a2::a3::a4::a5::a6::a7::a8::a9::a10::a11::a12::a13::a14::a15::a16::a17::a18::a19::a20::a21::a22::a23::a24::a25::a26::a27::a28::a29::a30::a31::a32::a33::a34::a35::a36::a37::a38::r) v=some (a0::a1::a2::a3::a4::a5::a6::a7::a8::a9::a10::a11::a12::a13::a14::a15::a16::a17::a18::a19::a20::a21::a22::a23::a24::a25::a26::a27::a28::a29::a30::a31::a32::a33::a34::a35::a36::a37::v::r):=rfl
theorem gt39:yk (a0::a1::a2::a3::a4::a5::a6::a7::a8::a9::a10::a11::a12::a13::a14::a15::a16::a17::a18::a19::a20::a21::a22::a23::a24::a25::a26::a27::a28::a29::a30::a31::a32::a33::a34::a35::a36::a37::a38::a39::r) (.tmp 39)=some a39:=rfl
theorem st39:xO (some 39) (a0::a1::a2::a3::a4::a5::a6::a7::a8::a9::a10::a11::a12::a13::a14::a15::a16::a17::a18::a19::a20::a21::a22::a23::a24::a25::a26::a27::a28::a29::a30::a31::a32::a33::a34::a35::a36::a37::a38::a39::r) v=some (a0::a1::a2::a3::a4::a5::a6::a7::a8::a9::a10::a11::a12::a13::a14::a15::a16::a17::a18::a19::a20::a21::a22::a23::a24::a25::a26::a27::a28::a29::a30::a31::a32::a33::a34::a35::a36::a37::a38::v::r):=rfl
theorem gk (h:yk r (.tmp t)=some v):yk (a0::a1::a2::a3::a4::a5::a6::a7::a8::a9::a10::a11::a12::a13::a14::a15::a16::a17::a18::a19::a20::a21::a22::a23::a24::a25::a26::a27::a28::a29::a30::a31::a32::a33::a34::a35::a36::a37::a38::a39::r) (.tmp (t+40))=some v:=h
theorem sk (h:xO (some t) r v=some q):xO (some (t+40)) (a0::a1::a2::a3::a4::a5::a6::a7::a8::a9::a10::a11::a12::a13::a14::a15::a16::a17::a18::a19::a20::a21::a22::a23::a24::a25::a26::a27::a28::a29::a30::a31::a32::a33::a34::a35::a36::a37::a38::a39::r) v=some (a0::a1::a2::a3::a4::a5::a6::a7::a8::a9::a10::a11::a12::a13::a14::a15::a16::a17::a18::a19::a20::a21::a22::a23::a24::a25::a26::a27::a28::a29::a30::a31::a32::a33::a34::a35::a36::a37::a38::a39::q):=congrArg (λx=>some (a0::a1::a2::a3::a4::a5::a6::a7::a8::a9::a10::a11::a12::a13::a14::a15::a16::a17::a18::a19::a20::a21::a22::a23::a24::a25::a26::a27::a28::a29::a30::a31::a32::a33::a34::a35::a36::a37::a38::a39::x)) (uj h)
end

abbrev GK.row (x:GK):List AV:=[.int .u8 x.rep,.int .u32 x.inc]
abbrev GF.row (x:GF):List AV:=[.int .u8 x.actor.rep,.int .u32 x.actor.inc,.int .u64 x.seq]
abbrev GI.row (x:GI):List AV:=[.int .u64 x.time,.int .u8 x.dot.actor.rep,.int .u32 x.dot.actor.inc,.int .u64 x.dot.seq,.str x.text]
abbrev GE.row (x:GE):List AV:=[.int .u8 x.typ,.int .i64 x.n,.int .u64 x.time,.int .u8 x.dot.actor.rep,.int .u32 x.dot.actor.inc,.int .u64 x.dot.seq,.str x.text,.sl 5 (x.items.map GI.row),.sl 3 (x.tombs.map GF.row)]
mutual
def GA.row:GA->List AV
  | ⟨name,leaves,subs⟩=>[.str name,.sl 9 (leaves.map GE.row),.sl 3 (GA.rows subs)]
def GA.rows:List GA->List (List AV)
  | []=>[]
  | x::r=>x.row::GA.rows r
end
theorem GA.rows_eq (l:List GA):GA.rows l=l.map GA.row:=by
  induction l with
  | nil=>rfl
  | cons x r ih=>simp only [GA.rows,uw,ih]
theorem GA.row_eq (x:GA):x.row=[.str x.name,.sl 9 (x.leaves.map GE.row),.sl 3 (x.subs.map GA.row)]:=by
  cases x;simp only [GA.row,GA.rows_eq]
abbrev GJ.row (x:GJ):List AV:=[.sl 1 (x.path.map zr),.int .u8 x.leaf.typ,.int .i64 x.leaf.n,.int .u64 x.leaf.time,.int .u8 x.leaf.dot.actor.rep,.int .u32 x.leaf.dot.actor.inc,.int .u64 x.leaf.dot.seq,.str x.leaf.text,.sl 5 (x.leaf.items.map GI.row),.sl 3 (x.leaf.tombs.map GF.row)]
abbrev GC.row (x:GC):List AV:=[.sl 1 (x.path.map zr),.int .u8 x.typ]
abbrev GH.row (x:GH):List AV:=[.sl 1 (x.path.map zr),.int .u8 x.typ,.bool x.had,.bool x.has,.int .u8 x.was.typ,.int .i64 x.was.n,.int .u64 x.was.time,.int .u8 x.was.dot.actor.rep,.int .u32 x.was.dot.actor.inc,.int .u64 x.was.dot.seq,.str x.was.text,.sl 5 (x.was.items.map GI.row),.sl 3 (x.was.tombs.map GF.row),.int .u8 x.is.typ,.int .i64 x.is.n,.int .u64 x.is.time,.int .u8 x.is.dot.actor.rep,.int .u32 x.is.dot.actor.inc,.int .u64 x.is.dot.seq,.str x.is.text,.sl 5 (x.is.items.map GI.row),.sl 3 (x.is.tombs.map GF.row)]
instance el23:El Tryz.prog 23 97 3:=mkEl Tryz.underlying23 (by kernel_rfl)
theorem mixed:Tryz.prog.follows .mixedOrders=true:=by kernel_rfl
theorem wC {Q:Exit->List AV->AH->Prop} {env:List AV} {B:List Blk} {T:List Nat} {id:Nat} {l:List Oper} (hd:drawOk ⟨l⟩ []=true) (a:zW Tryz.prog ⟨l⟩ [] (λn=>KeepB h (lk [] n)) (Q .normal) 0 l env (h.ext B T)):vB Tryz.prog (.region id ⟨l⟩ true) Q env (h.ext B T):=yu [] [] trivial mixed hd a
instance fo97x0:Fo Tryz.prog 97 0 0 9 1:=qD (by kernel_rfl) (by kernel_rfl)
instance ty9:Ty Tryz.prog 9 .string 1:=mkTy Tryz.underlying9 (by kernel_rfl)
instance fo97x2:Fo Tryz.prog 97 2 2 23 1:=qD (by kernel_rfl) (by kernel_rfl)
instance ty23:Ty Tryz.prog 23 (.slice 97) 1:=mkTy Tryz.underlying23 (by kernel_rfl)
instance fo97x1:Fo Tryz.prog 97 1 1 95 1:=qD (by kernel_rfl) (by kernel_rfl)
instance ty95:Ty Tryz.prog 95 (.slice 72) 1:=mkTy Tryz.underlying95 (by kernel_rfl)
instance el95:El Tryz.prog 95 72 9:=mkEl Tryz.underlying95 (by kernel_rfl)
theorem ty72:∃d,Ty Tryz.prog 72 d 9/\yq d=true:=⟨_,mkTy Tryz.underlying72 (by kernel_rfl),by kernel_rfl⟩
instance:TA Tryz.prog 72 9:=⟨ty72⟩
theorem ze72:xQ Tryz.prog 72=some [.int .u8 0,.int .i64 0,.int .u64 0,.int .u8 0,.int .u32 0,.int .u64 0,.str [],.osl none 5 [],.osl none 3 []]:=by kernel_rfl
instance:ZE Tryz.prog 72 [.int .u8 0,.int .i64 0,.int .u64 0,.int .u8 0,.int .u32 0,.int .u64 0,.str [],.osl none 5 [],.osl none 3 []]:=⟨ze72⟩
instance fo72x4:Fo Tryz.prog 72 4 6 9 1:=qD (by kernel_rfl) (by kernel_rfl)
instance fo72x6:Fo Tryz.prog 72 6 8 70 1:=qD (by kernel_rfl) (by kernel_rfl)
instance ty70:Ty Tryz.prog 70 (.slice 68) 1:=mkTy Tryz.underlying70 (by kernel_rfl)
instance el70:El Tryz.prog 70 68 3:=mkEl Tryz.underlying70 (by kernel_rfl)
instance fo72x5:Fo Tryz.prog 72 5 7 69 1:=qD (by kernel_rfl) (by kernel_rfl)
instance ty69:Ty Tryz.prog 69 (.slice 99) 1:=mkTy Tryz.underlying69 (by kernel_rfl)
instance el69:El Tryz.prog 69 99 5:=mkEl Tryz.underlying69 (by kernel_rfl)
instance fo99x2:Fo Tryz.prog 99 2 4 9 1:=qD (by kernel_rfl) (by kernel_rfl)
instance ty4:Ty Tryz.prog 4 .bool 1:=mkTy Tryz.underlying4 (by kernel_rfl)
theorem ty99:∃d,Ty Tryz.prog 99 d 5/\yq d=true:=⟨_,mkTy Tryz.underlying99 (by kernel_rfl),by kernel_rfl⟩
instance:TA Tryz.prog 99 5:=⟨ty99⟩
theorem pk99:PK Tryz.prog 99 [.i,.i,.i,.i,.s]:=mkPK (by kernel_rfl) (by kernel_rfl) (by kernel_rfl)
theorem ty68:∃d,Ty Tryz.prog 68 d 3/\yq d=true:=⟨_,mkTy Tryz.underlying68 (by kernel_rfl),by kernel_rfl⟩
instance:TA Tryz.prog 68 3:=⟨ty68⟩
theorem pk68:PK Tryz.prog 68 [.i,.i,.i]:=mkPK (by kernel_rfl) (by kernel_rfl) (by kernel_rfl)
instance fo72x0:Fo Tryz.prog 72 0 0 5 1:=qD (by kernel_rfl) (by kernel_rfl)
instance ty5:Ty Tryz.prog 5 (.int .u8) 1:=mkTy Tryz.underlying5 (by kernel_rfl)
instance fo72x1:Fo Tryz.prog 72 1 1 2 1:=qD (by kernel_rfl) (by kernel_rfl)
instance ty2:Ty Tryz.prog 2 (.int .i64) 1:=mkTy Tryz.underlying2 (by kernel_rfl)
instance fo72x2:Fo Tryz.prog 72 2 2 63 1:=qD (by kernel_rfl) (by kernel_rfl)
instance ty63:Ty Tryz.prog 63 (.int .u64) 1:=mkTy Tryz.underlying63 (by kernel_rfl)
instance fo72x3:Fo Tryz.prog 72 3 3 68 3:=qD (by kernel_rfl) (by kernel_rfl)
instance fo66x0:Fo Tryz.prog 66 0 0 5 1:=qD (by kernel_rfl) (by kernel_rfl)
instance fo66x1:Fo Tryz.prog 66 1 1 64 1:=qD (by kernel_rfl) (by kernel_rfl)
instance ty64:Ty Tryz.prog 64 (.int .u32) 1:=mkTy Tryz.underlying64 (by kernel_rfl)
instance fo68x0:Fo Tryz.prog 68 0 0 66 2:=qD (by kernel_rfl) (by kernel_rfl)
theorem ty66:∃d,Ty Tryz.prog 66 d 2/\yq d=true:=⟨_,mkTy Tryz.underlying66 (by kernel_rfl),by kernel_rfl⟩
instance:TA Tryz.prog 66 2:=⟨ty66⟩
instance fo68x1:Fo Tryz.prog 68 1 2 63 1:=qD (by kernel_rfl) (by kernel_rfl)
instance el128:El Tryz.prog 128 3 1:=mkEl Tryz.underlying128 (by kernel_rfl)
instance ty3:Ty Tryz.prog 3 (.int .i64) 1:=mkTy Tryz.underlying3 (by kernel_rfl)
theorem ze3:xQ Tryz.prog 3=some [.int .i64 0]:=by kernel_rfl
instance:ZE Tryz.prog 3 [.int .i64 0]:=⟨ze3⟩
theorem ze99:xQ Tryz.prog 99=some [.int .u64 0,.int .u8 0,.int .u32 0,.int .u64 0,.str []]:=by kernel_rfl
instance:ZE Tryz.prog 99 [.int .u64 0,.int .u8 0,.int .u32 0,.int .u64 0,.str []]:=⟨ze99⟩
instance fo99x1:Fo Tryz.prog 99 1 1 68 3:=qD (by kernel_rfl) (by kernel_rfl)
noncomputable def sf68:Array Field:=match Tryz.prog.underlying 68 with | some (.struct fs)=>fs | _=>#[]
theorem su68:Tryz.prog.underlying 68=some (.struct sf68):=by kernel_rfl
theorem kq68:KQ Tryz.prog 68 (λx=>AV.agg (GF.row x)) GF.eqb:=.struct su68 pk68 (λ_ _=>rfl) (λa=>by simp [GF.eqb])
theorem az3:vS Tryz.prog 3=some ((AV.int .i64) (0:Int)):=by kernel_rfl
instance fo99x0:Fo Tryz.prog 99 0 0 63 1:=qD (by kernel_rfl) (by kernel_rfl)
theorem ze68:xQ Tryz.prog 68=some [.int .u8 0,.int .u32 0,.int .u64 0]:=by kernel_rfl
instance:ZE Tryz.prog 68 [.int .u8 0,.int .u32 0,.int .u64 0]:=⟨ze68⟩
noncomputable def sf72:Array Field:=match Tryz.prog.underlying 72 with | some (.struct fs)=>fs | _=>#[]
theorem su72:Tryz.prog.underlying 72=some (.struct sf72):=by kernel_rfl
theorem pl72:vH Tryz.prog sf72=some [(0,1),(1,1),(2,1),(3,3),(6,1),(7,1),(8,1)]:=by kernel_rfl
theorem pl68:vH Tryz.prog sf68=some [(0,2),(2,1)]:=by kernel_rfl
theorem ty97:∃d,Ty Tryz.prog 97 d 3/\yq d=true:=⟨_,mkTy Tryz.underlying97 (by kernel_rfl),by kernel_rfl⟩
instance:TA Tryz.prog 97 3:=⟨ty97⟩
theorem ze97:xQ Tryz.prog 97=some [.str [],.osl none 9 [],.osl none 3 []]:=by kernel_rfl
instance:ZE Tryz.prog 97 [.str [],.osl none 9 [],.osl none 3 []]:=⟨ze97⟩
instance el45:El Tryz.prog 45 9 1:=mkEl Tryz.underlying45 (by kernel_rfl)
theorem ze9:xQ Tryz.prog 9=some [.str []]:=by kernel_rfl
instance:ZE Tryz.prog 9 [.str []]:=⟨ze9⟩
noncomputable def sf97:Array Field:=match Tryz.prog.underlying 97 with | some (.struct fs)=>fs | _=>#[]
theorem su97:Tryz.prog.underlying 97=some (.struct sf97):=by kernel_rfl
theorem pl97:vH Tryz.prog sf97=some [(0,1),(1,1),(2,1)]:=by kernel_rfl
instance ty45:Ty Tryz.prog 45 (.slice 9) 1:=mkTy Tryz.underlying45 (by kernel_rfl)
instance ty136:Ty Tryz.prog 136 (.func #[74] #[4] false) 1:=mkTy Tryz.underlying136 (by kernel_rfl)
noncomputable def sf74:Array Field:=match Tryz.prog.underlying 74 with | some (.struct fs)=>fs | _=>#[]
theorem su74:Tryz.prog.underlying 74=some (.struct sf74):=by kernel_rfl
theorem ze74:xQ Tryz.prog 74=some [.osl none 1 [],.int .u8 0,.int .i64 0,.int .u64 0,.int .u8 0,.int .u32 0,.int .u64 0,.str [],.osl none 5 [],.osl none 3 []]:=by kernel_rfl
instance:ZE Tryz.prog 74 [.osl none 1 [],.int .u8 0,.int .i64 0,.int .u64 0,.int .u8 0,.int .u32 0,.int .u64 0,.str [],.osl none 5 [],.osl none 3 []]:=⟨ze74⟩
theorem pl74:vH Tryz.prog sf74=some [(0,1),(1,9)]:=by kernel_rfl
theorem ty74:∃d,Ty Tryz.prog 74 d 10/\yq d=true:=⟨_,mkTy Tryz.underlying74 (by kernel_rfl),by kernel_rfl⟩
instance:TA Tryz.prog 74 10:=⟨ty74⟩
instance el61:El Tryz.prog 61 74 10:=mkEl Tryz.underlying61 (by kernel_rfl)
instance ty61:Ty Tryz.prog 61 (.slice 74) 1:=mkTy Tryz.underlying61 (by kernel_rfl)
instance fo55x0:Fo Tryz.prog 55 0 0 45 1:=qD (by kernel_rfl) (by kernel_rfl)
instance fo55x1:Fo Tryz.prog 55 1 1 5 1:=qD (by kernel_rfl) (by kernel_rfl)
instance el120:El Tryz.prog 120 5 1:=mkEl Tryz.underlying120 (by kernel_rfl)
theorem ze5:xQ Tryz.prog 5=some [.int .u8 0]:=by kernel_rfl
instance:ZE Tryz.prog 5 [.int .u8 0]:=⟨ze5⟩
instance el49:El Tryz.prog 49 55 2:=mkEl Tryz.underlying49 (by kernel_rfl)
noncomputable def sf66:Array Field:=match Tryz.prog.underlying 66 with | some (.struct fs)=>fs | _=>#[]
theorem su66:Tryz.prog.underlying 66=some (.struct sf66):=by kernel_rfl
theorem ze66:xQ Tryz.prog 66=some [.int .u8 0,.int .u32 0]:=by kernel_rfl
instance:ZE Tryz.prog 66 [.int .u8 0,.int .u32 0]:=⟨ze66⟩
theorem pl66:vH Tryz.prog sf66=some [(0,1),(1,1)]:=by kernel_rfl
noncomputable def sf99:Array Field:=match Tryz.prog.underlying 99 with | some (.struct fs)=>fs | _=>#[]
theorem su99:Tryz.prog.underlying 99=some (.struct sf99):=by kernel_rfl
theorem pl99:vH Tryz.prog sf99=some [(0,1),(1,3),(4,1)]:=by kernel_rfl
noncomputable def sf58:Array Field:=match Tryz.prog.underlying 58 with | some (.struct fs)=>fs | _=>#[]
theorem su58:Tryz.prog.underlying 58=some (.struct sf58):=by kernel_rfl
theorem ze58:xQ Tryz.prog 58=some [.osl none 3 [],.nilm]:=by kernel_rfl
instance:ZE Tryz.prog 58 [.osl none 3 [],.nilm]:=⟨ze58⟩
theorem pl58:vH Tryz.prog sf58=some [(0,1),(1,1)]:=by kernel_rfl
instance fo58x0:Fo Tryz.prog 58 0 0 23 1:=qD (by kernel_rfl) (by kernel_rfl)
instance fo74x0:Fo Tryz.prog 74 0 0 45 1:=qD (by kernel_rfl) (by kernel_rfl)
instance fo74x1:Fo Tryz.prog 74 1 1 72 9:=qD (by kernel_rfl) (by kernel_rfl)
noncomputable def sf55:Array Field:=match Tryz.prog.underlying 55 with | some (.struct fs)=>fs | _=>#[]
theorem su55:Tryz.prog.underlying 55=some (.struct sf55):=by kernel_rfl
theorem ze55:xQ Tryz.prog 55=some [.osl none 1 [],.int .u8 0]:=by kernel_rfl
instance:ZE Tryz.prog 55 [.osl none 1 [],.int .u8 0]:=⟨ze55⟩
theorem pl55:vH Tryz.prog sf55=some [(0,1),(1,1)]:=by kernel_rfl
instance fo58x1:Fo Tryz.prog 58 1 1 56 1:=qD (by kernel_rfl) (by kernel_rfl)
instance ty56:Ty Tryz.prog 56 (.map 9 80) 1:=mkTy Tryz.underlying56 (by kernel_rfl)
theorem kq9:KQ Tryz.prog 9 AV.str (λa b=>a==b):=.str ty9
theorem az80:vS Tryz.prog 80=some .nilm:=by kernel_rfl
instance ty80:Ty Tryz.prog 80 (.map 9 55) 1:=mkTy Tryz.underlying80 (by kernel_rfl)
theorem ty55:∃d,Ty Tryz.prog 55 d 2/\yq d=true:=⟨_,mkTy Tryz.underlying55 (by kernel_rfl),by kernel_rfl⟩
instance:TA Tryz.prog 55 2:=⟨ty55⟩
instance ty27:Ty Tryz.prog 27 (.pointer 58) 1:=mkTy Tryz.underlying27 (by kernel_rfl)
instance ty126:Ty Tryz.prog 126 (.int .u64) 1:=mkTy Tryz.underlying126 (by kernel_rfl)
instance fo79x0:Fo Tryz.prog 79 0 0 45 1:=qD (by kernel_rfl) (by kernel_rfl)
instance fo79x1:Fo Tryz.prog 79 1 1 5 1:=qD (by kernel_rfl) (by kernel_rfl)
instance el35:El Tryz.prog 35 79 22:=mkEl Tryz.underlying35 (by kernel_rfl)
theorem ty79:∃d,Ty Tryz.prog 79 d 22/\yq d=true:=⟨_,mkTy Tryz.underlying79 (by kernel_rfl),by kernel_rfl⟩
instance:TA Tryz.prog 79 22:=⟨ty79⟩
abbrev lit0x:List AV:=[.int .u8 (0:Int),.int .i64 (0:Int),.int .u64 (0:Int),.int .u8 (0:Int),.int .u32 (0:Int),.int .u64 (0:Int),.str ([]:zi),.osl none 5 (([]:List GI).map GI.row),.osl none 3 (([]:List GF).map GF.row)]
abbrev lit1x:List AV:=[.osl none 1 [],.int .u8 0,.bool false,.bool false,.int .u8 0,.int .i64 0,.int .u64 0,.int .u8 0,.int .u32 0,.int .u64 0,.str [],.osl none 5 [],.osl none 3 [],.int .u8 0,.int .i64 0,.int .u64 0,.int .u8 0,.int .u32 0,.int .u64 0,.str [],.osl none 5 [],.osl none 3 []]
abbrev lit2x:List AV:=[.int .u8 (0:Int),.int .u32 (0:Int),.int .u64 (0:Int)]
theorem ze79:xQ Tryz.prog 79=some lit1x:=by kernel_rfl
instance:ZE Tryz.prog 79 lit1x:=⟨ze79⟩
instance fo79x2:Fo Tryz.prog 79 2 2 4 1:=qD (by kernel_rfl) (by kernel_rfl)
instance fo79x3:Fo Tryz.prog 79 3 3 4 1:=qD (by kernel_rfl) (by kernel_rfl)
instance fo79x4:Fo Tryz.prog 79 4 4 72 9:=qD (by kernel_rfl) (by kernel_rfl)
instance fo79x5:Fo Tryz.prog 79 5 13 72 9:=qD (by kernel_rfl) (by kernel_rfl)
noncomputable def sf79:Array Field:=match Tryz.prog.underlying 79 with | some (.struct fs)=>fs | _=>#[]
theorem su79:Tryz.prog.underlying 79=some (.struct sf79):=by kernel_rfl
theorem pl79:vH Tryz.prog sf79=some [(0,1),(1,1),(2,1),(3,1),(4,9),(13,9)]:=by kernel_rfl
theorem az79:vS Tryz.prog 79=some ((λx=>AV.agg (GH.row x)) (GH.mk ([]:List zi) (0:Int) false false yv yv)):=by kernel_rfl
abbrev GLeafRw (x:GE) (p q:AV):List AV:=[.int .u8 x.typ,.int .i64 x.n,.int .u64 x.time,.int .u8 x.dot.actor.rep,.int .u32 x.dot.actor.inc,.int .u64 x.dot.seq,.str x.text,p,q]
theorem ok22N (n:Nat):∀{t0:(List GA)} {deep1:Int} {res:Int} {h:AH} , xy n t0 deep1=some res->Sp 22 [.sl 3 (t0.map GA.row),.int .i64 deep1] h (y5 (.int .i64 res) h):=by
 induction n with
 | zero=>intro t0 deep1 res h  a;simp [xy] at a
 | succ n ih =>
  intro t0 deep1 res h  a;unfold xy at a;refine zd Tryz.func22 rfl (by kernel_rfl) (xH 84 rfl) (R.r ?_);refine r_loopWF (λ(x:Int×Int)=>zK 2 3 (zK 7 77 [(5,.int .i64 x.1),(6,.int .i64 x.2)])) (λx=>h.ext [] []) a (λ_=>by simp only [zK,vi,ug,uh];try rfl) (wk.le LEL.o) ?_;intro Q x O a A;apply R.r;refine ln λg=>?_;replace g:=yz g;apply R.r;refine zt gg a (λw a=>?_) (λw a=>?_)
  ·apply R.r;refine yu [16] [] trivial mixed (by kernel_rfl) (R.r ?_);refine zo a (λJ u a=>zu rfl rfl (wb rfl el23 gg gg isl u (GA.row_eq _)) ss (R.r ?_));refine draw_len rfl rfl (s_lenStr rfl rfl rfl rfl ty9 gg) ss (R.r ?_);refine zo a (λL p a=>zu rfl rfl (wb rfl el23 gg gg isl p (GA.row_eq _)) ss (R.r ?_));refine zo a (λI m a=>zR rfl rfl (λ_=>sc rfl) (by rintro _ ⟨B2,T2,rfl,H⟩;exact ih m) ss (R.r ?_));refine r_loopWF (λ(s2:Int×Int)=>zK 2 3 (zK 8 76 [(5,.int .i64 s2.1),(7,.int .i64 s2.2)])) (λs2=>h.ext [] []) a (λ_=>by simp only [zK,vi,ug,uh];try rfl) (wk.le LEL.o) ?_;intro S s2 N a s;apply R.r;refine zo a (λG l a=>zb rfl (wb rfl el23 gg gg isl l (GA.row_eq _)) ss (R.r ?_));refine ln λb=>?_;replace b:=yz b;apply R.r;refine zt gg a (λi a=>?_) (λi a=>?_)
   ·apply R.r;refine zo a (λF k a=>zb rfl (wb rfl el23 gg gg isl k (GA.row_eq _)) ss (R.r ?_));refine zo a (λy j a=>ix j (R.r ?_));refine ln λe=>?_;replace e:=yz e;apply R.r;refine ln λf=>?_;replace f:=yz f;apply R.r;refine zU (λ(E:Nat) (z:Int)=>zK 2 3 (zK 10 74 [(5,.int .i64 z),(9,.int .i64 (E:Int))])) (λz=>h.ext [.cells (GE.row y)] []) a (λ_ _=>by simp only [zK,vi,ug,uh];try rfl) (wk.le LEL.o) ?_;intro E z M a;apply R.r;refine ln λc=>?_;replace c:=yz c;apply R.r;refine zZ gg a (λK P D B a C=>?_) (λa=>?_)
    ·apply R.r;refine ix (yd B) (R.r ?_);refine ln λd=>?_;replace d:=yz d;apply R.r;cases a;exact ⟨(IntKind.wrap .i64 ((IntKind.wrap .i64 (z+(1:Int)))+((K.text).length:Int))),D,C,wk.le (by exact (.eq (.eq (.drop (.drop (.drop (.cons (leV.of_eq rfl) (.eq (.eq (.eq (.cons (leV.of_eq (xw (by omega) (by omega))) (.d16 (.d16 (.d16 (.d16 (.d4 (.d4 (.drop (.drop leL.nil)))))))))))))))))))⟩
    ·apply R.r;cases a;exact ⟨(z,(IntKind.wrap .i64 (s2.2+(1:Int)))),s,wk.trans (wk.le LEL.o) (yb (by simp [zP,AV.low]) rfl rfl (by simp [Blk.low,zP,AV.low]))⟩
   ·apply R.r;cases a;replace a:=s;apply R.r;cases a;exact ⟨(s2.1,(IntKind.wrap .i64 (x.2+(1:Int)))),A,wk.le LEL.o⟩
  ·apply R.r;cases a;replace a:=A;apply R.r;cases a;exact fz rfl rfl
theorem ok22 {t0:(List GA)} {res:Int}  (b:ref07Xsize t0 deep1=some res):Sp 22 [.sl 3 (t0.map GA.row),.int .i64 deep1] h (y5 (.int .i64 res) h):=by
 obtain ⟨n,a⟩:=anyN_is b;exact ok22N n a
theorem ok5 {t0:(List GA)}  (a:wJ t0=some res):Sp 5 [.sl 3 (t0.map GA.row)] h (y5 (.bool res) h):=by
 unfold wJ at a;refine zd Tryz.func5 rfl (by kernel_rfl) (xH 6 rfl) (R.r ?_);refine zo a (λc b a=>cp (ok22 b) (R.r ?_));cases a;exact fz rfl rfl
theorem ok149 {b:Int}  (a:opIsNameC1 b=some res):Sp 149 [.int .i32 b] h (y5 (.bool res) h):=by
 unfold opIsNameC1 at a;refine zd Tryz.func149 rfl (by kernel_rfl) (xH 25 rfl) (R.r ?_);cases a;exact fz rfl rfl
theorem ok203 {f:zi} {b:Bool} {res:Int} (s:∀x0 v (L:List Blk) (M:List Nat),f1 x0=some v->Sp ff1 (af1++[.int .i32 x0]++kf1) (h.ext L M) (y5 (.bool v) (h.ext L M))) (a:ve f f1 b=some res):Sp 203 [.str f,.fn (.func ff1) af1 kf1,.bool b] h (y5 (.int .i64 res) h):=by
 unfold ve at a;refine yg Tryz.func203 rfl (by kernel_rfl) (xH 21 rfl) (λc w=>?_);simp only [zP,AV.low,ud,uX,tT] at c;have k:∀n m,h.blks.length<=n->h.toks.length<=m->zP n m af1=true:=λn m j g=>yx j g _ (by simp [c]);have i:∀n m,h.blks.length<=n->h.toks.length<=m->zP n m kf1=true:=λn m j g=>yx j g _ (by simp [c]);apply R.r;refine zb rfl (e_range (n:=0) rfl ty9 gg rfl) ss (R.r ?_);refine r_loopWF (λ(e:Nat)=>zK 3 7 (zK 11 10 [(0,.any)])) (λe=>h.ext [.siter f e] []) a (λ_=>by simp only [zK,vi,ug,uh];try rfl) (wk.le LEL.o) ?_;intro z e y a d;apply R.r;refine ops_nextF rfl rfl gg rfl ss ss a (λu a=>?_) (λa=>?_)
 ·apply R.r;refine y4 gg (λ_=>?_) (λhh=>by cases hh);apply R.r;refine zo a (λx p a=>zT rfl (scC rfl) (s _ _ _ _ p) ss (R.r ?_));refine zb rfl (zX rfl gg gg (bin_boolE ty4)) ss (R.r ?_);refine zt gg a (λl a=>?_) (λl a=>?_)
  ·apply R.r;cases a;replace a:=d;apply R.r;cases a;exact fz rfl rfl
  ·apply R.r;cases a;exact ⟨(e+(dec f e).2),d,wk.le LEL.o⟩
 ·apply R.r;refine y4 gg (λhh=>by cases hh) (λ_=>R.r ?_);cases a;replace a:=d;apply R.r;cases a;exact fz rfl rfl
theorem ok181 {j:zi} {res:Int} (d:∀x0 v (L:List Blk) (M:List Nat),f1 x0=some v->Sp ff1 (af1++[.int .i32 x0]++kf1) (h.ext L M) (y5 (.bool v) (h.ext L M))) (b:vC j f1=some res):Sp 181 [.str j,.fn (.func ff1) af1 kf1] h (y5 (.int .i64 res) h):=by
 unfold vC at b;refine yg Tryz.func181 rfl (by kernel_rfl) (xH 8 rfl) (λa l=>?_);simp only [zP,AV.low,ud,uX,tT] at a;have c:∀n m,h.blks.length<=n->h.toks.length<=m->zP n m af1=true:=λn m i e=>yx i e _ (by simp [a]);have f:∀n m,h.blks.length<=n->h.toks.length<=m->zP n m kf1=true:=λn m i e=>yx i e _ (by simp [a]);apply R.r;refine zo b (λo g b=>cp (ok203 (λx0 v L M k=>by rw [xE];exact d x0 v _ _ k) g) (R.r ?_));cases b;exact fz rfl rfl
theorem ok150 {j:zi} (d:∀x0 v (L:List Blk) (M:List Nat),f1 x0=some v->Sp ff1 (af1++[.int .i32 x0]++kf1) (h.ext L M) (y5 (.bool v) (h.ext L M))) (b:xJ j f1=some res):Sp 150 [.str j,.fn (.func ff1) af1 kf1] h (y5 (.bool res) h):=by
 unfold xJ at b;refine yg Tryz.func150 rfl (by kernel_rfl) (xH 9 rfl) (λa l=>?_);simp only [zP,AV.low,ud,uX,tT] at a;have c:∀n m,h.blks.length<=n->h.toks.length<=m->zP n m af1=true:=λn m i e=>yx i e _ (by simp [a]);have f:∀n m,h.blks.length<=n->h.toks.length<=m->zP n m kf1=true:=λn m i e=>yx i e _ (by simp [a]);apply R.r;refine zo b (λo g b=>cp (ok181 (λx0 v L M k=>by rw [xE];exact d x0 v _ _ k) g) (R.r ?_));cases b;exact fz rfl rfl
theorem ok83 {d:zi}  (b:opIsName d=some res):Sp 83 [.str d] h (y5 (.bool res) h):=by
 unfold opIsName at b;refine zd Tryz.func83 rfl (by kernel_rfl) (xH 18 rfl) (R.r ?_);refine ln λa=>?_;replace a:=yz a;apply R.r;refine lng λg=>R.r ?_;refine yw b (λv3 c b=>ya rfl sc (λf=>ok150 (λ_ v L M e=>ok149  e) (c f)) ss (R.r ?_));cases b;exact fz rfl rfl
theorem ok101 {f:(List GI)} {i:(List GI)}  (a:wW f i=some res):Sp 101 [.sl 5 (f.map GI.row),.sl 5 (i.map GI.row)] h (y5 (.bool res) h):=by
 unfold wW at a;refine zd Tryz.func101 rfl (by kernel_rfl) (xH 26 rfl) (R.r ?_);refine ln λd=>?_;replace d:=yz d;apply R.r;refine ln λg=>?_;replace g:=yz g;apply R.r;refine zt gg a (λm a=>?_) (λm a=>?_)
 ·apply R.r;cases a;exact fz rfl rfl
 ·apply R.r;refine ln λb=>?_;replace b:=yz b;apply R.r;refine zU (λ(p:Nat) (n:Unit)=>zK 2 10 (zK 14 12 [(13,.int .i64 (p:Int))])) (λn=>h.ext [] []) a (λ_ _=>by simp only [zK,vi,ug,uh];try rfl) (wk.le LEL.o) ?_;intro p n s a;apply R.r;refine zZ gg a (λx w l k a j=>?_) (λa=>?_)
  ·apply R.r;refine wC (by kernel_rfl) (R.r ?_);refine dix (yd k) (R.r ?_);refine zo a (λu c a=>dix c (R.r ?_));refine zu rfl rfl (zX rfl gg gg (bin_ne pk99 rfl)) ss (R.r ?_);refine zt gg a (λe a=>?_) (λe a=>?_)
   ·apply R.r;cases a;replace a:=j;apply R.r;cases a;exact fz rfl rfl
   ·apply R.r;cases a;exact ⟨(),l,j,wk.le (by exact (.eq (.eq (.d4 (.d4 (.drop (.drop (.eq (.cons (leV.of_eq (xw (by omega) (by omega))) (.d4 (.d4 (.d4 leL.nil))))))))))))⟩
  ·apply R.r;cases a;exact fz rfl rfl
theorem ok102 {f:(List GF)} {i:(List GF)}  (a:vm f i=some res):Sp 102 [.sl 3 (f.map GF.row),.sl 3 (i.map GF.row)] h (y5 (.bool res) h):=by
 unfold vm at a;refine zd Tryz.func102 rfl (by kernel_rfl) (xH 26 rfl) (R.r ?_);refine ln λd=>?_;replace d:=yz d;apply R.r;refine ln λg=>?_;replace g:=yz g;apply R.r;refine zt gg a (λm a=>?_) (λm a=>?_)
 ·apply R.r;cases a;exact fz rfl rfl
 ·apply R.r;refine ln λb=>?_;replace b:=yz b;apply R.r;refine zU (λ(p:Nat) (n:Unit)=>zK 2 10 (zK 14 12 [(13,.int .i64 (p:Int))])) (λn=>h.ext [] []) a (λ_ _=>by simp only [zK,vi,ug,uh];try rfl) (wk.le LEL.o) ?_;intro p n s a;apply R.r;refine zZ gg a (λx w l k a j=>?_) (λa=>?_)
  ·apply R.r;refine wC (by kernel_rfl) (R.r ?_);refine dix (yd k) (R.r ?_);refine zo a (λu c a=>dix c (R.r ?_));refine zu rfl rfl (zX rfl gg gg (bin_ne pk68 rfl)) ss (R.r ?_);refine zt gg a (λe a=>?_) (λe a=>?_)
   ·apply R.r;cases a;replace a:=j;apply R.r;cases a;exact fz rfl rfl
   ·apply R.r;cases a;exact ⟨(),l,j,wk.le (by exact (.eq (.eq (.d4 (.d4 (.drop (.drop (.eq (.cons (leV.of_eq (xw (by omega) (by omega))) (.d4 (.d4 (.d4 leL.nil))))))))))))⟩
  ·apply R.r;cases a;exact fz rfl rfl
theorem ok65 {a0:GE} {e:GE}  (b:xZ a0 e=some res):Sp 65 [.agg (GE.row a0),.agg (GE.row e)] h (y5 (.bool res) h):=by
 unfold xZ at b;refine zd Tryz.func65 rfl (by kernel_rfl) (xH 52 rfl) (R.r ?_);refine yE rfl (λa=>zX rfl (yi gg a) (yi gg a) (bin_eq pk68 rfl)) ss (R.r ?_);refine yw b (λg d b=>ya rfl sc (λa=>ok101 (d a)) ss (R.r ?_));refine yw b (λf c b=>ya rfl sc (λa=>ok102 (c a)) ss (R.r ?_));cases b;exact fz rfl rfl
theorem ok151 {a:Int}  (b:leafXisTime a=some res):Sp 151 [.int .u64 a] h (y5 (.bool res) h):=by
 unfold leafXisTime at b;refine zd Tryz.func151 rfl (by kernel_rfl) (xH 9 rfl) (R.r ?_);cases b;exact fz rfl rfl
theorem ok182 {a0:GK}  (a:dotMayActor a0=some res):Sp 182 [.agg (GK.row a0)] h (y5 (.bool res) h):=by
 unfold dotMayActor at a;refine zd Tryz.func182 rfl (by kernel_rfl) (xH 16 rfl) (R.r ?_);cases a;exact fz rfl rfl
theorem ok152 {c:GF}  (a:dotMay c=some res):Sp 152 [.agg (GF.row c)] h (y5 (.bool res) h):=by
 unfold dotMay at a;refine zd Tryz.func152 rfl (by kernel_rfl) (xH 16 rfl) (R.r ?_);refine zo a (λd b a=>cp (ok182 b) (R.r ?_));cases a;exact fz rfl rfl
theorem ok153 {b:zi}  (c:qq b=some res):Sp 153 [.str b] h (y5 (.bool res) h):=by
 unfold qq at c;refine zd Tryz.func153 rfl (by kernel_rfl) (xH 6 rfl) (R.r ?_);refine ln λa=>?_;replace a:=yz a;apply R.r;cases c;exact fz rfl rfl
theorem ok46 {b:(List Int)} {res:Int}  (a:qN b=some res):Sp 46 [.sl 1 (b.map (intRow .i64))] h (y5 (.int .i64 res) h):=by
 unfold qN at a;refine zd Tryz.func46 rfl (by kernel_rfl) (xH 18 rfl) (R.r ?_);refine ln λc=>?_;replace c:=yz c;apply R.r;refine zU (λ(i:Nat) (j:Unit)=>zK 0 3 (zK 4 2 (zK 9 9 [(8,.int .i64 (i:Int))]))) (λj=>h.ext [] []) a (λ_ _=>by simp only [zK,vi,ug,uh];try rfl) (wk.le LEL.o) ?_;intro i j k a;apply R.r;refine zZ gg a (λl m e g a d=>?_) (λa=>?_)
 ·apply R.r;refine ix (yd g) (R.r ?_);refine zt gg a (λf a=>?_) (λf a=>?_)
  ·apply R.r;cases a;replace a:=d;apply R.r;cases a;exact fz rfl rfl
  ·apply R.r;cases a;exact ⟨(),e,d,wk.le (by exact (.drop (.drop (.drop (.eq (.drop (.drop (.eq (.eq (.cons (leV.of_eq (xw (by omega) (by omega))) (.d4 (.d4 (.drop leL.nil)))))))))))))⟩
 ·apply R.r;cases a;exact fz rfl rfl
theorem ok82  (a:vz x0=some res):Sp 82 [.int .u8 x0] h (y5 (.bool res) h):=by
 unfold vz at a;refine zd Tryz.func82 rfl (by kernel_rfl) (xH 6 rfl) (R.r ?_);cases a;exact fz rfl rfl
theorem ok48 {res:Int}  (a:xi x0 y1=some res):Sp 48 [.int .u8 x0,.int .u8 y1] h (y5 (.int .i64 res) h):=by
 unfold xi at a;refine zd Tryz.func48 rfl (by kernel_rfl) (xH 20 rfl) (R.r ?_);refine zo a (λk f a=>cp (ok82 f) (R.r ?_));refine zo a (λj c a=>cp (ok82 c) (R.r ?_));refine zt gg a (λi a=>?_) (λi a=>?_)
 ·apply R.r;refine zt gg a (λd a=>?_) (λd a=>?_)
  ·apply R.r;cases a;exact fz rfl rfl
  ·apply R.r;cases a;exact fz rfl rfl
 ·apply R.r;refine zt gg a (λb a=>?_) (λb a=>?_)
  ·apply R.r;cases a;exact fz rfl rfl
  ·apply R.r;refine zt gg a (λe a=>?_) (λe a=>?_)
   ·apply R.r;cases a;exact fz rfl rfl
   ·apply R.r;refine zt gg a (λg a=>?_) (λg a=>?_)
    ·apply R.r;cases a;exact fz rfl rfl
    ·apply R.r;cases a;exact fz rfl rfl
theorem ok217  (a:w8 x0=some res):Sp 217 [.int .u32 x0] h (y5 (.bool res) h):=by
 unfold w8 at a;refine zd Tryz.func217 rfl (by kernel_rfl) (xH 6 rfl) (R.r ?_);cases a;exact fz rfl rfl
theorem ok213 {res:Int}  (a:wE x0 y1=some res):Sp 213 [.int .u32 x0,.int .u32 y1] h (y5 (.int .i64 res) h):=by
 unfold wE at a;refine zd Tryz.func213 rfl (by kernel_rfl) (xH 20 rfl) (R.r ?_);refine zo a (λk f a=>cp (ok217 f) (R.r ?_));refine zo a (λj c a=>cp (ok217 c) (R.r ?_));refine zt gg a (λi a=>?_) (λi a=>?_)
 ·apply R.r;refine zt gg a (λd a=>?_) (λd a=>?_)
  ·apply R.r;cases a;exact fz rfl rfl
  ·apply R.r;cases a;exact fz rfl rfl
 ·apply R.r;refine zt gg a (λb a=>?_) (λb a=>?_)
  ·apply R.r;cases a;exact fz rfl rfl
  ·apply R.r;refine zt gg a (λe a=>?_) (λe a=>?_)
   ·apply R.r;cases a;exact fz rfl rfl
   ·apply R.r;refine zt gg a (λg a=>?_) (λg a=>?_)
    ·apply R.r;cases a;exact fz rfl rfl
    ·apply R.r;cases a;exact fz rfl rfl
theorem ok205 {a0:GK} {f:GK} {res:Int}  (a:dotXcompare a0 f=some res):Sp 205 [.agg (GK.row a0),.agg (GK.row f)] h (y5 (.int .i64 res) h):=by
 unfold dotXcompare at a;refine zd Tryz.func205 rfl (by kernel_rfl) (xH 17 rfl) (R.r ?_);refine yu [4,9,11] [] trivial mixed (by kernel_rfl) (R.r ?_);refine zo a (λi e a=>zR rfl rfl (λ_=>sc rfl) (by rintro _ ⟨B2,T2,rfl,b⟩;exact ok48 e) ss (R.r ?_));refine zo a (λg c a=>zR rfl rfl (λ_=>sc rfl) (by rintro _ ⟨B2,T2,rfl,b⟩;exact ok213 c) ss ?_);refine zu rfl rfl (zI (es:=([i,g]:List Int).map (intRow .i64)) rfl el128 ze3 rfl rfl (zn gg (zn gg zA)) (.cons (za rfl) (.cons (za rfl) .nil)) rfl rfl rfl) ss ?_;refine zo a (λv3 d a=>zR rfl rfl (λ_=>sc rfl) (by rintro _ ⟨B2,T2,rfl,b⟩;exact (ok46 d).le (.cons (leV.osl _ _ _) leL.nil)) ss (R.r ?_));cases a;exact fz rfl rfl
theorem ok214  (a:w7 x0=some res):Sp 214 [.int .u64 x0] h (y5 (.bool res) h):=by
 unfold w7 at a;refine zd Tryz.func214 rfl (by kernel_rfl) (xH 6 rfl) (R.r ?_);cases a;exact fz rfl rfl
theorem ok206 {res:Int}  (a:xV x0 y1=some res):Sp 206 [.int .u64 x0,.int .u64 y1] h (y5 (.int .i64 res) h):=by
 unfold xV at a;refine zd Tryz.func206 rfl (by kernel_rfl) (xH 20 rfl) (R.r ?_);refine zo a (λk f a=>cp (ok214 f) (R.r ?_));refine zo a (λj c a=>cp (ok214 c) (R.r ?_));refine zt gg a (λi a=>?_) (λi a=>?_)
 ·apply R.r;refine zt gg a (λd a=>?_) (λd a=>?_)
  ·apply R.r;cases a;exact fz rfl rfl
  ·apply R.r;cases a;exact fz rfl rfl
 ·apply R.r;refine zt gg a (λb a=>?_) (λb a=>?_)
  ·apply R.r;cases a;exact fz rfl rfl
  ·apply R.r;refine zt gg a (λe a=>?_) (λe a=>?_)
   ·apply R.r;cases a;exact fz rfl rfl
   ·apply R.r;refine zt gg a (λg a=>?_) (λg a=>?_)
    ·apply R.r;cases a;exact fz rfl rfl
    ·apply R.r;cases a;exact fz rfl rfl
theorem ok185 {a0:GF} {f:GF} {res:Int}  (a:dotCompare a0 f=some res):Sp 185 [.agg (GF.row a0),.agg (GF.row f)] h (y5 (.int .i64 res) h):=by
 unfold dotCompare at a;refine zd Tryz.func185 rfl (by kernel_rfl) (xH 17 rfl) (R.r ?_);refine yu [4,9,11] [] trivial mixed (by kernel_rfl) (R.r ?_);refine zo a (λi e a=>zR rfl rfl (λ_=>sc rfl) (by rintro _ ⟨B2,T2,rfl,b⟩;exact ok205 e) ss (R.r ?_));refine zo a (λg c a=>zR rfl rfl (λ_=>sc rfl) (by rintro _ ⟨B2,T2,rfl,b⟩;exact ok206 c) ss ?_);refine zu rfl rfl (zI (es:=([i,g]:List Int).map (intRow .i64)) rfl el128 ze3 rfl rfl (zn gg (zn gg zA)) (.cons (za rfl) (.cons (za rfl) .nil)) rfl rfl rfl) ss ?_;refine zo a (λv3 d a=>zR rfl rfl (λ_=>sc rfl) (by rintro _ ⟨B2,T2,rfl,b⟩;exact (ok46 d).le (.cons (leV.osl _ _ _) leL.nil)) ss (R.r ?_));cases a;exact fz rfl rfl
theorem ok204 {a0:Int} {g:GF} {i:Int} {f:GF} {res:Int}  (a:leafXcompare a0 g i f=some res):Sp 204 [.int .u64 a0,.agg (GF.row g),.int .u64 i,.agg (GF.row f)] h (y5 (.int .i64 res) h):=by
 unfold leafXcompare at a;refine zd Tryz.func204 rfl (by kernel_rfl) (xH 17 rfl) (R.r ?_);refine yu [2,5,7] [] trivial mixed (by kernel_rfl) (R.r ?_);refine zo a (λk e a=>zR rfl rfl (λ_=>sc rfl) (by rintro _ ⟨B2,T2,rfl,b⟩;exact ok206 e) ss (R.r ?_));refine zo a (λj c a=>zR rfl rfl (λ_=>sc rfl) (by rintro _ ⟨B2,T2,rfl,b⟩;exact ok185 c) ss ?_);refine zu rfl rfl (zI (es:=([k,j]:List Int).map (intRow .i64)) rfl el128 ze3 rfl rfl (zn gg (zn gg zA)) (.cons (za rfl) (.cons (za rfl) .nil)) rfl rfl rfl) ss ?_;refine zo a (λv3 d a=>zR rfl rfl (λ_=>sc rfl) (by rintro _ ⟨B2,T2,rfl,b⟩;exact (ok46 d).le (.cons (leV.osl _ _ _) leL.nil)) ss (R.r ?_));cases a;exact fz rfl rfl
theorem ok183 {b:Int} {f:GF} {a:Int} {e:GF}  (c:leafAhead b f a e=some res):Sp 183 [.int .u64 b,.agg (GF.row f),.int .u64 a,.agg (GF.row e)] h (y5 (.bool res) h):=by
 unfold leafAhead at c;refine zd Tryz.func183 rfl (by kernel_rfl) (xH 15 rfl) (R.r ?_);refine zo c (λg d c=>cp (ok204 d) (R.r ?_));cases c;exact fz rfl rfl
theorem ok184 {p:(List GI)}  (b:leafXtwice p=some res):Sp 184 [.sl 5 (p.map GI.row)] h (y5 (.bool res) h):=by
 unfold leafXtwice at b;refine zd Tryz.func184 rfl (by kernel_rfl) (xH 26 rfl) (R.r ?_);refine zb rfl (e_makeMap (n:=0) rfl rfl) ss (R.r ?_);refine ln λe=>?_;replace e:=yz e;apply R.r;refine zU (λ(s:Nat) (a:List (GF×Int))=>zK 1 2 (zK 4 3 (zK 10 16 [(9,.int .i64 (s:Int))]))) (λa=>h.ext [.mapo (a.map (wp (λx=>AV.agg (GF.row x)) (AV.int .i64))) 0] []) b (λ_ _=>by simp only [zK,vi,ug,uh];try rfl) (wk.le LEL.o) ?_;intro s a u b;apply R.r;refine zZ gg b (λc w g l b i=>?_) (λb=>?_)
 ·apply R.r;refine ix (yd l) (R.r ?_);refine r_drawnF [3] (λ_=>MapE h 0 (a.map (wp (λx=>AV.agg (GF.row x)) (AV.int .i64))) ((ment GF.eqb (0:Int) a c.dot).map (wp (λx=>AV.agg (GF.row x)) (AV.int .i64)))) (λ_=>⟨_,_,rfl,.inl rfl⟩) mixed (by kernel_rfl) (R.r ?_);refine draw_okN rfl rfl (e_lookupF (m:=a) (k:=c.dot) (d:=(0:Int)) (j:=0) (kv:=(λx=>AV.agg (GF.row x))) (vv:=(AV.int .i64)) rfl Tryz.underlying233 kq68 az3 gg gg) ss (R.r ?_);refine yo rfl (FOk.all ⟨_,_,rfl,.inr rfl⟩) (by kernel_rfl) rfl (e_entry (m:=a) (k:=c.dot) (d:=(0:Int)) (j:=0) (kv:=(λx=>AV.agg (GF.row x))) (vv:=(AV.int .i64)) rfl Tryz.underlying233 kq68 az3 gg rfl gg rfl) ss (R.r ?_);refine yo rfl (FOk.skip (by kernel_rfl)) (by kernel_rfl) rfl (e_entryStore (m:=a) (k:=c.dot) (d:=(0:Int)) (v:=(IntKind.wrap .i64 ((zz GF.eqb (0:Int) a c.dot)+(1:Int)))) (j:=0) (eq:=GF.eqb) (kv:=(λx=>AV.agg (GF.row x))) (vv:=(AV.int .i64)) rfl gg rfl gg rfl gg rfl rfl) rfl (R.r ?_);cases b;exact ⟨(mput GF.eqb a c.dot (IntKind.wrap .i64 ((zz GF.eqb (0:Int) a c.dot)+(1:Int)))),g,i,wk.trans (wk.le (by exact (.eq (.drop (.drop (.eq (.drop (.drop (.drop (.eq (.eq (.cons (leV.of_eq (xw (by omega) (by omega))) (.d16 leL.nil))))))))))))) (yb (by simp [zP,AV.low]) rfl rfl (by simp [Blk.low,zP,AV.low,GF.row,wp]))⟩
 ·apply R.r;refine ops_mlen (m:=a) (j:=0) (kv:=(λx=>AV.agg (GF.row x))) (vv:=(AV.int .i64)) rfl rfl rfl rfl rfl Tryz.underlying233 gg rfl ss (R.r ?_);refine ln λf=>?_;replace f:=yz f;apply R.r;cases b;exact fz rfl rfl
theorem ok154 {w:(List GI)} {b:Bool}  (a:leafXitems w b=some res):Sp 154 [.sl 5 (w.map GI.row),.bool b] h (y5 (.bool res) h):=by
 unfold leafXitems at a;refine zd Tryz.func154 rfl (by kernel_rfl) (xH 66 rfl) (R.r ?_);refine ln λe=>?_;replace e:=yz e;apply R.r;refine zU (λ(y:Nat) (x:Unit)=>zK 2 5 (zK 10 56 [(9,.int .i64 (y:Int))])) (λx=>h.ext [] []) a (λ_ _=>by simp only [zK,vi,ug,uh];try rfl) (wk.le LEL.o) ?_;intro y x z a;apply R.r;refine zZ gg a (λG F u s a d=>?_) (λa=>?_)
 ·apply R.r;refine ix (yd s) (R.r ?_);refine zo a (λA p a=>cp (ok152 p) (R.r ?_));refine yw a (λE f a=>ya rfl sc (λc=>ok153 (f c)) ss (R.r ?_));refine yw a (λC g a=>ya rfl sc (λc=>ok151 (g c)) ss ?_);refine yE rfl (λc=>zX rfl (yi gg c) (yi gg c) (bin_boolN ty4)) ss (R.r ?_);refine zt gg a (λl a=>?_) (λl a=>?_)
  ·apply R.r;cases a;replace a:=d;apply R.r;cases a;exact fz rfl rfl
  ·apply R.r;refine wC (by kernel_rfl) (R.r ?_);refine xu a (λn a=>dgix n (R.r ?_));refine xu a (λm a=>dgix m (R.r ?_));refine yw a (λD k a=>wr rfl rfl sc (λc=>ok183 (k c)) ss (R.r ?_));refine zt gg a (λj a=>?_) (λj a=>?_)
   ·apply R.r;cases a;replace a:=d;apply R.r;cases a;exact fz rfl rfl
   ·apply R.r;cases a;exact ⟨(),u,d,wk.trans (wk.le (by exact (.eq (.eq (.d4 (.drop (.eq (.eq (.cons (leV.of_eq (xw (by omega) (by omega))) (.d16 (.d16 (.d16 (.d4 (.d4 leL.nil)))))))))))))) (yb (by simp [zP,AV.low]) rfl rfl (by simp [Blk.low,zP,AV.low]))⟩
 ·apply R.r;refine zo a (λB i a=>cp (ok184 i) (R.r ?_));cases a;exact fz rfl rfl
theorem ok208 {x0:GI} {b:GF} {c:Nat} (a:h.blk c=some (.cells (GF.row b))) (d:leafXhasC1 x0 b=some res):Sp 208 [.agg [.int .u64 x0.time,.int .u8 x0.dot.actor.rep,.int .u32 x0.dot.actor.inc,.int .u64 x0.dot.seq,.str x0.text],.ptr c 0] h (y5 (.bool res) h):=by
 unfold leafXhasC1 at d;refine zd Tryz.func208 rfl (by kernel_rfl) (xH 8 rfl) (R.r ?_);refine zb rfl (b_load rfl ty68.choose_spec.1 gg a (z7 (cs':=(GF.row b)) ty68.choose_spec.2 rfl rfl) (za rfl)) ss ?_;refine zb rfl (zX rfl gg gg (bin_eq pk68 rfl)) ss (R.r ?_);cases d;exact fz rfl rfl
theorem ok215 {u:(List GI)} {f1:(GI->Option Bool)} {res:Int} (s:∀x0 v (L:List Blk) (M:List Nat),f1 x0=some v->Sp ff1 (af1++[.agg [.int .u64 x0.time,.int .u8 x0.dot.actor.rep,.int .u32 x0.dot.actor.inc,.int .u64 x0.dot.seq,.str x0.text]]++kf1) (h.ext L M) (y5 (.bool v) (h.ext L M))) (a:wx u f1=some res):Sp 215 [.sl 5 (u.map GI.row),.fn (.func ff1) af1 kf1] h (y5 (.int .i64 res) h):=by
 unfold wx at a;refine yg Tryz.func215 rfl (by kernel_rfl) (xH 19 rfl) (λb z=>?_);simp only [zP,AV.low,ud,uX,tT] at b;have j:∀n m,h.blks.length<=n->h.toks.length<=m->zP n m af1=true:=λn m g e=>yx g e _ (by simp [b]);have f:∀n m,h.blks.length<=n->h.toks.length<=m->zP n m kf1=true:=λn m g e=>yx g e _ (by simp [b]);apply R.r;refine ln λc=>?_;replace c:=yz c;apply R.r;refine zU (λ(x:Nat) (w:Unit)=>zK 2 5 (zK 9 10 [(8,.int .i64 (x:Int))])) (λw=>h.ext [] []) a (λ_ _=>by simp only [zK,vi,ug,uh];try rfl) (wk.le LEL.o) ?_;intro x w y a;apply R.r;refine zZ gg a (λC B p i a d=>?_) (λa=>?_)
 ·apply R.r;refine ix (yd i) (R.r ?_);refine zo a (λA l a=>zT rfl (scC rfl) (s _ _ _ _ l) ss (R.r ?_));refine zt gg a (λk a=>?_) (λk a=>?_)
  ·apply R.r;cases a;replace a:=d;apply R.r;cases a;exact fz rfl rfl
  ·apply R.r;cases a;exact ⟨(),p,d,wk.le (by exact (.eq (.eq (.d4 (.drop (.eq (.cons (leV.of_eq (xw (by omega) (by omega))) (.d4 (.d4 (.drop (.drop leL.nil)))))))))))⟩
 ·apply R.r;cases a;exact fz rfl rfl
theorem ok207 {j:(List GI)} {f1:(GI->Option Bool)} (d:∀x0 v (L:List Blk) (M:List Nat),f1 x0=some v->Sp ff1 (af1++[.agg [.int .u64 x0.time,.int .u8 x0.dot.actor.rep,.int .u32 x0.dot.actor.inc,.int .u64 x0.dot.seq,.str x0.text]]++kf1) (h.ext L M) (y5 (.bool v) (h.ext L M))) (b:xf j f1=some res):Sp 207 [.sl 5 (j.map GI.row),.fn (.func ff1) af1 kf1] h (y5 (.bool res) h):=by
 unfold xf at b;refine yg Tryz.func207 rfl (by kernel_rfl) (xH 9 rfl) (λa l=>?_);simp only [zP,AV.low,ud,uX,tT] at a;have c:∀n m,h.blks.length<=n->h.toks.length<=m->zP n m af1=true:=λn m i e=>yx i e _ (by simp [a]);have f:∀n m,h.blks.length<=n->h.toks.length<=m->zP n m kf1=true:=λn m i e=>yx i e _ (by simp [a]);apply R.r;refine zo b (λo g b=>cp (ok215 (λx0 v L M k=>by rw [xE];exact d x0 v _ _ k) g) (R.r ?_));cases b;exact fz rfl rfl
theorem ok186 {c:(List GI)} {d:GF}  (a:leafXhas c d=some res):Sp 186 [.sl 5 (c.map GI.row),.agg (GF.row d)] h (y5 (.bool res) h):=by
 unfold leafXhas at a;refine zd Tryz.func186 rfl (by kernel_rfl) (xH 8 rfl) (R.r ?_);refine zb rfl (q8 rfl rfl rfl) ss ?_;refine zo a (λf b a=>cp (ok207 (λ_ v L M e=>ok208 (blk_ext2 (j:=0) rfl) e) b) (R.r ?_));cases a;exact fz rfl rfl
theorem ok155 {l:GE}  (a:leafXtombs l=some res):Sp 155 [.agg (GE.row l)] h (y5 (.bool res) h):=by
 unfold leafXtombs at a;refine zd Tryz.func155 rfl (by kernel_rfl) (xH 38 rfl) (R.r ?_);refine ln λc=>?_;replace c:=yz c;apply R.r;refine zU (λ(p:Nat) (n:Unit)=>zK 2 4 (zK 9 29 [(0,.any),(8,.int .i64 (p:Int))])) (λn=>h.ext [.cells (GE.row l)] []) a (λ_ _=>by simp only [zK,vi,ug,uh];try rfl) (wk.le LEL.o) ?_;intro p n s a;apply R.r;refine zZ gg a (λz y m k a i=>?_) (λa=>?_)
 ·apply R.r;refine ix (yd k) (R.r ?_);refine yu [1] [] trivial mixed (by kernel_rfl) (R.r ?_);refine zo a (λx f a=>zR rfl rfl (λ_=>sc rfl) (by rintro _ ⟨B2,T2,rfl,u⟩;exact ok152 f) ss (R.r ?_));refine xu a (λg a=>dgix g (R.r ?_));refine yw a (λw e a=>wr rfl (aG_gv rfl rfl rfl) sc (λj=>ok185 (e j)) ss (R.r ?_));refine yw a (λv22 b a=>wr rfl rfl sc (λj=>ok186 (b j)) ss (R.r ?_));refine zt gg a (λd a=>?_) (λd a=>?_)
  ·apply R.r;cases a;replace a:=i;apply R.r;cases a;exact fz rfl rfl
  ·apply R.r;cases a;exact ⟨(),m,i,wk.trans (wk.le (by exact (.drop (.eq (.d4 (.eq (.eq (.cons (leV.of_eq (xw (by omega) (by omega))) (.d16 (.d4 (.d4 (.d4 (.drop leL.nil))))))))))))) (yb (by simp [zP,AV.low]) rfl rfl (by simp [Blk.low,zP,AV.low]))⟩
 ·apply R.r;cases a;exact fz rfl rfl
theorem ok84 {b:GE}  (a:leafMay b=some res):Sp 84 [.agg (GE.row b)] h (y5 (.bool res) h):=by
 unfold leafMay at a;refine zd Tryz.func84 rfl (by kernel_rfl) (xH 89 rfl) (R.r ?_);refine zb rfl (yB (cs':=[.int .u8 b.typ,.int .i64 (0:Int),.int .u64 (0:Int),.int .u8 (0:Int),.int .u32 (0:Int),.int .u64 (0:Int),.str ([]:zi),.osl none 5 (([]:List GI).map GI.row),.osl none 3 (([]:List GF).map GF.row)]) rfl su72 ze72 pl72 (zn gg zA) (.cons (za rfl) .nil) rfl rfl) ss (R.r ?_);refine zt gg a (λz a=>?_) (λz a=>?_)
 ·apply R.r;refine zo a (λG o a=>cp ((ok65 o).le (.eq (.cons (leV.agg (.eq (.eq (.eq (.eq (.eq (.eq (.eq (.cons (leV.osl _ _ _) (.cons (leV.osl _ _ _) leL.nil))))))))) rfl) leL.nil))) (R.r ?_));cases a;exact fz rfl rfl
 ·apply R.r;refine zt gg a (λy a=>?_) (λy a=>?_)
  ·apply R.r;refine yu [3,5] [(3,[(0,.cells (GE.row b))]),(5,[(0,.cells (GE.row b))])] ⟨⟨rfl,trivial⟩,⟨rfl,trivial⟩,trivial⟩ mixed (by kernel_rfl) (R.r ?_);refine draw_okN rfl rfl (by rintro _ ⟨B2,T2,rfl,c⟩;exact zH rfl ty68.choose_spec.1 gg (keeps1 c) (z7 (cs':=(GF.row b.dot)) ty68.choose_spec.2 rfl rfl) (za rfl)) ss (R.r ?_);refine draw_okN rfl rfl (by rintro _ ⟨B2,T2,rfl,c⟩;exact zH rfl ty9 gg (keeps1 c) (zD rfl) (za rfl)) ss (R.r ?_);refine yo rfl (FOk.cons (.inr (yR ⟨rfl,trivial⟩)) (FOk.cons (.inr (yR ⟨rfl,trivial⟩)) FOk.nil)) (by kernel_rfl) rfl (yc (cs':=[.int .u8 b.typ,.int .i64 (0:Int),.int .u64 b.time,.int .u8 (0:Int),.int .u32 (0:Int),.int .u64 (0:Int),.str ([]:zi),.osl none 5 (([]:List GI).map GI.row),.osl none 3 (([]:List GF).map GF.row)]) rfl ty63 gg gg (za rfl) rfl rfl rfl rfl rfl) rfl (R.r ?_);refine yo rfl (FOk.cons (.inr (yR ⟨rfl,trivial⟩)) (FOk.cons (.inr (yR ⟨rfl,trivial⟩)) FOk.nil)) (by kernel_rfl) rfl (yc (cs':=[.int .u8 b.typ,.int .i64 (0:Int),.int .u64 b.time,.int .u8 b.dot.actor.rep,.int .u32 b.dot.actor.inc,.int .u64 b.dot.seq,.str ([]:zi),.osl none 5 (([]:List GI).map GI.row),.osl none 3 (([]:List GF).map GF.row)]) rfl ty68.choose_spec.1 gg gg (za rfl) rfl rfl rfl rfl rfl) rfl (R.r ?_);refine yo rfl (FOk.cons (.inr (yR ⟨rfl,trivial⟩)) (FOk.cons (.inr (yR ⟨rfl,trivial⟩)) FOk.nil)) (by kernel_rfl) rfl (yc (cs':=[.int .u8 b.typ,.int .i64 (0:Int),.int .u64 b.time,.int .u8 b.dot.actor.rep,.int .u32 b.dot.actor.inc,.int .u64 b.dot.seq,.str b.text,.osl none 5 (([]:List GI).map GI.row),.osl none 3 (([]:List GF).map GF.row)]) rfl ty9 gg gg (za rfl) rfl rfl rfl rfl rfl) rfl (R.r ?_);refine yw a (λv4 n a=>ya rfl sc (λd=>ok151 (n d)) ss (R.r ?_));refine yw a (λv5 w a=>ya (aG_gv rfl rfl rfl) sc (λd=>ok152 (w d)) ss (R.r ?_));refine yw a (λF x a=>ya (aG_gv rfl rfl rfl) sc (λd=>ok153 (x d)) ss (R.r ?_));refine yE (aG_gv rfl rfl rfl) (λd=>yB (cs':=lit2x) rfl su68 ze68 pl68 zA .nil rfl rfl) ss ?_;refine yE (aG_gv rfl rfl rfl) (λd=>zX rfl (yi gg d) (yi gg d) (bin_ne pk68 rfl)) ss (R.r ?_);refine zt gg a (λu a=>?_) (λu a=>?_)
   ·apply R.r;cases a;exact fz rfl rfl
   ·apply R.r;refine zo a (λH p a=>cp ((ok65 p).le (.eq (.cons (leV.agg (.eq (.eq (.eq (.eq (.eq (.eq (.eq (.cons (leV.osl _ _ _) (.cons (leV.osl _ _ _) leL.nil))))))))) rfl) leL.nil))) (R.r ?_));cases a;exact fz rfl rfl
  ·apply R.r;refine zt gg a (λs a=>?_) (λs a=>?_)
   ·apply R.r;refine yu [3] [(3,[(0,.cells (GE.row b))])] ⟨⟨rfl,trivial⟩,trivial⟩ mixed (by kernel_rfl) (R.r ?_);refine draw_okN rfl rfl (by rintro _ ⟨B2,T2,rfl,c⟩;exact zH rfl ty70 gg (keeps1 c) (zD rfl) (za rfl)) ss (R.r ?_);refine yo rfl (FOk.cons (.inr (yR ⟨rfl,trivial⟩)) FOk.nil) (by kernel_rfl) rfl (yc (cs':=[.int .u8 b.typ,.int .i64 (0:Int),.int .u64 (0:Int),.int .u8 (0:Int),.int .u32 (0:Int),.int .u64 (0:Int),.str ([]:zi),.sl 5 (b.items.map GI.row),.osl none 3 (([]:List GF).map GF.row)]) rfl ty69 gg gg (za rfl) rfl rfl rfl rfl rfl) rfl (R.r ?_);refine yo rfl (FOk.cons (.inr (yR ⟨rfl,trivial⟩)) FOk.nil) (by kernel_rfl) rfl (yc (cs':=[.int .u8 b.typ,.int .i64 (0:Int),.int .u64 (0:Int),.int .u8 (0:Int),.int .u32 (0:Int),.int .u64 (0:Int),.str ([]:zi),.sl 5 (b.items.map GI.row),.sl 3 (b.tombs.map GF.row)]) rfl ty70 gg gg (za rfl) rfl rfl rfl rfl rfl) rfl (R.r ?_);refine zo a (λB g a=>cp (ok154 g) (R.r ?_));refine yw a (λE l a=>ya rfl sc (λd=>ok155 (l d)) ss (R.r ?_));refine zt gg a (λk a=>?_) (λk a=>?_)
    ·apply R.r;cases a;exact fz rfl rfl
    ·apply R.r;refine zo a (λA m a=>cp (ok65 m) (R.r ?_));cases a;exact fz rfl rfl
   ·apply R.r;refine zt gg a (λe a=>?_) (λe a=>?_)
    ·apply R.r;refine zo a (λC f a=>cp (ok154 f) (R.r ?_));refine zt gg a (λj a=>?_) (λj a=>?_)
     ·apply R.r;cases a;exact fz rfl rfl
     ·apply R.r;refine zo a (λD i a=>cp ((ok65 i).le (.eq (.cons (leV.agg (.eq (.eq (.eq (.eq (.eq (.eq (.eq (.eq (.cons (leV.osl _ _ _) leL.nil))))))))) rfl) leL.nil))) (R.r ?_));cases a;exact fz rfl rfl
    ·apply R.r;cases a;exact fz rfl rfl
theorem ok50N (n:Nat):∀{t0:(List GA)} {deep1:Int} {res:Bool} {h:AH} , qj n t0 deep1=some res->Sp 50 [.sl 3 (t0.map GA.row),.int .i64 deep1] h (y5 (.bool res) h):=by
 induction n with
 | zero=>intro t0 deep1 res h  a;simp [qj] at a
 | succ n ih =>
  intro t0 deep1 res h  a;unfold qj at a;refine zd Tryz.func50 rfl (by kernel_rfl) (xH 89 rfl) (R.r ?_);refine ln λg=>?_;replace g:=yz g;apply R.r;refine zt gg a (λz a=>?_) (λz a=>?_)
  ·apply R.r;cases a;exact fz rfl rfl
  ·apply R.r;refine ln λl=>?_;replace l:=yz l;apply R.r;refine zU (λ(D:Nat) (C:Unit)=>zK 2 14 (zK 19 70 [(18,.int .i64 (D:Int))])) (λC=>h.ext [] []) a (λ_ _=>by simp only [zK,vi,ug,uh];try rfl) (wk.le LEL.o) ?_;intro D C F a;apply R.r;refine zZ gg a (λB K A y a d=>?_) (λa=>?_)
   ·apply R.r;refine zb rfl (wb rfl el23 gg gg isl (yd y) (GA.row_eq _)) ss (R.r ?_);refine yu [2] [] trivial mixed (by kernel_rfl) (R.r ?_);refine zo a (λH p a=>zR rfl rfl (λ_=>sc rfl) (by rintro _ ⟨B2,T2,rfl,u⟩;exact ok83 p) ss (R.r ?_));refine xu a (λi a=>draw_gv rfl (aG_gv rfl rfl rfl) (λb=>s_gidxRowE default rfl el23 (yi gg b) (yi gg b) isl (i b) (GA.row_eq _)) ss (R.r ?_));refine draw_glen rfl rfl (λb=>xM rfl rfl rfl rfl el95 (yi gg b) vQ) ss (R.r ?_);refine draw_glen rfl rfl (λb=>xM rfl rfl rfl rfl el23 (yi gg b) vQ) ss (R.r ?_);refine yw a (λv31 e a=>wr rfl rfl sc (λb=>ih (e b)) ss (R.r ?_));refine zt gg a (λj a=>?_) (λj a=>?_)
    ·apply R.r;cases a;replace a:=d;apply R.r;cases a;exact fz rfl rfl
    ·apply R.r;refine ln λc=>?_;replace c:=yz c;apply R.r;refine zU (λ(E:Nat) (s2:Unit)=>zK 2 4 (zK 7 9 (zK 19 42 (zK 64 25 [(63,.int .i64 (E:Int))])))) (λs2=>h.ext [.cells [.str B.name,.sl 9 (B.leaves.map GE.row),.sl 3 (B.subs.map GA.row)]] []) a (λ_ _=>by simp only [zK,vi,ug,uh];try rfl) (wk.le LEL.o) ?_;intro E s2 G a;apply R.r;refine zZ gg a (λL J x w a k=>?_) (λa=>?_)
     ·apply R.r;refine ix (yd w) (R.r ?_);refine yu [1] [] trivial mixed (by kernel_rfl) (R.r ?_);refine zo a (λI f a=>zR rfl rfl (λ_=>sc rfl) (by rintro _ ⟨B2,T2,rfl,u⟩;exact ok84 f) ss (R.r ?_));refine xu a (λs a=>dgix s (R.r ?_));refine zt gg a (λm a=>?_) (λm a=>?_)
      ·apply R.r;cases a;replace a:=k;apply R.r;cases a;replace a:=d;apply R.r;cases a;exact fz rfl rfl
      ·apply R.r;cases a;exact ⟨(),x,k,wk.trans (wk.le (by exact (.eq (.eq (.d4 (.eq (.d4 (.d4 (.drop (.eq (.eq (.eq (.d16 (.d16 (.d4 (.d4 (.drop (.drop (.eq (.eq (.cons (leV.of_eq (xw (by omega) (by omega))) (.d16 (.d4 (.d4 (.drop leL.nil))))))))))))))))))))))))) (yb (by simp [zP,AV.low]) rfl rfl (by simp [Blk.low,zP,AV.low]))⟩
     ·apply R.r;cases a;exact ⟨(),A,d,wk.trans (wk.le (by exact (.eq (.eq (.d4 (.d4 (.d4 (.drop (.drop (.eq (.eq (.cons (leV.of_eq (xw (by omega) (by omega))) (.d16 (.d16 (.d16 (.d16 (.d4 (.drop (.drop leL.nil))))))))))))))))))) (yb (by simp [zP,AV.low]) rfl rfl (by simp [Blk.low,zP,AV.low]))⟩
   ·apply R.r;cases a;exact fz rfl rfl
theorem ok50 {t0:(List GA)}  (b:treeXmay t0 deep1=some res):Sp 50 [.sl 3 (t0.map GA.row),.int .i64 deep1] h (y5 (.bool res) h):=by
 obtain ⟨n,a⟩:=anyN_is b;exact ok50N n a
theorem ok24 {t0:(List GA)}  (a:ww t0=some res):Sp 24 [.sl 3 (t0.map GA.row)] h (y5 (.bool res) h):=by
 unfold ww at a;refine zd Tryz.func24 rfl (by kernel_rfl) (xH 5 rfl) (R.r ?_);refine zo a (λc b a=>cp (ok50 b) (R.r ?_));cases a;exact fz rfl rfl
theorem ok85 {f:(List zi)} {res:((List zi)×Bool)}  (a:qm f=some res):Sp 85 [.sl 1 (f.map zr)] h (y5 (.tup [.sl 1 (res.1.map zr),.bool res.2]) h):=by
 unfold qm at a;refine zd Tryz.func85 rfl (by kernel_rfl) (xH 22 rfl) (R.r ?_);refine ln λb=>?_;replace b:=yz b;apply R.r;refine xu a (λd a=>gix d (R.r ?_));refine zt gg a (λc a=>?_) (λc a=>?_)
 ·apply R.r;refine zo a (λg e a=>zb rfl (s_slcSl rfl el45 gg (.inl rfl) .none (.some gg) e) ss (R.r ?_));cases a;exact fz rfl rfl
 ·apply R.r;cases a;exact fz rfl rfl
theorem ok86 {c:zi}  (a:vf c=some res):Sp 86 [.str c] h (y5 (.bool res) h):=by
 unfold vf at a;refine zd Tryz.func86 rfl (by kernel_rfl) (xH 10 rfl) (R.r ?_);refine yw a (λe b a=>ya rfl sc (λd=>ok83 (b d)) ss (R.r ?_));cases a;exact fz rfl rfl
theorem ok156 {u:(List zi)} {f1:(zi->Option Bool)} {res:Int} (s:∀x0 v (L:List Blk) (M:List Nat),f1 x0=some v->Sp ff1 (af1++[.str x0]++kf1) (h.ext L M) (y5 (.bool v) (h.ext L M))) (a:x4 u f1=some res):Sp 156 [.sl 1 (u.map zr),.fn (.func ff1) af1 kf1] h (y5 (.int .i64 res) h):=by
 unfold x4 at a;refine yg Tryz.func156 rfl (by kernel_rfl) (xH 19 rfl) (λb z=>?_);simp only [zP,AV.low,ud,uX,tT] at b;have j:∀n m,h.blks.length<=n->h.toks.length<=m->zP n m af1=true:=λn m g e=>yx g e _ (by simp [b]);have f:∀n m,h.blks.length<=n->h.toks.length<=m->zP n m kf1=true:=λn m g e=>yx g e _ (by simp [b]);apply R.r;refine ln λc=>?_;replace c:=yz c;apply R.r;refine zU (λ(x:Nat) (w:Unit)=>zK 2 5 (zK 9 10 [(8,.int .i64 (x:Int))])) (λw=>h.ext [] []) a (λ_ _=>by simp only [zK,vi,ug,uh];try rfl) (wk.le LEL.o) ?_;intro x w y a;apply R.r;refine zZ gg a (λC B p i a d=>?_) (λa=>?_)
 ·apply R.r;refine ix (yd i) (R.r ?_);refine zo a (λA l a=>zT rfl (scC rfl) (s _ _ _ _ l) ss (R.r ?_));refine zt gg a (λk a=>?_) (λk a=>?_)
  ·apply R.r;cases a;replace a:=d;apply R.r;cases a;exact fz rfl rfl
  ·apply R.r;cases a;exact ⟨(),p,d,wk.le (by exact (.eq (.eq (.d4 (.drop (.eq (.cons (leV.of_eq (xw (by omega) (by omega))) (.d4 (.d4 (.drop (.drop leL.nil)))))))))))⟩
 ·apply R.r;cases a;exact fz rfl rfl
theorem ok87 {j:(List zi)} {f1:(zi->Option Bool)} (d:∀x0 v (L:List Blk) (M:List Nat),f1 x0=some v->Sp ff1 (af1++[.str x0]++kf1) (h.ext L M) (y5 (.bool v) (h.ext L M))) (b:yL j f1=some res):Sp 87 [.sl 1 (j.map zr),.fn (.func ff1) af1 kf1] h (y5 (.bool res) h):=by
 unfold yL at b;refine yg Tryz.func87 rfl (by kernel_rfl) (xH 9 rfl) (λa l=>?_);simp only [zP,AV.low,ud,uX,tT] at a;have c:∀n m,h.blks.length<=n->h.toks.length<=m->zP n m af1=true:=λn m i e=>yx i e _ (by simp [a]);have f:∀n m,h.blks.length<=n->h.toks.length<=m->zP n m kf1=true:=λn m i e=>yx i e _ (by simp [a]);apply R.r;refine zo b (λo g b=>cp (ok156 (λx0 v L M k=>by rw [xE];exact d x0 v _ _ k) g) (R.r ?_));cases b;exact fz rfl rfl
theorem ok51 {e:(List zi)}  (a:wd e=some res):Sp 51 [.sl 1 (e.map zr)] h (y5 (.bool res) h):=by
 unfold wd at a;refine zd Tryz.func51 rfl (by kernel_rfl) (xH 28 rfl) (R.r ?_);refine zo a (λj c a=>cp (ok85 c) (R.r ?_));refine ln λb=>?_;replace b:=yz b;apply R.r;refine lng λi=>R.r ?_;refine yw a (λv4 d a=>ya rfl sc (λg=>ok87 (λ_ v L M f=>ok86  f) (d g)) ss (R.r ?_));cases a;exact fz rfl rfl
theorem ok99 {d:(List GI)} {res:(List GI)}  (a:xG d=some res):Sp 99 [.sl 5 (d.map GI.row)] h (OwnK h 5 res.length (res.map GI.row)):=by
 unfold xG at a;refine zd Tryz.func99 rfl (by kernel_rfl) (xH 8 rfl) (R.r ?_);refine ops_nilqE rfl rfl el69 gg isl rfl (λ_=>ss) a (λf e a=>R.r ?_);refine zt gg a (λb a=>?_) (λb a=>?_)
 ·apply R.r;cases a;refine fr rfl (fin_own0 (row:=GI.row) (L:=([]:List GI)) ?_);exact ⟨rfl,rfl⟩
 ·apply R.r;refine zb rfl (zI (es:=([]:List GI).map GI.row) rfl el69 ze99 rfl rfl zA .nil rfl rfl rfl) ss (R.r ?_);refine xu a (λc a=>zb rfl (e_appN (m:=0) (T':=[((([]:List GI)++d)).length]) rfl rfl rfl rfl el69 el69 gg gg (za rfl) (za rfl) news_sl c rfl rfl) ss (R.r ?_));cases a;refine fr rfl (fin_own ?_);exact ⟨rfl,rfl⟩
theorem ok100 {d:(List GF)} {res:(List GF)}  (a:xY d=some res):Sp 100 [.sl 3 (d.map GF.row)] h (OwnK h 3 res.length (res.map GF.row)):=by
 unfold xY at a;refine zd Tryz.func100 rfl (by kernel_rfl) (xH 8 rfl) (R.r ?_);refine ops_nilqE rfl rfl el70 gg isl rfl (λ_=>ss) a (λf e a=>R.r ?_);refine zt gg a (λb a=>?_) (λb a=>?_)
 ·apply R.r;cases a;refine fr rfl (fin_own0 (row:=GF.row) (L:=([]:List GF)) ?_);exact ⟨rfl,rfl⟩
 ·apply R.r;refine zb rfl (zI (es:=([]:List GF).map GF.row) rfl el70 ze68 rfl rfl zA .nil rfl rfl rfl) ss (R.r ?_);refine xu a (λc a=>zb rfl (e_appN (m:=0) (T':=[((([]:List GF)++d)).length]) rfl rfl rfl rfl el70 el70 gg gg (za rfl) (za rfl) news_sl c rfl rfl) ss (R.r ?_));cases a;refine fr rfl (fin_own ?_);exact ⟨rfl,rfl⟩
end Go.Vv
