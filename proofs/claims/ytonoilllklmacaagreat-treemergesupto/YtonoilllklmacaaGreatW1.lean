/- Each function that the law reaches computes what its reading says; printed by a program. -/
import Derived.Test.YtonoilllklmacaaGreatVvSh
import Derived.Test.YtonoilllklmacaaGreatVvY
import Derived.Test.YtonoilllklmacaaGreatVvRb
import Derived.Test.YtonoilllklmacaaGreatVvSo
import Derived.Test.YtonoilllklmacaaGreatVvSs
import Derived.Test.YtonoilllklmacaaGreatVvCu
import Derived.Test.YtonoilllklmacaaGreatD
import Derived.Test.YtonoilllklmacaaGreatProg
set_option linter.all false
namespace Go.Vv
open Go Go.Proofs
set_option maxRecDepth 100000
set_option synthInstance.maxSize 100000
set_option synthInstance.maxHeartbeats 1000000
set_option maxHeartbeats 1000000
variable {h:AH} {res:Bool} {ff1:FuncId} {af1 kf1:List AV} {i0:Nat} {kind0 kind2 x0 y1:Int}
section
variable {v a0 a1 a2 a3 a4 a5 a6 a7 a8 a9 a10 a11 a12 a13 a14 a15 a16 a17 a18 a19 a20 a21 a22 a23 a24 a25 a26 a27 a28 a29 a30 a31 a32 a33 a34 a35 a36 a37 a38 a39:AV} {r q:List AV} {t:Nat}
abbrev Sp:=Spec Tryz.prog
theorem gt0:yu (a0::r) (.tmp 0)=some a0:=rfl
theorem st0:wL (some 0) (a0::r) v=some (v::r):=rfl
theorem gt1:yu (a0::a1::r) (.tmp 1)=some a1:=rfl
theorem st1:wL (some 1) (a0::a1::r) v=some (a0::v::r):=rfl
theorem gt2:yu (a0::a1::a2::r) (.tmp 2)=some a2:=rfl
theorem st2:wL (some 2) (a0::a1::a2::r) v=some (a0::a1::v::r):=rfl
theorem gt3:yu (a0::a1::a2::a3::r) (.tmp 3)=some a3:=rfl
theorem st3:wL (some 3) (a0::a1::a2::a3::r) v=some (a0::a1::a2::v::r):=rfl
theorem gt4:yu (a0::a1::a2::a3::a4::r) (.tmp 4)=some a4:=rfl
theorem st4:wL (some 4) (a0::a1::a2::a3::a4::r) v=some (a0::a1::a2::a3::v::r):=rfl
theorem gt5:yu (a0::a1::a2::a3::a4::a5::r) (.tmp 5)=some a5:=rfl
theorem st5:wL (some 5) (a0::a1::a2::a3::a4::a5::r) v=some (a0::a1::a2::a3::a4::v::r):=rfl
theorem gt6:yu (a0::a1::a2::a3::a4::a5::a6::r) (.tmp 6)=some a6:=rfl
theorem st6:wL (some 6) (a0::a1::a2::a3::a4::a5::a6::r) v=some (a0::a1::a2::a3::a4::a5::v::r):=rfl
theorem gt7:yu (a0::a1::a2::a3::a4::a5::a6::a7::r) (.tmp 7)=some a7:=rfl
theorem st7:wL (some 7) (a0::a1::a2::a3::a4::a5::a6::a7::r) v=some (a0::a1::a2::a3::a4::a5::a6::v::r):=rfl
theorem gt8:yu (a0::a1::a2::a3::a4::a5::a6::a7::a8::r) (.tmp 8)=some a8:=rfl
theorem st8:wL (some 8) (a0::a1::a2::a3::a4::a5::a6::a7::a8::r) v=some (a0::a1::a2::a3::a4::a5::a6::a7::v::r):=rfl
theorem gt9:yu (a0::a1::a2::a3::a4::a5::a6::a7::a8::a9::r) (.tmp 9)=some a9:=rfl
theorem st9:wL (some 9) (a0::a1::a2::a3::a4::a5::a6::a7::a8::a9::r) v=some (a0::a1::a2::a3::a4::a5::a6::a7::a8::v::r):=rfl
theorem gt10:yu (a0::a1::a2::a3::a4::a5::a6::a7::a8::a9::a10::r) (.tmp 10)=some a10:=rfl
theorem st10:wL (some 10) (a0::a1::a2::a3::a4::a5::a6::a7::a8::a9::a10::r) v=some (a0::a1::a2::a3::a4::a5::a6::a7::a8::a9::v::r):=rfl
theorem gt11:yu (a0::a1::a2::a3::a4::a5::a6::a7::a8::a9::a10::a11::r) (.tmp 11)=some a11:=rfl
theorem st11:wL (some 11) (a0::a1::a2::a3::a4::a5::a6::a7::a8::a9::a10::a11::r) v=some (a0::a1::a2::a3::a4::a5::a6::a7::a8::a9::a10::v::r):=rfl
theorem gt12:yu (a0::a1::a2::a3::a4::a5::a6::a7::a8::a9::a10::a11::a12::r) (.tmp 12)=some a12:=rfl
theorem st12:wL (some 12) (a0::a1::a2::a3::a4::a5::a6::a7::a8::a9::a10::a11::a12::r) v=some (a0::a1::a2::a3::a4::a5::a6::a7::a8::a9::a10::a11::v::r):=rfl
theorem qV:yu (a0::a1::a2::a3::a4::a5::a6::a7::a8::a9::a10::a11::a12::a13::r) (.tmp 13)=some a13:=rfl
theorem st13:wL (some 13) (a0::a1::a2::a3::a4::a5::a6::a7::a8::a9::a10::a11::a12::a13::r) v=some (a0::a1::a2::a3::a4::a5::a6::a7::a8::a9::a10::a11::a12::v::r):=rfl
theorem gt14:yu (a0::a1::a2::a3::a4::a5::a6::a7::a8::a9::a10::a11::a12::a13::a14::r) (.tmp 14)=some a14:=rfl
theorem st14:wL (some 14) (a0::a1::a2::a3::a4::a5::a6::a7::a8::a9::a10::a11::a12::a13::a14::r) v=some (a0::a1::a2::a3::a4::a5::a6::a7::a8::a9::a10::a11::a12::a13::v::r):=rfl
theorem gt15:yu (a0::a1::a2::a3::a4::a5::a6::a7::a8::a9::a10::a11::a12::a13::a14::a15::r) (.tmp 15)=some a15:=rfl
theorem st15:wL (some 15) (a0::a1::a2::a3::a4::a5::a6::a7::a8::a9::a10::a11::a12::a13::a14::a15::r) v=some (a0::a1::a2::a3::a4::a5::a6::a7::a8::a9::a10::a11::a12::a13::a14::v::r):=rfl
theorem gt16:yu (a0::a1::a2::a3::a4::a5::a6::a7::a8::a9::a10::a11::a12::a13::a14::a15::a16::r) (.tmp 16)=some a16:=rfl
theorem st16:wL (some 16) (a0::a1::a2::a3::a4::a5::a6::a7::a8::a9::a10::a11::a12::a13::a14::a15::a16::r) v=some (a0::a1::a2::a3::a4::a5::a6::a7::a8::a9::a10::a11::a12::a13::a14::a15::v::r):=rfl
theorem gt17:yu (a0::a1::a2::a3::a4::a5::a6::a7::a8::a9::a10::a11::a12::a13::a14::a15::a16::a17::r) (.tmp 17)=some a17:=rfl
theorem st17:wL (some 17) (a0::a1::a2::a3::a4::a5::a6::a7::a8::a9::a10::a11::a12::a13::a14::a15::a16::a17::r) v=some (a0::a1::a2::a3::a4::a5::a6::a7::a8::a9::a10::a11::a12::a13::a14::a15::a16::v::r):=rfl
theorem gt18:yu (a0::a1::a2::a3::a4::a5::a6::a7::a8::a9::a10::a11::a12::a13::a14::a15::a16::a17::a18::r) (.tmp 18)=some a18:=rfl
theorem st18:wL (some 18) (a0::a1::a2::a3::a4::a5::a6::a7::a8::a9::a10::a11::a12::a13::a14::a15::a16::a17::a18::r) v=some (a0::a1::a2::a3::a4::a5::a6::a7::a8::a9::a10::a11::a12::a13::a14::a15::a16::a17::v::r):=rfl
theorem gt19:yu (a0::a1::a2::a3::a4::a5::a6::a7::a8::a9::a10::a11::a12::a13::a14::a15::a16::a17::a18::a19::r) (.tmp 19)=some a19:=rfl
theorem st19:wL (some 19) (a0::a1::a2::a3::a4::a5::a6::a7::a8::a9::a10::a11::a12::a13::a14::a15::a16::a17::a18::a19::r) v=some (a0::a1::a2::a3::a4::a5::a6::a7::a8::a9::a10::a11::a12::a13::a14::a15::a16::a17::a18::v::r):=rfl
theorem gt20:yu (a0::a1::a2::a3::a4::a5::a6::a7::a8::a9::a10::a11::a12::a13::a14::a15::a16::a17::a18::a19::a20::r) (.tmp 20)=some a20:=rfl
theorem st20:wL (some 20) (a0::a1::a2::a3::a4::a5::a6::a7::a8::a9::a10::a11::a12::a13::a14::a15::a16::a17::a18::a19::a20::r) v=some (a0::a1::a2::a3::a4::a5::a6::a7::a8::a9::a10::a11::a12::a13::a14::a15::a16::a17::a18::a19::v::r):=rfl
theorem gt21:yu (a0::a1::a2::a3::a4::a5::a6::a7::a8::a9::a10::a11::a12::a13::a14::a15::a16::a17::a18::a19::a20::a21::r) (.tmp 21)=some a21:=rfl
theorem st21:wL (some 21) (a0::a1::a2::a3::a4::a5::a6::a7::a8::a9::a10::a11::a12::a13::a14::a15::a16::a17::a18::a19::a20::a21::r) v=some (a0::a1::a2::a3::a4::a5::a6::a7::a8::a9::a10::a11::a12::a13::a14::a15::a16::a17::a18::a19::a20::v::r):=rfl
theorem gt22:yu (a0::a1::a2::a3::a4::a5::a6::a7::a8::a9::a10::a11::a12::a13::a14::a15::a16::a17::a18::a19::a20::a21::a22::r) (.tmp 22)=some a22:=rfl
theorem st22:wL (some 22) (a0::a1::a2::a3::a4::a5::a6::a7::a8::a9::a10::a11::a12::a13::a14::a15::a16::a17::a18::a19::a20::a21::a22::r) v=some (a0::a1::a2::a3::a4::a5::a6::a7::a8::a9::a10::a11::a12::a13::a14::a15::a16::a17::a18::a19::a20::a21::v::r):=rfl
theorem gt23:yu (a0::a1::a2::a3::a4::a5::a6::a7::a8::a9::a10::a11::a12::a13::a14::a15::a16::a17::a18::a19::a20::a21::a22::a23::r) (.tmp 23)=some a23:=rfl
theorem st23:wL (some 23) (a0::a1::a2::a3::a4::a5::a6::a7::a8::a9::a10::a11::a12::a13::a14::a15::a16::a17::a18::a19::a20::a21::a22::a23::r) v=some (a0::a1::a2::a3::a4::a5::a6::a7::a8::a9::a10::a11::a12::a13::a14::a15::a16::a17::a18::a19::a20::a21::a22::v::r):=rfl
theorem gt24:yu (a0::a1::a2::a3::a4::a5::a6::a7::a8::a9::a10::a11::a12::a13::a14::a15::a16::a17::a18::a19::a20::a21::a22::a23::a24::r) (.tmp 24)=some a24:=rfl
theorem st24:wL (some 24) (a0::a1::a2::a3::a4::a5::a6::a7::a8::a9::a10::a11::a12::a13::a14::a15::a16::a17::a18::a19::a20::a21::a22::a23::a24::r) v=some (a0::a1::a2::a3::a4::a5::a6::a7::a8::a9::a10::a11::a12::a13::a14::a15::a16::a17::a18::a19::a20::a21::a22::a23::v::r):=rfl
theorem gt25:yu (a0::a1::a2::a3::a4::a5::a6::a7::a8::a9::a10::a11::a12::a13::a14::a15::a16::a17::a18::a19::a20::a21::a22::a23::a24::a25::r) (.tmp 25)=some a25:=rfl
theorem st25:wL (some 25) (a0::a1::a2::a3::a4::a5::a6::a7::a8::a9::a10::a11::a12::a13::a14::a15::a16::a17::a18::a19::a20::a21::a22::a23::a24::a25::r) v=some (a0::a1::a2::a3::a4::a5::a6::a7::a8::a9::a10::a11::a12::a13::a14::a15::a16::a17::a18::a19::a20::a21::a22::a23::a24::v::r):=rfl
theorem gt26:yu (a0::a1::a2::a3::a4::a5::a6::a7::a8::a9::a10::a11::a12::a13::a14::a15::a16::a17::a18::a19::a20::a21::a22::a23::a24::a25::a26::r) (.tmp 26)=some a26:=rfl
theorem st26:wL (some 26) (a0::a1::a2::a3::a4::a5::a6::a7::a8::a9::a10::a11::a12::a13::a14::a15::a16::a17::a18::a19::a20::a21::a22::a23::a24::a25::a26::r) v=some (a0::a1::a2::a3::a4::a5::a6::a7::a8::a9::a10::a11::a12::a13::a14::a15::a16::a17::a18::a19::a20::a21::a22::a23::a24::a25::v::r):=rfl
theorem gt27:yu (a0::a1::a2::a3::a4::a5::a6::a7::a8::a9::a10::a11::a12::a13::a14::a15::a16::a17::a18::a19::a20::a21::a22::a23::a24::a25::a26::a27::r) (.tmp 27)=some a27:=rfl
theorem st27:wL (some 27) (a0::a1::a2::a3::a4::a5::a6::a7::a8::a9::a10::a11::a12::a13::a14::a15::a16::a17::a18::a19::a20::a21::a22::a23::a24::a25::a26::a27::r) v=some (a0::a1::a2::a3::a4::a5::a6::a7::a8::a9::a10::a11::a12::a13::a14::a15::a16::a17::a18::a19::a20::a21::a22::a23::a24::a25::a26::v::r):=rfl
theorem gt28:yu (a0::a1::a2::a3::a4::a5::a6::a7::a8::a9::a10::a11::a12::a13::a14::a15::a16::a17::a18::a19::a20::a21::a22::a23::a24::a25::a26::a27::a28::r) (.tmp 28)=some a28:=rfl
theorem st28:wL (some 28) (a0::a1::a2::a3::a4::a5::a6::a7::a8::a9::a10::a11::a12::a13::a14::a15::a16::a17::a18::a19::a20::a21::a22::a23::a24::a25::a26::a27::a28::r) v=some (a0::a1::a2::a3::a4::a5::a6::a7::a8::a9::a10::a11::a12::a13::a14::a15::a16::a17::a18::a19::a20::a21::a22::a23::a24::a25::a26::a27::v::r):=rfl
theorem gt29:yu (a0::a1::a2::a3::a4::a5::a6::a7::a8::a9::a10::a11::a12::a13::a14::a15::a16::a17::a18::a19::a20::a21::a22::a23::a24::a25::a26::a27::a28::a29::r) (.tmp 29)=some a29:=rfl
theorem st29:wL (some 29) (a0::a1::a2::a3::a4::a5::a6::a7::a8::a9::a10::a11::a12::a13::a14::a15::a16::a17::a18::a19::a20::a21::a22::a23::a24::a25::a26::a27::a28::a29::r) v=some (a0::a1::a2::a3::a4::a5::a6::a7::a8::a9::a10::a11::a12::a13::a14::a15::a16::a17::a18::a19::a20::a21::a22::a23::a24::a25::a26::a27::a28::v::r):=rfl
theorem gt30:yu (a0::a1::a2::a3::a4::a5::a6::a7::a8::a9::a10::a11::a12::a13::a14::a15::a16::a17::a18::a19::a20::a21::a22::a23::a24::a25::a26::a27::a28::a29::a30::r) (.tmp 30)=some a30:=rfl
theorem st30:wL (some 30) (a0::a1::a2::a3::a4::a5::a6::a7::a8::a9::a10::a11::a12::a13::a14::a15::a16::a17::a18::a19::a20::a21::a22::a23::a24::a25::a26::a27::a28::a29::a30::r) v=some (a0::a1::a2::a3::a4::a5::a6::a7::a8::a9::a10::a11::a12::a13::a14::a15::a16::a17::a18::a19::a20::a21::a22::a23::a24::a25::a26::a27::a28::a29::v::r):=rfl
theorem gt31:yu (a0::a1::a2::a3::a4::a5::a6::a7::a8::a9::a10::a11::a12::a13::a14::a15::a16::a17::a18::a19::a20::a21::a22::a23::a24::a25::a26::a27::a28::a29::a30::a31::r) (.tmp 31)=some a31:=rfl
theorem st31:wL (some 31) (a0::a1::a2::a3::a4::a5::a6::a7::a8::a9::a10::a11::a12::a13::a14::a15::a16::a17::a18::a19::a20::a21::a22::a23::a24::a25::a26::a27::a28::a29::a30::a31::r) v=some (a0::a1::a2::a3::a4::a5::a6::a7::a8::a9::a10::a11::a12::a13::a14::a15::a16::a17::a18::a19::a20::a21::a22::a23::a24::a25::a26::a27::a28::a29::a30::v::r):=rfl
theorem gt32:yu (a0::a1::a2::a3::a4::a5::a6::a7::a8::a9::a10::a11::a12::a13::a14::a15::a16::a17::a18::a19::a20::a21::a22::a23::a24::a25::a26::a27::a28::a29::a30::a31::a32::r) (.tmp 32)=some a32:=rfl
theorem st32:wL (some 32) (a0::a1::a2::a3::a4::a5::a6::a7::a8::a9::a10::a11::a12::a13::a14::a15::a16::a17::a18::a19::a20::a21::a22::a23::a24::a25::a26::a27::a28::a29::a30::a31::a32::r) v=some (a0::a1::a2::a3::a4::a5::a6::a7::a8::a9::a10::a11::a12::a13::a14::a15::a16::a17::a18::a19::a20::a21::a22::a23::a24::a25::a26::a27::a28::a29::a30::a31::v::r):=rfl
theorem gt33:yu (a0::a1::a2::a3::a4::a5::a6::a7::a8::a9::a10::a11::a12::a13::a14::a15::a16::a17::a18::a19::a20::a21::a22::a23::a24::a25::a26::a27::a28::a29::a30::a31::a32::a33::r) (.tmp 33)=some a33:=rfl
theorem st33:wL (some 33) (a0::a1::a2::a3::a4::a5::a6::a7::a8::a9::a10::a11::a12::a13::a14::a15::a16::a17::a18::a19::a20::a21::a22::a23::a24::a25::a26::a27::a28::a29::a30::a31::a32::a33::r) v=some (a0::a1::a2::a3::a4::a5::a6::a7::a8::a9::a10::a11::a12::a13::a14::a15::a16::a17::a18::a19::a20::a21::a22::a23::a24::a25::a26::a27::a28::a29::a30::a31::a32::v::r):=rfl
theorem gt34:yu (a0::a1::a2::a3::a4::a5::a6::a7::a8::a9::a10::a11::a12::a13::a14::a15::a16::a17::a18::a19::a20::a21::a22::a23::a24::a25::a26::a27::a28::a29::a30::a31::a32::a33::a34::r) (.tmp 34)=some a34:=rfl
theorem st34:wL (some 34) (a0::a1::a2::a3::a4::a5::a6::a7::a8::a9::a10::a11::a12::a13::a14::a15::a16::a17::a18::a19::a20::a21::a22::a23::a24::a25::a26::a27::a28::a29::a30::a31::a32::a33::a34::r) v=some (a0::a1::a2::a3::a4::a5::a6::a7::a8::a9::a10::a11::a12::a13::a14::a15::a16::a17::a18::a19::a20::a21::a22::a23::a24::a25::a26::a27::a28::a29::a30::a31::a32::a33::v::r):=rfl
theorem gt35:yu (a0::a1::a2::a3::a4::a5::a6::a7::a8::a9::a10::a11::a12::a13::a14::a15::a16::a17::a18::a19::a20::a21::a22::a23::a24::a25::a26::a27::a28::a29::a30::a31::a32::a33::a34::a35::r) (.tmp 35)=some a35:=rfl
theorem st35:wL (some 35) (a0::a1::a2::a3::a4::a5::a6::a7::a8::a9::a10::a11::a12::a13::a14::a15::a16::a17::a18::a19::a20::a21::a22::a23::a24::a25::a26::a27::a28::a29::a30::a31::a32::a33::a34::a35::r) v=some (a0::a1::a2::a3::a4::a5::a6::a7::a8::a9::a10::a11::a12::a13::a14::a15::a16::a17::a18::a19::a20::a21::a22::a23::a24::a25::a26::a27::a28::a29::a30::a31::a32::a33::a34::v::r):=rfl
theorem gt36:yu (a0::a1::a2::a3::a4::a5::a6::a7::a8::a9::a10::a11::a12::a13::a14::a15::a16::a17::a18::a19::a20::a21::a22::a23::a24::a25::a26::a27::a28::a29::a30::a31::a32::a33::a34::a35::a36::r) (.tmp 36)=some a36:=rfl
theorem st36:wL (some 36) (a0::a1::a2::a3::a4::a5::a6::a7::a8::a9::a10::a11::a12::a13::a14::a15::a16::a17::a18::a19::a20::a21::a22::a23::a24::a25::a26::a27::a28::a29::a30::a31::a32::a33::a34::a35::a36::r) v=some (a0::a1::a2::a3::a4::a5::a6::a7::a8::a9::a10::a11::a12::a13::a14::a15::a16::a17::a18::a19::a20::a21::a22::a23::a24::a25::a26::a27::a28::a29::a30::a31::a32::a33::a34::a35::v::r):=rfl
theorem gt37:yu (a0::a1::a2::a3::a4::a5::a6::a7::a8::a9::a10::a11::a12::a13::a14::a15::a16::a17::a18::a19::a20::a21::a22::a23::a24::a25::a26::a27::a28::a29::a30::a31::a32::a33::a34::a35::a36::a37::r) (.tmp 37)=some a37:=rfl
theorem st37:wL (some 37) (a0::a1::a2::a3::a4::a5::a6::a7::a8::a9::a10::a11::a12::a13::a14::a15::a16::a17::a18::a19::a20::a21::a22::a23::a24::a25::a26::a27::a28::a29::a30::a31::a32::a33::a34::a35::a36::a37::r) v=some (a0::a1::a2::a3::a4::a5::a6::a7::a8::a9::a10::a11::a12::a13::a14::a15::a16::a17::a18::a19::a20::a21::a22::a23::a24::a25::a26::a27::a28::a29::a30::a31::a32::a33::a34::a35::a36::v::r):=rfl
theorem gt38:yu (a0::a1::a2::a3::a4::a5::a6::a7::a8::a9::a10::a11::a12::a13::a14::a15::a16::a17::a18::a19::a20::a21::a22::a23::a24::a25::a26::a27::a28::a29::a30::a31::a32::a33::a34::a35::a36::a37::a38::r) (.tmp 38)=some a38:=rfl
theorem st38:wL (some 38) (a0::a1::a2::a3::a4::a5::a6::a7::a8::a9::a10::a11::a12::a13::a14::a15::a16::a17::a18::a19::a20::a21::a22::a23::a24::a25::a26::a27::a28::a29::a30::a31::a32::a33::a34::a35::a36::a37::a38::r) v=some (a0::a1::a2::a3::a4::a5::a6::a7::a8::a9::a10::a11::a12::a13::a14::a15::a16::a17::a18::a19::a20::a21::a22::a23::a24::a25::a26::a27::a28::a29::a30::a31::a32::a33::a34::a35::a36::a37::v::r):=rfl
theorem gt39:yu (a0::a1::a2::a3::a4::a5::a6::a7::a8::a9::a10::a11::a12::a13::a14::a15::a16::a17::a18::a19::a20::a21::a22::a23::a24::a25::a26::a27::a28::a29::a30::a31::a32::a33::a34::a35::a36::a37::a38::a39::r) (.tmp 39)=some a39:=rfl
theorem st39:wL (some 39) (a0::a1::a2::a3::a4::a5::a6::a7::a8::a9::a10::a11::a12::a13::a14::a15::a16::a17::a18::a19::a20::a21::a22::a23::a24::a25::a26::a27::a28::a29::a30::a31::a32::a33::a34::a35::a36::a37::a38::a39::r) v=some (a0::a1::a2::a3::a4::a5::a6::a7::a8::a9::a10::a11::a12::a13::a14::a15::a16::a17::a18::a19::a20::a21::a22::a23::a24::a25::a26::a27::a28::a29::a30::a31::a32::a33::a34::a35::a36::a37::a38::v::r):=rfl
theorem gk (h:yu r (.tmp t)=some v):yu (a0::a1::a2::a3::a4::a5::a6::a7::a8::a9::a10::a11::a12::a13::a14::a15::a16::a17::a18::a19::a20::a21::a22::a23::a24::a25::a26::a27::a28::a29::a30::a31::a32::a33::a34::a35::a36::a37::a38::a39::r) (.tmp (t+40))=some v:=h
theorem sk (h:wL (some t) r v=some q):wL (some (t+40)) (a0::a1::a2::a3::a4::a5::a6::a7::a8::a9::a10::a11::a12::a13::a14::a15::a16::a17::a18::a19::a20::a21::a22::a23::a24::a25::a26::a27::a28::a29::a30::a31::a32::a33::a34::a35::a36::a37::a38::a39::r) v=some (a0::a1::a2::a3::a4::a5::a6::a7::a8::a9::a10::a11::a12::a13::a14::a15::a16::a17::a18::a19::a20::a21::a22::a23::a24::a25::a26::a27::a28::a29::a30::a31::a32::a33::a34::a35::a36::a37::a38::a39::q):=congrArg (λx=>some (a0::a1::a2::a3::a4::a5::a6::a7::a8::a9::a10::a11::a12::a13::a14::a15::a16::a17::a18::a19::a20::a21::a22::a23::a24::a25::a26::a27::a28::a29::a30::a31::a32::a33::a34::a35::a36::a37::a38::a39::x)) (uo h)
end
def fvOp:Nat->AV
  | 1=>.fn (.func 89) [] []
  | 2=>.fn (.func 90) [] []
  | 3=>.fn (.func 91) [] []
  | _=>.nilf
def fnOp:Nat->FuncId
  | 1=>89
  | 2=>90
  | 3=>91
  | _=>0
theorem fvlOp (c n m:Nat):(fvOp c).low n m=true:=by unfold fvOp;split <;> rfl
theorem fvtOp (P:Program) (t:TypeId) (c:Nat):tyfix P t (fvOp c)=fvOp c:=by unfold fvOp;split <;> rfl
def fvFuse:Nat->AV
  | 1=>.fn (.func 112) [] []
  | 2=>.fn (.func 113) [] []
  | 3=>.fn (.func 114) [] []
  | 4=>.fn (.func 115) [] []
  | _=>.nilf
def fnFuse:Nat->FuncId
  | 1=>112
  | 2=>113
  | 3=>114
  | 4=>115
  | _=>0
theorem fvtFuse (P:Program) (t:TypeId) (c:Nat):tyfix P t (fvFuse c)=fvFuse c:=by unfold fvFuse;split <;> rfl
abbrev GI.row (x:GI):List AV:=[.int .u8 x.rep,.int .u32 x.inc]
abbrev GE.row (x:GE):List AV:=[.int .u8 x.actor.rep,.int .u32 x.actor.inc,.int .u64 x.seq]
abbrev GF.row (x:GF):List AV:=[.int .u64 x.time,.int .u8 x.dot.actor.rep,.int .u32 x.dot.actor.inc,.int .u64 x.dot.seq,.str x.text]
abbrev GC.row (x:GC):List AV:=[.int .u8 x.typ,.int .i64 x.n,.int .u64 x.time,.int .u8 x.dot.actor.rep,.int .u32 x.dot.actor.inc,.int .u64 x.dot.seq,.str x.text,.sl 5 (x.items.map GF.row),.sl 3 (x.tombs.map GE.row)]
mutual
def GA.row:GA->List AV
  | ⟨name,leaves,subs⟩=>[.str name,.sl 9 (leaves.map GC.row),.sl 3 (GA.rows subs)]
def GA.rows:List GA->List (List AV)
  | []=>[]
  | x::r=>x.row::GA.rows r
end
theorem GA.rows_eq (l:List GA):GA.rows l=l.map GA.row:=by
  induction l with
  | nil=>rfl
  | cons x r ih=>simp only [GA.rows,uw,ih]
theorem GA.row_eq (x:GA):x.row=[.str x.name,.sl 9 (x.leaves.map GC.row),.sl 3 (x.subs.map GA.row)]:=by
  cases x;simp only [GA.row,GA.rows_eq]
abbrev GL.row (x:GL):List AV:=[.int .u8 x.kind,.sl 1 (x.path.map zW),.int .i64 x.n,.str x.text,.sl 3 (x.dots.map GE.row)]
abbrev GM.row (x:GM):List AV:=[.int .u8 x.leaf,fvOp x.may]
abbrev GH.row (x:GH):List AV:=[.int .u8 x.dot.actor.rep,.int .u32 x.dot.actor.inc,.int .u64 x.dot.seq,.int .u64 x.time,.int .u8 x.op.kind,.sl 1 (x.op.path.map zW),.int .i64 x.op.n,.str x.op.text,.sl 3 (x.op.dots.map GE.row)]
abbrev GJ.row (x:GJ):List AV:=[.sl 1 (x.path.map zW),.int .u8 x.l.typ,.int .i64 x.l.n,.int .u64 x.l.time,.int .u8 x.l.dot.actor.rep,.int .u32 x.l.dot.actor.inc,.int .u64 x.l.dot.seq,.str x.l.text,.sl 5 (x.l.items.map GF.row),.sl 3 (x.l.tombs.map GE.row)]
def GC.rowN (x:GC):List AV:=[.int .u8 x.typ,.int .i64 x.n,.int .u64 x.time,.int .u8 x.dot.actor.rep,.int .u32 x.dot.actor.inc,.int .u64 x.dot.seq,.str x.text,.nsl 5 (x.items.map GF.row),.nsl 3 (x.tombs.map GE.row)]
theorem GC.rowN_le (x:GC):leGR AnyG (x.rowN) (x.row):=.cons rfl leG.refl (.cons rfl leG.refl (.cons rfl leG.refl (.cons rfl leG.refl (.cons rfl leG.refl (.cons rfl leG.refl (.cons rfl leG.refl (.cons rfl (leG.nslM (λ_=>leGR.refl rfl)) (.cons rfl (leG.nslM (λ_=>leGR.refl rfl)) .nil))))))))
mutual
def GA.rowN:GA->List AV
  | ⟨name,leaves,subs⟩=>[.str name,.nsl 9 (leaves.map GC.rowN),.nsl 3 (GA.rowsN subs)]
def GA.rowsN:List GA->List (List AV)
  | []=>[]
  | x::r=>x.rowN::GA.rowsN r
end
theorem GA.rowsN_eq (l:List GA):GA.rowsN l=l.map GA.rowN:=by
  induction l with
  | nil=>rfl
  | cons x r ih=>simp only [GA.rowsN,uw,ih]
theorem GA.rowN_eq (x:GA):x.rowN=[.str x.name,.nsl 9 (x.leaves.map GC.rowN),.nsl 3 (x.subs.map GA.rowN)]:=by
  cases x;simp only [GA.rowN,GA.rowsN_eq]
mutual
theorem GA.rowN_le:∀x:GA,leGR AnyG (x.rowN) (x.row)
  | ⟨name,leaves,subs⟩=>by simp only [GA.rowN,GA.row];exact .cons rfl leG.refl (.cons rfl (leG.nslM GC.rowN_le) (.cons rfl (leG.nsl (GA.rowN_les subs)) .nil))
theorem GA.rowN_les:∀l:List GA,leGE AnyG (GA.rowsN l) (GA.rows l)
  | []=>.nil
  | x::r=>.cons (GA.rowN_le x) (GA.rowN_les r)
end
def GF.rowH (x:GF):List AV:=[.hol (.i .u64),.hol (.i .u8),.hol (.i .u32),.hol (.i .u64),.hol .s]
theorem GF.row_h (x:GF):hcR (x.row) (x.rowH):=.int (.int (.int (.int (.str .nil))))
def GE.rowH (x:GE):List AV:=[.hol (.i .u8),.hol (.i .u32),.hol (.i .u64)]
theorem GE.row_h (x:GE):hcR (x.row) (x.rowH):=.int (.int (.int .nil))
def GC.rowH (x:GC):List AV:=[.hol (.i .u8),.hol (.i .i64),.hol (.i .u64),.hol (.i .u8),.hol (.i .u32),.hol (.i .u64),.hol .s,.hsl 5 (x.items.map GF.rowH),.hsl 3 (x.tombs.map GE.rowH)]
theorem GC.rowN_h (x:GC):hcR (x.rowN) (x.rowH):=.int (.int (.int (.int (.int (.int (.str (.sl rfl (ctV.nslM GF.row_h) (.sl rfl (ctV.nslM GE.row_h) .nil))))))))
mutual
def GA.rowH:GA->List AV
  | ⟨name,leaves,subs⟩=>[.hol .s,.hsl 9 (leaves.map GC.rowH),.hsl 3 (GA.rowsH subs)]
def GA.rowsH:List GA->List (List AV)
  | []=>[]
  | x::r=>x.rowH::GA.rowsH r
end
theorem GA.rowsH_eq (l:List GA):GA.rowsH l=l.map GA.rowH:=by
  induction l with
  | nil=>rfl
  | cons x r ih=>simp only [GA.rowsH,uw,ih]
theorem GA.rowH_eq (x:GA):x.rowH=[.hol .s,.hsl 9 (x.leaves.map GC.rowH),.hsl 3 (x.subs.map GA.rowH)]:=by
  cases x;simp only [GA.rowH,GA.rowsH_eq]
mutual
theorem GA.rowN_h:∀x:GA,hcR x.rowN x.rowH
  | ⟨name,leaves,subs⟩=>by simp only [GA.rowN,GA.rowH];exact .str (.sl rfl (ctV.nslM GC.rowN_h) (.sl rfl (ctV.nsl (GA.rowN_hs subs)) .nil))
theorem GA.rowN_hs:∀l:List GA,hcE (GA.rowsN l) (GA.rowsH l)
  | []=>by simp only [GA.rowsN,GA.rowsH];exact .nil
  | x::r=>by simp only [GA.rowsN,GA.rowsH];exact .cons (GA.rowN_h x) (GA.rowN_hs r)
end
def GC.rowB (x:GC):List AV:=[.int .u8 x.typ,.int .i64 x.n,.int .u64 x.time,.int .u8 x.dot.actor.rep,.int .u32 x.dot.actor.inc,.int .u64 x.dot.seq,.str x.text,.bsl 5 (x.items.map GF.row),.bsl 3 (x.tombs.map GE.row)]
theorem GC.rowB_le (x:GC):leGR AnyG (x.rowB) (x.row):=.cons rfl leG.refl (.cons rfl leG.refl (.cons rfl leG.refl (.cons rfl leG.refl (.cons rfl leG.refl (.cons rfl leG.refl (.cons rfl leG.refl (.cons rfl (leG.bslM (λ_=>leGR.refl rfl)) (.cons rfl (leG.bslM (λ_=>leGR.refl rfl)) .nil))))))))
theorem GC.rowB_old (x:GC):leGR OldG (x.row) (x.rowB):=.cons rfl leG.refl (.cons rfl leG.refl (.cons rfl leG.refl (.cons rfl leG.refl (.cons rfl leG.refl (.cons rfl leG.refl (.cons rfl leG.refl (.cons rfl (leG.oldM (by decide) (λ_=>leGR.refl rfl)) (.cons rfl (leG.oldM (by decide) (λ_=>leGR.refl rfl)) .nil))))))))
theorem GC.rowB_ct (x:GC):ctR (x.rowB) (x.rowB):=.cons rfl (.plain rfl) (.cons rfl (.plain rfl) (.cons rfl (.plain rfl) (.cons rfl (.plain rfl) (.cons rfl (.plain rfl) (.cons rfl (.plain rfl) (.cons rfl (.plain rfl) (.cons rfl (.bslM (λ_=>.plain rfl rfl)) (.cons rfl (.bslM (λ_=>.plain rfl rfl)) .nil))))))))
theorem GC.rowB_ag (x:GC):agR (x.row) (x.rowB):=.cons rfl (.plain rfl) (.cons rfl (.plain rfl) (.cons rfl (.plain rfl) (.cons rfl (.plain rfl) (.cons rfl (.plain rfl) (.cons rfl (.plain rfl) (.cons rfl (.plain rfl) (.cons rfl (.slM (by decide) (λ_=>.plain rfl rfl)) (.cons rfl (.slM (by decide) (λ_=>.plain rfl rfl)) .nil))))))))
mutual
def GA.rowB:GA->List AV
  | ⟨name,leaves,subs⟩=>[.str name,.bsl 9 (leaves.map GC.rowB),.bsl 3 (GA.rowsB subs)]
def GA.rowsB:List GA->List (List AV)
  | []=>[]
  | x::r=>x.rowB::GA.rowsB r
end
mutual
theorem GA.rowB_le:∀x:GA,leGR AnyG (x.rowB) (x.row)
  | ⟨name,leaves,subs⟩=>by simp only [GA.rowB,GA.row];exact .cons rfl leG.refl (.cons rfl (leG.bslM GC.rowB_le) (.cons rfl (leG.bsl (GA.rowB_les subs)) .nil))
theorem GA.rowB_les:∀l:List GA,leGE AnyG (GA.rowsB l) (GA.rows l)
  | []=>.nil
  | x::r=>.cons (GA.rowB_le x) (GA.rowB_les r)
end
mutual
theorem GA.rowB_old:∀x:GA,leGR OldG (x.row) (x.rowB)
  | ⟨name,leaves,subs⟩=>by simp only [GA.row,GA.rowB];exact .cons rfl leG.refl (.cons rfl (leG.oldM (by decide) GC.rowB_old) (.cons rfl (leG.old (by decide) (GA.rowB_olds subs)) .nil))
theorem GA.rowB_olds:∀l:List GA,leGE OldG (GA.rows l) (GA.rowsB l)
  | []=>.nil
  | x::r=>.cons (GA.rowB_old x) (GA.rowB_olds r)
end
mutual
theorem GA.rowB_ct:∀x:GA,ctR (x.rowB) (x.rowB)
  | ⟨name,leaves,subs⟩=>by simp only [GA.rowB,GA.rowB];exact .cons rfl (.plain rfl) (.cons rfl (.bslM GC.rowB_ct) (.cons rfl (.bsl (GA.rowB_cts subs)) .nil))
theorem GA.rowB_cts:∀l:List GA,ctE (GA.rowsB l) (GA.rowsB l)
  | []=>.nil
  | x::r=>.cons (GA.rowB_ct x) (GA.rowB_cts r)
end
mutual
theorem GA.rowB_ag:∀x:GA,agR (x.row) (x.rowB)
  | ⟨name,leaves,subs⟩=>by simp only [GA.row,GA.rowB];exact .cons rfl (.plain rfl) (.cons rfl (.slM (by decide) GC.rowB_ag) (.cons rfl (.sl (by decide) (GA.rowB_ags subs)) .nil))
theorem GA.rowB_ags:∀l:List GA,agE (GA.rows l) (GA.rowsB l)
  | []=>.nil
  | x::r=>.cons (GA.rowB_ag x) (GA.rowB_ags r)
end
instance el23:El Tryz.prog 23 56 3:=mkEl Tryz.underlying23 (by kernel_rfl)
theorem mixed:Tryz.prog.follows .mixedOrders=true:=by kernel_rfl
theorem yn {Q:Exit->List AV->AH->Prop} {env:List AV} {B:List Blk} {T:List Nat} {id:Nat} {l:List Oper} (hd:drawOk ⟨l⟩ []=true) (a:yd Tryz.prog ⟨l⟩ [] (λn=>KeepB h (lk [] n)) (Q .normal) 0 l env (h.ext B T)):vN Tryz.prog (.region id ⟨l⟩ true) Q env (h.ext B T):=yU [] [] trivial mixed hd a
instance fo56x0:Fo Tryz.prog 56 0 0 9 1:=qU (by kernel_rfl) (by kernel_rfl)
instance ty9:Ty Tryz.prog 9 .string 1:=mkTy Tryz.underlying9 (by kernel_rfl)
instance fo56x2:Fo Tryz.prog 56 2 2 23 1:=qU (by kernel_rfl) (by kernel_rfl)
instance ty23:Ty Tryz.prog 23 (.slice 56) 1:=mkTy Tryz.underlying23 (by kernel_rfl)
instance fo56x1:Fo Tryz.prog 56 1 1 54 1:=qU (by kernel_rfl) (by kernel_rfl)
instance ty54:Ty Tryz.prog 54 (.slice 51) 1:=mkTy Tryz.underlying54 (by kernel_rfl)
instance el54:El Tryz.prog 54 51 9:=mkEl Tryz.underlying54 (by kernel_rfl)
theorem ty51:∃d,Ty Tryz.prog 51 d 9/\yA d=true:=⟨_,mkTy Tryz.underlying51 (by kernel_rfl),by kernel_rfl⟩
instance:TA Tryz.prog 51 9:=⟨ty51⟩
abbrev yo:List AV:=[.int .u8 (0:Int),.int .i64 (0:Int),.int .u64 (0:Int),.int .u8 (0:Int),.int .u32 (0:Int),.int .u64 (0:Int),.str ([]:zx),.osl none 5 (([]:List GF).map GF.row),.osl none 3 (([]:List GE).map GE.row)]
abbrev xJ:List (AV×AV):=[(.int .u8 1,.fn (.func 55) [] []),(.int .u8 2,.fn (.func 56) [] []),(.int .u8 3,.fn (.func 57) [] []),(.int .u8 4,.fn (.func 58) [] []),(.int .u8 5,.fn (.func 59) [] [])]
abbrev lit2x:List AV:=[.int .u8 0,.int .i64 0,.int .u64 0,.int .u8 0,.int .u32 0,.int .u64 0,.str [],.osl none 5 [],.osl none 3 []]
abbrev lit3x:List AV:=[.str ([]:zx),.osl none 9 (([]:List GC).map GC.row),.osl none 3 (([]:List GA).map GA.row)]
abbrev lit4x:List AV:=[.int .u8 (0:Int),.int .u32 (0:Int),.int .u64 (0:Int)]
abbrev lit5x:List AV:=[.nilf,.fn (.func 112) [] [],.fn (.func 113) [] [],.fn (.func 114) [] [],.fn (.func 115) [] []]
theorem xV:xl Tryz.prog 51=some lit2x:=by kernel_rfl
instance:ZE Tryz.prog 51 lit2x:=⟨xV⟩
instance fo51x4:Fo Tryz.prog 51 4 6 9 1:=qU (by kernel_rfl) (by kernel_rfl)
instance fo51x6:Fo Tryz.prog 51 6 8 43 1:=qU (by kernel_rfl) (by kernel_rfl)
instance ty43:Ty Tryz.prog 43 (.slice 41) 1:=mkTy Tryz.underlying43 (by kernel_rfl)
instance el43:El Tryz.prog 43 41 3:=mkEl Tryz.underlying43 (by kernel_rfl)
instance fo51x5:Fo Tryz.prog 51 5 7 49 1:=qU (by kernel_rfl) (by kernel_rfl)
instance ty49:Ty Tryz.prog 49 (.slice 70) 1:=mkTy Tryz.underlying49 (by kernel_rfl)
instance el49:El Tryz.prog 49 70 5:=mkEl Tryz.underlying49 (by kernel_rfl)
instance fo70x2:Fo Tryz.prog 70 2 4 9 1:=qU (by kernel_rfl) (by kernel_rfl)
theorem ty56:∃d,Ty Tryz.prog 56 d 3/\yA d=true:=⟨_,mkTy Tryz.underlying56 (by kernel_rfl),by kernel_rfl⟩
instance:TA Tryz.prog 56 3:=⟨ty56⟩
theorem qe:xl Tryz.prog 56=some [.str [],.osl none 9 [],.osl none 3 []]:=by kernel_rfl
instance:ZE Tryz.prog 56 [.str [],.osl none 9 [],.osl none 3 []]:=⟨qe⟩
noncomputable def sf56:Array Field:=match Tryz.prog.underlying 56 with | some (.struct fs)=>fs | _=>#[]
theorem su56:Tryz.prog.underlying 56=some (.struct sf56):=by kernel_rfl
theorem pl56:vq Tryz.prog sf56=some [(0,1),(1,1),(2,1)]:=by kernel_rfl
instance fo51x0:Fo Tryz.prog 51 0 0 5 1:=qU (by kernel_rfl) (by kernel_rfl)
instance ty5:Ty Tryz.prog 5 (.int .u8) 1:=mkTy Tryz.underlying5 (by kernel_rfl)
noncomputable def sf51:Array Field:=match Tryz.prog.underlying 51 with | some (.struct fs)=>fs | _=>#[]
theorem su51:Tryz.prog.underlying 51=some (.struct sf51):=by kernel_rfl
theorem pl51:vq Tryz.prog sf51=some [(0,1),(1,1),(2,1),(3,3),(6,1),(7,1),(8,1)]:=by kernel_rfl
theorem ze70:xl Tryz.prog 70=some [.int .u64 0,.int .u8 0,.int .u32 0,.int .u64 0,.str []]:=by kernel_rfl
instance:ZE Tryz.prog 70 [.int .u64 0,.int .u8 0,.int .u32 0,.int .u64 0,.str []]:=⟨ze70⟩
theorem ze41:xl Tryz.prog 41=some [.int .u8 0,.int .u32 0,.int .u64 0]:=by kernel_rfl
instance:ZE Tryz.prog 41 [.int .u8 0,.int .u32 0,.int .u64 0]:=⟨ze41⟩
instance el42:El Tryz.prog 42 9 1:=mkEl Tryz.underlying42 (by kernel_rfl)
instance fo38x0:Fo Tryz.prog 38 0 0 5 1:=qU (by kernel_rfl) (by kernel_rfl)
instance fo38x1:Fo Tryz.prog 38 1 1 36 1:=qU (by kernel_rfl) (by kernel_rfl)
instance ty36:Ty Tryz.prog 36 (.int .u32) 1:=mkTy Tryz.underlying36 (by kernel_rfl)
instance fo41x0:Fo Tryz.prog 41 0 0 38 2:=qU (by kernel_rfl) (by kernel_rfl)
theorem ty38:∃d,Ty Tryz.prog 38 d 2/\yA d=true:=⟨_,mkTy Tryz.underlying38 (by kernel_rfl),by kernel_rfl⟩
instance:TA Tryz.prog 38 2:=⟨ty38⟩
instance fo41x1:Fo Tryz.prog 41 1 2 39 1:=qU (by kernel_rfl) (by kernel_rfl)
instance ty39:Ty Tryz.prog 39 (.int .u64) 1:=mkTy Tryz.underlying39 (by kernel_rfl)
instance el182:El Tryz.prog 182 3 1:=mkEl Tryz.underlying182 (by kernel_rfl)
instance ty3:Ty Tryz.prog 3 (.int .i64) 1:=mkTy Tryz.underlying3 (by kernel_rfl)
theorem ze3:xl Tryz.prog 3=some [.int .i64 0]:=by kernel_rfl
instance:ZE Tryz.prog 3 [.int .i64 0]:=⟨ze3⟩
theorem ty70:∃d,Ty Tryz.prog 70 d 5/\yA d=true:=⟨_,mkTy Tryz.underlying70 (by kernel_rfl),by kernel_rfl⟩
instance:TA Tryz.prog 70 5:=⟨ty70⟩
instance fo70x1:Fo Tryz.prog 70 1 1 41 3:=qU (by kernel_rfl) (by kernel_rfl)
theorem ty41:∃d,Ty Tryz.prog 41 d 3/\yA d=true:=⟨_,mkTy Tryz.underlying41 (by kernel_rfl),by kernel_rfl⟩
instance:TA Tryz.prog 41 3:=⟨ty41⟩
theorem pk41:PK Tryz.prog 41 [.i,.i,.i]:=mkPK (by kernel_rfl) (by kernel_rfl) (by kernel_rfl)
noncomputable def sf41:Array Field:=match Tryz.prog.underlying 41 with | some (.struct fs)=>fs | _=>#[]
theorem su41:Tryz.prog.underlying 41=some (.struct sf41):=by kernel_rfl
theorem kq41:KQ Tryz.prog 41 (λx=>AV.agg (GE.row x)) GE.eqb:=.struct su41 pk41 (λ_ _=>rfl) (λa=>by simp [GE.eqb])
theorem az3:aZeroM Tryz.prog 3=some ((AV.int .i64) (0:Int)):=by kernel_rfl
instance fo70x0:Fo Tryz.prog 70 0 0 39 1:=qU (by kernel_rfl) (by kernel_rfl)
instance ty4:Ty Tryz.prog 4 .bool 1:=mkTy Tryz.underlying4 (by kernel_rfl)
theorem pk70:PK Tryz.prog 70 [.i,.i,.i,.i,.s]:=mkPK (by kernel_rfl) (by kernel_rfl) (by kernel_rfl)
instance fo51x1:Fo Tryz.prog 51 1 1 2 1:=qU (by kernel_rfl) (by kernel_rfl)
instance ty2:Ty Tryz.prog 2 (.int .i64) 1:=mkTy Tryz.underlying2 (by kernel_rfl)
instance fo51x2:Fo Tryz.prog 51 2 2 39 1:=qU (by kernel_rfl) (by kernel_rfl)
instance fo51x3:Fo Tryz.prog 51 3 3 41 3:=qU (by kernel_rfl) (by kernel_rfl)
theorem pl41:vq Tryz.prog sf41=some [(0,2),(2,1)]:=by kernel_rfl
theorem ze9:xl Tryz.prog 9=some [.str []]:=by kernel_rfl
instance:ZE Tryz.prog 9 [.str []]:=⟨ze9⟩
instance el112:El Tryz.prog 112 23 1:=mkEl Tryz.underlying112 (by kernel_rfl)
instance el193:El Tryz.prog 193 43 1:=mkEl Tryz.underlying193 (by kernel_rfl)
instance el203:El Tryz.prog 203 49 1:=mkEl Tryz.underlying203 (by kernel_rfl)
theorem ze49:xl Tryz.prog 49=some [.osl none 5 []]:=by kernel_rfl
instance:ZE Tryz.prog 49 [.osl none 5 []]:=⟨ze49⟩
theorem ze173:xl Tryz.prog 173=some [.nilm]:=by kernel_rfl
instance:ZE Tryz.prog 173 [.nilm]:=⟨ze173⟩
instance ty173:Ty Tryz.prog 173 (.map 41 3) 1:=mkTy Tryz.underlying173 (by kernel_rfl)
theorem ze43:xl Tryz.prog 43=some [.osl none 3 []]:=by kernel_rfl
instance:ZE Tryz.prog 43 [.osl none 3 []]:=⟨ze43⟩
instance ty144:Ty Tryz.prog 144 (.array 5 143) 5:=mkTy Tryz.underlying144 (by kernel_rfl)
theorem ze144:xl Tryz.prog 144=some [.nilf,.nilf,.nilf,.nilf,.nilf]:=by kernel_rfl
instance:ZE Tryz.prog 144 [.nilf,.nilf,.nilf,.nilf,.nilf]:=⟨ze144⟩
instance ty143:Ty Tryz.prog 143 (.func #[51,51,51] #[51] false) 1:=mkTy Tryz.underlying143 (by kernel_rfl)
theorem ze23:xl Tryz.prog 23=some [.osl none 3 []]:=by kernel_rfl
instance:ZE Tryz.prog 23 [.osl none 3 []]:=⟨ze23⟩
instance ty135:Ty Tryz.prog 135 (.int .u64) 1:=mkTy Tryz.underlying135 (by kernel_rfl)
instance el22:El Tryz.prog 22 56 3:=mkEl Tryz.underlying22 (by kernel_rfl)
instance fo45x2:Fo Tryz.prog 45 2 2 2 1:=qU (by kernel_rfl) (by kernel_rfl)
instance fo45x3:Fo Tryz.prog 45 3 3 9 1:=qU (by kernel_rfl) (by kernel_rfl)
instance fo45x4:Fo Tryz.prog 45 4 4 43 1:=qU (by kernel_rfl) (by kernel_rfl)
theorem ze91:xl Tryz.prog 91=some [.int .u8 0,.nilf]:=by kernel_rfl
instance:ZE Tryz.prog 91 [.int .u8 0,.nilf]:=⟨ze91⟩
noncomputable def sf91:Array Field:=match Tryz.prog.underlying 91 with | some (.struct fs)=>fs | _=>#[]
theorem su91:Tryz.prog.underlying 91=some (.struct sf91):=by kernel_rfl
theorem pl91:vq Tryz.prog sf91=some [(0,1),(1,1)]:=by kernel_rfl
instance ty124:Ty Tryz.prog 124 (.array 6 91) 12:=mkTy Tryz.underlying124 (by kernel_rfl)
theorem ze124:xl Tryz.prog 124=some [.int .u8 0,.nilf,.int .u8 0,.nilf,.int .u8 0,.nilf,.int .u8 0,.nilf,.int .u8 0,.nilf,.int .u8 0,.nilf]:=by kernel_rfl
instance:ZE Tryz.prog 124 [.int .u8 0,.nilf,.int .u8 0,.nilf,.int .u8 0,.nilf,.int .u8 0,.nilf,.int .u8 0,.nilf,.int .u8 0,.nilf]:=⟨ze124⟩
theorem ty91:∃d,Ty Tryz.prog 91 d 2/\yA d=true:=⟨_,mkTy Tryz.underlying91 (by kernel_rfl),by kernel_rfl⟩
instance:TA Tryz.prog 91 2:=⟨ty91⟩
instance fo45x0:Fo Tryz.prog 45 0 0 5 1:=qU (by kernel_rfl) (by kernel_rfl)
instance fo45x1:Fo Tryz.prog 45 1 1 42 1:=qU (by kernel_rfl) (by kernel_rfl)
instance ty42:Ty Tryz.prog 42 (.slice 9) 1:=mkTy Tryz.underlying42 (by kernel_rfl)
instance fo91x1:Fo Tryz.prog 91 1 1 89 1:=qU (by kernel_rfl) (by kernel_rfl)
instance ty89:Ty Tryz.prog 89 (.func #[45] #[4] false) 1:=mkTy Tryz.underlying89 (by kernel_rfl)
theorem ty45:∃d,Ty Tryz.prog 45 d 5/\yA d=true:=⟨_,mkTy Tryz.underlying45 (by kernel_rfl),by kernel_rfl⟩
instance:TA Tryz.prog 45 5:=⟨ty45⟩
instance fo47x0:Fo Tryz.prog 47 0 0 41 3:=qU (by kernel_rfl) (by kernel_rfl)
instance fo47x1:Fo Tryz.prog 47 1 3 39 1:=qU (by kernel_rfl) (by kernel_rfl)
instance fo47x2:Fo Tryz.prog 47 2 4 45 5:=qU (by kernel_rfl) (by kernel_rfl)
instance fo91x0:Fo Tryz.prog 91 0 0 5 1:=qU (by kernel_rfl) (by kernel_rfl)
theorem ty47:∃d,Ty Tryz.prog 47 d 9/\yA d=true:=⟨_,mkTy Tryz.underlying47 (by kernel_rfl),by kernel_rfl⟩
instance:TA Tryz.prog 47 9:=⟨ty47⟩
noncomputable def sf99:Array Field:=match Tryz.prog.underlying 99 with | some (.struct fs)=>fs | _=>#[]
theorem su99:Tryz.prog.underlying 99=some (.struct sf99):=by kernel_rfl
theorem ze99:xl Tryz.prog 99=some lit2x:=by kernel_rfl
instance:ZE Tryz.prog 99 lit2x:=⟨ze99⟩
theorem pl99:vq Tryz.prog sf99=some [(0,9)]:=by kernel_rfl
instance fo99x0:Fo Tryz.prog 99 0 0 51 9:=qU (by kernel_rfl) (by kernel_rfl)
noncomputable def sf70:Array Field:=match Tryz.prog.underlying 70 with | some (.struct fs)=>fs | _=>#[]
theorem su70:Tryz.prog.underlying 70=some (.struct sf70):=by kernel_rfl
theorem pl70:vq Tryz.prog sf70=some [(0,1),(1,3),(4,1)]:=by kernel_rfl
theorem azf94:aZeroM Tryz.prog 94=some .nilf:=by kernel_rfl
theorem ze47:xl Tryz.prog 47=some [.int .u8 0,.int .u32 0,.int .u64 0,.int .u64 0,.int .u8 0,.osl none 1 [],.int .i64 0,.str [],.osl none 3 []]:=by kernel_rfl
instance:ZE Tryz.prog 47 [.int .u8 0,.int .u32 0,.int .u64 0,.int .u64 0,.int .u8 0,.osl none 1 [],.int .i64 0,.str [],.osl none 3 []]:=⟨ze47⟩
noncomputable def sf38:Array Field:=match Tryz.prog.underlying 38 with | some (.struct fs)=>fs | _=>#[]
theorem su38:Tryz.prog.underlying 38=some (.struct sf38):=by kernel_rfl
theorem ze38:xl Tryz.prog 38=some [.int .u8 0,.int .u32 0]:=by kernel_rfl
instance:ZE Tryz.prog 38 [.int .u8 0,.int .u32 0]:=⟨ze38⟩
theorem pl38:vq Tryz.prog sf38=some [(0,1),(1,1)]:=by kernel_rfl
noncomputable def sf45:Array Field:=match Tryz.prog.underlying 45 with | some (.struct fs)=>fs | _=>#[]
theorem su45:Tryz.prog.underlying 45=some (.struct sf45):=by kernel_rfl
theorem ze45:xl Tryz.prog 45=some [.int .u8 0,.osl none 1 [],.int .i64 0,.str [],.osl none 3 []]:=by kernel_rfl
instance:ZE Tryz.prog 45 [.int .u8 0,.osl none 1 [],.int .i64 0,.str [],.osl none 3 []]:=⟨ze45⟩
theorem pl45:vq Tryz.prog sf45=some [(0,1),(1,1),(2,1),(3,1),(4,1)]:=by kernel_rfl
noncomputable def sf47:Array Field:=match Tryz.prog.underlying 47 with | some (.struct fs)=>fs | _=>#[]
theorem su47:Tryz.prog.underlying 47=some (.struct sf47):=by kernel_rfl
theorem pl47:vq Tryz.prog sf47=some [(0,3),(3,1),(4,5)]:=by kernel_rfl
instance el58:El Tryz.prog 58 61 10:=mkEl Tryz.underlying58 (by kernel_rfl)
noncomputable def sf61:Array Field:=match Tryz.prog.underlying 61 with | some (.struct fs)=>fs | _=>#[]
theorem su61:Tryz.prog.underlying 61=some (.struct sf61):=by kernel_rfl
theorem ze61:xl Tryz.prog 61=some [.osl none 1 [],.int .u8 0,.int .i64 0,.int .u64 0,.int .u8 0,.int .u32 0,.int .u64 0,.str [],.osl none 5 [],.osl none 3 []]:=by kernel_rfl
instance:ZE Tryz.prog 61 [.osl none 1 [],.int .u8 0,.int .i64 0,.int .u64 0,.int .u8 0,.int .u32 0,.int .u64 0,.str [],.osl none 5 [],.osl none 3 []]:=⟨ze61⟩
theorem pl61:vq Tryz.prog sf61=some [(0,1),(1,9)]:=by kernel_rfl
instance fo61x0:Fo Tryz.prog 61 0 0 42 1:=qU (by kernel_rfl) (by kernel_rfl)
instance fo61x1:Fo Tryz.prog 61 1 1 51 9:=qU (by kernel_rfl) (by kernel_rfl)
abbrev zi (x:GC) (p q:AV):List AV:=[.int .u8 x.typ,.int .i64 x.n,.int .u64 x.time,.int .u8 x.dot.actor.rep,.int .u32 x.dot.actor.inc,.int .u64 x.dot.seq,.str x.text,p,q]
theorem ok13N (n:Nat):∀{t0:(List GA)} {b:Int} {res:Int} {h:AH} , xS n t0 b=some res->Sp 13 [.sl 3 (t0.map GA.row),.int .i64 b] h (yP (.int .i64 res) h):=by
 induction n with
 | zero=>intro t0 b res h  a;simp [xS] at a
 | succ n ih =>
  intro t0 b res h  a;unfold xS at a;refine zc Tryz.func13 rfl (by kernel_rfl) (xh 84 rfl) (R.r ?_);refine xI (λ(z:Int×Int)=>zt 2 3 (zt 7 77 [(5,.int .i64 z.1),(6,.int .i64 z.2)])) (λz=>h.ext [] []) a (λ_=>by simp only [zt,wE,ue,uf];try rfl) (wk.le LEL.o) ?_;intro T z Q a C;apply R.r;refine ln λi=>?_;replace i:=yD i;apply R.r;refine zj gg a (λy a=>?_) (λy a=>?_)
  ·apply R.r;refine yU [16] [] trivial mixed (by kernel_rfl) (R.r ?_);refine zg a (λL x a=>zr rfl rfl (yl rfl el23 gg gg isl x (GA.row_eq _)) ss (R.r ?_));refine draw_len rfl rfl (s_lenStr rfl rfl rfl rfl ty9 gg) ss (R.r ?_);refine zg a (λN u a=>zr rfl rfl (yl rfl el23 gg gg isl u (GA.row_eq _)) ss (R.r ?_));refine zg a (λK s a=>zZ rfl rfl (λ_=>sc rfl) (by rintro _ ⟨B2,T2,rfl,J⟩;exact ih s) ss (R.r ?_));refine xI (λ(p:Int×Int)=>zt 2 3 (zt 8 76 [(5,.int .i64 p.1),(7,.int .i64 p.2)])) (λp=>h.ext [] []) a (λ_=>by simp only [zt,wE,ue,uf];try rfl) (wk.le LEL.o) ?_;intro n2 p P a w;apply R.r;refine zg a (λI m a=>zb rfl (yl rfl el23 gg gg isl m (GA.row_eq _)) ss (R.r ?_));refine ln λc=>?_;replace c:=yD c;apply R.r;refine zj gg a (λj a=>?_) (λj a=>?_)
   ·apply R.r;refine zg a (λH l a=>zb rfl (yl rfl el23 gg gg isl l (GA.row_eq _)) ss (R.r ?_));refine zg a (λA k a=>ix k (R.r ?_));refine ln λf=>?_;replace f:=yD f;apply R.r;refine ln λg=>?_;replace g:=yD g;apply R.r;refine zM (λ(G:Nat) (B:Int)=>zt 2 3 (zt 10 74 [(5,.int .i64 B),(9,.int .i64 (G:Int))])) (λB=>h.ext [.cells (GC.row A)] []) a (λ_ _=>by simp only [zt,wE,ue,uf];try rfl) (wk.le LEL.o) ?_;intro G B O a;apply R.r;refine ln λd=>?_;replace d:=yD d;apply R.r;refine zT gg a (λM S F D a E=>?_) (λa=>?_)
    ·apply R.r;refine ix (zK D) (R.r ?_);refine ln λe=>?_;replace e:=yD e;apply R.r;cases a;exact ⟨(IntKind.wrap .i64 ((IntKind.wrap .i64 (B+(1:Int)))+((M.text).length:Int))),F,E,wk.le (by exact (.eq (.eq (.drop (.drop (.drop (.cons (leV.of_eq rfl) (.eq (.eq (.eq (.cons (leV.of_eq (xq (by omega) (by omega))) (.d16 (.d16 (.d16 (.d16 (.d4 (.d4 (.drop (.drop leL.nil)))))))))))))))))))⟩
    ·apply R.r;cases a;exact ⟨(B,(IntKind.wrap .i64 (p.2+(1:Int)))),w,wk.trans (wk.le LEL.o) (yp (by simp [zR,AV.low]) rfl rfl (by simp [Blk.low,zR,AV.low]))⟩
   ·apply R.r;cases a;replace a:=w;apply R.r;cases a;exact ⟨(p.1,(IntKind.wrap .i64 (z.2+(1:Int)))),C,wk.le LEL.o⟩
  ·apply R.r;cases a;replace a:=C;apply R.r;cases a;exact fz rfl rfl
theorem ok13 {t0:(List GA)} {a:Int} {res:Int}  (c:ref07Xsize t0 a=some res):Sp 13 [.sl 3 (t0.map GA.row),.int .i64 a] h (yP (.int .i64 res) h):=by
 obtain ⟨n,b⟩:=qc c;exact ok13N n b
theorem ok4 {t0:(List GA)}  (a:qx t0=some res):Sp 4 [.sl 3 (t0.map GA.row)] h (yP (.bool res) h):=by
 unfold qx at a;refine zc Tryz.func4 rfl (by kernel_rfl) (xh 6 rfl) (R.r ?_);refine zg a (λc b a=>cp (ok13 b) (R.r ?_));cases a;exact fz rfl rfl
theorem ok69 {w:(List GA)} {u:(GA->Option Bool)} {res:Int} (s:∀x0 v (L:List Blk) (M:List Nat),u x0=some v->Sp ff1 (af1++[.agg [.str x0.name,.sl 9 (x0.leaves.map GC.row),.sl 3 (x0.subs.map GA.row)]]++kf1) (h.ext L M) (yP (.bool v) (h.ext L M))) (a:xW w u=some res):Sp 69 [.sl 3 (w.map GA.row),.fn (.func ff1) af1 kf1] h (yP (.int .i64 res) h):=by
 unfold xW at a;refine yg Tryz.func69 rfl (by kernel_rfl) (xh 19 rfl) (λb A=>?_);simp only [zR,AV.low,ud,uS,tM] at b;have j:∀n m,h.blks.length<=n->h.toks.length<=m->zR n m af1=true:=λn m g e=>yF g e _ (by simp [b]);have f:∀n m,h.blks.length<=n->h.toks.length<=m->zR n m kf1=true:=λn m g e=>yF g e _ (by simp [b]);apply R.r;refine ln λc=>?_;replace c:=yD c;apply R.r;refine zM (λ(y:Nat) (x:Unit)=>zt 2 5 (zt 9 10 [(8,.int .i64 (y:Int))])) (λx=>h.ext [] []) a (λ_ _=>by simp only [zt,wE,ue,uf];try rfl) (wk.le LEL.o) ?_;intro y x z a;apply R.r;refine zT gg a (λD C p i a d=>?_) (λa=>?_)
 ·apply R.r;refine zb rfl (yl rfl el23 gg gg isl (zK i) (GA.row_eq _)) ss (R.r ?_);refine zg a (λB l a=>zP rfl (scC rfl) (s _ _ _ _ l) ss (R.r ?_));refine zj gg a (λk a=>?_) (λk a=>?_)
  ·apply R.r;cases a;replace a:=d;apply R.r;cases a;exact fz rfl rfl
  ·apply R.r;cases a;exact ⟨(),p,d,wk.le (by exact (.eq (.eq (.d4 (.drop (.eq (.cons (leV.of_eq (xq (by omega) (by omega))) (.d4 (.d4 (.drop (.drop leL.nil)))))))))))⟩
 ·apply R.r;cases a;exact fz rfl rfl
theorem ok70 {a:GA} {c:zx} (b:h.blk i0=some (.cells [.str c])) (d:treeXlinearC1 a c=some res):Sp 70 [.agg [.str a.name,.sl 9 (a.leaves.map GC.row),.sl 3 (a.subs.map GA.row)],.ptr i0 0] h (yP (.bool res) h):=by
 unfold treeXlinearC1 at d;refine zc Tryz.func70 rfl (by kernel_rfl) (xh 8 rfl) (R.r ?_);refine zb rfl (b_load rfl ty9 gg b (zI rfl) (za rfl)) ss (R.r ?_);cases d;exact fz rfl rfl
theorem ok34 {t0:(List GA)} {a:zx} {res:(GA×Bool)}  (b:xn t0 a=some res):Sp 34 [.sl 3 (t0.map GA.row),.str a] h (yP (.tup [.agg [.str res.1.name,.sl 9 (res.1.leaves.map GC.row),.sl 3 (res.1.subs.map GA.row)],.bool res.2]) h):=by
 unfold xn at b;refine zc Tryz.func34 rfl (by kernel_rfl) (xh 17 rfl) (R.r ?_);refine zb rfl (qv rfl rfl rfl) ss ?_;refine zg b (λi d b=>cp (ok69 (λ_ v L M f=>ok70 (blk_ext2 (j:=0) rfl) f) d) (R.r ?_));refine zj gg b (λe b=>?_) (λe b=>?_)
 ·apply R.r;refine zb rfl (z8 (cs':=lit3x) rfl su56 qe pl56 zk .nil rfl rfl) ss (R.r ?_);cases b;exact fe rfl rfl (leV.tup (.cons (leV.agg (.eq (.cons (leV.osl _ _ _) (.cons (leV.osl _ _ _) leL.nil))) rfl) (.eq leL.nil)))
 ·apply R.r;refine zg b (λg c b=>zb rfl (yl rfl el23 gg gg isl c (GA.row_eq _)) ss (R.r ?_));cases b;exact fz rfl rfl
theorem ok35 {w:(List GC)} {u:(GC->Option Bool)} {res:Int} (s:∀x0 v (L:List Blk) (M:List Nat),u x0=some v->Sp ff1 (af1++[.agg (GC.row x0)]++kf1) (h.ext L M) (yP (.bool v) (h.ext L M))) (a:yw w u=some res):Sp 35 [.sl 9 (w.map GC.row),.fn (.func ff1) af1 kf1] h (yP (.int .i64 res) h):=by
 unfold yw at a;refine yg Tryz.func35 rfl (by kernel_rfl) (xh 19 rfl) (λb A=>?_);simp only [zR,AV.low,ud,uS,tM] at b;have j:∀n m,h.blks.length<=n->h.toks.length<=m->zR n m af1=true:=λn m g e=>yF g e _ (by simp [b]);have f:∀n m,h.blks.length<=n->h.toks.length<=m->zR n m kf1=true:=λn m g e=>yF g e _ (by simp [b]);apply R.r;refine ln λc=>?_;replace c:=yD c;apply R.r;refine zM (λ(y:Nat) (x:Unit)=>zt 2 5 (zt 9 10 [(8,.int .i64 (y:Int))])) (λx=>h.ext [] []) a (λ_ _=>by simp only [zt,wE,ue,uf];try rfl) (wk.le LEL.o) ?_;intro y x z a;apply R.r;refine zT gg a (λD C p i a d=>?_) (λa=>?_)
 ·apply R.r;refine ix (zK i) (R.r ?_);refine zg a (λB l a=>zP rfl (scC rfl) (s _ _ _ _ l) ss (R.r ?_));refine zj gg a (λk a=>?_) (λk a=>?_)
  ·apply R.r;cases a;replace a:=d;apply R.r;cases a;exact fz rfl rfl
  ·apply R.r;cases a;exact ⟨(),p,d,wk.le (by exact (.eq (.eq (.d4 (.drop (.eq (.cons (leV.of_eq (xq (by omega) (by omega))) (.d4 (.d4 (.drop (.drop leL.nil)))))))))))⟩
 ·apply R.r;cases a;exact fz rfl rfl
theorem ok36 {d:GC} {b:Int} (a:h.blk i0=some (.cells [.int .u8 b])) (c:treeLeafC1 d b=some res):Sp 36 [.agg (GC.row d),.ptr i0 0] h (yP (.bool res) h):=by
 unfold treeLeafC1 at c;refine zc Tryz.func36 rfl (by kernel_rfl) (xh 8 rfl) (R.r ?_);refine zb rfl (b_load rfl ty5 gg a (zI rfl) (za rfl)) ss (R.r ?_);cases c;exact fz rfl rfl
theorem ok37 {res:GC}  (a:vt kind0=some res):Sp 37 [.int .u8 kind0] h (yP (.agg (GC.row res)) h):=by
 unfold vt at a;refine zc Tryz.func37 rfl (by kernel_rfl) (xh 12 rfl) (R.r ?_);refine zj gg a (λb a=>?_) (λb a=>?_)
 ·apply R.r;refine zb rfl (z8 (cs':=yo) rfl su51 xV pl51 zk .nil rfl rfl) ss (R.r ?_);cases a;exact fe rfl rfl (leV.agg (.eq (.eq (.eq (.eq (.eq (.eq (.eq (.cons (leV.osl _ _ _) (.cons (leV.osl _ _ _) leL.nil))))))))) rfl)
 ·apply R.r;refine zb rfl (z8 (cs':=[.int .u8 kind0,.int .i64 (0:Int),.int .u64 (0:Int),.int .u8 (0:Int),.int .u32 (0:Int),.int .u64 (0:Int),.str ([]:zx),.osl none 5 (([]:List GF).map GF.row),.osl none 3 (([]:List GE).map GE.row)]) rfl su51 xV pl51 (zd gg zk) (.cons (za rfl) .nil) rfl rfl) ss (R.r ?_);cases a;exact fe rfl rfl (leV.agg (.eq (.eq (.eq (.eq (.eq (.eq (.eq (.cons (leV.osl _ _ _) (.cons (leV.osl _ _ _) leL.nil))))))))) rfl)
theorem okM37 {res:GC}  (a:vt kind0=some res):Sp 37 [.int .u8 kind0] h (yP (.agg (zi res (.nsl 5 (res.items.map GF.row)) (.nsl 3 (res.tombs.map GE.row)))) h):=by
 unfold vt at a;refine zc Tryz.func37 rfl (by kernel_rfl) (env:=[.int .u8 kind0,aundef,aundef,aundef,aundef,aundef,aundef,aundef,aundef,aundef,aundef,aundef]) (by rfl) ?_;refine zz (zf ?_);refine zb rfl (yL (n:=0) rfl xV rfl) st2 ?_;refine zn (zy (zz (zz (zf ?_))));refine zb rfl (zo rfl gt0 (za rfl)) st3 ?_;refine zb rfl (yH rfl gt3 rfl rfl) st4 ?_;refine zb rfl (zo rfl gt4 (za rfl)) st5 ?_;refine zY rfl (λc=>zo rfl gt0 (za rfl)) st6 ?_;refine zY rfl (λc=>yH rfl (zO gt6 c) rfl rfl) st7 ?_;refine zb rfl (wy rfl gt5 rfl gt7 (wD (λd=>gF d))) st8 ?_;refine zn (zy ?_);refine zj gt8 a (λb a=>?_) (λb a=>?_)
 ·refine zz (zf ?_);refine zb rfl (z8 (cs':=yo) rfl su51 xV pl51 zk .nil rfl rfl) st9 ?_;refine zb rfl (zG (cs':=yo) rfl ty51.choose_spec.1 gt2 gt9 (za rfl) rfl rfl rfl rfl rfl) rfl ?_;refine zn (zy (wj (wR ?_)));obtain rfl:=uo a;refine wM rfl (wg ty51.choose_spec.1 gt2 rfl (zL (cs':=yo) ty51.choose_spec.2 rfl rfl) (za rfl) xb) (yf (leV.agg (.eq (.eq (.eq (.eq (.eq (.eq (.eq (.cons leV.nil_nsl (.cons leV.nil_nsl leL.nil))))))))) rfl) rfl ?_);exact ⟨rfl,rfl⟩
 ·refine x5 (zy (zz (zf ?_)));refine zb rfl (zo rfl gt0 (za rfl)) st10 ?_;refine zb rfl (z8 (cs':=[.int .u8 kind0,.int .i64 (0:Int),.int .u64 (0:Int),.int .u8 (0:Int),.int .u32 (0:Int),.int .u64 (0:Int),.str ([]:zx),.osl none 5 (([]:List GF).map GF.row),.osl none 3 (([]:List GE).map GE.row)]) rfl su51 xV pl51 (zd gt10 zk) (.cons (za rfl) .nil) rfl rfl) st11 ?_;refine zb rfl (zG (cs':=[.int .u8 kind0,.int .i64 (0:Int),.int .u64 (0:Int),.int .u8 (0:Int),.int .u32 (0:Int),.int .u64 (0:Int),.str ([]:zx),.osl none 5 (([]:List GF).map GF.row),.osl none 3 (([]:List GE).map GE.row)]) rfl ty51.choose_spec.1 gt2 gt11 (za rfl) rfl rfl rfl rfl rfl) rfl ?_;refine zn (zy (wj ?_));obtain rfl:=uo a;refine wM rfl (wg ty51.choose_spec.1 gt2 rfl (zL (cs':=[.int .u8 kind0,.int .i64 (0:Int),.int .u64 (0:Int),.int .u8 (0:Int),.int .u32 (0:Int),.int .u64 (0:Int),.str ([]:zx),.osl none 5 (([]:List GF).map GF.row),.osl none 3 (([]:List GE).map GE.row)]) ty51.choose_spec.2 rfl rfl) (za rfl) xb) (yf (leV.agg (.eq (.eq (.eq (.eq (.eq (.eq (.eq (.cons leV.nil_nsl (.cons leV.nil_nsl leL.nil))))))))) rfl) rfl ?_);exact ⟨rfl,rfl⟩
theorem ok38 {d:(List GF)} {res:(List GF)}  (a:yC d=some res):Sp 38 [.sl 5 (d.map GF.row)] h (OwnK h 5 res.length (res.map GF.row)):=by
 unfold yC at a;refine zc Tryz.func38 rfl (by kernel_rfl) (xh 8 rfl) (R.r ?_);refine qI rfl rfl el49 gg isl rfl (λ_=>ss) a (λf e a=>R.r ?_);refine zj gg a (λb a=>?_) (λb a=>?_)
 ·apply R.r;cases a;refine fr rfl (fin_own0 (row:=GF.row) (L:=([]:List GF)) ?_);exact ⟨rfl,rfl⟩
 ·apply R.r;refine zb rfl (zp (es:=([]:List GF).map GF.row) rfl el49 ze70 rfl rfl zk .nil rfl rfl rfl) ss (R.r ?_);refine yq a (λc a=>zb rfl (e_appN (m:=0) (T':=[((([]:List GF)++d)).length]) rfl rfl rfl rfl el49 el49 gg gg (za rfl) (za rfl) xk c rfl rfl) ss (R.r ?_));cases a;refine fr rfl (fin_own ?_);exact ⟨rfl,rfl⟩
theorem okM38 {d:(List GF)} {res:(List GF)}  (a:yC d=some res):Sp 38 [.sl 5 (d.map GF.row)] h (yP (.nsl 5 (res.map GF.row)) h):=by
 unfold yC at a;refine zc Tryz.func38 rfl (by kernel_rfl) (env:=[.sl 5 (d.map GF.row),aundef,aundef,aundef,aundef,aundef,aundef,aundef]) (by rfl) ?_;refine zz (zf ?_);refine zb rfl (zA rfl rfl (qW el49)) st2 ?_;refine zn (zy (zz (zz (zf ?_))));refine zb rfl (zo rfl gt0 (za rfl)) st3 ?_;refine qI rfl rfl el49 gt3 isl rfl (λ_=>st4) a (λf e a=>zn (zy ?_));refine zj gt4 a (λb a=>?_) (λb a=>?_)
 ·refine zz (zf ?_);refine zb rfl (zA rfl rfl (qW el49)) st2 ?_;refine zn (zy (wj (wR ?_)));obtain rfl:=uo a;refine wM rfl (xL gt2 xb) (yf leV.nil_nsl rfl ?_);exact ⟨rfl,rfl⟩
 ·refine x5 (zy (zz (zf ?_)));refine zb rfl (zp (es:=([]:List GF).map GF.row) rfl el49 ze70 rfl rfl zk .nil rfl rfl rfl) st5 ?_;refine zb rfl (zo rfl gt0 (za rfl)) st6 ?_;refine yq a (λc a=>ops_new rfl (s_anew rfl rfl rfl rfl el49 el49 gt5 gt6 (za rfl) (za rfl) xk (by simpa using c)) st7 ?_);refine zb rfl (zA rfl gt7 (za rfl)) st2 ?_;refine zn (zy (wj ?_));obtain rfl:=uo a;refine wM rfl (xL gt2 xb) (yf (leV.refl _) rfl ?_);exact ⟨rfl,rfl⟩
theorem okR38 {b:(List GF)} {res:(List GF)}  (a:yC b=some res):Sp 38 [.sl 5 (b.map GF.row)] h (NewK h 5 res.length (res.map GF.row)):=by
 unfold yC at a;refine zc Tryz.func38 rfl (by kernel_rfl) (xh 8 rfl) (R.r ?_);refine qI rfl rfl el49 gg isl rfl (λ_=>ss) a (λf e a=>R.r ?_);refine zj gg a (λc a=>?_) (λc a=>?_)
 ·apply R.r;cases a;refine fr rfl (fin_row0 ?_);exact ⟨rfl,rfl⟩
 ·apply R.r;refine zb rfl (zp (es:=([]:List GF).map GF.row) rfl el49 ze70 rfl rfl zk .nil rfl rfl rfl) ss (R.r ?_);refine vr (qk gt5 rfl rfl st5 rfl rfl) ?_;refine yq a (λd a=>zb rfl (qh (i:=0) (j:=0) (B':=[yR h 0 5 ((([]:List GF)++b).map GF.row)]) (T':=[((([]:List GF)++b)).length]) rfl rfl rfl rfl el49 el49 gg gg rfl (za rfl) xk d rfl rfl rfl rfl rfl) ss (R.r ?_));cases a;refine fr rfl (fin_at ?_);exact ⟨rfl,rfl⟩
theorem ok39 {d:(List GE)} {res:(List GE)}  (a:yW d=some res):Sp 39 [.sl 3 (d.map GE.row)] h (OwnK h 3 res.length (res.map GE.row)):=by
 unfold yW at a;refine zc Tryz.func39 rfl (by kernel_rfl) (xh 8 rfl) (R.r ?_);refine qI rfl rfl el43 gg isl rfl (λ_=>ss) a (λf e a=>R.r ?_);refine zj gg a (λb a=>?_) (λb a=>?_)
 ·apply R.r;cases a;refine fr rfl (fin_own0 (row:=GE.row) (L:=([]:List GE)) ?_);exact ⟨rfl,rfl⟩
 ·apply R.r;refine zb rfl (zp (es:=([]:List GE).map GE.row) rfl el43 ze41 rfl rfl zk .nil rfl rfl rfl) ss (R.r ?_);refine yq a (λc a=>zb rfl (e_appN (m:=0) (T':=[((([]:List GE)++d)).length]) rfl rfl rfl rfl el43 el43 gg gg (za rfl) (za rfl) xk c rfl rfl) ss (R.r ?_));cases a;refine fr rfl (fin_own ?_);exact ⟨rfl,rfl⟩
theorem okM39 {d:(List GE)} {res:(List GE)}  (a:yW d=some res):Sp 39 [.sl 3 (d.map GE.row)] h (yP (.nsl 3 (res.map GE.row)) h):=by
 unfold yW at a;refine zc Tryz.func39 rfl (by kernel_rfl) (env:=[.sl 3 (d.map GE.row),aundef,aundef,aundef,aundef,aundef,aundef,aundef]) (by rfl) ?_;refine zz (zf ?_);refine zb rfl (zA rfl rfl (qW el43)) st2 ?_;refine zn (zy (zz (zz (zf ?_))));refine zb rfl (zo rfl gt0 (za rfl)) st3 ?_;refine qI rfl rfl el43 gt3 isl rfl (λ_=>st4) a (λf e a=>zn (zy ?_));refine zj gt4 a (λb a=>?_) (λb a=>?_)
 ·refine zz (zf ?_);refine zb rfl (zA rfl rfl (qW el43)) st2 ?_;refine zn (zy (wj (wR ?_)));obtain rfl:=uo a;refine wM rfl (xL gt2 xb) (yf leV.nil_nsl rfl ?_);exact ⟨rfl,rfl⟩
 ·refine x5 (zy (zz (zf ?_)));refine zb rfl (zp (es:=([]:List GE).map GE.row) rfl el43 ze41 rfl rfl zk .nil rfl rfl rfl) st5 ?_;refine zb rfl (zo rfl gt0 (za rfl)) st6 ?_;refine yq a (λc a=>ops_new rfl (s_anew rfl rfl rfl rfl el43 el43 gt5 gt6 (za rfl) (za rfl) xk (by simpa using c)) st7 ?_);refine zb rfl (zA rfl gt7 (za rfl)) st2 ?_;refine zn (zy (wj ?_));obtain rfl:=uo a;refine wM rfl (xL gt2 xb) (yf (leV.refl _) rfl ?_);exact ⟨rfl,rfl⟩
theorem okR39 {b:(List GE)} {res:(List GE)}  (a:yW b=some res):Sp 39 [.sl 3 (b.map GE.row)] h (NewK h 3 res.length (res.map GE.row)):=by
 unfold yW at a;refine zc Tryz.func39 rfl (by kernel_rfl) (xh 8 rfl) (R.r ?_);refine qI rfl rfl el43 gg isl rfl (λ_=>ss) a (λf e a=>R.r ?_);refine zj gg a (λc a=>?_) (λc a=>?_)
 ·apply R.r;cases a;refine fr rfl (fin_row0 ?_);exact ⟨rfl,rfl⟩
 ·apply R.r;refine zb rfl (zp (es:=([]:List GE).map GE.row) rfl el43 ze41 rfl rfl zk .nil rfl rfl rfl) ss (R.r ?_);refine vr (qk gt5 rfl rfl st5 rfl rfl) ?_;refine yq a (λd a=>zb rfl (qh (i:=0) (j:=0) (B':=[yR h 0 3 ((([]:List GE)++b).map GE.row)]) (T':=[((([]:List GE)++b)).length]) rfl rfl rfl rfl el43 el43 gg gg rfl (za rfl) xk d rfl rfl rfl rfl rfl) ss (R.r ?_));cases a;refine fr rfl (fin_at ?_);exact ⟨rfl,rfl⟩
theorem ok16 {t0:(List GA)} {d:(List zx)} {res:(GC×Bool)}  (a:wq t0 d kind2=some res):Sp 16 [.sl 3 (t0.map GA.row),.sl 1 (d.map zW),.int .u8 kind2] h (yP (.tup [.agg (GC.row res.1),.bool res.2]) h):=by
 unfold wq at a;refine zc Tryz.func16 rfl (by kernel_rfl) (xh 66 rfl) (R.r ?_);refine ln λp=>?_;replace p:=yD p;refine zb rfl (yH rfl gg rfl rfl) ss ?_;refine zb rfl (zA rfl gg (za rfl)) ss ?_;refine zn (zy ?_);refine r_join (λ(i:Bool×zx×(List GC)×(List GA))=>zt 0 5 (zt 10 56 [(7,.any),(9,.bool i.1)])) (λi=>h.ext [.cells [.int .u8 kind2],.cells yo,.cells [.str i.2.1,.sl 9 (i.2.2.1.map GC.row),.sl 3 (i.2.2.2.map GA.row)]] []) a (λ_=>by simp only [zt,wE,ue,uf];try rfl) (λK a A=>?_) (λi a=>?_)
 ·apply R.r;refine ln λf=>?_;replace f:=yD f;apply R.r;refine zM (λ(n2:Nat) (c:(List GA)×Bool×zx×(List GC)×(List GA))=>zt 1 4 (zt 10 7 (zt 20 46 [(7,.any),(0,.sl 3 (c.1.map GA.row)),(9,.bool c.2.1),(19,.int .i64 (n2:Int))]))) (λc=>h.ext [.cells [.int .u8 kind2],.cells yo,.cells [.str c.2.2.1,.sl 9 (c.2.2.2.1.map GC.row),.sl 3 (c.2.2.2.2.map GA.row)]] []) a (λ_ _=>by simp only [zt,wE,ue,uf];try rfl) (wk.trans (wk_leB (j:=2) rfl (by exact (.eq (.cons (leV.osl _ _ _) (.cons (leV.osl _ _ _) leL.nil)))) rfl rfl) (wk.le LEL.o)) ?_;intro n2 c G a;apply R.r;refine zT gg a (λN J E C a u=>?_) (λa=>?_)
  ·apply R.r;refine ix (zK C) (R.r ?_);refine zg a (λb y a=>cp (ok34 y) (R.r ?_));refine zj gg a (λz a=>?_) (λz a=>?_)
   ·apply R.r;refine q_block_miss (by decide) (R.r ?_);cases a;replace a:=u;apply R.r;refine q_join ?_;cases a;exact ⟨(b.2,b.1.name,b.1.leaves,b.1.subs),A,wk.le LEL.o⟩
   ·apply R.r;cases a;exact ⟨(b.1.subs,b.2,b.1.name,b.1.leaves,b.1.subs),E,u,wk.le (by exact (.cons (leV.of_eq rfl) (.d4 (.eq (.eq (.drop (.eq (.cons (leV.of_eq rfl) (.d4 (.drop (.drop (.drop (.eq (.eq (.cons (leV.of_eq (xq (by omega) (by omega))) (.d16 (.d16 (.d4 (.d4 (.d4 (.drop (.drop leL.nil))))))))))))))))))))))⟩
  ·apply R.r;refine q_join ?_;cases a;exact ⟨(c.2.1,c.2.2.1,c.2.2.2.1,c.2.2.2.2),A,wk.le LEL.o⟩
 ·apply R.r;refine zb rfl (qv rfl rfl rfl) ss ?_;refine zg a (λI x a=>cp (ok35 (λ_ v L M H=>ok36 (blk_ext2 (j:=0) rfl) H) x) (R.r ?_));refine yb a (λv50 l a=>zQ rfl sc (λD=>ok37 (l D)) ss ?_);refine zY rfl (λD=>s_field rfl fo51x0 ty5 (zO gg D) rfl (za rfl)) ss (R.r ?_);refine zj gg a (λk a=>?_) (λk a=>?_)
  ·apply R.r;refine zg a (λF B a=>cp (ok37 B) (R.r ?_));cases a;exact fz rfl rfl
  ·apply R.r;refine zg a (λg s a=>ix s (R.r ?_));refine yn (by kernel_rfl) (R.r ?_);refine zg a (λe w a=>draw_callH rfl FOk.nil (by rfl) rfl (sc rfl) (own_ext (T':=[e.length]) (ok38 w) (m:=0) rfl rfl) ss (R.r ?_));refine zg a (λv55 n a=>draw_callH rfl FOk.nil (by rfl) rfl (sc rfl) (own_ext (T':=[e.length,v55.length]) (ok39 n) (m:=1) rfl rfl) ss (R.r ?_));refine zN rfl FOk.nil (by kernel_rfl) rfl (zG (cs':=(zi g (osA h 0 5 (e.map GF.row)) (.sl 3 (g.tombs.map GE.row)))) rfl ty49 gg gg (za rfl) rfl rfl rfl rfl rfl) rfl (R.r ?_);refine zN rfl FOk.nil (by kernel_rfl) rfl (zG (cs':=(zi g (osA h 0 5 (e.map GF.row)) (osA h 1 3 (v55.map GE.row)))) rfl ty43 gg gg (za rfl) rfl rfl rfl rfl rfl) rfl (R.r ?_);cases a;exact fe rfl rfl (leV.tup (.cons (leV.agg (.eq (.eq (.eq (.eq (.eq (.eq (.eq (.cons (leV.osl _ _ _) (.cons (leV.osl _ _ _) leL.nil))))))))) rfl) (.eq leL.nil)))
theorem okM16 {t0:(List GA)} {d:(List zx)} {res:(GC×Bool)}  (a:wq t0 d kind2=some res):Sp 16 [.sl 3 (t0.map GA.row),.sl 1 (d.map zW),.int .u8 kind2] h (yP (.tup [.agg [.int .u8 res.1.typ,.int .i64 res.1.n,.int .u64 res.1.time,.int .u8 res.1.dot.actor.rep,.int .u32 res.1.dot.actor.inc,.int .u64 res.1.dot.seq,.str res.1.text,.nsl 5 (res.1.items.map GF.row),.nsl 3 (res.1.tombs.map GE.row)],.bool res.2]) h):=by
 unfold wq at a;refine zc Tryz.func16 rfl (by kernel_rfl) (env:=[.sl 3 (t0.map GA.row),.sl 1 (d.map zW),.int .u8 kind2,aundef,aundef,aundef,aundef,aundef,aundef,aundef,aundef,aundef,aundef,aundef,aundef,aundef,aundef,aundef,aundef,aundef,aundef,aundef,aundef,aundef,aundef,aundef,aundef,aundef,aundef,aundef,aundef,aundef,aundef,aundef,aundef,aundef,aundef,aundef,aundef,aundef,aundef,aundef,aundef,aundef,aundef,aundef,aundef,aundef,aundef,aundef,aundef,aundef,aundef,aundef,aundef,aundef,aundef,aundef,aundef,aundef,aundef,aundef,aundef,aundef,aundef,aundef]) (by rfl) ?_;refine zz (zf ?_);refine zb rfl (vg (n:=0) rfl gt2 (za rfl) rfl rfl) st5 ?_;refine zb rfl (yL (n:=1) rfl xV rfl) st6 ?_;refine zb rfl (zA rfl rfl (za rfl)) st7 ?_;refine zn (zy (zz (zf ?_)));refine zb rfl (yL (n:=2) rfl qe rfl) st8 ?_;refine zn (zy (zz (zf ?_)));refine zb rfl (zo rfl gt1 (za rfl)) st14 ?_;refine qs rfl (xw rfl rfl rfl rfl el42 gt14 vn) st15 λs=>?_;replace s:=yD s;refine zb rfl (yH rfl gt15 rfl rfl) st16 ?_;refine zb rfl (zA rfl gt16 (za rfl)) st9 ?_;refine zn (zy ?_);refine r_join (λ(l:Bool×zx×(List GC)×(List GA))=>zt 0 5 (zt 10 56 [(7,.any),(9,.bool l.1)])) (λl=>h.ext [.cells [.int .u8 kind2],.cells yo,.cells [.str l.2.1,.sl 9 (l.2.2.1.map GC.row),.sl 3 (l.2.2.2.map GA.row)]] []) a (λ_=>by simp only [zt,wE,ue,uf];try rfl) (λK a B=>?_) (λl a=>?_)
 ·refine zz (zf ?_);refine zb rfl (zo rfl gt1 (za rfl)) st17 ?_;refine qs rfl (xw rfl rfl rfl rfl el42 gt17 vn) st18 λk=>?_;replace k:=yD k;refine zb rfl (zo rfl rfl (za rfl)) st19 ?_;refine zn (zy (xG ?_));refine zM (λ(n2:Nat) (g:(List GA)×Bool×zx×(List GC)×(List GA))=>zt 1 4 (zt 10 7 (zt 20 46 [(7,.any),(0,.sl 3 (g.1.map GA.row)),(9,.bool g.2.1),(19,.int .i64 (n2:Int))]))) (λg=>h.ext [.cells [.int .u8 kind2],.cells yo,.cells [.str g.2.2.1,.sl 9 (g.2.2.2.1.map GC.row),.sl 3 (g.2.2.2.2.map GA.row)]] []) a (λ_ _=>by simp only [zt,wE,ue,uf];try rfl) (wk.trans (wk_leB (j:=2) rfl (by exact (.eq (.cons (leV.osl _ _ _) (.cons (leV.osl _ _ _) leL.nil)))) rfl rfl) (wk.le (by exact (.cons (leV.of_eq rfl) (.d4 (.eq (.eq (.drop (.eq (.cons (leV.of_eq rfl) (.d4 (.drop (.drop (.drop (.eq (.eq (.cons (leV.of_eq rfl) (.d16 (.d16 (.d4 (.d4 (.d4 (.drop (.drop leL.nil)))))))))))))))))))))))) ?_;intro n2 g G a;refine zz (zf ?_);refine zb rfl (yH rfl gt19 gt18 rfl) st20 ?_;refine zn (zy (zz ?_));refine zT gt20 a (λN J F D a w=>?_) (λa=>?_)
  ·refine x5 (zy (zz (xG (zz (zf ?_)))));refine zb rfl (s_idxRow rfl el42 gt17 gt19 isl (zK D)) st21 ?_;refine zb rfl (f_load rfl ty9 gt21 (zI rfl) (za rfl)) st22 ?_;refine zb rfl (zA rfl gt22 (za rfl)) st11 ?_;refine zn (zy (zz (zz (zf ?_))));refine zb rfl (zo rfl gt0 (za rfl)) st24 ?_;refine zb rfl (zo rfl gt11 (za rfl)) st25 ?_;refine zg a (λb z a=>zP rfl (zJ rfl rfl rfl (ze gt24 (ze gt25 zB)) (.cons (za rfl) (.cons (za rfl) .nil))) (ok34 z) st26 ?_);refine zb rfl (zo rfl gt26 (za rfl)) st23 ?_;refine zb rfl (yj rfl gt23 rfl (za rfl)) st27 ?_;refine zb rfl (yj rfl gt23 rfl (za rfl)) st28 ?_;refine zb rfl (zG (cs':=[.str b.1.name,.sl 9 (b.1.leaves.map GC.row),.sl 3 (b.1.subs.map GA.row)]) rfl ty56.choose_spec.1 gt8 gt27 (za rfl) rfl rfl rfl rfl rfl) rfl ?_;refine zb rfl (zA rfl gt28 (za rfl)) st9 ?_;refine zn (zy (zz (zf ?_)));refine zb rfl (zo rfl gt9 (za rfl)) st29 ?_;refine zb rfl (s_un rfl gt29 rfl) st30 ?_;refine zn (zy ?_);refine zj gt30 a (λA a=>?_) (λA a=>?_)
   ·refine r_exit ?_;refine xM ?_;refine q_block_miss (by decide) ?_;refine xM ?_;refine xD ?_;obtain rfl:=uo a;replace a:=w;refine xE ?_;refine q_join ?_;obtain rfl:=uo a;exact ⟨(b.2,b.1.name,b.1.leaves,b.1.subs),B,wk.le (by exact (.d4 (.drop (.eq (.eq (.drop (.eq (.cons (leV.of_eq rfl) (.d16 (.d16 (.d16 (.d4 (.d4 leL.nil)))))))))))))⟩
   ·refine x5 (zy (zf ?_));refine zb rfl (zw rfl fo56x2 gt8 rfl) st31 ?_;refine zb rfl (zH rfl ty23 gt31 rfl (zI rfl) (za rfl)) st32 ?_;refine zb rfl (zA rfl gt32 (za rfl)) st0 ?_;refine zn (vU (zy (zf ?_)));refine zb rfl (yH rfl gt19 rfl rfl) st33 ?_;refine zb rfl (zo rfl gt33 (za rfl)) st19 ?_;refine zn (q_loop ?_);obtain rfl:=uo a;exact ⟨(b.1.subs,b.2,b.1.name,b.1.leaves,b.1.subs),F,w,wk.le (by exact (.cons (leV.of_eq rfl) (.d4 (.eq (.eq (.drop (.eq (.cons (leV.of_eq rfl) (.d4 (.drop (.drop (.drop (.eq (.eq (.cons (leV.of_eq (xq (by omega) (by omega))) (.d16 (.d16 (.d4 (.d4 (.d4 (.drop (.drop leL.nil))))))))))))))))))))))⟩
  ·refine r_exit ?_;refine xM ?_;refine xD ?_;refine xE ?_;refine q_join ?_;obtain rfl:=uo a;exact ⟨(g.2.1,g.2.2.1,g.2.2.2.1,g.2.2.2.2),B,wk.le (by exact (.d4 (.drop (.eq (.eq (.drop (.eq (.cons (leV.of_eq rfl) (.d16 (.d16 (.d16 (.d4 (.d4 leL.nil)))))))))))))⟩
 ·refine zz (zf ?_);refine zb rfl (zw rfl fo56x1 gt8 rfl) st34 ?_;refine zb rfl (zH rfl ty54 gt34 rfl (zI rfl) (za rfl)) st35 ?_;refine zb rfl (qv rfl rfl rfl) st36 ?_;refine zg a (λI y a=>zP rfl (zJ rfl rfl rfl (ze gt35 (ze gt36 zB)) (.cons (za rfl) (.cons (za rfl) .nil))) (ok35 (λ_ v L M H=>ok36 (blk_ext2 (j:=0) rfl) H) y) st37 ?_);refine zb rfl (zA rfl gt37 (za rfl)) st12 ?_;refine zn (zy (zz (zz (zf ?_))));refine zb rfl (zo rfl gt9 (za rfl)) st38 ?_;refine zb rfl (s_un rfl gt38 rfl) st39 ?_;refine zb rfl (zo rfl gt39 (za rfl)) (sk st0) ?_;refine zY rfl (λf=>zo rfl gt12 (za rfl)) (sk st1) ?_;refine zY rfl (λf=>yH rfl (zO (gk gt1) f) rfl rfl) (sk st2) ?_;refine zb rfl (wy rfl (gk gt0) rfl (gk gt2) (wD (λE=>gF E))) (sk st3) ?_;refine zb rfl (zo rfl (gk gt3) (za rfl)) (sk st4) ?_;refine zY rfl (λf=>zH rfl ty5 gt5 rfl (zI rfl) (za rfl)) (sk st5) ?_;refine yb a (λv50 o a=>zQ rfl (λf=>zJ rfl rfl rfl (ze (zO (gk gt5) f) zB) (.cons (za rfl) .nil)) (λf=>okM37 (o f)) (sk st6) ?_);refine zY rfl (λf=>s_field rfl fo51x0 ty5 (zO (gk gt6) f) rfl (za rfl)) (sk st7) ?_;refine zY rfl (λf=>yH rfl (zO (gk gt7) f) rfl rfl) (sk st8) ?_;refine zb rfl (wy rfl (gk gt4) rfl (gk gt8) (wD (λE=>gF E))) (sk st9) ?_;refine zn (zy ?_);refine zj (gk gt9) a (λm a=>?_) (λm a=>?_)
  ·refine zz (zf ?_);refine zb rfl (zH rfl ty5 gt5 rfl (zI rfl) (za rfl)) (sk st10) ?_;refine zg a (λe C a=>zP rfl (zJ rfl rfl rfl (ze (gk gt10) zB) (.cons (za rfl) .nil)) (okM37 C) (sk st11) ?_);refine zb rfl (zG (cs':=(zi e (.nsl 5 (e.items.map GF.row)) (.nsl 3 (e.tombs.map GE.row)))) rfl ty51.choose_spec.1 gt6 (gk gt11) (za rfl) rfl rfl rfl rfl rfl) rfl ?_;refine zb rfl (zA rfl rfl (za rfl)) st7 ?_;refine zn (zy (wj (wR ?_)));obtain rfl:=uo a;refine q_retL rfl (wg ty51.choose_spec.1 gt6 rfl (zL (cs':=(zi e (.nsl 5 (e.items.map GF.row)) (.nsl 3 (e.tombs.map GE.row)))) ty51.choose_spec.2 rfl rfl) (za rfl) (xL gt7 xb)) (yf (leV.refl _) rfl ?_);exact ⟨rfl,rfl⟩
  ·refine x5 (zy (zz (zf ?_)));refine zb rfl (zw rfl fo56x1 gt8 rfl) (sk st12) ?_;refine zb rfl (zH rfl ty54 (gk gt12) rfl (zI rfl) (za rfl)) (sk st13) ?_;refine zb rfl (zo rfl gt12 (za rfl)) (sk st14) ?_;refine zg a (λc u a=>zb rfl (s_idxRow rfl el54 (gk qV) (gk gt14) isl u) (sk st15) ?_);refine zb rfl (f_load rfl ty51.choose_spec.1 (gk gt15) (zL (cs':=(GC.row c)) ty51.choose_spec.2 rfl rfl) (za rfl)) (sk st16) ?_;refine zb rfl (yL (n:=3) rfl xV rfl) st13 ?_;refine zb rfl (zG (cs':=(GC.row c)) rfl ty51.choose_spec.1 qV (gk gt16) (za rfl) rfl rfl rfl rfl rfl) rfl ?_;refine zn (zy (zz ?_));refine yn (by kernel_rfl) ?_;refine zr rfl rfl (zw rfl fo51x5 qV rfl) (sk st17) ?_;refine zr rfl rfl (zH rfl ty49 (gk gt17) rfl (zI rfl) (za rfl)) (sk st18) ?_;refine zg a (λi x a=>xN rfl rfl (zJ rfl rfl rfl (ze (gk gt18) zB) (.cons (za rfl) .nil)) (okM38 x) (sk st19) ?_);refine zr rfl rfl (zw rfl fo51x6 qV rfl) (sk st20) ?_;refine zr rfl rfl (zH rfl ty43 (gk gt20) rfl (zI rfl) (za rfl)) (sk st21) ?_;refine zg a (λv55 p a=>xN rfl rfl (zJ rfl rfl rfl (ze (gk gt21) zB) (.cons (za rfl) .nil)) (okM39 p) (sk st22) ?_);refine zr rfl rfl (zw rfl fo51x5 qV rfl) (sk st23) ?_;refine zN rfl FOk.nil (by kernel_rfl) rfl (zG (cs':=(zi c (.nsl 5 (i.map GF.row)) (.sl 3 (c.tombs.map GE.row)))) rfl ty49 (gk gt23) (gk gt19) (za rfl) rfl rfl rfl rfl rfl) rfl ?_;refine zr rfl rfl (zw rfl fo51x6 qV rfl) (sk st24) ?_;refine zN rfl FOk.nil (by kernel_rfl) rfl (zG (cs':=(zi c (.nsl 5 (i.map GF.row)) (.nsl 3 (v55.map GE.row)))) rfl ty43 (gk gt24) (gk gt22) (za rfl) rfl rfl rfl rfl rfl) rfl ?_;refine draw_nil ?_;refine zy (zz (zf ?_));refine zb rfl (zH rfl ty51.choose_spec.1 qV rfl (zL (cs':=(zi c (.nsl 5 (i.map GF.row)) (.nsl 3 (v55.map GE.row)))) ty51.choose_spec.2 rfl rfl) (za rfl)) (sk st25) ?_;refine zb rfl (zG (cs':=(zi c (.nsl 5 (i.map GF.row)) (.nsl 3 (v55.map GE.row)))) rfl ty51.choose_spec.1 gt6 (gk gt25) (za rfl) rfl rfl rfl rfl rfl) rfl ?_;refine zb rfl (zA rfl rfl (za rfl)) st7 ?_;refine zn (zy (wj ?_));obtain rfl:=uo a;refine q_retL rfl (wg ty51.choose_spec.1 gt6 rfl (zL (cs':=(zi c (.nsl 5 (i.map GF.row)) (.nsl 3 (v55.map GE.row)))) ty51.choose_spec.2 rfl rfl) (za rfl) (xL gt7 xb)) (yf (leV.refl _) rfl ?_);exact ⟨rfl,rfl⟩
theorem ok82 {a:Int}  (b:leafXisTime a=some res):Sp 82 [.int .u64 a] h (yP (.bool res) h):=by
 unfold leafXisTime at b;refine zc Tryz.func82 rfl (by kernel_rfl) (xh 9 rfl) (R.r ?_);cases b;exact fz rfl rfl
theorem ok83 {b:zx}  (c:qK b=some res):Sp 83 [.str b] h (yP (.bool res) h):=by
 unfold qK at c;refine zc Tryz.func83 rfl (by kernel_rfl) (xh 6 rfl) (R.r ?_);refine ln λa=>?_;replace a:=yD a;apply R.r;cases c;exact fz rfl rfl
theorem ok87 {a0:GI}  (a:dotMayActor a0=some res):Sp 87 [.agg (GI.row a0)] h (yP (.bool res) h):=by
 unfold dotMayActor at a;refine zc Tryz.func87 rfl (by kernel_rfl) (xh 16 rfl) (R.r ?_);cases a;exact fz rfl rfl
theorem ok52 {c:GE}  (a:dotMay c=some res):Sp 52 [.agg (GE.row c)] h (yP (.bool res) h):=by
 unfold dotMay at a;refine zc Tryz.func52 rfl (by kernel_rfl) (xh 16 rfl) (R.r ?_);refine zg a (λd b a=>cp (ok87 b) (R.r ?_));cases a;exact fz rfl rfl
theorem ok129 {b:(List Int)} {res:Int}  (a:cmpOrInt b=some res):Sp 129 [.sl 1 (b.map (intRow .i64))] h (yP (.int .i64 res) h):=by
 unfold cmpOrInt at a;refine zc Tryz.func129 rfl (by kernel_rfl) (xh 18 rfl) (R.r ?_);refine ln λc=>?_;replace c:=yD c;apply R.r;refine zM (λ(i:Nat) (j:Unit)=>zt 0 3 (zt 4 2 (zt 9 9 [(8,.int .i64 (i:Int))]))) (λj=>h.ext [] []) a (λ_ _=>by simp only [zt,wE,ue,uf];try rfl) (wk.le LEL.o) ?_;intro i j k a;apply R.r;refine zT gg a (λl m e g a d=>?_) (λa=>?_)
 ·apply R.r;refine ix (zK g) (R.r ?_);refine zj gg a (λf a=>?_) (λf a=>?_)
  ·apply R.r;cases a;replace a:=d;apply R.r;cases a;exact fz rfl rfl
  ·apply R.r;cases a;exact ⟨(),e,d,wk.le (by exact (.drop (.drop (.drop (.eq (.drop (.drop (.eq (.eq (.cons (leV.of_eq (xq (by omega) (by omega))) (.d4 (.d4 (.drop leL.nil)))))))))))))⟩
 ·apply R.r;cases a;exact fz rfl rfl
theorem ok105  (a:vM x0=some res):Sp 105 [.int .u8 x0] h (yP (.bool res) h):=by
 unfold vM at a;refine zc Tryz.func105 rfl (by kernel_rfl) (xh 6 rfl) (R.r ?_);cases a;exact fz rfl rfl
theorem ok67 {res:Int}  (a:x8 x0 y1=some res):Sp 67 [.int .u8 x0,.int .u8 y1] h (yP (.int .i64 res) h):=by
 unfold x8 at a;refine zc Tryz.func67 rfl (by kernel_rfl) (xh 20 rfl) (R.r ?_);refine zg a (λk f a=>cp (ok105 f) (R.r ?_));refine zg a (λj c a=>cp (ok105 c) (R.r ?_));refine zj gg a (λi a=>?_) (λi a=>?_)
 ·apply R.r;refine zj gg a (λd a=>?_) (λd a=>?_)
  ·apply R.r;cases a;exact fz rfl rfl
  ·apply R.r;cases a;exact fz rfl rfl
 ·apply R.r;refine zj gg a (λb a=>?_) (λb a=>?_)
  ·apply R.r;cases a;exact fz rfl rfl
  ·apply R.r;refine zj gg a (λe a=>?_) (λe a=>?_)
   ·apply R.r;cases a;exact fz rfl rfl
   ·apply R.r;refine zj gg a (λg a=>?_) (λg a=>?_)
    ·apply R.r;cases a;exact fz rfl rfl
    ·apply R.r;cases a;exact fz rfl rfl
theorem ok184  (a:vi x0=some res):Sp 184 [.int .u32 x0] h (yP (.bool res) h):=by
 unfold vi at a;refine zc Tryz.func184 rfl (by kernel_rfl) (xh 6 rfl) (R.r ?_);cases a;exact fz rfl rfl
theorem ok163 {res:Int}  (a:wV x0 y1=some res):Sp 163 [.int .u32 x0,.int .u32 y1] h (yP (.int .i64 res) h):=by
 unfold wV at a;refine zc Tryz.func163 rfl (by kernel_rfl) (xh 20 rfl) (R.r ?_);refine zg a (λk f a=>cp (ok184 f) (R.r ?_));refine zg a (λj c a=>cp (ok184 c) (R.r ?_));refine zj gg a (λi a=>?_) (λi a=>?_)
 ·apply R.r;refine zj gg a (λd a=>?_) (λd a=>?_)
  ·apply R.r;cases a;exact fz rfl rfl
  ·apply R.r;cases a;exact fz rfl rfl
 ·apply R.r;refine zj gg a (λb a=>?_) (λb a=>?_)
  ·apply R.r;cases a;exact fz rfl rfl
  ·apply R.r;refine zj gg a (λe a=>?_) (λe a=>?_)
   ·apply R.r;cases a;exact fz rfl rfl
   ·apply R.r;refine zj gg a (λg a=>?_) (λg a=>?_)
    ·apply R.r;cases a;exact fz rfl rfl
    ·apply R.r;cases a;exact fz rfl rfl
theorem ok130 {a0:GI} {f:GI} {res:Int}  (a:dotXcompare a0 f=some res):Sp 130 [.agg (GI.row a0),.agg (GI.row f)] h (yP (.int .i64 res) h):=by
 unfold dotXcompare at a;refine zc Tryz.func130 rfl (by kernel_rfl) (xh 17 rfl) (R.r ?_);refine yU [4,9,11] [] trivial mixed (by kernel_rfl) (R.r ?_);refine zg a (λi e a=>zZ rfl rfl (λ_=>sc rfl) (by rintro _ ⟨B2,T2,rfl,b⟩;exact ok67 e) ss (R.r ?_));refine zg a (λg c a=>zZ rfl rfl (λ_=>sc rfl) (by rintro _ ⟨B2,T2,rfl,b⟩;exact ok163 c) ss ?_);refine zr rfl rfl (zp (es:=([i,g]:List Int).map (intRow .i64)) rfl el182 ze3 rfl rfl (zd gg (zd gg zk)) (.cons (za rfl) (.cons (za rfl) .nil)) rfl rfl rfl) ss ?_;refine zg a (λv3 d a=>zZ rfl rfl (λ_=>sc rfl) (by rintro _ ⟨B2,T2,rfl,b⟩;exact (ok129 d).le (.cons (leV.osl _ _ _) leL.nil)) ss (R.r ?_));cases a;exact fz rfl rfl
theorem ok164  (a:vh x0=some res):Sp 164 [.int .u64 x0] h (yP (.bool res) h):=by
 unfold vh at a;refine zc Tryz.func164 rfl (by kernel_rfl) (xh 6 rfl) (R.r ?_);cases a;exact fz rfl rfl
theorem ok131 {res:Int}  (a:wp x0 y1=some res):Sp 131 [.int .u64 x0,.int .u64 y1] h (yP (.int .i64 res) h):=by
 unfold wp at a;refine zc Tryz.func131 rfl (by kernel_rfl) (xh 20 rfl) (R.r ?_);refine zg a (λk f a=>cp (ok164 f) (R.r ?_));refine zg a (λj c a=>cp (ok164 c) (R.r ?_));refine zj gg a (λi a=>?_) (λi a=>?_)
 ·apply R.r;refine zj gg a (λd a=>?_) (λd a=>?_)
  ·apply R.r;cases a;exact fz rfl rfl
  ·apply R.r;cases a;exact fz rfl rfl
 ·apply R.r;refine zj gg a (λb a=>?_) (λb a=>?_)
  ·apply R.r;cases a;exact fz rfl rfl
  ·apply R.r;refine zj gg a (λe a=>?_) (λe a=>?_)
   ·apply R.r;cases a;exact fz rfl rfl
   ·apply R.r;refine zj gg a (λg a=>?_) (λg a=>?_)
    ·apply R.r;cases a;exact fz rfl rfl
    ·apply R.r;cases a;exact fz rfl rfl
theorem ok96 {a0:GE} {f:GE} {res:Int}  (a:wJ a0 f=some res):Sp 96 [.agg (GE.row a0),.agg (GE.row f)] h (yP (.int .i64 res) h):=by
 unfold wJ at a;refine zc Tryz.func96 rfl (by kernel_rfl) (xh 17 rfl) (R.r ?_);refine yU [4,9,11] [] trivial mixed (by kernel_rfl) (R.r ?_);refine zg a (λi e a=>zZ rfl rfl (λ_=>sc rfl) (by rintro _ ⟨B2,T2,rfl,b⟩;exact ok130 e) ss (R.r ?_));refine zg a (λg c a=>zZ rfl rfl (λ_=>sc rfl) (by rintro _ ⟨B2,T2,rfl,b⟩;exact ok131 c) ss ?_);refine zr rfl rfl (zp (es:=([i,g]:List Int).map (intRow .i64)) rfl el182 ze3 rfl rfl (zd gg (zd gg zk)) (.cons (za rfl) (.cons (za rfl) .nil)) rfl rfl rfl) ss ?_;refine zg a (λv3 d a=>zZ rfl rfl (λ_=>sc rfl) (by rintro _ ⟨B2,T2,rfl,b⟩;exact (ok129 d).le (.cons (leV.osl _ _ _) leL.nil)) ss (R.r ?_));cases a;exact fz rfl rfl
theorem ok132 {w:(List GF)} {u:(GF->Option Bool)} {res:Int} (s:∀x0 v (L:List Blk) (M:List Nat),u x0=some v->Sp ff1 (af1++[.agg [.int .u64 x0.time,.int .u8 x0.dot.actor.rep,.int .u32 x0.dot.actor.inc,.int .u64 x0.dot.seq,.str x0.text]]++kf1) (h.ext L M) (yP (.bool v) (h.ext L M))) (a:yK w u=some res):Sp 132 [.sl 5 (w.map GF.row),.fn (.func ff1) af1 kf1] h (yP (.int .i64 res) h):=by
 unfold yK at a;refine yg Tryz.func132 rfl (by kernel_rfl) (xh 19 rfl) (λb A=>?_);simp only [zR,AV.low,ud,uS,tM] at b;have j:∀n m,h.blks.length<=n->h.toks.length<=m->zR n m af1=true:=λn m g e=>yF g e _ (by simp [b]);have f:∀n m,h.blks.length<=n->h.toks.length<=m->zR n m kf1=true:=λn m g e=>yF g e _ (by simp [b]);apply R.r;refine ln λc=>?_;replace c:=yD c;apply R.r;refine zM (λ(y:Nat) (x:Unit)=>zt 2 5 (zt 9 10 [(8,.int .i64 (y:Int))])) (λx=>h.ext [] []) a (λ_ _=>by simp only [zt,wE,ue,uf];try rfl) (wk.le LEL.o) ?_;intro y x z a;apply R.r;refine zT gg a (λD C p i a d=>?_) (λa=>?_)
 ·apply R.r;refine ix (zK i) (R.r ?_);refine zg a (λB l a=>zP rfl (scC rfl) (s _ _ _ _ l) ss (R.r ?_));refine zj gg a (λk a=>?_) (λk a=>?_)
  ·apply R.r;cases a;replace a:=d;apply R.r;cases a;exact fz rfl rfl
  ·apply R.r;cases a;exact ⟨(),p,d,wk.le (by exact (.eq (.eq (.d4 (.drop (.eq (.cons (leV.of_eq (xq (by omega) (by omega))) (.d4 (.d4 (.drop (.drop leL.nil)))))))))))⟩
 ·apply R.r;cases a;exact fz rfl rfl
theorem okR132 {A g:Nat} {b:(List GF)} {B:(GF->Option Bool)} {res:Int} (j:h.blks.length=A) (l:h.toks.length=g) (x:∀x0 v (L:List Blk) (M:List Nat),B x0=some v->Sp ff1 (af1++[.agg [.int .u64 x0.time,.int .u8 x0.dot.actor.rep,.int .u32 x0.dot.actor.inc,.int .u64 x0.dot.seq,.str x0.text]]++kf1) (h.ext L M) (yP (.bool v) (h.ext L M))) (s:∀n m,h.blks.length<=n->h.toks.length<=m->zR n m af1=true) (k:∀n m,h.blks.length<=n->h.toks.length<=m->zR n m kf1=true) (a:yK b B=some res):Sp 132 [.rsl A g 5 b.length,.fn (.func ff1) af1 kf1] (h.ext [.row g 5 (b.map GF.row)] [b.length]) (yP (.int .i64 res) (h.ext [.row g 5 (b.map GF.row)] [b.length])):=by
 unfold yK at a;subst j l;refine yN Tryz.func132 rfl (by kernel_rfl) (xh 19 rfl) (R.r ?_);refine ln λc=>?_;replace c:=yD c;apply R.r;refine zM (λ(y:Nat) (C:Unit)=>zt 2 5 (zt 9 10 [(8,.int .i64 (y:Int))])) (λC=>h.ext [yR h 0 5 (b.map GF.row)] [b.length]) a (λ_ _=>by simp only [zt,wE,ue,uf];try rfl) (wk.le LEL.o) ?_;intro y C D a;apply R.r;refine zT gg a (λe E w d a f=>?_) (λa=>?_)
 ·apply R.r;refine zb rfl (wt rfl el49 gg gg (vK (zK d) rfl)) ss ?_;refine zb rfl (e_ldR (off:=0) (i:=0) (q:=h.toks.length+0) (z:=(y:Int).toNat) (row:=GF.row) (λ_=>rfl) rfl ty70.choose_spec.1 (by decide) gg rfl rfl (idxR (zK d)).2.2 (zL (cs':=[.int .u64 e.time,.int .u8 e.dot.actor.rep,.int .u32 e.dot.actor.inc,.int .u64 e.dot.seq,.str e.text]) ty70.choose_spec.2 rfl rfl) (za rfl)) ss ?_;refine zg a (λF p a=>zP rfl (scC rfl) (x _ _ _ _ p) ss (R.r ?_));refine zj gg a (λu a=>?_) (λu a=>?_)
  ·apply R.r;cases a;replace a:=f;apply R.r;cases a;refine fr rfl (fin_extR (L:=[]) (M:=[]) rfl rfl (leV.refl _) rfl ?_);exact ⟨rfl,rfl⟩
  ·apply R.r;cases a;exact ⟨(),w,f,wk.le (by exact (.eq (.eq (.d4 (.drop (.eq (.cons (leV.of_eq (xq (by omega) (by omega))) (.d4 (.d4 (.drop (.drop leL.nil)))))))))))⟩
 ·apply R.r;cases a;refine fr rfl (fin_extR (L:=[]) (M:=[]) rfl rfl (leV.refl _) rfl ?_);exact ⟨rfl,rfl⟩
theorem ok150 {k:(List GF)} {j:(GF->Option Bool)} (d:∀x0 v (L:List Blk) (M:List Nat),j x0=some v->Sp ff1 (af1++[.agg [.int .u64 x0.time,.int .u8 x0.dot.actor.rep,.int .u32 x0.dot.actor.inc,.int .u64 x0.dot.seq,.str x0.text]]++kf1) (h.ext L M) (yP (.bool v) (h.ext L M))) (b:xu k j=some res):Sp 150 [.sl 5 (k.map GF.row),.fn (.func ff1) af1 kf1] h (yP (.bool res) h):=by
 unfold xu at b;refine yg Tryz.func150 rfl (by kernel_rfl) (xh 9 rfl) (λa o=>?_);simp only [zR,AV.low,ud,uS,tM] at a;have c:∀n m,h.blks.length<=n->h.toks.length<=m->zR n m af1=true:=λn m i e=>yF i e _ (by simp [a]);have f:∀n m,h.blks.length<=n->h.toks.length<=m->zR n m kf1=true:=λn m i e=>yF i e _ (by simp [a]);apply R.r;refine zg b (λp g b=>cp (ok132 (λx0 v L M l=>by rw [w6];exact d x0 v _ _ l) g) (R.r ?_));cases b;exact fz rfl rfl
theorem ok151 {x0:GF} {a:GE} (b:h.blk i0=some (.cells (GE.row a))) (c:leafXhasC1 x0 a=some res):Sp 151 [.agg [.int .u64 x0.time,.int .u8 x0.dot.actor.rep,.int .u32 x0.dot.actor.inc,.int .u64 x0.dot.seq,.str x0.text],.ptr i0 0] h (yP (.bool res) h):=by
 unfold leafXhasC1 at c;refine zc Tryz.func151 rfl (by kernel_rfl) (xh 8 rfl) (R.r ?_);refine zb rfl (b_load rfl ty41.choose_spec.1 gg b (zL (cs':=(GE.row a)) ty41.choose_spec.2 rfl rfl) (za rfl)) ss ?_;refine zb rfl (yH rfl gg gg (bin_eq pk41 rfl)) ss (R.r ?_);cases c;exact fz rfl rfl
theorem ok118 {c:(List GF)} {d:GE}  (a:leafXhas c d=some res):Sp 118 [.sl 5 (c.map GF.row),.agg (GE.row d)] h (yP (.bool res) h):=by
 unfold leafXhas at a;refine zc Tryz.func118 rfl (by kernel_rfl) (xh 8 rfl) (R.r ?_);refine zb rfl (qv rfl rfl rfl) ss ?_;refine zg a (λf b a=>cp (ok150 (λ_ v L M e=>ok151 (blk_ext2 (j:=0) rfl) e) b) (R.r ?_));cases a;exact fz rfl rfl
theorem ok85 {l:GC}  (a:leafXtombs l=some res):Sp 85 [.agg (GC.row l)] h (yP (.bool res) h):=by
 unfold leafXtombs at a;refine zc Tryz.func85 rfl (by kernel_rfl) (xh 38 rfl) (R.r ?_);refine ln λc=>?_;replace c:=yD c;apply R.r;refine zM (λ(p:Nat) (n:Unit)=>zt 2 4 (zt 9 29 [(0,.any),(8,.int .i64 (p:Int))])) (λn=>h.ext [.cells (GC.row l)] []) a (λ_ _=>by simp only [zt,wE,ue,uf];try rfl) (wk.le LEL.o) ?_;intro p n s a;apply R.r;refine zT gg a (λz y m k a i=>?_) (λa=>?_)
 ·apply R.r;refine ix (zK k) (R.r ?_);refine yU [1] [] trivial mixed (by kernel_rfl) (R.r ?_);refine zg a (λx f a=>zZ rfl rfl (λ_=>sc rfl) (by rintro _ ⟨B2,T2,rfl,u⟩;exact ok52 f) ss (R.r ?_));refine yq a (λg a=>dgix g (R.r ?_));refine yb a (λw e a=>xz rfl (vP rfl rfl rfl) sc (λj=>ok96 (e j)) ss (R.r ?_));refine yb a (λv22 b a=>xz rfl rfl sc (λj=>ok118 (b j)) ss (R.r ?_));refine zj gg a (λd a=>?_) (λd a=>?_)
  ·apply R.r;cases a;replace a:=i;apply R.r;cases a;exact fz rfl rfl
  ·apply R.r;cases a;exact ⟨(),m,i,wk.trans (wk.le (by exact (.drop (.eq (.d4 (.eq (.eq (.cons (leV.of_eq (xq (by omega) (by omega))) (.d16 (.d4 (.d4 (.d4 (.drop leL.nil))))))))))))) (yp (by simp [zR,AV.low]) rfl rfl (by simp [Blk.low,zR,AV.low]))⟩
 ·apply R.r;cases a;exact fz rfl rfl
theorem ok117 {p:(List GF)}  (b:leafXtwice p=some res):Sp 117 [.sl 5 (p.map GF.row)] h (yP (.bool res) h):=by
 unfold leafXtwice at b;refine zc Tryz.func117 rfl (by kernel_rfl) (xh 26 rfl) (R.r ?_);refine zb rfl (e_makeMap (n:=0) rfl rfl) ss (R.r ?_);refine ln λe=>?_;replace e:=yD e;apply R.r;refine zM (λ(s:Nat) (a:List (GE×Int))=>zt 1 2 (zt 4 3 (zt 10 16 [(9,.int .i64 (s:Int))]))) (λa=>h.ext [.mapo (a.map (wG (λx=>AV.agg (GE.row x)) (AV.int .i64))) 0] []) b (λ_ _=>by simp only [zt,wE,ue,uf];try rfl) (wk.le LEL.o) ?_;intro s a u b;apply R.r;refine zT gg b (λc w g l b i=>?_) (λb=>?_)
 ·apply R.r;refine ix (zK l) (R.r ?_);refine r_drawnF [3] (λ_=>MapE h 0 (a.map (wG (λx=>AV.agg (GE.row x)) (AV.int .i64))) ((ment GE.eqb (0:Int) a c.dot).map (wG (λx=>AV.agg (GE.row x)) (AV.int .i64)))) (λ_=>⟨_,_,rfl,.inl rfl⟩) mixed (by kernel_rfl) (R.r ?_);refine yX rfl rfl (e_lookupF (m:=a) (k:=c.dot) (d:=(0:Int)) (j:=0) (kv:=(λx=>AV.agg (GE.row x))) (vv:=(AV.int .i64)) rfl Tryz.underlying173 kq41 az3 gg gg) ss (R.r ?_);refine zN rfl (FOk.all ⟨_,_,rfl,.inr rfl⟩) (by kernel_rfl) rfl (e_entry (m:=a) (k:=c.dot) (d:=(0:Int)) (j:=0) (kv:=(λx=>AV.agg (GE.row x))) (vv:=(AV.int .i64)) rfl Tryz.underlying173 kq41 az3 gg rfl gg rfl) ss (R.r ?_);refine zN rfl (FOk.skip (by kernel_rfl)) (by kernel_rfl) rfl (e_entryStore (m:=a) (k:=c.dot) (d:=(0:Int)) (v:=(IntKind.wrap .i64 ((yQ GE.eqb (0:Int) a c.dot)+(1:Int)))) (j:=0) (eq:=GE.eqb) (kv:=(λx=>AV.agg (GE.row x))) (vv:=(AV.int .i64)) rfl gg rfl gg rfl gg rfl rfl) rfl (R.r ?_);cases b;exact ⟨(qg GE.eqb a c.dot (IntKind.wrap .i64 ((yQ GE.eqb (0:Int) a c.dot)+(1:Int)))),g,i,wk.trans (wk.le (by exact (.eq (.drop (.drop (.eq (.drop (.drop (.drop (.eq (.eq (.cons (leV.of_eq (xq (by omega) (by omega))) (.d16 leL.nil))))))))))))) (yp (by simp [zR,AV.low]) rfl rfl (by simp [Blk.low,zR,AV.low,GE.row,wG]))⟩
 ·apply R.r;refine ops_mlen (m:=a) (j:=0) (kv:=(λx=>AV.agg (GE.row x))) (vv:=(AV.int .i64)) rfl rfl rfl rfl rfl Tryz.underlying173 gg rfl ss (R.r ?_);refine ln λf=>?_;replace f:=yD f;apply R.r;cases b;exact fz rfl rfl
theorem ok123 {a0:Int} {g:GE} {i:Int} {f:GE} {res:Int}  (a:vX a0 g i f=some res):Sp 123 [.int .u64 a0,.agg (GE.row g),.int .u64 i,.agg (GE.row f)] h (yP (.int .i64 res) h):=by
 unfold vX at a;refine zc Tryz.func123 rfl (by kernel_rfl) (xh 17 rfl) (R.r ?_);refine yU [2,5,7] [] trivial mixed (by kernel_rfl) (R.r ?_);refine zg a (λk e a=>zZ rfl rfl (λ_=>sc rfl) (by rintro _ ⟨B2,T2,rfl,b⟩;exact ok131 e) ss (R.r ?_));refine zg a (λj c a=>zZ rfl rfl (λ_=>sc rfl) (by rintro _ ⟨B2,T2,rfl,b⟩;exact ok96 c) ss ?_);refine zr rfl rfl (zp (es:=([k,j]:List Int).map (intRow .i64)) rfl el182 ze3 rfl rfl (zd gg (zd gg zk)) (.cons (za rfl) (.cons (za rfl) .nil)) rfl rfl rfl) ss ?_;refine zg a (λv3 d a=>zZ rfl rfl (λ_=>sc rfl) (by rintro _ ⟨B2,T2,rfl,b⟩;exact (ok129 d).le (.cons (leV.osl _ _ _) leL.nil)) ss (R.r ?_));cases a;exact fz rfl rfl
theorem ok92 {b:Int} {f:GE} {a:Int} {e:GE}  (c:vY b f a e=some res):Sp 92 [.int .u64 b,.agg (GE.row f),.int .u64 a,.agg (GE.row e)] h (yP (.bool res) h):=by
 unfold vY at c;refine zc Tryz.func92 rfl (by kernel_rfl) (xh 15 rfl) (R.r ?_);refine zg c (λg d c=>cp (ok123 d) (R.r ?_));cases c;exact fz rfl rfl
theorem ok84 {w:(List GF)} {b:Bool}  (a:leafXitems w b=some res):Sp 84 [.sl 5 (w.map GF.row),.bool b] h (yP (.bool res) h):=by
 unfold leafXitems at a;refine zc Tryz.func84 rfl (by kernel_rfl) (xh 66 rfl) (R.r ?_);refine ln λe=>?_;replace e:=yD e;apply R.r;refine zM (λ(y:Nat) (x:Unit)=>zt 2 5 (zt 10 56 [(9,.int .i64 (y:Int))])) (λx=>h.ext [] []) a (λ_ _=>by simp only [zt,wE,ue,uf];try rfl) (wk.le LEL.o) ?_;intro y x z a;apply R.r;refine zT gg a (λG F u s a d=>?_) (λa=>?_)
 ·apply R.r;refine ix (zK s) (R.r ?_);refine zg a (λA p a=>cp (ok52 p) (R.r ?_));refine yb a (λE f a=>zQ rfl sc (λc=>ok83 (f c)) ss (R.r ?_));refine yb a (λC g a=>zQ rfl sc (λc=>ok82 (g c)) ss ?_);refine zY rfl (λc=>yH rfl (zO gg c) (zO gg c) (bin_boolN ty4)) ss (R.r ?_);refine zj gg a (λl a=>?_) (λl a=>?_)
  ·apply R.r;cases a;replace a:=d;apply R.r;cases a;exact fz rfl rfl
  ·apply R.r;refine yn (by kernel_rfl) (R.r ?_);refine yq a (λn a=>dgix n (R.r ?_));refine yq a (λm a=>dgix m (R.r ?_));refine yb a (λD k a=>xz rfl rfl sc (λc=>ok92 (k c)) ss (R.r ?_));refine zj gg a (λj a=>?_) (λj a=>?_)
   ·apply R.r;cases a;replace a:=d;apply R.r;cases a;exact fz rfl rfl
   ·apply R.r;cases a;exact ⟨(),u,d,wk.trans (wk.le (by exact (.eq (.eq (.d4 (.drop (.eq (.eq (.cons (leV.of_eq (xq (by omega) (by omega))) (.d16 (.d16 (.d16 (.d4 (.d4 leL.nil)))))))))))))) (yp (by simp [zR,AV.low]) rfl rfl (by simp [Blk.low,zR,AV.low]))⟩
 ·apply R.r;refine zg a (λB i a=>cp (ok117 i) (R.r ?_));cases a;exact fz rfl rfl
theorem ok120 {f:(List GE)} {i:(List GE)}  (a:vC f i=some res):Sp 120 [.sl 3 (f.map GE.row),.sl 3 (i.map GE.row)] h (yP (.bool res) h):=by
 unfold vC at a;refine zc Tryz.func120 rfl (by kernel_rfl) (xh 26 rfl) (R.r ?_);refine ln λd=>?_;replace d:=yD d;apply R.r;refine ln λg=>?_;replace g:=yD g;apply R.r;refine zj gg a (λm a=>?_) (λm a=>?_)
 ·apply R.r;cases a;exact fz rfl rfl
 ·apply R.r;refine ln λb=>?_;replace b:=yD b;apply R.r;refine zM (λ(p:Nat) (n:Unit)=>zt 2 10 (zt 14 12 [(13,.int .i64 (p:Int))])) (λn=>h.ext [] []) a (λ_ _=>by simp only [zt,wE,ue,uf];try rfl) (wk.le LEL.o) ?_;intro p n s a;apply R.r;refine zT gg a (λx w l k a j=>?_) (λa=>?_)
  ·apply R.r;refine yn (by kernel_rfl) (R.r ?_);refine dix (zK k) (R.r ?_);refine zg a (λu c a=>dix c (R.r ?_));refine zr rfl rfl (yH rfl gg gg (bin_ne pk41 rfl)) ss (R.r ?_);refine zj gg a (λe a=>?_) (λe a=>?_)
   ·apply R.r;cases a;replace a:=j;apply R.r;cases a;exact fz rfl rfl
   ·apply R.r;cases a;exact ⟨(),l,j,wk.le (by exact (.eq (.eq (.d4 (.d4 (.drop (.drop (.eq (.cons (leV.of_eq (xq (by omega) (by omega))) (.d4 (.d4 (.d4 leL.nil))))))))))))⟩
  ·apply R.r;cases a;exact fz rfl rfl
theorem ok119 {f:(List GF)} {i:(List GF)}  (a:va f i=some res):Sp 119 [.sl 5 (f.map GF.row),.sl 5 (i.map GF.row)] h (yP (.bool res) h):=by
 unfold va at a;refine zc Tryz.func119 rfl (by kernel_rfl) (xh 26 rfl) (R.r ?_);refine ln λd=>?_;replace d:=yD d;apply R.r;refine ln λg=>?_;replace g:=yD g;apply R.r;refine zj gg a (λm a=>?_) (λm a=>?_)
 ·apply R.r;cases a;exact fz rfl rfl
 ·apply R.r;refine ln λb=>?_;replace b:=yD b;apply R.r;refine zM (λ(p:Nat) (n:Unit)=>zt 2 10 (zt 14 12 [(13,.int .i64 (p:Int))])) (λn=>h.ext [] []) a (λ_ _=>by simp only [zt,wE,ue,uf];try rfl) (wk.le LEL.o) ?_;intro p n s a;apply R.r;refine zT gg a (λx w l k a j=>?_) (λa=>?_)
  ·apply R.r;refine yn (by kernel_rfl) (R.r ?_);refine dix (zK k) (R.r ?_);refine zg a (λu c a=>dix c (R.r ?_));refine zr rfl rfl (yH rfl gg gg (bin_ne pk70 rfl)) ss (R.r ?_);refine zj gg a (λe a=>?_) (λe a=>?_)
   ·apply R.r;cases a;replace a:=j;apply R.r;cases a;exact fz rfl rfl
   ·apply R.r;cases a;exact ⟨(),l,j,wk.le (by exact (.eq (.eq (.d4 (.d4 (.drop (.drop (.eq (.cons (leV.of_eq (xq (by omega) (by omega))) (.d4 (.d4 (.d4 leL.nil))))))))))))⟩
  ·apply R.r;cases a;exact fz rfl rfl
end Go.Vv
