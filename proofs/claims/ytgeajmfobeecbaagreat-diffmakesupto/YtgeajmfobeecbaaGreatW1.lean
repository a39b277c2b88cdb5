/- Each function that the law reaches computes what its reading says; printed by a program. -/
import Derived.Test.YtgeajmfobeecbaaGreatVvSh
import Derived.Test.YtgeajmfobeecbaaGreatVvMr
import Derived.Test.YtgeajmfobeecbaaGreatVvRb
import Derived.Test.YtgeajmfobeecbaaGreatVvSo
import Derived.Test.YtgeajmfobeecbaaGreatVvIn
import Derived.Test.YtgeajmfobeecbaaGreatVvOd
import Derived.Test.YtgeajmfobeecbaaGreatVvU
import Derived.Test.YtgeajmfobeecbaaGreatD
import Derived.Test.YtgeajmfobeecbaaGreatProg
set_option linter.all false
namespace Go.Vv
open Go Go.Proofs
set_option maxRecDepth 100000
set_option synthInstance.maxSize 100000
set_option synthInstance.maxHeartbeats 1000000
set_option maxHeartbeats 1000000
variable {h:AH} {res:Bool} {x0 y1:Int} {mbyy0:Nat} {f1:(Int->Option Bool)} {ff1:FuncId} {af1 kf1:List AV}
section
variable {v a0 a1 a2 a3 a4 a5 a6 a7 a8 a9 a10 a11 a12 a13 a14 a15 a16 a17 a18 a19 a20 a21 a22 a23 a24 a25 a26 a27 a28 a29 a30 a31 a32 a33 a34 a35 a36 a37 a38 a39:AV} {r q:List AV} {t:Nat}
abbrev Sp:=Spec Tryz.prog
theorem gt0:yf (a0::r) (.tmp 0)=some a0:=rfl
theorem st0:xV (some 0) (a0::r) v=some (v::r):=rfl
theorem gt1:yf (a0::a1::r) (.tmp 1)=some a1:=rfl
theorem st1:xV (some 1) (a0::a1::r) v=some (a0::v::r):=rfl
theorem gt2:yf (a0::a1::a2::r) (.tmp 2)=some a2:=rfl
theorem st2:xV (some 2) (a0::a1::a2::r) v=some (a0::a1::v::r):=rfl
theorem gt3:yf (a0::a1::a2::a3::r) (.tmp 3)=some a3:=rfl
theorem st3:xV (some 3) (a0::a1::a2::a3::r) v=some (a0::a1::a2::v::r):=rfl
theorem gt4:yf (a0::a1::a2::a3::a4::r) (.tmp 4)=some a4:=rfl
theorem st4:xV (some 4) (a0::a1::a2::a3::a4::r) v=some (a0::a1::a2::a3::v::r):=rfl
theorem gt5:yf (a0::a1::a2::a3::a4::a5::r) (.tmp 5)=some a5:=rfl
theorem st5:xV (some 5) (a0::a1::a2::a3::a4::a5::r) v=some (a0::a1::a2::a3::a4::v::r):=rfl
theorem gt6:yf (a0::a1::a2::a3::a4::a5::a6::r) (.tmp 6)=some a6:=rfl
theorem st6:xV (some 6) (a0::a1::a2::a3::a4::a5::a6::r) v=some (a0::a1::a2::a3::a4::a5::v::r):=rfl
theorem gt7:yf (a0::a1::a2::a3::a4::a5::a6::a7::r) (.tmp 7)=some a7:=rfl
theorem st7:xV (some 7) (a0::a1::a2::a3::a4::a5::a6::a7::r) v=some (a0::a1::a2::a3::a4::a5::a6::v::r):=rfl
theorem gt8:yf (a0::a1::a2::a3::a4::a5::a6::a7::a8::r) (.tmp 8)=some a8:=rfl
theorem st8:xV (some 8) (a0::a1::a2::a3::a4::a5::a6::a7::a8::r) v=some (a0::a1::a2::a3::a4::a5::a6::a7::v::r):=rfl
theorem gt9:yf (a0::a1::a2::a3::a4::a5::a6::a7::a8::a9::r) (.tmp 9)=some a9:=rfl
theorem st9:xV (some 9) (a0::a1::a2::a3::a4::a5::a6::a7::a8::a9::r) v=some (a0::a1::a2::a3::a4::a5::a6::a7::a8::v::r):=rfl
theorem gt10:yf (a0::a1::a2::a3::a4::a5::a6::a7::a8::a9::a10::r) (.tmp 10)=some a10:=rfl
theorem st10:xV (some 10) (a0::a1::a2::a3::a4::a5::a6::a7::a8::a9::a10::r) v=some (a0::a1::a2::a3::a4::a5::a6::a7::a8::a9::v::r):=rfl
theorem gt11:yf (a0::a1::a2::a3::a4::a5::a6::a7::a8::a9::a10::a11::r) (.tmp 11)=some a11:=rfl
theorem st11:xV (some 11) (a0::a1::a2::a3::a4::a5::a6::a7::a8::a9::a10::a11::r) v=some (a0::a1::a2::a3::a4::a5::a6::a7::a8::a9::a10::v::r):=rfl
theorem gt12:yf (a0::a1::a2::a3::a4::a5::a6::a7::a8::a9::a10::a11::a12::r) (.tmp 12)=some a12:=rfl
theorem st12:xV (some 12) (a0::a1::a2::a3::a4::a5::a6::a7::a8::a9::a10::a11::a12::r) v=some (a0::a1::a2::a3::a4::a5::a6::a7::a8::a9::a10::a11::v::r):=rfl
theorem gt13:yf (a0::a1::a2::a3::a4::a5::a6::a7::a8::a9::a10::a11::a12::a13::r) (.tmp 13)=some a13:=rfl
theorem st13:xV (some 13) (a0::a1::a2::a3::a4::a5::a6::a7::a8::a9::a10::a11::a12::a13::r) v=some (a0::a1::a2::a3::a4::a5::a6::a7::a8::a9::a10::a11::a12::v::r):=rfl
theorem gt14:yf (a0::a1::a2::a3::a4::a5::a6::a7::a8::a9::a10::a11::a12::a13::a14::r) (.tmp 14)=some a14:=rfl
theorem st14:xV (some 14) (a0::a1::a2::a3::a4::a5::a6::a7::a8::a9::a10::a11::a12::a13::a14::r) v=some (a0::a1::a2::a3::a4::a5::a6::a7::a8::a9::a10::a11::a12::a13::v::r):=rfl
theorem gt15:yf (a0::a1::a2::a3::a4::a5::a6::a7::a8::a9::a10::a11::a12::a13::a14::a15::r) (.tmp 15)=some a15:=rfl
theorem st15:xV (some 15) (a0::a1::a2::a3::a4::a5::a6::a7::a8::a9::a10::a11::a12::a13::a14::a15::r) v=some (a0::a1::a2::a3::a4::a5::a6::a7::a8::a9::a10::a11::a12::a13::a14::v::r):=rfl
theorem gt16:yf (a0::a1::a2::a3::a4::a5::a6::a7::a8::a9::a10::a11::a12::a13::a14::a15::a16::r) (.tmp 16)=some a16:=rfl
theorem st16:xV (some 16) (a0::a1::a2::a3::a4::a5::a6::a7::a8::a9::a10::a11::a12::a13::a14::a15::a16::r) v=some (a0::a1::a2::a3::a4::a5::a6::a7::a8::a9::a10::a11::a12::a13::a14::a15::v::r):=rfl
theorem gt17:yf (a0::a1::a2::a3::a4::a5::a6::a7::a8::a9::a10::a11::a12::a13::a14::a15::a16::a17::r) (.tmp 17)=some a17:=rfl
theorem st17:xV (some 17) (a0::a1::a2::a3::a4::a5::a6::a7::a8::a9::a10::a11::a12::a13::a14::a15::a16::a17::r) v=some (a0::a1::a2::a3::a4::a5::a6::a7::a8::a9::a10::a11::a12::a13::a14::a15::a16::v::r):=rfl
theorem gt18:yf (a0::a1::a2::a3::a4::a5::a6::a7::a8::a9::a10::a11::a12::a13::a14::a15::a16::a17::a18::r) (.tmp 18)=some a18:=rfl
theorem st18:xV (some 18) (a0::a1::a2::a3::a4::a5::a6::a7::a8::a9::a10::a11::a12::a13::a14::a15::a16::a17::a18::r) v=some (a0::a1::a2::a3::a4::a5::a6::a7::a8::a9::a10::a11::a12::a13::a14::a15::a16::a17::v::r):=rfl
theorem gt19:yf (a0::a1::a2::a3::a4::a5::a6::a7::a8::a9::a10::a11::a12::a13::a14::a15::a16::a17::a18::a19::r) (.tmp 19)=some a19:=rfl
theorem st19:xV (some 19) (a0::a1::a2::a3::a4::a5::a6::a7::a8::a9::a10::a11::a12::a13::a14::a15::a16::a17::a18::a19::r) v=some (a0::a1::a2::a3::a4::a5::a6::a7::a8::a9::a10::a11::a12::a13::a14::a15::a16::a17::a18::v::r):=rfl
theorem gt20:yf (a0::a1::a2::a3::a4::a5::a6::a7::a8::a9::a10::a11::a12::a13::a14::a15::a16::a17::a18::a19::a20::r) (.tmp 20)=some a20:=rfl
theorem st20:xV (some 20) (a0::a1::a2::a3::a4::a5::a6::a7::a8::a9::a10::a11::a12::a13::a14::a15::a16::a17::a18::a19::a20::r) v=some (a0::a1::a2::a3::a4::a5::a6::a7::a8::a9::a10::a11::a12::a13::a14::a15::a16::a17::a18::a19::v::r):=rfl
theorem gt21:yf (a0::a1::a2::a3::a4::a5::a6::a7::a8::a9::a10::a11::a12::a13::a14::a15::a16::a17::a18::a19::a20::a21::r) (.tmp 21)=some a21:=rfl
theorem st21:xV (some 21) (a0::a1::a2::a3::a4::a5::a6::a7::a8::a9::a10::a11::a12::a13::a14::a15::a16::a17::a18::a19::a20::a21::r) v=some (a0::a1::a2::a3::a4::a5::a6::a7::a8::a9::a10::a11::a12::a13::a14::a15::a16::a17::a18::a19::a20::v::r):=rfl
theorem gt22:yf (a0::a1::a2::a3::a4::a5::a6::a7::a8::a9::a10::a11::a12::a13::a14::a15::a16::a17::a18::a19::a20::a21::a22::r) (.tmp 22)=some a22:=rfl
theorem st22:xV (some 22) (a0::a1::a2::a3::a4::a5::a6::a7::a8::a9::a10::a11::a12::a13::a14::a15::a16::a17::a18::a19::a20::a21::a22::r) v=some (a0::a1::a2::a3::a4::a5::a6::a7::a8::a9::a10::a11::a12::a13::a14::a15::a16::a17::a18::a19::a20::a21::v::r):=rfl
theorem gt23:yf (a0::a1::a2::a3::a4::a5::a6::a7::a8::a9::a10::a11::a12::a13::a14::a15::a16::a17::a18::a19::a20::a21::a22::a23::r) (.tmp 23)=some a23:=rfl
theorem st23:xV (some 23) (a0::a1::a2::a3::a4::a5::a6::a7::a8::a9::a10::a11::a12::a13::a14::a15::a16::a17::a18::a19::a20::a21::a22::a23::r) v=some (a0::a1::a2::a3::a4::a5::a6::a7::a8::a9::a10::a11::a12::a13::a14::a15::a16::a17::a18::a19::a20::a21::a22::v::r):=rfl
theorem gt24:yf (a0::a1::a2::a3::a4::a5::a6::a7::a8::a9::a10::a11::a12::a13::a14::a15::a16::a17::a18::a19::a20::a21::a22::a23::a24::r) (.tmp 24)=some a24:=rfl
theorem st24:xV (some 24) (a0::a1::a2::a3::a4::a5::a6::a7::a8::a9::a10::a11::a12::a13::a14::a15::a16::a17::a18::a19::a20::a21::a22::a23::a24::r) v=some (a0::a1::a2::a3::a4::a5::a6::a7::a8::a9::a10::a11::a12::a13::a14::a15::a16::a17::a18::a19::a20::a21::a22::a23::v::r):=rfl
theorem gt25:yf (a0::a1::a2::a3::a4::a5::a6::a7::a8::a9::a10::a11::a12::a13::a14::a15::a16::a17::a18::a19::a20::a21::a22::a23::a24::a25::r) (.tmp 25)=some a25:=rfl
theorem st25:xV (some 25) (a0::a1::a2::a3::a4::a5::a6::a7::a8::a9::a10::a11::a12::a13::a14::a15::a16::a17::a18::a19::a20::a21::a22::a23::a24::a25::r) v=some (a0::a1::a2::a3::a4::a5::a6::a7::a8::a9::a10::a11::a12::a13::a14::a15::a16::a17::a18::a19::a20::a21::a22::a23::a24::v::r):=rfl
theorem gt26:yf (a0::a1::a2::a3::a4::a5::a6::a7::a8::a9::a10::a11::a12::a13::a14::a15::a16::a17::a18::a19::a20::a21::a22::a23::a24::a25::a26::r) (.tmp 26)=some a26:=rfl
theorem st26:xV (some 26) (a0::a1::a2::a3::a4::a5::a6::a7::a8::a9::a10::a11::a12::a13::a14::a15::a16::a17::a18::a19::a20::a21::a22::a23::a24::a25::a26::r) v=some (a0::a1::a2::a3::a4::a5::a6::a7::a8::a9::a10::a11::a12::a13::a14::a15::a16::a17::a18::a19::a20::a21::a22::a23::a24::a25::v::r):=rfl
theorem gt27:yf (a0::a1::a2::a3::a4::a5::a6::a7::a8::a9::a10::a11::a12::a13::a14::a15::a16::a17::a18::a19::a20::a21::a22::a23::a24::a25::a26::a27::r) (.tmp 27)=some a27:=rfl
theorem st27:xV (some 27) (a0::a1::a2::a3::a4::a5::a6::a7::a8::a9::a10::a11::a12::a13::a14::a15::a16::a17::a18::a19::a20::a21::a22::a23::a24::a25::a26::a27::r) v=some (a0::a1::a2::a3::a4::a5::a6::a7::a8::a9::a10::a11::a12::a13::a14::a15::a16::a17::a18::a19::a20::a21::a22::a23::a24::a25::a26::v::r):=rfl
theorem gt28:yf (a0::a1::a2::a3::a4::a5::a6::a7::a8::a9::a10::a11::a12::a13::a14::a15::a16::a17::a18::a19::a20::a21::a22::a23::a24::a25::a26::a27::a28::r) (.tmp 28)=some a28:=rfl
theorem st28:xV (some 28) (a0::a1::a2::a3::a4::a5::a6::a7::a8::a9::a10::a11::a12::a13::a14::a15::a16::a17::a18::a19::a20::a21::a22::a23::a24::a25::a26::a27::a28::r) v=some (a0::a1::a2::a3::a4::a5::a6::a7::a8::a9::a10::a11::a12::a13::a14::a15::a16::a17::a18::a19::a20::a21::a22::a23::a24::a25::a26::a27::v::r):=rfl
theorem gt29:yf (a0::a1::a2::a3::a4::a5::a6::a7::a8::a9::a10::a11::a12::a13::a14::a15::a16::a17::a18::a19::a20::a21::a22::a23::a24::a25::a26::a27::a28::a29::r) (.tmp 29)=some a29:=rfl
theorem st29:xV (some 29) (a0::a1::a2::a3::a4::a5::a6::a7::a8::a9::a10::a11::a12::a13::a14::a15::a16::a17::a18::a19::a20::a21::a22::a23::a24::a25::a26::a27::a28::a29::r) v=some (a0::a1::a2::a3::a4::a5::a6::a7::a8::a9::a10::a11::a12::a13::a14::a15::a16::a17::a18::a19::a20::a21::a22::a23::a24::a25::a26::a27::a28::v::r):=rfl
theorem gt30:yf (a0::a1::a2::a3::a4::a5::a6::a7::a8::a9::a10::a11::a12::a13::a14::a15::a16::a17::a18::a19::a20::a21::a22::a23::a24::a25::a26::a27::a28::a29::a30::r) (.tmp 30)=some a30:=rfl
theorem st30:xV (some 30) (a0::a1::a2::a3::a4::a5::a6::a7::a8::a9::a10::a11::a12::a13::a14::a15::a16::a17::a18::a19::a20::a21::a22::a23::a24::a25::a26::a27::a28::a29::a30::r) v=some (a0::a1::a2::a3::a4::a5::a6::a7::a8::a9::a10::a11::a12::a13::a14::a15::a16::a17::a18::a19::a20::a21::a22::a23::a24::a25::a26::a27::a28::a29::v::r):=rfl
theorem gt31:yf (a0::a1::a2::a3::a4::a5::a6::a7::a8::a9::a10::a11::a12::a13::a14::a15::a16::a17::a18::a19::a20::a21::a22::a23::a24::a25::a26::a27::a28::a29::a30::a31::r) (.tmp 31)=some a31:=rfl
theorem st31:xV (some 31) (a0::a1::a2::a3::a4::a5::a6::a7::a8::a9::a10::a11::a12::a13::a14::a15::a16::a17::a18::a19::a20::a21::a22::a23::a24::a25::a26::a27::a28::a29::a30::a31::r) v=some (a0::a1::a2::a3::a4::a5::a6::a7::a8::a9::a10::a11::a12::a13::a14::a15::a16::a17::a18::a19::a20::a21::a22::a23::a24::a25::a26::a27::a28::a29::a30::v::r):=rfl
theorem gt32:yf (a0::a1::a2::a3::a4::a5::a6::a7::a8::a9::a10::a11::a12::a13::a14::a15::a16::a17::a18::a19::a20::a21::a22::a23::a24::a25::a26::a27::a28::a29::a30::a31::a32::r) (.tmp 32)=some a32:=rfl
theorem st32:xV (some 32) (a0::a1::a2::a3::a4::a5::a6::a7::a8::a9::a10::a11::a12::a13::a14::a15::a16::a17::a18::a19::a20::a21::a22::a23::a24::a25::a26::a27::a28::a29::a30::a31::a32::r) v=some (a0::a1::a2::a3::a4::a5::a6::a7::a8::a9::a10::a11::a12::a13::a14::a15::a16::a17::a18::a19::a20::a21::a22::a23::a24::a25::a26::a27::a28::a29::a30::a31::v::r):=rfl
theorem gt33:yf (a0::a1::a2::a3::a4::a5::a6::a7::a8::a9::a10::a11::a12::a13::a14::a15::a16::a17::a18::a19::a20::a21::a22::a23::a24::a25::a26::a27::a28::a29::a30::a31::a32::a33::r) (.tmp 33)=some a33:=rfl
theorem st33:xV (some 33) (a0::a1::a2::a3::a4::a5::a6::a7::a8::a9::a10::a11::a12::a13::a14::a15::a16::a17::a18::a19::a20::a21::a22::a23::a24::a25::a26::a27::a28::a29::a30::a31::a32::a33::r) v=some (a0::a1::a2::a3::a4::a5::a6::a7::a8::a9::a10::a11::a12::a13::a14::a15::a16::a17::a18::a19::a20::a21::a22::a23::a24::a25::a26::a27::a28::a29::a30::a31::a32::v::r):=rfl
theorem gt34:yf (a0::a1::a2::a3::a4::a5::a6::a7::a8::a9::a10::a11::a12::a13::a14::a15::a16::a17::a18::a19::a20::a21::a22::a23::a24::a25::a26::a27::a28::a29::a30::a31::a32::a33::a34::r) (.tmp 34)=some a34:=rfl
theorem st34:xV (some 34) (a0::a1::a2::a3::a4::a5::a6::a7::a8::a9::a10::a11::a12::a13::a14::a15::a16::a17::a18::a19::a20::a21::a22::a23::a24::a25::a26::a27::a28::a29::a30::a31::a32::a33::a34::r) v=some (a0::a1::a2::a3::a4::a5::a6::a7::a8::a9::a10::a11::a12::a13::a14::a15::a16::a17::a18::a19::a20::a21::a22::a23::a24::a25::a26::a27::a28::a29::a30::a31::a32::a33::v::r):=rfl
theorem gt35:yf (a0::a1::a2::a3::a4::a5::a6::a7::a8::a9::a10::a11::a12::a13::a14::a15::a16::a17::a18::a19::a20::a21::a22::a23::a24::a25::a26::a27::a28::a29::a30::a31::a32::a33::a34::a35::r) (.tmp 35)=some a35:=rfl
theorem st35:xV (some 35) (a0::a1::a2::a3::a4::a5::a6::a7::a8::a9::a10::a11::a12::a13::a14::a15::a16::a17::a18::a19::a20::a21::a22::a23::a24::a25::a26::a27::a28::a29::a30::a31::a32::a33::a34::a35::r) v=some (a0::a1::a2::a3::a4::a5::a6::a7::a8::a9::a10::a11::a12::a13::a14::a15::a16::a17::a18::a19::a20::a21::a22::a23::a24::a25::a26::a27::a28::a29::a30::a31::a32::a33::a34::v::r):=rfl
theorem gt36:yf (a0::a1::a2::a3::a4::a5::a6::a7::a8::a9::a10::a11::a12::a13::a14::a15::a16::a17::a18::a19::a20::a21::a22::a23::a24::a25::a26::a27::a28::a29::a30::a31::a32::a33::a34::a35::a36::r) (.tmp 36)=some a36:=rfl
theorem st36:xV (some 36) (a0::a1::a2::a3::a4::a5::a6::a7::a8::a9::a10::a11::a12::a13::a14::a15::a16::a17::a18::a19::a20::a21::a22::a23::a24::a25::a26::a27::a28::a29::a30::a31::a32::a33::a34::a35::a36::r) v=some (a0::a1::a2::a3::a4::a5::a6::a7::a8::a9::a10::a11::a12::a13::a14::a15::a16::a17::a18::a19::a20::a21::a22::a23::a24::a25::a26::a27::a28::a29::a30::a31::a32::a33::a34::a35::v::r):=rfl
theorem gt37:yf (a0::a1::a2::a3::a4::a5::a6::a7::a8::a9::a10::a11::a12::a13::a14::a15::a16::a17::a18::a19::a20::a21::a22::a23::a24::a25::a26::a27::a28::a29::a30::a31::a32::a33::a34::a35::a36::a37::r) (.tmp 37)=some a37:=rfl
theorem st37:xV (some 37) (a0::a1::a2::a3::a4::a5::a6::a7::a8::a9::a10::a11::a12::a13::a14::a15::a16::a17::a18::a19::a20::a21::a22::a23::a24::a25::a26::a27::a28::a29::a30::a31::a32::a33::a34::a35::a36::a37::r) v=some (a0::a1::a2::a3::a4::a5::a6::a7::a8::a9::a10::a11::a12::a13::a14::a15::a16::a17::a18::a19::a20::a21::a22::a23::a24::a25::a26::a27::a28::a29::a30::a31::a32::a33::a34::a35::a36::v::r):=rfl
theorem gt38:yf (a0::a1::a2::a3::a4::a5::a6::a7::a8::a9::a10::a11::a12::a13::a14::a15::a16::a17::a18::a19::a20::a21::a22::a23::a24::a25::a26::a27::a28::a29::a30::a31::a32::a33::a34::a35::a36::a37::a38::r) (.tmp 38)=some a38:=rfl
theorem st38:xV (some 38) (a0::a1::a2::a3::a4::a5::a6::a7::a8::a9::a10::a11::a12::a13::a14::a15::a16::a17::a18::a19::a20::a21::a22::a23::a24::a25::a26::a27::a28::a29::a30::a31::a32::a33::a34::a35::a36::a37::a38::r) v=some (a0::a1::a2::a3::a4::a5::a6::a7::a8::a9::a10::a11::a12::a13::a14::a15::a16::a17::a18::a19::a20::a21::a22::a23::a24::a25::a26::a27::a28::a29::a30::a31::a32::a33::a34::a35::a36::a37::v::r):=rfl
theorem gt39:yf (a0::a1::a2::a3::a4::a5::a6::a7::a8::a9::a10::a11::a12::a13::a14::a15::a16::a17::a18::a19::a20::a21::a22::a23::a24::a25::a26::a27::a28::a29::a30::a31::a32::a33::a34::a35::a36::a37::a38::a39::r) (.tmp 39)=some a39:=rfl
theorem st39:xV (some 39) (a0::a1::a2::a3::a4::a5::a6::a7::a8::a9::a10::a11::a12::a13::a14::a15::a16::a17::a18::a19::a20::a21::a22::a23::a24::a25::a26::a27::a28::a29::a30::a31::a32::a33::a34::a35::a36::a37::a38::a39::r) v=some (a0::a1::a2::a3::a4::a5::a6::a7::a8::a9::a10::a11::a12::a13::a14::a15::a16::a17::a18::a19::a20::a21::a22::a23::a24::a25::a26::a27::a28::a29::a30::a31::a32::a33::a34::a35::a36::a37::a38::v::r):=rfl
theorem gk (h:yf r (.tmp t)=some v):yf (a0::a1::a2::a3::a4::a5::a6::a7::a8::a9::a10::a11::a12::a13::a14::a15::a16::a17::a18::a19::a20::a21::a22::a23::a24::a25::a26::a27::a28::a29::a30::a31::a32::a33::a34::a35::a36::a37::a38::a39::r) (.tmp (t+40))=some v:=h
theorem sk (h:xV (some t) r v=some q):xV (some (t+40)) (a0::a1::a2::a3::a4::a5::a6::a7::a8::a9::a10::a11::a12::a13::a14::a15::a16::a17::a18::a19::a20::a21::a22::a23::a24::a25::a26::a27::a28::a29::a30::a31::a32::a33::a34::a35::a36::a37::a38::a39::r) v=some (a0::a1::a2::a3::a4::a5::a6::a7::a8::a9::a10::a11::a12::a13::a14::a15::a16::a17::a18::a19::a20::a21::a22::a23::a24::a25::a26::a27::a28::a29::a30::a31::a32::a33::a34::a35::a36::a37::a38::a39::q):=congrArg (λx=>some (a0::a1::a2::a3::a4::a5::a6::a7::a8::a9::a10::a11::a12::a13::a14::a15::a16::a17::a18::a19::a20::a21::a22::a23::a24::a25::a26::a27::a28::a29::a30::a31::a32::a33::a34::a35::a36::a37::a38::a39::x)) (uJ h)
end

abbrev GJ.row (x:GJ):List AV:=[.int .u8 x.rep,.int .u32 x.inc]
abbrev GF.row (x:GF):List AV:=[.int .u8 x.actor.rep,.int .u32 x.actor.inc,.int .u64 x.seq]
abbrev GI.row (x:GI):List AV:=[.int .u64 x.time,.int .u8 x.dot.actor.rep,.int .u32 x.dot.actor.inc,.int .u64 x.dot.seq,.str x.text]
abbrev GE.row (x:GE):List AV:=[.int .u8 x.typ,.int .i64 x.n,.int .u64 x.time,.int .u8 x.dot.actor.rep,.int .u32 x.dot.actor.inc,.int .u64 x.dot.seq,.str x.text,.sl 5 (x.items.map GI.row),.sl 3 (x.tombs.map GF.row)]
mutual
def GA.row:GA->List AV
  | ⟨name,leaves,subs⟩=>[.str name,.sl 9 (leaves.map GE.row),.sl 3 (GA.rows subs)]
def GA.rows:List GA->List (List AV)
  | []=>[]
  | x::r=>x.row::GA.rows r
end
theorem GA.rows_eq (l:List GA):GA.rows l=l.map GA.row:=by
  induction l with
  | nil=>rfl
  | cons x r ih=>simp only [GA.rows,uD,ih]
theorem GA.row_eq (x:GA):x.row=[.str x.name,.sl 9 (x.leaves.map GE.row),.sl 3 (x.subs.map GA.row)]:=by
  cases x;simp only [GA.row,GA.rows_eq]
abbrev GC.row (x:GC):List AV:=[.sl 1 (x.path.map zC),.int .u8 x.typ,.bool x.had,.bool x.has,.int .u8 x.was.typ,.int .i64 x.was.n,.int .u64 x.was.time,.int .u8 x.was.dot.actor.rep,.int .u32 x.was.dot.actor.inc,.int .u64 x.was.dot.seq,.str x.was.text,.sl 5 (x.was.items.map GI.row),.sl 3 (x.was.tombs.map GF.row),.int .u8 x.is.typ,.int .i64 x.is.n,.int .u64 x.is.time,.int .u8 x.is.dot.actor.rep,.int .u32 x.is.dot.actor.inc,.int .u64 x.is.dot.seq,.str x.is.text,.sl 5 (x.is.items.map GI.row),.sl 3 (x.is.tombs.map GF.row)]
abbrev GH.row (x:GH):List AV:=[.sl 1 (x.path.map zC),.int .u8 x.leaf.typ,.int .i64 x.leaf.n,.int .u64 x.leaf.time,.int .u8 x.leaf.dot.actor.rep,.int .u32 x.leaf.dot.actor.inc,.int .u64 x.leaf.dot.seq,.str x.leaf.text,.sl 5 (x.leaf.items.map GI.row),.sl 3 (x.leaf.tombs.map GF.row)]
abbrev GK.row (x:GK):List AV:=[.sl 1 (x.path.map zC),.int .u8 x.l.typ,.int .i64 x.l.n,.int .u64 x.l.time,.int .u8 x.l.dot.actor.rep,.int .u32 x.l.dot.actor.inc,.int .u64 x.l.dot.seq,.str x.l.text,.sl 5 (x.l.items.map GI.row),.sl 3 (x.l.tombs.map GF.row)]
def GC.rowN (x:GC):List AV:=[.nsl 1 (x.path.map zC),.int .u8 x.typ,.bool x.had,.bool x.has,.int .u8 x.was.typ,.int .i64 x.was.n,.int .u64 x.was.time,.int .u8 x.was.dot.actor.rep,.int .u32 x.was.dot.actor.inc,.int .u64 x.was.dot.seq,.str x.was.text,.nsl 5 (x.was.items.map GI.row),.nsl 3 (x.was.tombs.map GF.row),.int .u8 x.is.typ,.int .i64 x.is.n,.int .u64 x.is.time,.int .u8 x.is.dot.actor.rep,.int .u32 x.is.dot.actor.inc,.int .u64 x.is.dot.seq,.str x.is.text,.nsl 5 (x.is.items.map GI.row),.nsl 3 (x.is.tombs.map GF.row)]
theorem GC.rowN_le (x:GC):leGR AnyG (x.rowN) (x.row):=.cons rfl (leG.nslM (λ_=>leGR.refl rfl)) (.cons rfl leG.refl (.cons rfl leG.refl (.cons rfl leG.refl (.cons rfl leG.refl (.cons rfl leG.refl (.cons rfl leG.refl (.cons rfl leG.refl (.cons rfl leG.refl (.cons rfl leG.refl (.cons rfl leG.refl (.cons rfl (leG.nslM (λ_=>leGR.refl rfl)) (.cons rfl (leG.nslM (λ_=>leGR.refl rfl)) (.cons rfl leG.refl (.cons rfl leG.refl (.cons rfl leG.refl (.cons rfl leG.refl (.cons rfl leG.refl (.cons rfl leG.refl (.cons rfl leG.refl (.cons rfl (leG.nslM (λ_=>leGR.refl rfl)) (.cons rfl (leG.nslM (λ_=>leGR.refl rfl)) .nil)))))))))))))))))))))
def GC.rowG (x:GC):List AV:=[.gsl 1 (x.path).length,.int .u8 x.typ,.bool x.had,.bool x.has,.int .u8 x.was.typ,.int .i64 x.was.n,.int .u64 x.was.time,.int .u8 x.was.dot.actor.rep,.int .u32 x.was.dot.actor.inc,.int .u64 x.was.dot.seq,.str x.was.text,.gsl 5 (x.was.items).length,.gsl 3 (x.was.tombs).length,.int .u8 x.is.typ,.int .i64 x.is.n,.int .u64 x.is.time,.int .u8 x.is.dot.actor.rep,.int .u32 x.is.dot.actor.inc,.int .u64 x.is.dot.seq,.str x.is.text,.gsl 5 (x.is.items).length,.gsl 3 (x.is.tombs).length]
theorem GC.rowN_ct (x:GC):ctR (x.rowN) (x.rowG):=.cons rfl (.nsl (by decide) (by simp)) (.cons rfl (.plain rfl) (.cons rfl (.plain rfl) (.cons rfl (.plain rfl) (.cons rfl (.plain rfl) (.cons rfl (.plain rfl) (.cons rfl (.plain rfl) (.cons rfl (.plain rfl) (.cons rfl (.plain rfl) (.cons rfl (.plain rfl) (.cons rfl (.plain rfl) (.cons rfl (.nsl (by decide) (by simp)) (.cons rfl (.nsl (by decide) (by simp)) (.cons rfl (.plain rfl) (.cons rfl (.plain rfl) (.cons rfl (.plain rfl) (.cons rfl (.plain rfl) (.cons rfl (.plain rfl) (.cons rfl (.plain rfl) (.cons rfl (.plain rfl) (.cons rfl (.nsl (by decide) (by simp)) (.cons rfl (.nsl (by decide) (by simp)) .nil)))))))))))))))))))))
def GE.rowB (x:GE):List AV:=[.int .u8 x.typ,.int .i64 x.n,.int .u64 x.time,.int .u8 x.dot.actor.rep,.int .u32 x.dot.actor.inc,.int .u64 x.dot.seq,.str x.text,.bsl 5 (x.items.map GI.row),.bsl 3 (x.tombs.map GF.row)]
theorem GE.rowB_le (x:GE):leGR AnyG (x.rowB) (x.row):=.cons rfl leG.refl (.cons rfl leG.refl (.cons rfl leG.refl (.cons rfl leG.refl (.cons rfl leG.refl (.cons rfl leG.refl (.cons rfl leG.refl (.cons rfl (leG.bslM (λ_=>leGR.refl rfl)) (.cons rfl (leG.bslM (λ_=>leGR.refl rfl)) .nil))))))))
theorem GE.rowB_old (x:GE):leGR OldG (x.row) (x.rowB):=.cons rfl leG.refl (.cons rfl leG.refl (.cons rfl leG.refl (.cons rfl leG.refl (.cons rfl leG.refl (.cons rfl leG.refl (.cons rfl leG.refl (.cons rfl (leG.oldM (by decide) (λ_=>leGR.refl rfl)) (.cons rfl (leG.oldM (by decide) (λ_=>leGR.refl rfl)) .nil))))))))
theorem GE.rowB_ct (x:GE):ctR (x.rowB) (x.rowB):=.cons rfl (.plain rfl) (.cons rfl (.plain rfl) (.cons rfl (.plain rfl) (.cons rfl (.plain rfl) (.cons rfl (.plain rfl) (.cons rfl (.plain rfl) (.cons rfl (.plain rfl) (.cons rfl (.bslM (λ_=>.plain rfl rfl)) (.cons rfl (.bslM (λ_=>.plain rfl rfl)) .nil))))))))
theorem GE.rowB_in (x:GE):otR InG (x.rowB) (x.row):=.cons rfl (.plain rfl) (.cons rfl (.plain rfl) (.cons rfl (.plain rfl) (.cons rfl (.plain rfl) (.cons rfl (.plain rfl) (.cons rfl (.plain rfl) (.cons rfl (.plain rfl) (.cons rfl (.inM (λ_=>.plain rfl rfl)) (.cons rfl (.inM (λ_=>.plain rfl rfl)) .nil))))))))
theorem GE.rowB_out (x:GE):otR OutG (x.row) (x.rowB):=.cons rfl (.plain rfl) (.cons rfl (.plain rfl) (.cons rfl (.plain rfl) (.cons rfl (.plain rfl) (.cons rfl (.plain rfl) (.cons rfl (.plain rfl) (.cons rfl (.plain rfl) (.cons rfl (.outM (by decide) (λ_=>.plain rfl rfl)) (.cons rfl (.outM (by decide) (λ_=>.plain rfl rfl)) .nil))))))))
mutual
def GA.rowB:GA->List AV
  | ⟨name,leaves,subs⟩=>[.str name,.bsl 9 (leaves.map GE.rowB),.bsl 3 (GA.rowsB subs)]
def GA.rowsB:List GA->List (List AV)
  | []=>[]
  | x::r=>x.rowB::GA.rowsB r
end
mutual
theorem GA.rowB_le:∀x:GA,leGR AnyG (x.rowB) (x.row)
  | ⟨name,leaves,subs⟩=>by simp only [GA.rowB,GA.row];exact .cons rfl leG.refl (.cons rfl (leG.bslM GE.rowB_le) (.cons rfl (leG.bsl (GA.rowB_les subs)) .nil))
theorem GA.rowB_les:∀l:List GA,leGE AnyG (GA.rowsB l) (GA.rows l)
  | []=>.nil
  | x::r=>.cons (GA.rowB_le x) (GA.rowB_les r)
end
mutual
theorem GA.rowB_old:∀x:GA,leGR OldG (x.row) (x.rowB)
  | ⟨name,leaves,subs⟩=>by simp only [GA.row,GA.rowB];exact .cons rfl leG.refl (.cons rfl (leG.oldM (by decide) GE.rowB_old) (.cons rfl (leG.old (by decide) (GA.rowB_olds subs)) .nil))
theorem GA.rowB_olds:∀l:List GA,leGE OldG (GA.rows l) (GA.rowsB l)
  | []=>.nil
  | x::r=>.cons (GA.rowB_old x) (GA.rowB_olds r)
end
mutual
theorem GA.rowB_ct:∀x:GA,ctR (x.rowB) (x.rowB)
  | ⟨name,leaves,subs⟩=>by simp only [GA.rowB,GA.rowB];exact .cons rfl (.plain rfl) (.cons rfl (.bslM GE.rowB_ct) (.cons rfl (.bsl (GA.rowB_cts subs)) .nil))
theorem GA.rowB_cts:∀l:List GA,ctE (GA.rowsB l) (GA.rowsB l)
  | []=>.nil
  | x::r=>.cons (GA.rowB_ct x) (GA.rowB_cts r)
end
mutual
theorem GA.rowB_in:∀x:GA,otR InG (x.rowB) (x.row)
  | ⟨name,leaves,subs⟩=>by simp only [GA.rowB,GA.row];exact .cons rfl (.plain rfl) (.cons rfl (.inM GE.rowB_in) (.cons rfl (.inB (GA.rowB_ins subs)) .nil))
theorem GA.rowB_ins:∀l:List GA,otE InG (GA.rowsB l) (GA.rows l)
  | []=>.nil
  | x::r=>.cons (GA.rowB_in x) (GA.rowB_ins r)
end
mutual
theorem GA.rowB_out:∀x:GA,otR OutG (x.row) (x.rowB)
  | ⟨name,leaves,subs⟩=>by simp only [GA.row,GA.rowB];exact .cons rfl (.plain rfl) (.cons rfl (.outM (by decide) GE.rowB_out) (.cons rfl (.out (by decide) (GA.rowB_outs subs)) .nil))
theorem GA.rowB_outs:∀l:List GA,otE OutG (GA.rows l) (GA.rowsB l)
  | []=>.nil
  | x::r=>.cons (GA.rowB_out x) (GA.rowB_outs r)
end
def GC.rowB (x:GC):List AV:=[.bsl 1 (x.path.map zC),.int .u8 x.typ,.bool x.had,.bool x.has,.int .u8 x.was.typ,.int .i64 x.was.n,.int .u64 x.was.time,.int .u8 x.was.dot.actor.rep,.int .u32 x.was.dot.actor.inc,.int .u64 x.was.dot.seq,.str x.was.text,.bsl 5 (x.was.items.map GI.row),.bsl 3 (x.was.tombs.map GF.row),.int .u8 x.is.typ,.int .i64 x.is.n,.int .u64 x.is.time,.int .u8 x.is.dot.actor.rep,.int .u32 x.is.dot.actor.inc,.int .u64 x.is.dot.seq,.str x.is.text,.bsl 5 (x.is.items.map GI.row),.bsl 3 (x.is.tombs.map GF.row)]
theorem GC.rowB_le (x:GC):leGR AnyG (x.rowB) (x.row):=.cons rfl (leG.bslM (λ_=>leGR.refl rfl)) (.cons rfl leG.refl (.cons rfl leG.refl (.cons rfl leG.refl (.cons rfl leG.refl (.cons rfl leG.refl (.cons rfl leG.refl (.cons rfl leG.refl (.cons rfl leG.refl (.cons rfl leG.refl (.cons rfl leG.refl (.cons rfl (leG.bslM (λ_=>leGR.refl rfl)) (.cons rfl (leG.bslM (λ_=>leGR.refl rfl)) (.cons rfl leG.refl (.cons rfl leG.refl (.cons rfl leG.refl (.cons rfl leG.refl (.cons rfl leG.refl (.cons rfl leG.refl (.cons rfl leG.refl (.cons rfl (leG.bslM (λ_=>leGR.refl rfl)) (.cons rfl (leG.bslM (λ_=>leGR.refl rfl)) .nil)))))))))))))))))))))
theorem GC.rowB_old (x:GC):leGR OldG (x.row) (x.rowB):=.cons rfl (leG.oldM (by decide) (λ_=>leGR.refl rfl)) (.cons rfl leG.refl (.cons rfl leG.refl (.cons rfl leG.refl (.cons rfl leG.refl (.cons rfl leG.refl (.cons rfl leG.refl (.cons rfl leG.refl (.cons rfl leG.refl (.cons rfl leG.refl (.cons rfl leG.refl (.cons rfl (leG.oldM (by decide) (λ_=>leGR.refl rfl)) (.cons rfl (leG.oldM (by decide) (λ_=>leGR.refl rfl)) (.cons rfl leG.refl (.cons rfl leG.refl (.cons rfl leG.refl (.cons rfl leG.refl (.cons rfl leG.refl (.cons rfl leG.refl (.cons rfl leG.refl (.cons rfl (leG.oldM (by decide) (λ_=>leGR.refl rfl)) (.cons rfl (leG.oldM (by decide) (λ_=>leGR.refl rfl)) .nil)))))))))))))))))))))
theorem GC.rowB_ct (x:GC):ctR (x.rowB) (x.rowB):=.cons rfl (.bslM (λ_=>.plain rfl rfl)) (.cons rfl (.plain rfl) (.cons rfl (.plain rfl) (.cons rfl (.plain rfl) (.cons rfl (.plain rfl) (.cons rfl (.plain rfl) (.cons rfl (.plain rfl) (.cons rfl (.plain rfl) (.cons rfl (.plain rfl) (.cons rfl (.plain rfl) (.cons rfl (.plain rfl) (.cons rfl (.bslM (λ_=>.plain rfl rfl)) (.cons rfl (.bslM (λ_=>.plain rfl rfl)) (.cons rfl (.plain rfl) (.cons rfl (.plain rfl) (.cons rfl (.plain rfl) (.cons rfl (.plain rfl) (.cons rfl (.plain rfl) (.cons rfl (.plain rfl) (.cons rfl (.plain rfl) (.cons rfl (.bslM (λ_=>.plain rfl rfl)) (.cons rfl (.bslM (λ_=>.plain rfl rfl)) .nil)))))))))))))))))))))
theorem GC.rowB_in (x:GC):otR InG (x.rowB) (x.row):=.cons rfl (.inM (λ_=>.plain rfl rfl)) (.cons rfl (.plain rfl) (.cons rfl (.plain rfl) (.cons rfl (.plain rfl) (.cons rfl (.plain rfl) (.cons rfl (.plain rfl) (.cons rfl (.plain rfl) (.cons rfl (.plain rfl) (.cons rfl (.plain rfl) (.cons rfl (.plain rfl) (.cons rfl (.plain rfl) (.cons rfl (.inM (λ_=>.plain rfl rfl)) (.cons rfl (.inM (λ_=>.plain rfl rfl)) (.cons rfl (.plain rfl) (.cons rfl (.plain rfl) (.cons rfl (.plain rfl) (.cons rfl (.plain rfl) (.cons rfl (.plain rfl) (.cons rfl (.plain rfl) (.cons rfl (.plain rfl) (.cons rfl (.inM (λ_=>.plain rfl rfl)) (.cons rfl (.inM (λ_=>.plain rfl rfl)) .nil)))))))))))))))))))))
theorem GC.rowB_out (x:GC):otR OutG (x.row) (x.rowB):=.cons rfl (.outM (by decide) (λ_=>.plain rfl rfl)) (.cons rfl (.plain rfl) (.cons rfl (.plain rfl) (.cons rfl (.plain rfl) (.cons rfl (.plain rfl) (.cons rfl (.plain rfl) (.cons rfl (.plain rfl) (.cons rfl (.plain rfl) (.cons rfl (.plain rfl) (.cons rfl (.plain rfl) (.cons rfl (.plain rfl) (.cons rfl (.outM (by decide) (λ_=>.plain rfl rfl)) (.cons rfl (.outM (by decide) (λ_=>.plain rfl rfl)) (.cons rfl (.plain rfl) (.cons rfl (.plain rfl) (.cons rfl (.plain rfl) (.cons rfl (.plain rfl) (.cons rfl (.plain rfl) (.cons rfl (.plain rfl) (.cons rfl (.plain rfl) (.cons rfl (.outM (by decide) (λ_=>.plain rfl rfl)) (.cons rfl (.outM (by decide) (λ_=>.plain rfl rfl)) .nil)))))))))))))))))))))
instance el23:El Tryz.prog 23 56 3:=mkEl Tryz.underlying23 (by kernel_rfl)
theorem mixed:Tryz.prog.follows .mixedOrders=true:=by kernel_rfl
theorem yE {Q:Exit->List AV->AH->Prop} {env:List AV} {B:List Blk} {T:List Nat} {id:Nat} {l:List Oper} (hd:drawOk ⟨l⟩ []=true) (a:zT Tryz.prog ⟨l⟩ [] (λn=>KeepB h (lk [] n)) (Q .normal) 0 l env (h.ext B T)):wH Tryz.prog (.region id ⟨l⟩ true) Q env (h.ext B T):=yl [] [] trivial mixed hd a
instance fo56x0:Fo Tryz.prog 56 0 0 9 1:=qG (by kernel_rfl) (by kernel_rfl)
instance ty9:Ty Tryz.prog 9 .string 1:=mkTy Tryz.underlying9 (by kernel_rfl)
instance fo56x2:Fo Tryz.prog 56 2 2 23 1:=qG (by kernel_rfl) (by kernel_rfl)
instance ty23:Ty Tryz.prog 23 (.slice 56) 1:=mkTy Tryz.underlying23 (by kernel_rfl)
instance fo56x1:Fo Tryz.prog 56 1 1 54 1:=qG (by kernel_rfl) (by kernel_rfl)
instance ty54:Ty Tryz.prog 54 (.slice 47) 1:=mkTy Tryz.underlying54 (by kernel_rfl)
instance el54:El Tryz.prog 54 47 9:=mkEl Tryz.underlying54 (by kernel_rfl)
theorem ty47:∃d,Ty Tryz.prog 47 d 9/\yg d=true:=⟨_,mkTy Tryz.underlying47 (by kernel_rfl),by kernel_rfl⟩
instance:TA Tryz.prog 47 9:=⟨ty47⟩
theorem ze47:xW Tryz.prog 47=some [.int .u8 0,.int .i64 0,.int .u64 0,.int .u8 0,.int .u32 0,.int .u64 0,.str [],.osl none 5 [],.osl none 3 []]:=by kernel_rfl
instance:ZE Tryz.prog 47 [.int .u8 0,.int .i64 0,.int .u64 0,.int .u8 0,.int .u32 0,.int .u64 0,.str [],.osl none 5 [],.osl none 3 []]:=⟨ze47⟩
instance fo47x4:Fo Tryz.prog 47 4 6 9 1:=qG (by kernel_rfl) (by kernel_rfl)
instance fo47x6:Fo Tryz.prog 47 6 8 45 1:=qG (by kernel_rfl) (by kernel_rfl)
instance ty45:Ty Tryz.prog 45 (.slice 43) 1:=mkTy Tryz.underlying45 (by kernel_rfl)
instance el45:El Tryz.prog 45 43 3:=mkEl Tryz.underlying45 (by kernel_rfl)
instance fo47x5:Fo Tryz.prog 47 5 7 44 1:=qG (by kernel_rfl) (by kernel_rfl)
instance ty44:Ty Tryz.prog 44 (.slice 51) 1:=mkTy Tryz.underlying44 (by kernel_rfl)
instance el44:El Tryz.prog 44 51 5:=mkEl Tryz.underlying44 (by kernel_rfl)
instance fo51x2:Fo Tryz.prog 51 2 4 9 1:=qG (by kernel_rfl) (by kernel_rfl)
instance el24:El Tryz.prog 24 49 22:=mkEl Tryz.underlying24 (by kernel_rfl)
theorem ty49:∃d,Ty Tryz.prog 49 d 22/\yg d=true:=⟨_,mkTy Tryz.underlying49 (by kernel_rfl),by kernel_rfl⟩
instance:TA Tryz.prog 49 22:=⟨ty49⟩
abbrev lit0x:List AV:=[.int .u8 (0:Int),.int .i64 (0:Int),.int .u64 (0:Int),.int .u8 (0:Int),.int .u32 (0:Int),.int .u64 (0:Int),.str ([]:zd),.osl none 5 (([]:List GI).map GI.row),.osl none 3 (([]:List GF).map GF.row)]
abbrev lit1x:List AV:=[.osl none 1 [],.int .u8 0,.int .i64 0,.int .u64 0,.int .u8 0,.int .u32 0,.int .u64 0,.str [],.osl none 5 [],.osl none 3 []]
abbrev lit2x:List AV:=[.str ([]:zd),.osl none 9 (([]:List GE).map GE.row),.osl none 3 (([]:List GA).map GA.row)]
abbrev lit3x:List AV:=[.osl none 1 [],.int .u8 0,.bool false,.bool false,.int .u8 0,.int .i64 0,.int .u64 0,.int .u8 0,.int .u32 0,.int .u64 0,.str [],.osl none 5 [],.osl none 3 [],.int .u8 0,.int .i64 0,.int .u64 0,.int .u8 0,.int .u32 0,.int .u64 0,.str [],.osl none 5 [],.osl none 3 []]
abbrev lit4x:List AV:=[.int .u8 (0:Int),.int .u32 (0:Int),.int .u64 (0:Int)]
theorem ze49:xW Tryz.prog 49=some lit3x:=by kernel_rfl
instance:ZE Tryz.prog 49 lit3x:=⟨ze49⟩
instance fo49x0:Fo Tryz.prog 49 0 0 37 1:=qG (by kernel_rfl) (by kernel_rfl)
instance ty37:Ty Tryz.prog 37 (.slice 9) 1:=mkTy Tryz.underlying37 (by kernel_rfl)
instance el37:El Tryz.prog 37 9 1:=mkEl Tryz.underlying37 (by kernel_rfl)
instance fo49x4:Fo Tryz.prog 49 4 4 47 9:=qG (by kernel_rfl) (by kernel_rfl)
instance fo49x5:Fo Tryz.prog 49 5 13 47 9:=qG (by kernel_rfl) (by kernel_rfl)
theorem ty51:∃d,Ty Tryz.prog 51 d 5/\yg d=true:=⟨_,mkTy Tryz.underlying51 (by kernel_rfl),by kernel_rfl⟩
instance:TA Tryz.prog 51 5:=⟨ty51⟩
theorem pk51:PK Tryz.prog 51 [.i,.i,.i,.i,.s]:=mkPK (by kernel_rfl) (by kernel_rfl) (by kernel_rfl)
theorem ty43:∃d,Ty Tryz.prog 43 d 3/\yg d=true:=⟨_,mkTy Tryz.underlying43 (by kernel_rfl),by kernel_rfl⟩
instance:TA Tryz.prog 43 3:=⟨ty43⟩
theorem pk43:PK Tryz.prog 43 [.i,.i,.i]:=mkPK (by kernel_rfl) (by kernel_rfl) (by kernel_rfl)
instance fo47x0:Fo Tryz.prog 47 0 0 5 1:=qG (by kernel_rfl) (by kernel_rfl)
instance ty5:Ty Tryz.prog 5 (.int .u8) 1:=mkTy Tryz.underlying5 (by kernel_rfl)
instance fo47x1:Fo Tryz.prog 47 1 1 2 1:=qG (by kernel_rfl) (by kernel_rfl)
instance ty2:Ty Tryz.prog 2 (.int .i64) 1:=mkTy Tryz.underlying2 (by kernel_rfl)
instance fo47x2:Fo Tryz.prog 47 2 2 38 1:=qG (by kernel_rfl) (by kernel_rfl)
instance ty38:Ty Tryz.prog 38 (.int .u64) 1:=mkTy Tryz.underlying38 (by kernel_rfl)
instance fo47x3:Fo Tryz.prog 47 3 3 43 3:=qG (by kernel_rfl) (by kernel_rfl)
theorem ze9:xW Tryz.prog 9=some [.str []]:=by kernel_rfl
instance:ZE Tryz.prog 9 [.str []]:=⟨ze9⟩
theorem ze51:xW Tryz.prog 51=some [.int .u64 0,.int .u8 0,.int .u32 0,.int .u64 0,.str []]:=by kernel_rfl
instance:ZE Tryz.prog 51 [.int .u64 0,.int .u8 0,.int .u32 0,.int .u64 0,.str []]:=⟨ze51⟩
theorem ze43:xW Tryz.prog 43=some [.int .u8 0,.int .u32 0,.int .u64 0]:=by kernel_rfl
instance:ZE Tryz.prog 43 [.int .u8 0,.int .u32 0,.int .u64 0]:=⟨ze43⟩
instance el141:El Tryz.prog 141 3 1:=mkEl Tryz.underlying141 (by kernel_rfl)
instance ty3:Ty Tryz.prog 3 (.int .i64) 1:=mkTy Tryz.underlying3 (by kernel_rfl)
instance fo49x1:Fo Tryz.prog 49 1 1 5 1:=qG (by kernel_rfl) (by kernel_rfl)
theorem ze3:xW Tryz.prog 3=some [.int .i64 0]:=by kernel_rfl
instance:ZE Tryz.prog 3 [.int .i64 0]:=⟨ze3⟩
instance fo49x2:Fo Tryz.prog 49 2 2 4 1:=qG (by kernel_rfl) (by kernel_rfl)
instance ty4:Ty Tryz.prog 4 .bool 1:=mkTy Tryz.underlying4 (by kernel_rfl)
instance fo49x3:Fo Tryz.prog 49 3 3 4 1:=qG (by kernel_rfl) (by kernel_rfl)
instance fo41x0:Fo Tryz.prog 41 0 0 5 1:=qG (by kernel_rfl) (by kernel_rfl)
instance fo41x1:Fo Tryz.prog 41 1 1 39 1:=qG (by kernel_rfl) (by kernel_rfl)
instance ty39:Ty Tryz.prog 39 (.int .u32) 1:=mkTy Tryz.underlying39 (by kernel_rfl)
instance fo43x0:Fo Tryz.prog 43 0 0 41 2:=qG (by kernel_rfl) (by kernel_rfl)
theorem ty41:∃d,Ty Tryz.prog 41 d 2/\yg d=true:=⟨_,mkTy Tryz.underlying41 (by kernel_rfl),by kernel_rfl⟩
instance:TA Tryz.prog 41 2:=⟨ty41⟩
instance fo43x1:Fo Tryz.prog 43 1 2 38 1:=qG (by kernel_rfl) (by kernel_rfl)
instance fo51x1:Fo Tryz.prog 51 1 1 43 3:=qG (by kernel_rfl) (by kernel_rfl)
noncomputable def sf43:Array Field:=match Tryz.prog.underlying 43 with | some (.struct fs)=>fs | _=>#[]
theorem su43:Tryz.prog.underlying 43=some (.struct sf43):=by kernel_rfl
theorem kq43:KQ Tryz.prog 43 (λx=>AV.agg (GF.row x)) GF.eqb:=.struct su43 pk43 (λ_ _=>rfl) (λa=>by simp [GF.eqb])
theorem az3:aZeroM Tryz.prog 3=some ((AV.int .i64) (0:Int)):=by kernel_rfl
instance fo51x0:Fo Tryz.prog 51 0 0 38 1:=qG (by kernel_rfl) (by kernel_rfl)
noncomputable def sf47:Array Field:=match Tryz.prog.underlying 47 with | some (.struct fs)=>fs | _=>#[]
theorem su47:Tryz.prog.underlying 47=some (.struct sf47):=by kernel_rfl
theorem pl47:qQ Tryz.prog sf47=some [(0,1),(1,1),(2,1),(3,3),(6,1),(7,1),(8,1)]:=by kernel_rfl
theorem pl43:qQ Tryz.prog sf43=some [(0,2),(2,1)]:=by kernel_rfl
theorem ty56:∃d,Ty Tryz.prog 56 d 3/\yg d=true:=⟨_,mkTy Tryz.underlying56 (by kernel_rfl),by kernel_rfl⟩
instance:TA Tryz.prog 56 3:=⟨ty56⟩
theorem ze56:xW Tryz.prog 56=some [.str [],.osl none 9 [],.osl none 3 []]:=by kernel_rfl
instance:ZE Tryz.prog 56 [.str [],.osl none 9 [],.osl none 3 []]:=⟨ze56⟩
instance ty122:Ty Tryz.prog 122 (.func #[61] #[4] false) 1:=mkTy Tryz.underlying122 (by kernel_rfl)
noncomputable def sf61:Array Field:=match Tryz.prog.underlying 61 with | some (.struct fs)=>fs | _=>#[]
theorem su61:Tryz.prog.underlying 61=some (.struct sf61):=by kernel_rfl
theorem ze61:xW Tryz.prog 61=some lit1x:=by kernel_rfl
instance:ZE Tryz.prog 61 lit1x:=⟨ze61⟩
theorem pl61:qQ Tryz.prog sf61=some [(0,1),(1,9)]:=by kernel_rfl
theorem ty61:∃d,Ty Tryz.prog 61 d 10/\yg d=true:=⟨_,mkTy Tryz.underlying61 (by kernel_rfl),by kernel_rfl⟩
instance:TA Tryz.prog 61 10:=⟨ty61⟩
instance el58:El Tryz.prog 58 61 10:=mkEl Tryz.underlying58 (by kernel_rfl)
instance ty58:Ty Tryz.prog 58 (.slice 61) 1:=mkTy Tryz.underlying58 (by kernel_rfl)
instance el88:El Tryz.prog 88 5 1:=mkEl Tryz.underlying88 (by kernel_rfl)
theorem ze5:xW Tryz.prog 5=some [.int .u8 0]:=by kernel_rfl
instance:ZE Tryz.prog 5 [.int .u8 0]:=⟨ze5⟩
instance fo61x0:Fo Tryz.prog 61 0 0 37 1:=qG (by kernel_rfl) (by kernel_rfl)
instance fo61x1:Fo Tryz.prog 61 1 1 47 9:=qG (by kernel_rfl) (by kernel_rfl)
noncomputable def sf49:Array Field:=match Tryz.prog.underlying 49 with | some (.struct fs)=>fs | _=>#[]
theorem su49:Tryz.prog.underlying 49=some (.struct sf49):=by kernel_rfl
theorem pl49:qQ Tryz.prog sf49=some [(0,1),(1,1),(2,1),(3,1),(4,9),(13,9)]:=by kernel_rfl
theorem kq9:KQ Tryz.prog 9 AV.str (λa b=>a==b):=.str ty9
theorem az49:aZeroM Tryz.prog 49=some ((λx=>AV.agg (GC.row x)) (GC.mk ([]:List zd) (0:Int) false false zp zp)):=by kernel_rfl
noncomputable def sf56:Array Field:=match Tryz.prog.underlying 56 with | some (.struct fs)=>fs | _=>#[]
theorem su56:Tryz.prog.underlying 56=some (.struct sf56):=by kernel_rfl
theorem pl56:qQ Tryz.prog sf56=some [(0,1),(1,1),(2,1)]:=by kernel_rfl
instance el90:El Tryz.prog 90 93 10:=mkEl Tryz.underlying90 (by kernel_rfl)
noncomputable def sf93:Array Field:=match Tryz.prog.underlying 93 with | some (.struct fs)=>fs | _=>#[]
theorem su93:Tryz.prog.underlying 93=some (.struct sf93):=by kernel_rfl
theorem ze93:xW Tryz.prog 93=some lit1x:=by kernel_rfl
instance:ZE Tryz.prog 93 lit1x:=⟨ze93⟩
theorem pl93:qQ Tryz.prog sf93=some [(0,1),(1,9)]:=by kernel_rfl
instance fo93x0:Fo Tryz.prog 93 0 0 37 1:=qG (by kernel_rfl) (by kernel_rfl)
instance fo93x1:Fo Tryz.prog 93 1 1 47 9:=qG (by kernel_rfl) (by kernel_rfl)
instance ty134:Ty Tryz.prog 134 (.int .u64) 1:=mkTy Tryz.underlying134 (by kernel_rfl)
abbrev GLeafRw (x:GE) (p q:AV):List AV:=[.int .u8 x.typ,.int .i64 x.n,.int .u64 x.time,.int .u8 x.dot.actor.rep,.int .u32 x.dot.actor.inc,.int .u64 x.dot.seq,.str x.text,p,q]
theorem ok49N (n:Nat):∀{t0:(List GA)} {b:Int} {res:Int} {h:AH} , xh n t0 b=some res->Sp 49 [.sl 3 (t0.map GA.row),.int .i64 b] h (yy (.int .i64 res) h):=by
 induction n with
 | zero=>intro t0 b res h  a;simp [xh] at a
 | succ n ih =>
  intro t0 b res h  a;unfold xh at a;refine zb Tryz.func49 rfl (by kernel_rfl) (yV 84 rfl) (R.r ?_);refine vt (λ(y:Int×Int)=>zo 2 3 (zo 7 77 [(5,.int .i64 y.1),(6,.int .i64 y.2)])) (λy=>h.ext [] []) a (λ_=>by simp only [zo,x5,ue,uf];try rfl) (wk.le LEL.o) ?_;intro S y P a B;apply R.r;refine ln λi=>?_;replace i:=zZ i;apply R.r;refine zf gg a (λx a=>?_) (λx a=>?_)
  ·apply R.r;refine yl [16] [] trivial mixed (by kernel_rfl) (R.r ?_);refine zi a (λK w a=>zx rfl rfl (yh rfl el23 gg gg isl w (GA.row_eq _)) ss (R.r ?_));refine draw_len rfl rfl (s_lenStr rfl rfl rfl rfl ty9 gg) ss (R.r ?_);refine zi a (λM s a=>zx rfl rfl (yh rfl el23 gg gg isl s (GA.row_eq _)) ss (R.r ?_));refine zi a (λJ p a=>zK rfl rfl (λ_=>sc rfl) (by rintro _ ⟨B2,T2,rfl,I⟩;exact ih p) ss (R.r ?_));refine vt (λ(s2:Int×Int)=>zo 2 3 (zo 8 76 [(5,.int .i64 s2.1),(7,.int .i64 s2.2)])) (λs2=>h.ext [] []) a (λ_=>by simp only [zo,x5,ue,uf];try rfl) (wk.le LEL.o) ?_;intro T s2 O a u;apply R.r;refine zi a (λH m a=>zc rfl (yh rfl el23 gg gg isl m (GA.row_eq _)) ss (R.r ?_));refine ln λc=>?_;replace c:=zZ c;apply R.r;refine zf gg a (λj a=>?_) (λj a=>?_)
   ·apply R.r;refine zi a (λG l a=>zc rfl (yh rfl el23 gg gg isl l (GA.row_eq _)) ss (R.r ?_));refine zi a (λz k a=>ix k (R.r ?_));refine ln λf=>?_;replace f:=zZ f;apply R.r;refine ln λg=>?_;replace g:=zZ g;apply R.r;refine zB (λ(F:Nat) (A:Int)=>zo 2 3 (zo 10 74 [(5,.int .i64 A),(9,.int .i64 (F:Int))])) (λA=>h.ext [.cells (GE.row z)] []) a (λ_ _=>by simp only [zo,x5,ue,uf];try rfl) (wk.le LEL.o) ?_;intro F A N a;apply R.r;refine ln λd=>?_;replace d:=zZ d;apply R.r;refine zL gg a (λL Q E C a D=>?_) (λa=>?_)
    ·apply R.r;refine ix (zF C) (R.r ?_);refine ln λe=>?_;replace e:=zZ e;apply R.r;cases a;exact ⟨(IntKind.wrap .i64 ((IntKind.wrap .i64 (A+(1:Int)))+((L.text).length:Int))),E,D,wk.le (by exact (.eq (.eq (.drop (.drop (.drop (.cons (leV.of_eq rfl) (.eq (.eq (.eq (.cons (leV.of_eq (yF (by omega) (by omega))) (.d16 (.d16 (.d16 (.d16 (.d4 (.d4 (.drop (.drop leL.nil)))))))))))))))))))⟩
    ·apply R.r;cases a;exact ⟨(A,(IntKind.wrap .i64 (s2.2+(1:Int)))),u,wk.trans (wk.le LEL.o) (z8 (by simp [zG,AV.low]) rfl rfl (by simp [Blk.low,zG,AV.low]))⟩
   ·apply R.r;cases a;replace a:=u;apply R.r;cases a;exact ⟨(s2.1,(IntKind.wrap .i64 (y.2+(1:Int)))),B,wk.le LEL.o⟩
  ·apply R.r;cases a;replace a:=B;apply R.r;cases a;exact fz rfl rfl
theorem ok49 {t0:(List GA)} {a:Int} {res:Int}  (c:ref07Xsize t0 a=some res):Sp 49 [.sl 3 (t0.map GA.row),.int .i64 a] h (yy (.int .i64 res) h):=by
 obtain ⟨n,b⟩:=anyN_is c;exact ok49N n b
theorem ok19 {t0:(List GA)}  (a:vE t0=some res):Sp 19 [.sl 3 (t0.map GA.row)] h (yy (.bool res) h):=by
 unfold vE at a;refine zb Tryz.func19 rfl (by kernel_rfl) (yV 6 rfl) (R.r ?_);refine zi a (λc b a=>cp (ok49 b) (R.r ?_));cases a;exact fz rfl rfl
theorem ok20 {u:(List GC)}  (a:qz u=some res):Sp 20 [.sl 22 (u.map GC.row)] h (yy (.bool res) h):=by
 unfold qz at a;refine zb Tryz.func20 rfl (by kernel_rfl) (yV 61 rfl) (R.r ?_);refine zB (λ(z:Nat) (w:Unit)=>zo 1 2 (zo 4 57 [(3,.int .i64 (z:Int))])) (λw=>h.ext [] []) a (λ_ _=>by simp only [zo,x5,ue,uf];try rfl) (wk.le LEL.o) ?_;intro z w C a;apply R.r;refine ln λb=>?_;replace b:=zZ b;apply R.r;refine zL gg a (λE G p n a g=>?_) (λa=>?_)
 ·apply R.r;refine ix (zF n) (R.r ?_);refine ln λc=>?_;replace c:=zZ c;apply R.r;refine lng λy=>R.r ?_;refine lng λB=>R.r ?_;refine lng λs=>R.r ?_;refine lng λx=>R.r ?_;refine zf gg a (λi a=>?_) (λi a=>?_)
  ·apply R.r;cases a;replace a:=g;apply R.r;cases a;exact fz rfl rfl
  ·apply R.r;refine zB (λ(A:Nat) (s2:Unit)=>zo 1 2 (zo 6 55 [(5,.int .i64 (A:Int))])) (λs2=>h.ext [.cells (GC.row E)] []) a (λ_ _=>by simp only [zo,x5,ue,uf];try rfl) (wk.le LEL.o) ?_;intro A s2 D a;apply R.r;refine ln λd=>?_;replace d:=zZ d;apply R.r;refine zL gg a (λH F m l a j=>?_) (λa=>?_)
   ·apply R.r;refine ix (zF l) (R.r ?_);refine ln λe=>?_;replace e:=zZ e;apply R.r;refine zf gg a (λk a=>?_) (λk a=>?_)
    ·apply R.r;cases a;replace a:=j;apply R.r;cases a;replace a:=g;apply R.r;cases a;exact fz rfl rfl
    ·apply R.r;cases a;exact ⟨(),m,j,wk.le (by exact (.eq (.drop (.drop (.eq (.eq (.cons (leV.of_eq (yF (by omega) (by omega))) (.d16 (.d16 (.d16 (.d4 (.drop (.drop (.drop leL.nil))))))))))))))⟩
   ·apply R.r;cases a;exact ⟨(),p,g,wk.trans (wk.le (by exact (.eq (.drop (.drop (.cons (leV.of_eq (yF (by omega) (by omega))) (.d16 (.d16 (.d16 (.d4 (.d4 (.drop leL.nil)))))))))))) (z8 (by simp [zG,AV.low]) rfl rfl (by simp [Blk.low,zG,AV.low]))⟩
 ·apply R.r;refine ln λf=>?_;replace f:=zZ f;apply R.r;cases a;exact fz rfl rfl
theorem ok4 {a0:(List GA)} {j:(List GA)} {i:(List GA)} {l:(List GC)} {k:(List GC)}  (a:law31Xgreat a0 j i l k=some res):Sp 4 [.sl 3 (a0.map GA.row),.sl 3 (j.map GA.row),.sl 3 (i.map GA.row),.sl 22 (l.map GC.row),.sl 22 (k.map GC.row)] h (yy (.bool res) h):=by
 unfold law31Xgreat at a;refine zb Tryz.func4 rfl (by kernel_rfl) (yV 29 rfl) (R.r ?_);refine zi a (λn e a=>cp (ok19 e) (R.r ?_));refine zN a (λm c a=>zA rfl sc (λb=>ok19 (c b)) ss (R.r ?_));refine zN a (λv3 d a=>zA rfl sc (λb=>ok19 (d b)) ss (R.r ?_));refine zN a (λv4 g a=>zA rfl sc (λb=>ok20 (g b)) ss (R.r ?_));refine zN a (λv5 f a=>zA rfl sc (λb=>ok20 (f b)) ss (R.r ?_));cases a;exact fz rfl rfl
theorem ok57 {f:(List GI)} {i:(List GI)}  (a:wB f i=some res):Sp 57 [.sl 5 (f.map GI.row),.sl 5 (i.map GI.row)] h (yy (.bool res) h):=by
 unfold wB at a;refine zb Tryz.func57 rfl (by kernel_rfl) (yV 26 rfl) (R.r ?_);refine ln λd=>?_;replace d:=zZ d;apply R.r;refine ln λg=>?_;replace g:=zZ g;apply R.r;refine zf gg a (λm a=>?_) (λm a=>?_)
 ·apply R.r;cases a;exact fz rfl rfl
 ·apply R.r;refine ln λb=>?_;replace b:=zZ b;apply R.r;refine zB (λ(p:Nat) (n:Unit)=>zo 2 10 (zo 14 12 [(13,.int .i64 (p:Int))])) (λn=>h.ext [] []) a (λ_ _=>by simp only [zo,x5,ue,uf];try rfl) (wk.le LEL.o) ?_;intro p n s a;apply R.r;refine zL gg a (λx w l k a j=>?_) (λa=>?_)
  ·apply R.r;refine yE (by kernel_rfl) (R.r ?_);refine dix (zF k) (R.r ?_);refine zi a (λu c a=>dix c (R.r ?_));refine zx rfl rfl (yK rfl gg gg (bin_ne pk51 rfl)) ss (R.r ?_);refine zf gg a (λe a=>?_) (λe a=>?_)
   ·apply R.r;cases a;replace a:=j;apply R.r;cases a;exact fz rfl rfl
   ·apply R.r;cases a;exact ⟨(),l,j,wk.le (by exact (.eq (.eq (.d4 (.d4 (.drop (.drop (.eq (.cons (leV.of_eq (yF (by omega) (by omega))) (.d4 (.d4 (.d4 leL.nil))))))))))))⟩
  ·apply R.r;cases a;exact fz rfl rfl
theorem ok58 {f:(List GF)} {i:(List GF)}  (a:wR f i=some res):Sp 58 [.sl 3 (f.map GF.row),.sl 3 (i.map GF.row)] h (yy (.bool res) h):=by
 unfold wR at a;refine zb Tryz.func58 rfl (by kernel_rfl) (yV 26 rfl) (R.r ?_);refine ln λd=>?_;replace d:=zZ d;apply R.r;refine ln λg=>?_;replace g:=zZ g;apply R.r;refine zf gg a (λm a=>?_) (λm a=>?_)
 ·apply R.r;cases a;exact fz rfl rfl
 ·apply R.r;refine ln λb=>?_;replace b:=zZ b;apply R.r;refine zB (λ(p:Nat) (n:Unit)=>zo 2 10 (zo 14 12 [(13,.int .i64 (p:Int))])) (λn=>h.ext [] []) a (λ_ _=>by simp only [zo,x5,ue,uf];try rfl) (wk.le LEL.o) ?_;intro p n s a;apply R.r;refine zL gg a (λx w l k a j=>?_) (λa=>?_)
  ·apply R.r;refine yE (by kernel_rfl) (R.r ?_);refine dix (zF k) (R.r ?_);refine zi a (λu c a=>dix c (R.r ?_));refine zx rfl rfl (yK rfl gg gg (bin_ne pk43 rfl)) ss (R.r ?_);refine zf gg a (λe a=>?_) (λe a=>?_)
   ·apply R.r;cases a;replace a:=j;apply R.r;cases a;exact fz rfl rfl
   ·apply R.r;cases a;exact ⟨(),l,j,wk.le (by exact (.eq (.eq (.d4 (.d4 (.drop (.drop (.eq (.cons (leV.of_eq (yF (by omega) (by omega))) (.d4 (.d4 (.d4 leL.nil))))))))))))⟩
  ·apply R.r;cases a;exact fz rfl rfl
theorem ok32 {a0:GE} {e:GE}  (b:y6 a0 e=some res):Sp 32 [.agg (GE.row a0),.agg (GE.row e)] h (yy (.bool res) h):=by
 unfold y6 at b;refine zb Tryz.func32 rfl (by kernel_rfl) (yV 52 rfl) (R.r ?_);refine z7 rfl (λa=>yK rfl (zI gg a) (zI gg a) (bin_eq pk43 rfl)) ss (R.r ?_);refine zN b (λg d b=>zA rfl sc (λa=>ok57 (d a)) ss (R.r ?_));refine zN b (λf c b=>zA rfl sc (λa=>ok58 (c a)) ss (R.r ?_));cases b;exact fz rfl rfl
theorem ok91 {d:(List zd)} {res:(List zd)}  (a:yB d=some res):Sp 91 [.sl 1 (d.map zC)] h (OwnK h 1 res.length (res.map zC)):=by
 unfold yB at a;refine zb Tryz.func91 rfl (by kernel_rfl) (yV 8 rfl) (R.r ?_);refine vV rfl rfl el37 gg isl rfl (λ_=>ss) a (λf e a=>R.r ?_);refine zf gg a (λb a=>?_) (λb a=>?_)
 ·apply R.r;cases a;refine fr rfl (fin_own0 (row:=zC) (L:=([]:List zd)) ?_);exact ⟨rfl,rfl⟩
 ·apply R.r;refine zc rfl (zw (es:=([]:List zd).map zC) rfl el37 ze9 rfl rfl zq .nil rfl rfl rfl) ss (R.r ?_);refine yj a (λc a=>zc rfl (e_appN (m:=0) (T':=[((([]:List zd)++d)).length]) rfl rfl rfl rfl el37 el37 gg gg (za rfl) (za rfl) xd c rfl rfl) ss (R.r ?_));cases a;refine fr rfl (fin_own ?_);exact ⟨rfl,rfl⟩
theorem okM91 {d:(List zd)} {res:(List zd)}  (a:yB d=some res):Sp 91 [.sl 1 (d.map zC)] h (yy (.nsl 1 (res.map zC)) h):=by
 unfold yB at a;refine zb Tryz.func91 rfl (by kernel_rfl) (env:=[.sl 1 (d.map zC),aundef,aundef,aundef,aundef,aundef,aundef,aundef]) (by rfl) ?_;refine zW (zz ?_);refine zc rfl (zO rfl rfl (ty_nil el37)) st2 ?_;refine zD (zU (zW (zW (zz ?_))));refine zc rfl (zy rfl gt0 (za rfl)) st3 ?_;refine vV rfl rfl el37 gt3 isl rfl (λ_=>st4) a (λf e a=>zD (zU ?_));refine zf gt4 a (λb a=>?_) (λb a=>?_)
 ·refine zW (zz ?_);refine zc rfl (zO rfl rfl (ty_nil el37)) st2 ?_;refine zD (zU (r_ret (q_seq_ret ?_)));obtain rfl:=uJ a;refine q_retL1 rfl (wS gt2 qd) (fin_ext leV.nil_nsl rfl ?_);exact ⟨rfl,rfl⟩
 ·refine vm (zU (zW (zz ?_)));refine zc rfl (zw (es:=([]:List zd).map zC) rfl el37 ze9 rfl rfl zq .nil rfl rfl rfl) st5 ?_;refine zc rfl (zy rfl gt0 (za rfl)) st6 ?_;refine yj a (λc a=>ops_new rfl (s_anew rfl rfl rfl rfl el37 el37 gt5 gt6 (za rfl) (za rfl) xd (by simpa using c)) st7 ?_);refine zc rfl (zO rfl gt7 (za rfl)) st2 ?_;refine zD (zU (r_ret ?_));obtain rfl:=uJ a;refine q_retL1 rfl (wS gt2 qd) (fin_ext (leV.refl _) rfl ?_);exact ⟨rfl,rfl⟩
theorem ok76 {d:(List GI)} {res:(List GI)}  (a:yP d=some res):Sp 76 [.sl 5 (d.map GI.row)] h (OwnK h 5 res.length (res.map GI.row)):=by
 unfold yP at a;refine zb Tryz.func76 rfl (by kernel_rfl) (yV 8 rfl) (R.r ?_);refine vV rfl rfl el44 gg isl rfl (λ_=>ss) a (λf e a=>R.r ?_);refine zf gg a (λb a=>?_) (λb a=>?_)
 ·apply R.r;cases a;refine fr rfl (fin_own0 (row:=GI.row) (L:=([]:List GI)) ?_);exact ⟨rfl,rfl⟩
 ·apply R.r;refine zc rfl (zw (es:=([]:List GI).map GI.row) rfl el44 ze51 rfl rfl zq .nil rfl rfl rfl) ss (R.r ?_);refine yj a (λc a=>zc rfl (e_appN (m:=0) (T':=[((([]:List GI)++d)).length]) rfl rfl rfl rfl el44 el44 gg gg (za rfl) (za rfl) xd c rfl rfl) ss (R.r ?_));cases a;refine fr rfl (fin_own ?_);exact ⟨rfl,rfl⟩
theorem okM76 {d:(List GI)} {res:(List GI)}  (a:yP d=some res):Sp 76 [.sl 5 (d.map GI.row)] h (yy (.nsl 5 (res.map GI.row)) h):=by
 unfold yP at a;refine zb Tryz.func76 rfl (by kernel_rfl) (env:=[.sl 5 (d.map GI.row),aundef,aundef,aundef,aundef,aundef,aundef,aundef]) (by rfl) ?_;refine zW (zz ?_);refine zc rfl (zO rfl rfl (ty_nil el44)) st2 ?_;refine zD (zU (zW (zW (zz ?_))));refine zc rfl (zy rfl gt0 (za rfl)) st3 ?_;refine vV rfl rfl el44 gt3 isl rfl (λ_=>st4) a (λf e a=>zD (zU ?_));refine zf gt4 a (λb a=>?_) (λb a=>?_)
 ·refine zW (zz ?_);refine zc rfl (zO rfl rfl (ty_nil el44)) st2 ?_;refine zD (zU (r_ret (q_seq_ret ?_)));obtain rfl:=uJ a;refine q_retL1 rfl (wS gt2 qd) (fin_ext leV.nil_nsl rfl ?_);exact ⟨rfl,rfl⟩
 ·refine vm (zU (zW (zz ?_)));refine zc rfl (zw (es:=([]:List GI).map GI.row) rfl el44 ze51 rfl rfl zq .nil rfl rfl rfl) st5 ?_;refine zc rfl (zy rfl gt0 (za rfl)) st6 ?_;refine yj a (λc a=>ops_new rfl (s_anew rfl rfl rfl rfl el44 el44 gt5 gt6 (za rfl) (za rfl) xd (by simpa using c)) st7 ?_);refine zc rfl (zO rfl gt7 (za rfl)) st2 ?_;refine zD (zU (r_ret ?_));obtain rfl:=uJ a;refine q_retL1 rfl (wS gt2 qd) (fin_ext (leV.refl _) rfl ?_);exact ⟨rfl,rfl⟩
theorem ok77 {d:(List GF)} {res:(List GF)}  (a:y4 d=some res):Sp 77 [.sl 3 (d.map GF.row)] h (OwnK h 3 res.length (res.map GF.row)):=by
 unfold y4 at a;refine zb Tryz.func77 rfl (by kernel_rfl) (yV 8 rfl) (R.r ?_);refine vV rfl rfl el45 gg isl rfl (λ_=>ss) a (λf e a=>R.r ?_);refine zf gg a (λb a=>?_) (λb a=>?_)
 ·apply R.r;cases a;refine fr rfl (fin_own0 (row:=GF.row) (L:=([]:List GF)) ?_);exact ⟨rfl,rfl⟩
 ·apply R.r;refine zc rfl (zw (es:=([]:List GF).map GF.row) rfl el45 ze43 rfl rfl zq .nil rfl rfl rfl) ss (R.r ?_);refine yj a (λc a=>zc rfl (e_appN (m:=0) (T':=[((([]:List GF)++d)).length]) rfl rfl rfl rfl el45 el45 gg gg (za rfl) (za rfl) xd c rfl rfl) ss (R.r ?_));cases a;refine fr rfl (fin_own ?_);exact ⟨rfl,rfl⟩
theorem okM77 {d:(List GF)} {res:(List GF)}  (a:y4 d=some res):Sp 77 [.sl 3 (d.map GF.row)] h (yy (.nsl 3 (res.map GF.row)) h):=by
 unfold y4 at a;refine zb Tryz.func77 rfl (by kernel_rfl) (env:=[.sl 3 (d.map GF.row),aundef,aundef,aundef,aundef,aundef,aundef,aundef]) (by rfl) ?_;refine zW (zz ?_);refine zc rfl (zO rfl rfl (ty_nil el45)) st2 ?_;refine zD (zU (zW (zW (zz ?_))));refine zc rfl (zy rfl gt0 (za rfl)) st3 ?_;refine vV rfl rfl el45 gt3 isl rfl (λ_=>st4) a (λf e a=>zD (zU ?_));refine zf gt4 a (λb a=>?_) (λb a=>?_)
 ·refine zW (zz ?_);refine zc rfl (zO rfl rfl (ty_nil el45)) st2 ?_;refine zD (zU (r_ret (q_seq_ret ?_)));obtain rfl:=uJ a;refine q_retL1 rfl (wS gt2 qd) (fin_ext leV.nil_nsl rfl ?_);exact ⟨rfl,rfl⟩
 ·refine vm (zU (zW (zz ?_)));refine zc rfl (zw (es:=([]:List GF).map GF.row) rfl el45 ze43 rfl rfl zq .nil rfl rfl rfl) st5 ?_;refine zc rfl (zy rfl gt0 (za rfl)) st6 ?_;refine yj a (λc a=>ops_new rfl (s_anew rfl rfl rfl rfl el45 el45 gt5 gt6 (za rfl) (za rfl) xd (by simpa using c)) st7 ?_);refine zc rfl (zO rfl gt7 (za rfl)) st2 ?_;refine zD (zU (r_ret ?_));obtain rfl:=uJ a;refine q_retL1 rfl (wS gt2 qd) (fin_ext (leV.refl _) rfl ?_);exact ⟨rfl,rfl⟩
theorem ok84 {b:GE} {res:GE}  (a:vz b=some res):Sp 84 [.agg (GE.row b)] h (yy (.agg (GE.row res)) h):=by
 unfold vz at a;refine zb Tryz.func84 rfl (by kernel_rfl) (yV 12 rfl) (R.r ?_);refine yE (by kernel_rfl) (R.r ?_);refine zi a (λc e a=>wd rfl FOk.nil (by rfl) rfl (sc rfl) (vj (T':=[c.length]) (ok76 e) (m:=0) rfl rfl) ss (R.r ?_));refine zi a (λf d a=>wd rfl FOk.nil (by rfl) rfl (sc rfl) (vj (T':=[c.length,f.length]) (ok77 d) (m:=1) rfl rfl) ss (R.r ?_));refine zP rfl FOk.nil (by kernel_rfl) rfl (zQ (cs':=(GLeafRw b (osA h 0 5 (c.map GI.row)) (.sl 3 (b.tombs.map GF.row)))) rfl ty44 gg gg (za rfl) rfl rfl rfl rfl rfl) rfl (R.r ?_);refine zP rfl FOk.nil (by kernel_rfl) rfl (zQ (cs':=(GLeafRw b (osA h 0 5 (c.map GI.row)) (osA h 1 3 (f.map GF.row)))) rfl ty45 gg gg (za rfl) rfl rfl rfl rfl rfl) rfl (R.r ?_);cases a;exact fe rfl rfl (leV.agg (.eq (.eq (.eq (.eq (.eq (.eq (.eq (.cons (leV.osl _ _ _) (.cons (leV.osl _ _ _) leL.nil))))))))) rfl)
theorem okM84 {b:GE} {res:GE}  (a:vz b=some res):Sp 84 [.agg (GE.row b)] h (yy (.agg (GLeafRw res (.nsl 5 (res.items.map GI.row)) (.nsl 3 (res.tombs.map GF.row)))) h):=by
 unfold vz at a;refine zb Tryz.func84 rfl (by kernel_rfl) (yV 12 rfl) (R.r ?_);refine yE (by kernel_rfl) (R.r ?_);refine zi a (λe d a=>draw_call rfl rfl (sc rfl) (okM76 d) ss (R.r ?_));refine zi a (λf c a=>draw_call rfl rfl (sc rfl) (okM77 c) ss (R.r ?_));refine zP rfl FOk.nil (by kernel_rfl) rfl (zQ (cs':=(GLeafRw b (.nsl 5 (e.map GI.row)) (.sl 3 (b.tombs.map GF.row)))) rfl ty44 gg gg (za rfl) rfl rfl rfl rfl rfl) rfl (R.r ?_);refine zP rfl FOk.nil (by kernel_rfl) rfl (zQ (cs':=(GLeafRw b (.nsl 5 (e.map GI.row)) (.nsl 3 (f.map GF.row)))) rfl ty45 gg gg (za rfl) rfl rfl rfl rfl rfl) rfl (R.r ?_);cases a;exact fz rfl rfl
theorem ok48 {a:GC} {res:GC}  (c:x4 a=some res):Sp 48 [.agg (GC.row a)] h (yy (.agg (GC.row res)) h):=by
 unfold x4 at c;refine zb Tryz.func48 rfl (by kernel_rfl) (yV 16 rfl) (R.r ?_);refine yl [5,8] [] trivial mixed (by kernel_rfl) (R.r ?_);refine zi c (λd i c=>wd rfl (FOk.cons (.inr (yo trivial)) (FOk.cons (.inr (yo trivial)) FOk.nil)) (by rfl) rfl (sc rfl) (vj (T':=[d.length]) (ok91 i) (m:=0) rfl rfl) ss (R.r ?_));refine zi c (λb e c=>zK rfl rfl (λ_=>sc rfl) (by rintro _ ⟨B2,T2,rfl,g⟩;exact ok84 e) ss (R.r ?_));refine zi c (λv3 f c=>zK rfl rfl (λ_=>sc rfl) (by rintro _ ⟨B2,T2,rfl,g⟩;exact ok84 f) ss (R.r ?_));refine zP rfl (FOk.cons (.inr (yo trivial)) (FOk.cons (.inr (yo trivial)) FOk.nil)) (by kernel_rfl) rfl (zQ (cs':=[osA h 0 1 (d.map zC),.int .u8 a.typ,.bool a.had,.bool a.has,.int .u8 a.was.typ,.int .i64 a.was.n,.int .u64 a.was.time,.int .u8 a.was.dot.actor.rep,.int .u32 a.was.dot.actor.inc,.int .u64 a.was.dot.seq,.str a.was.text,.sl 5 (a.was.items.map GI.row),.sl 3 (a.was.tombs.map GF.row),.int .u8 a.is.typ,.int .i64 a.is.n,.int .u64 a.is.time,.int .u8 a.is.dot.actor.rep,.int .u32 a.is.dot.actor.inc,.int .u64 a.is.dot.seq,.str a.is.text,.sl 5 (a.is.items.map GI.row),.sl 3 (a.is.tombs.map GF.row)]) rfl ty37 gg gg (za rfl) rfl rfl rfl rfl rfl) rfl (R.r ?_);refine zP rfl (FOk.cons (.inr (yo trivial)) (FOk.cons (.inr (yo trivial)) FOk.nil)) (by kernel_rfl) rfl (zQ (cs':=[osA h 0 1 (d.map zC),.int .u8 a.typ,.bool a.had,.bool a.has,.int .u8 b.typ,.int .i64 b.n,.int .u64 b.time,.int .u8 b.dot.actor.rep,.int .u32 b.dot.actor.inc,.int .u64 b.dot.seq,.str b.text,.sl 5 (b.items.map GI.row),.sl 3 (b.tombs.map GF.row),.int .u8 a.is.typ,.int .i64 a.is.n,.int .u64 a.is.time,.int .u8 a.is.dot.actor.rep,.int .u32 a.is.dot.actor.inc,.int .u64 a.is.dot.seq,.str a.is.text,.sl 5 (a.is.items.map GI.row),.sl 3 (a.is.tombs.map GF.row)]) rfl ty47.choose_spec.1 gg gg (za rfl) rfl rfl rfl rfl rfl) rfl (R.r ?_);refine zP rfl (FOk.cons (.inr (yo trivial)) (FOk.cons (.inr (yo trivial)) FOk.nil)) (by kernel_rfl) rfl (zQ (cs':=[osA h 0 1 (d.map zC),.int .u8 a.typ,.bool a.had,.bool a.has,.int .u8 b.typ,.int .i64 b.n,.int .u64 b.time,.int .u8 b.dot.actor.rep,.int .u32 b.dot.actor.inc,.int .u64 b.dot.seq,.str b.text,.sl 5 (b.items.map GI.row),.sl 3 (b.tombs.map GF.row),.int .u8 v3.typ,.int .i64 v3.n,.int .u64 v3.time,.int .u8 v3.dot.actor.rep,.int .u32 v3.dot.actor.inc,.int .u64 v3.dot.seq,.str v3.text,.sl 5 (v3.items.map GI.row),.sl 3 (v3.tombs.map GF.row)]) rfl ty47.choose_spec.1 gg gg (za rfl) rfl rfl rfl rfl rfl) rfl (R.r ?_);cases c;exact fe rfl rfl (leV.agg (.cons (leV.osl _ _ _) (.eq (.eq (.eq (.eq (.eq (.eq (.eq (.eq (.eq (.eq (.eq (.eq (.eq (.eq (.eq (.eq (.eq (.eq (.eq (.eq (.eq leL.nil)))))))))))))))))))))) rfl)
theorem okM48 {a:GC} {res:GC}  (c:x4 a=some res):Sp 48 [.agg (GC.row a)] h (yy (.agg [.nsl 1 (res.path.map zC),.int .u8 res.typ,.bool res.had,.bool res.has,.int .u8 res.was.typ,.int .i64 res.was.n,.int .u64 res.was.time,.int .u8 res.was.dot.actor.rep,.int .u32 res.was.dot.actor.inc,.int .u64 res.was.dot.seq,.str res.was.text,.nsl 5 (res.was.items.map GI.row),.nsl 3 (res.was.tombs.map GF.row),.int .u8 res.is.typ,.int .i64 res.is.n,.int .u64 res.is.time,.int .u8 res.is.dot.actor.rep,.int .u32 res.is.dot.actor.inc,.int .u64 res.is.dot.seq,.str res.is.text,.nsl 5 (res.is.items.map GI.row),.nsl 3 (res.is.tombs.map GF.row)]) h):=by
 unfold x4 at c;refine zb Tryz.func48 rfl (by kernel_rfl) (yV 16 rfl) (R.r ?_);refine yl [5,8] [] trivial mixed (by kernel_rfl) (R.r ?_);refine zi c (λi g c=>draw_call rfl rfl (sc rfl) (okM91 g) ss (R.r ?_));refine zi c (λb d c=>zK rfl rfl (λ_=>sc rfl) (by rintro _ ⟨B2,T2,rfl,f⟩;exact okM84 d) ss (R.r ?_));refine zi c (λv3 e c=>zK rfl rfl (λ_=>sc rfl) (by rintro _ ⟨B2,T2,rfl,f⟩;exact okM84 e) ss (R.r ?_));refine zP rfl (FOk.cons (.inr (yo trivial)) (FOk.cons (.inr (yo trivial)) FOk.nil)) (by kernel_rfl) rfl (zQ (cs':=[.nsl 1 (i.map zC),.int .u8 a.typ,.bool a.had,.bool a.has,.int .u8 a.was.typ,.int .i64 a.was.n,.int .u64 a.was.time,.int .u8 a.was.dot.actor.rep,.int .u32 a.was.dot.actor.inc,.int .u64 a.was.dot.seq,.str a.was.text,.sl 5 (a.was.items.map GI.row),.sl 3 (a.was.tombs.map GF.row),.int .u8 a.is.typ,.int .i64 a.is.n,.int .u64 a.is.time,.int .u8 a.is.dot.actor.rep,.int .u32 a.is.dot.actor.inc,.int .u64 a.is.dot.seq,.str a.is.text,.sl 5 (a.is.items.map GI.row),.sl 3 (a.is.tombs.map GF.row)]) rfl ty37 gg gg (za rfl) rfl rfl rfl rfl rfl) rfl (R.r ?_);refine zP rfl (FOk.cons (.inr (yo trivial)) (FOk.cons (.inr (yo trivial)) FOk.nil)) (by kernel_rfl) rfl (zQ (cs':=[.nsl 1 (i.map zC),.int .u8 a.typ,.bool a.had,.bool a.has,.int .u8 b.typ,.int .i64 b.n,.int .u64 b.time,.int .u8 b.dot.actor.rep,.int .u32 b.dot.actor.inc,.int .u64 b.dot.seq,.str b.text,.nsl 5 (b.items.map GI.row),.nsl 3 (b.tombs.map GF.row),.int .u8 a.is.typ,.int .i64 a.is.n,.int .u64 a.is.time,.int .u8 a.is.dot.actor.rep,.int .u32 a.is.dot.actor.inc,.int .u64 a.is.dot.seq,.str a.is.text,.sl 5 (a.is.items.map GI.row),.sl 3 (a.is.tombs.map GF.row)]) rfl ty47.choose_spec.1 gg gg (za rfl) rfl rfl rfl rfl rfl) rfl (R.r ?_);refine zP rfl (FOk.cons (.inr (yo trivial)) (FOk.cons (.inr (yo trivial)) FOk.nil)) (by kernel_rfl) rfl (zQ (cs':=[.nsl 1 (i.map zC),.int .u8 a.typ,.bool a.had,.bool a.has,.int .u8 b.typ,.int .i64 b.n,.int .u64 b.time,.int .u8 b.dot.actor.rep,.int .u32 b.dot.actor.inc,.int .u64 b.dot.seq,.str b.text,.nsl 5 (b.items.map GI.row),.nsl 3 (b.tombs.map GF.row),.int .u8 v3.typ,.int .i64 v3.n,.int .u64 v3.time,.int .u8 v3.dot.actor.rep,.int .u32 v3.dot.actor.inc,.int .u64 v3.dot.seq,.str v3.text,.nsl 5 (v3.items.map GI.row),.nsl 3 (v3.tombs.map GF.row)]) rfl ty47.choose_spec.1 gg gg (za rfl) rfl rfl rfl rfl rfl) rfl (R.r ?_);cases c;exact fz rfl rfl
theorem ok139 {x0:zd}  (a:xz x0=some res):Sp 139 [.str x0] h (yy (.bool res) h):=by
 unfold xz at a;refine zb Tryz.func139 rfl (by kernel_rfl) (yV 6 rfl) (R.r ?_);cases a;exact fz rfl rfl
theorem ok108 {x0:zd} {y1:zd} {res:Int}  (a:yA x0 y1=some res):Sp 108 [.str x0,.str y1] h (yy (.int .i64 res) h):=by
 unfold yA at a;refine zb Tryz.func108 rfl (by kernel_rfl) (yV 20 rfl) (R.r ?_);refine zi a (λk f a=>cp (ok139 f) (R.r ?_));refine zi a (λj b a=>cp (ok139 b) (R.r ?_));refine zf gg a (λi a=>?_) (λi a=>?_)
 ·apply R.r;refine zf gg a (λd a=>?_) (λd a=>?_)
  ·apply R.r;cases a;exact fz rfl rfl
  ·apply R.r;cases a;exact fz rfl rfl
 ·apply R.r;refine zf gg a (λc a=>?_) (λc a=>?_)
  ·apply R.r;cases a;exact fz rfl rfl
  ·apply R.r;refine zf gg a (λe a=>?_) (λe a=>?_)
   ·apply R.r;cases a;exact fz rfl rfl
   ·apply R.r;refine zf gg a (λg a=>?_) (λg a=>?_)
    ·apply R.r;cases a;exact fz rfl rfl
    ·apply R.r;cases a;exact fz rfl rfl
theorem ok64 {l:(List zd)} {m:(List zd)} {res:Int}  (a:yJ l m=some res):Sp 64 [.sl 1 (l.map zC),.sl 1 (m.map zC)] h (yy (.int .i64 res) h):=by
 unfold yJ at a;refine zb Tryz.func64 rfl (by kernel_rfl) (yV 36 rfl) (R.r ?_);refine ln λf=>?_;replace f:=zZ f;apply R.r;refine zB (λ(w:Nat) (u:Unit)=>zo 2 7 (zo 12 24 [(11,.int .i64 (w:Int))])) (λu=>h.ext [] []) a (λ_ _=>by simp only [zo,x5,ue,uf];try rfl) (wk.le LEL.o) ?_;intro w u x a;apply R.r;refine zL gg a (λB A s p a e=>?_) (λa=>?_)
 ·apply R.r;refine ix (zF p) (R.r ?_);refine ln λc=>?_;replace c:=zZ c;apply R.r;refine zf gg a (λk a=>?_) (λk a=>?_)
  ·apply R.r;cases a;replace a:=e;apply R.r;cases a;exact fz rfl rfl
  ·apply R.r;refine zi a (λz j a=>ix j (R.r ?_));refine zi a (λy n a=>cp (ok108 n) (R.r ?_));refine zf gg a (λg a=>?_) (λg a=>?_)
   ·apply R.r;cases a;replace a:=e;apply R.r;cases a;exact fz rfl rfl
   ·apply R.r;cases a;exact ⟨(),s,e,wk.le (by exact (.eq (.eq (.d4 (.drop (.drop (.drop (.eq (.eq (.cons (leV.of_eq (yF (by omega) (by omega))) (.d16 (.d4 (.d4 leL.nil)))))))))))))⟩
 ·apply R.r;refine ln λd=>?_;replace d:=zZ d;apply R.r;refine ln λb=>?_;replace b:=zZ b;apply R.r;refine zf gg a (λi a=>?_) (λi a=>?_)
  ·apply R.r;cases a;exact fz rfl rfl
  ·apply R.r;cases a;exact fz rfl rfl
theorem ok109  (a:w9 x0=some res):Sp 109 [.int .u8 x0] h (yy (.bool res) h):=by
 unfold w9 at a;refine zb Tryz.func109 rfl (by kernel_rfl) (yV 6 rfl) (R.r ?_);cases a;exact fz rfl rfl
theorem ok65 {res:Int}  (a:xA x0 y1=some res):Sp 65 [.int .u8 x0,.int .u8 y1] h (yy (.int .i64 res) h):=by
 unfold xA at a;refine zb Tryz.func65 rfl (by kernel_rfl) (yV 20 rfl) (R.r ?_);refine zi a (λk f a=>cp (ok109 f) (R.r ?_));refine zi a (λj c a=>cp (ok109 c) (R.r ?_));refine zf gg a (λi a=>?_) (λi a=>?_)
 ·apply R.r;refine zf gg a (λd a=>?_) (λd a=>?_)
  ·apply R.r;cases a;exact fz rfl rfl
  ·apply R.r;cases a;exact fz rfl rfl
 ·apply R.r;refine zf gg a (λb a=>?_) (λb a=>?_)
  ·apply R.r;cases a;exact fz rfl rfl
  ·apply R.r;refine zf gg a (λe a=>?_) (λe a=>?_)
   ·apply R.r;cases a;exact fz rfl rfl
   ·apply R.r;refine zf gg a (λg a=>?_) (λg a=>?_)
    ·apply R.r;cases a;exact fz rfl rfl
    ·apply R.r;cases a;exact fz rfl rfl
theorem ok63 {b:(List Int)} {res:Int}  (a:cmpOrInt b=some res):Sp 63 [.sl 1 (b.map (intRow .i64))] h (yy (.int .i64 res) h):=by
 unfold cmpOrInt at a;refine zb Tryz.func63 rfl (by kernel_rfl) (yV 18 rfl) (R.r ?_);refine ln λc=>?_;replace c:=zZ c;apply R.r;refine zB (λ(i:Nat) (j:Unit)=>zo 0 3 (zo 4 2 (zo 9 9 [(8,.int .i64 (i:Int))]))) (λj=>h.ext [] []) a (λ_ _=>by simp only [zo,x5,ue,uf];try rfl) (wk.le LEL.o) ?_;intro i j k a;apply R.r;refine zL gg a (λl m e g a d=>?_) (λa=>?_)
 ·apply R.r;refine ix (zF g) (R.r ?_);refine zf gg a (λf a=>?_) (λf a=>?_)
  ·apply R.r;cases a;replace a:=d;apply R.r;cases a;exact fz rfl rfl
  ·apply R.r;cases a;exact ⟨(),e,d,wk.le (by exact (.drop (.drop (.drop (.eq (.drop (.drop (.eq (.eq (.cons (leV.of_eq (yF (by omega) (by omega))) (.d4 (.d4 (.drop leL.nil)))))))))))))⟩
 ·apply R.r;cases a;exact fz rfl rfl
theorem ok35 {a0:GC} {f:GC} {res:Int}  (a:wz a0 f=some res):Sp 35 [.agg (GC.row a0),.agg (GC.row f)] h (yy (.int .i64 res) h):=by
 unfold wz at a;refine zb Tryz.func35 rfl (by kernel_rfl) (yV 17 rfl) (R.r ?_);refine yl [4,9,11] [] trivial mixed (by kernel_rfl) (R.r ?_);refine zi a (λi e a=>zK rfl rfl (λ_=>sc rfl) (by rintro _ ⟨B2,T2,rfl,b⟩;exact ok64 e) ss (R.r ?_));refine zi a (λg c a=>zK rfl rfl (λ_=>sc rfl) (by rintro _ ⟨B2,T2,rfl,b⟩;exact ok65 c) ss ?_);refine zx rfl rfl (zw (es:=([i,g]:List Int).map (intRow .i64)) rfl el141 ze3 rfl rfl (zk gg (zk gg zq)) (.cons (za rfl) (.cons (za rfl) .nil)) rfl rfl rfl) ss ?_;refine zi a (λv3 d a=>zK rfl rfl (λ_=>sc rfl) (by rintro _ ⟨B2,T2,rfl,b⟩;exact (ok63 d).le (.cons (leV.osl _ _ _) leL.nil)) ss (R.r ?_));cases a;exact fz rfl rfl
def sort54TryzRen:Go.Shelf.Ren :=
  { f:=λx=>match x with
      | 6=>54
      | 15=>99
      | 14=>98
      | 28=>131
      | 29=>132
      | 20=>123
      | 21=>124
      | 22=>125
      | 23=>126
      | 24=>127
      | 25=>128
      | 26=>129
      | 27=>130
      | 46=>152
      | 47=>153
      | 48=>154
      | 49=>155
      | 50=>156
      | 57=>166
      | n=>n
    t:=λx=>match x with
      | 22=>24
      | 24=>49
      | 25=>70
      | 3=>3
      | 39=>134
      | 0=>0
      | 53=>39
      | 55=>38
      | 4=>4
      | 46=>155
      | 45=>154
      | 50=>109
      | 5=>5
      | 9=>9
      | 66=>175
      | 70=>179
      | 76=>190
      | 77=>191
      | n=>n
    g:=λn=>n }
theorem sort54TryzLays:Go.Proofs.SlLaysF0.n6 Tryz.prog sort54TryzRen where
  mixed:=mixed
  f6:=⟨Tryz.f54.name,by kernel_rfl,Tryz.func54.trans (by kernel_rfl)⟩
  f15:=Tryz.func99.trans (by kernel_rfl)
  f14:=⟨Tryz.f98.name,by kernel_rfl,Tryz.func98.trans (by kernel_rfl)⟩
  f28:=Tryz.func131.trans (by kernel_rfl)
  f29:=Tryz.func132.trans (by kernel_rfl)
  f20:=⟨Tryz.f123.name,by kernel_rfl,Tryz.func123.trans (by kernel_rfl)⟩
  f21:=⟨Tryz.f124.name,by kernel_rfl,Tryz.func124.trans (by kernel_rfl)⟩
  f22:=⟨Tryz.f125.name,by kernel_rfl,Tryz.func125.trans (by kernel_rfl)⟩
  f23:=⟨Tryz.f126.name,by kernel_rfl,Tryz.func126.trans (by kernel_rfl)⟩
  f24:=⟨Tryz.f127.name,by kernel_rfl,Tryz.func127.trans (by kernel_rfl)⟩
  f25:=⟨Tryz.f128.name,by kernel_rfl,Tryz.func128.trans (by kernel_rfl)⟩
  f26:=⟨Tryz.f129.name,by kernel_rfl,Tryz.func129.trans (by kernel_rfl)⟩
  f27:=⟨Tryz.f130.name,by kernel_rfl,Tryz.func130.trans (by kernel_rfl)⟩
  f46:=⟨Tryz.f152.name,by kernel_rfl,Tryz.func152.trans (by kernel_rfl)⟩
  f47:=Tryz.func153.trans (by kernel_rfl)
  f48:=Tryz.func154.trans (by kernel_rfl)
  f49:=⟨Tryz.f155.name,by kernel_rfl,Tryz.func155.trans (by kernel_rfl)⟩
  f50:=⟨Tryz.f156.name,by kernel_rfl,Tryz.func156.trans (by kernel_rfl)⟩
  f57:=⟨Tryz.f166.name,by kernel_rfl,Tryz.func166.trans (by kernel_rfl)⟩
  t0:=Tryz.underlying0
  a0:=Tryz.isAgg0
  z0:=Tryz.sizeOf0
  v0:=Tryz.zeroValue0
  t3:=Tryz.underlying3
  a3:=Tryz.isAgg3
  z3:=Tryz.sizeOf3
  v3:=Tryz.zeroValue3
  t4:=Tryz.underlying4
  a4:=Tryz.isAgg4
  z4:=Tryz.sizeOf4
  v4:=Tryz.zeroValue4
  t5:=Tryz.underlying5
  a5:=Tryz.isAgg5
  z5:=Tryz.sizeOf5
  v5:=Tryz.zeroValue5
  t9:=Tryz.underlying9
  a9:=Tryz.isAgg9
  z9:=Tryz.sizeOf9
  v9:=Tryz.zeroValue9
  t22:=Tryz.underlying24
  a22:=Tryz.isAgg24
  z22:=Tryz.sizeOf24
  v22:=Tryz.zeroValue24
  t25:=Tryz.underlying70
  a25:=Tryz.isAgg70
  z25:=Tryz.sizeOf70
  v25:=Tryz.zeroValue70
  t39:=Tryz.underlying134
  a39:=Tryz.isAgg134
  z39:=Tryz.sizeOf134
  v39:=Tryz.zeroValue134
  t45:=Tryz.underlying154
  a45:=Tryz.isAgg154
  z45:=Tryz.sizeOf154
  v45:=Tryz.zeroValue154
  t46:=Tryz.underlying155
  a46:=Tryz.isAgg155
  z46:=Tryz.sizeOf155
  v46:=Tryz.zeroValue155
  t50:=Tryz.underlying109
  a50:=Tryz.isAgg109
  z50:=Tryz.sizeOf109
  v50:=Tryz.zeroValue109
  t53:=Tryz.underlying39
  a53:=Tryz.isAgg39
  z53:=Tryz.sizeOf39
  v53:=Tryz.zeroValue39
  t55:=Tryz.underlying38
  a55:=Tryz.isAgg38
  z55:=Tryz.sizeOf38
  v55:=Tryz.zeroValue38
  t66:=Tryz.underlying175
  a66:=Tryz.isAgg175
  z66:=Tryz.sizeOf175
  v66:=Tryz.zeroValue175
  t70:=Tryz.underlying179
  a70:=Tryz.isAgg179
  z70:=Tryz.sizeOf179
  v70:=Tryz.zeroValue179
  t76:=Tryz.underlying190
  a76:=Tryz.isAgg190
  z76:=Tryz.sizeOf190
  v76:=Tryz.zeroValue190
  t77:=Tryz.underlying191
  a77:=Tryz.isAgg191
  z77:=Tryz.sizeOf191
  v77:=Tryz.zeroValue191
theorem ok24 {e:List (zd×GC)} {res:(List GC)} (f:h.blk mbyy0=some (.mapo (e.map (xY AV.str (λx=>AV.agg (GC.row x)))) 0)) (d:xk e=some res):Sp 24 [.map mbyy0] h (yy (.sl 22 (res.map GC.row)) h):=by
 unfold xk at d;refine zb Tryz.func24 rfl (by kernel_rfl) (env:=[.map mbyy0,aundef,aundef,aundef,aundef,aundef,aundef,aundef,aundef,aundef,aundef,aundef,aundef,aundef,aundef,aundef,aundef,aundef,aundef,aundef,aundef,aundef,aundef,aundef,aundef,aundef,aundef,aundef,aundef,aundef,aundef,aundef]) (by rfl) ?_;have a:=blk_lt f rfl;have b:∀k,mbyy0 < h.blks.length+k:=λk=>tv a (tR _ _);refine zW (zz ?_);refine zc rfl (zO rfl rfl (ty_nil el24)) st2 ?_;refine zD (zU (zW (zW (zz ?_))));refine zc rfl (zy rfl gt0 (za rfl)) st5 ?_;refine ops_rangeM (kv:=AV.str) (vv:=(λx=>AV.agg (GC.row x))) rfl rfl Tryz.underlying57 gt5 (blk_old f) rfl st6 rfl ?_;refine zD (zU (vh ?_));refine r_loopMF (λ(o:(List GC))=>[(0,.any),(1,.any),(2,rsA h 1 0 22 (o.length)),(3,.any),(4,.any),(5,.any),(7,.any),(8,.any),(9,.any),(10,.any),(11,.any),(12,.any),(13,.any),(14,.any),(15,.any),(16,.any),(17,.any),(18,.any),(19,.any),(20,.any),(21,.any),(22,.any),(23,.any),(24,.any),(25,.any),(26,.any),(27,.any),(28,.any),(29,.any),(30,.any),(31,.any)]) (λc o=>h.ext [.miter mbyy0 e.length c,rwA h 0 22 (o.map GC.row)] [o.length]) d (λ_=>by simp only [x5,ue,uf];try rfl) (wk.trans ((swk_thaw gt2 rfl rfl st2 rfl rfl).wk) (wk.le (by exact (.drop (.drop (.cons (leV.of_eq rfl) (.drop (.drop (.drop (.eq (.d16 (.d4 (.d4 (.drop leL.nil)))))))))))))) ?_;intro c o d;refine zW (zz ?_);refine ops_nextMF rfl rfl gt6 rfl (blk_old f) st7 d (λC w G A p d y=>⟨_,st7,?_⟩) (λd=>?_)
 ·refine zc rfl (yu rfl gt7 rfl (za rfl)) st8 ?_;refine zD (zU (zW ?_));refine r_cond gt8 (λ_=>?_) (λhh=>by cases hh);refine vm (zU (vh (zW (zz ?_))));refine ops_entryM rfl rfl gt6 rfl (blk_old f) A st9 ?_;refine zc rfl (yu rfl gt9 rfl (za rfl)) st10 ?_;refine zc rfl (wy (n:=2) rfl ze49 rfl) st4 ?_;refine zc rfl (zQ (cs':=(GC.row w.2)) rfl ty49.choose_spec.1 gt4 gt10 (za rfl) rfl rfl rfl rfl rfl) rfl ?_;refine zD (zU (zW (zz ?_)));refine zc rfl (zH rfl fo49x2 gt4 rfl) st11 ?_;refine zc rfl (yG rfl ty4 gt11 rfl (yd rfl) (za rfl)) st12 ?_;refine zc rfl (zH rfl fo49x3 gt4 rfl) st13 ?_;refine zc rfl (yG rfl ty4 gt13 rfl (yd rfl) (za rfl)) st14 ?_;refine zc rfl (yK rfl gt12 gt14 (bin_boolE ty4)) st15 ?_;refine zc rfl (zy rfl gt15 (za rfl)) st16 ?_;refine z7 rfl (λl=>zH rfl fo49x4 gt4 rfl) st17 ?_;refine z7 rfl (λl=>yG rfl ty47.choose_spec.1 (zI gt17 l) rfl (yR (cs':=(GE.row w.2.was)) ty47.choose_spec.2 rfl rfl) (za rfl)) st18 ?_;refine z7 rfl (λl=>zH rfl fo49x5 gt4 rfl) st19 ?_;refine z7 rfl (λl=>yG rfl ty47.choose_spec.1 (zI gt19 l) rfl (yR (cs':=(GE.row w.2.is)) ty47.choose_spec.2 rfl rfl) (za rfl)) st20 ?_;refine zN d (λF D d=>zA rfl (λl=>yc rfl rfl rfl (zu (zI gt18 l) (zu (zI gt20 l) zV)) (.cons (za rfl) (.cons (za rfl) .nil))) (λl=>ok32 (D l)) st21 ?_);refine zc rfl (qu rfl gt16 gt21 rfl (pick_and (λE=>gT E))) st22 ?_;refine zc rfl (s_un rfl gt22 rfl) st23 ?_;refine zD (zU ?_);refine zf gt23 d (λB d=>?_) (λB d=>?_)
  ·refine zz ?_;refine zc rfl (zy rfl gt2 (za rfl)) st24 ?_;refine zc rfl (yG rfl ty49.choose_spec.1 gt4 rfl (yR (cs':=(GC.row w.2)) ty49.choose_spec.2 rfl rfl) (za rfl)) st25 ?_;refine zi d (λv9 z d=>yb rfl (yc rfl rfl rfl (zu gt25 zV) (.cons (za rfl) .nil)) (ok48 z) st26 ?_);refine zc rfl (zw (es:=([v9]:List GC).map GC.row) rfl el24 ze49 rfl rfl (zk gt26 zq) (.cons (za rfl) .nil) rfl rfl rfl) st27 ?_;refine yj d (λs d=>zc rfl (e_appR (i:=1) (j:=0) (B':=[.miter mbyy0 e.length (c++[C]),rwA h 0 22 ((o++([v9]:List GC)).map GC.row),.cells (GC.row w.2)]) (T':=[((o++([v9]:List GC))).length]) rfl rfl rfl rfl el24 el24 gt24 gt27 rfl (za rfl) yq s rfl rfl rfl rfl rfl) st28 ?_);refine zc rfl (zO rfl gt28 (za rfl)) st2 ?_;refine zD (q_block (q_loop ?_));obtain rfl:=uJ d;exact ⟨C,(o++([v9]:List GC)),p,y,wk.trans (wk.le (by exact (.drop (.drop (.cons (leV.of_eq rfl) (.drop (.drop (.drop (.eq (.d16 (.d4 (.d4 (.drop leL.nil))))))))))))) (z8 (by simp [zG,AV.low,a,b]) rfl rfl (by simp [Blk.low,zG,AV.low,a,b]))⟩
  ·refine vm (q_block (q_loop ?_));obtain rfl:=uJ d;exact ⟨C,o,p,y,wk.trans (wk.le (by exact (.drop (.drop (.cons (leV.of_eq rfl) (.drop (.drop (.drop (.eq (.d16 (.d4 (.d4 (.drop leL.nil))))))))))))) (z8 (by simp [zG,AV.low,a,b]) rfl rfl (by simp [Blk.low,zG,AV.low,a,b]))⟩
 ·refine zc rfl (yu rfl gt7 rfl (za rfl)) st8 ?_;refine zD (zU (zW ?_));refine r_cond gt8 (λhh=>by cases hh) (λ_=>r_exit ?_);refine vF ?_;refine wW ?_;refine wX ?_;refine zU (zW (zz ?_));refine zc rfl (zy rfl gt2 (za rfl)) st29 ?_;refine zi d (λu g d=>xU rfl (yc rfl rfl rfl (zu gt29 (zu rfl zV)) (.cons (za rfl) (.cons (za rfl) .nil))) (spec_sortO sort54TryzLays Tryz.isAgg49 Tryz.sizeOf49 (λ_=>rfl) (λ_=>rfl) (λ_=>by simp [plL,AV.pl,plE_map,zC,intRow,byteRow,boolRow,GJ.row,GF.row,GI.row,GE.row,GC.row]) (enters_fn Tryz.func35 rfl (by kernel_rfl)) (λ_ _ _ h=>ok35 h) g (i:=1) (B':=[.miter mbyy0 e.length c,rwA h 0 22 (u.map GC.row)]) rfl rfl) st30 ?_);refine zD ?_;refine q_seqw ((swk_freeze (j:=1) (m:=0) (B':=[.miter mbyy0 e.length c,.dead]) (T':=[(u.map GC.row).length+1]) rfl (by exact (FzL.cons (FzA.same _) (FzL.cons (FzA.same _) (FzL.cons (FzA.hit2 _ _ (by rw [uA];exact pL (sortO_len g))) (FzL.cons (FzA.same _) (FzL.cons (FzA.same _) (FzL.cons (FzA.same _) (FzL.cons (FzA.same _) (FzL.cons (FzA.same _) (FzL.cons (FzA.same _) (FzL.cons (FzA.same _) (FzL.cons (FzA.same _) (FzL.cons (FzA.same _) (FzL.cons (FzA.same _) (FzL.cons (FzA.same _) (FzL.cons (FzA.same _) (FzL.cons (FzA.same _) (FzL.cons (FzA.same _) (FzL.cons (FzA.same _) (FzL.cons (FzA.same _) (FzL.cons (FzA.same _) (FzL.cons (FzA.same _) (FzL.cons (FzA.same _) (FzL.cons (FzA.same _) (FzL.cons (FzA.same _) (FzL.cons (FzA.same _) (FzL.cons (FzA.same _) (FzL.cons (FzA.same _) (FzL.cons (FzA.same _) (FzL.cons (FzA.same _) (FzL.cons (FzA.hit2 _ _ (by rw [uA];exact pL (sortO_len g))) (FzL.refl _)))))))))))))))))))))))))))))))) rfl rfl).wk) ?_;refine zW (zz ?_);refine zc rfl (zy rfl gt2 (za rfl)) st31 ?_;refine zc rfl (zO rfl gt31 (za rfl)) st2 ?_;refine zD (zU (r_ret ?_));obtain rfl:=uJ d;refine q_retL1 rfl (wS gt2 qd) (fin_ext (leV.refl _) rfl ?_);exact ⟨rfl,rfl⟩
theorem okM24 {f:List (zd×GC)} {G y:Nat} {res:(List GC)} (w:h.blks.length=G) (z:h.toks.length=y) (e:h.blk mbyy0=some (.mapo (f.map (xY AV.str (λx=>AV.agg (GC.row x)))) 0)) (c:xk f=some res):Sp 24 [.map mbyy0] h (yy (.rsl G y 22 res.length) (h.ext [.row y 22 (res.map GC.rowN)] [res.length])):=by
 unfold xk at c;subst w z;refine zb Tryz.func24 rfl (by kernel_rfl) (env:=[.map mbyy0,aundef,aundef,aundef,aundef,aundef,aundef,aundef,aundef,aundef,aundef,aundef,aundef,aundef,aundef,aundef,aundef,aundef,aundef,aundef,aundef,aundef,aundef,aundef,aundef,aundef,aundef,aundef,aundef,aundef,aundef,aundef]) (by rfl) ?_;have a:=blk_lt e rfl;have b:∀k,mbyy0 < h.blks.length+k:=λk=>tv a (tR _ _);refine zW (zz ?_);refine zc rfl (zO rfl rfl (ty_nil el24)) st2 ?_;refine zD (zU (zW (zW (zz ?_))));refine zc rfl (zy rfl gt0 (za rfl)) st5 ?_;refine ops_rangeM (kv:=AV.str) (vv:=(λx=>AV.agg (GC.row x))) rfl rfl Tryz.underlying57 gt5 (blk_old e) rfl st6 rfl ?_;refine zD (zU (vh ?_));refine r_loopMF (λ(l:(List GC))=>[(0,.any),(1,.any),(2,rsA h 1 0 22 (l.length)),(3,.any),(4,.any),(5,.any),(7,.any),(8,.any),(9,.any),(10,.any),(11,.any),(12,.any),(13,.any),(14,.any),(15,.any),(16,.any),(17,.any),(18,.any),(19,.any),(20,.any),(21,.any),(22,.any),(23,.any),(24,.any),(25,.any),(26,.any),(27,.any),(28,.any),(29,.any),(30,.any),(31,.any)]) (λd l=>h.ext [.miter mbyy0 f.length d,rwA h 0 22 (l.map GC.rowN)] [l.length]) c (λ_=>by simp only [x5,ue,uf];try rfl) (wk.trans ((swk_thaw gt2 rfl rfl st2 rfl rfl).wk) (wk.le (by exact (.drop (.drop (.cons (leV.of_eq rfl) (.drop (.drop (.drop (.eq (.d16 (.d4 (.d4 (.drop leL.nil)))))))))))))) ?_;intro d l c;refine zW (zz ?_);refine ops_nextMF rfl rfl gt6 rfl (blk_old e) st7 c (λD s J B o c u=>⟨_,st7,?_⟩) (λc=>?_)
 ·refine zc rfl (yu rfl gt7 rfl (za rfl)) st8 ?_;refine zD (zU (zW ?_));refine r_cond gt8 (λ_=>?_) (λhh=>by cases hh);refine vm (zU (vh (zW (zz ?_))));refine ops_entryM rfl rfl gt6 rfl (blk_old e) B st9 ?_;refine zc rfl (yu rfl gt9 rfl (za rfl)) st10 ?_;refine zc rfl (wy (n:=2) rfl ze49 rfl) st4 ?_;refine zc rfl (zQ (cs':=(GC.row s.2)) rfl ty49.choose_spec.1 gt4 gt10 (za rfl) rfl rfl rfl rfl rfl) rfl ?_;refine zD (zU (zW (zz ?_)));refine zc rfl (zH rfl fo49x2 gt4 rfl) st11 ?_;refine zc rfl (yG rfl ty4 gt11 rfl (yd rfl) (za rfl)) st12 ?_;refine zc rfl (zH rfl fo49x3 gt4 rfl) st13 ?_;refine zc rfl (yG rfl ty4 gt13 rfl (yd rfl) (za rfl)) st14 ?_;refine zc rfl (yK rfl gt12 gt14 (bin_boolE ty4)) st15 ?_;refine zc rfl (zy rfl gt15 (za rfl)) st16 ?_;refine z7 rfl (λg=>zH rfl fo49x4 gt4 rfl) st17 ?_;refine z7 rfl (λg=>yG rfl ty47.choose_spec.1 (zI gt17 g) rfl (yR (cs':=(GE.row s.2.was)) ty47.choose_spec.2 rfl rfl) (za rfl)) st18 ?_;refine z7 rfl (λg=>zH rfl fo49x5 gt4 rfl) st19 ?_;refine z7 rfl (λg=>yG rfl ty47.choose_spec.1 (zI gt19 g) rfl (yR (cs':=(GE.row s.2.is)) ty47.choose_spec.2 rfl rfl) (za rfl)) st20 ?_;refine zN c (λI E c=>zA rfl (λg=>yc rfl rfl rfl (zu (zI gt18 g) (zu (zI gt20 g) zV)) (.cons (za rfl) (.cons (za rfl) .nil))) (λg=>ok32 (E g)) st21 ?_);refine zc rfl (qu rfl gt16 gt21 rfl (pick_and (λH=>gT H))) st22 ?_;refine zc rfl (s_un rfl gt22 rfl) st23 ?_;refine zD (zU ?_);refine zf gt23 c (λC c=>?_) (λC c=>?_)
  ·refine zz ?_;refine zc rfl (zy rfl gt2 (za rfl)) st24 ?_;refine zc rfl (yG rfl ty49.choose_spec.1 gt4 rfl (yR (cs':=(GC.row s.2)) ty49.choose_spec.2 rfl rfl) (za rfl)) st25 ?_;refine zi c (λv9 A c=>yb rfl (yc rfl rfl rfl (zu gt25 zV) (.cons (za rfl) .nil)) (okM48 A) st26 ?_);refine zc rfl (zw (es:=([v9]:List GC).map GC.rowN) rfl el24 ze49 rfl rfl (zk gt26 zq) (.cons (za rfl) .nil) rfl rfl rfl) st27 ?_;refine yj c (λp c=>zc rfl (e_appR (i:=1) (j:=0) (B':=[.miter mbyy0 f.length (d++[D]),rwA h 0 22 ((l++([v9]:List GC)).map GC.rowN),.cells (GC.row s.2)]) (T':=[((l++([v9]:List GC))).length]) rfl rfl rfl rfl el24 el24 gt24 gt27 rfl (za rfl) yq p rfl rfl rfl rfl rfl) st28 ?_);refine zc rfl (zO rfl gt28 (za rfl)) st2 ?_;refine zD (q_block (q_loop ?_));obtain rfl:=uJ c;exact ⟨D,(l++([v9]:List GC)),o,u,wk.trans (wk.le (by exact (.drop (.drop (.cons (leV.of_eq rfl) (.drop (.drop (.drop (.eq (.d16 (.d4 (.d4 (.drop leL.nil))))))))))))) (z8 (by simp [zG,AV.low,a,b]) rfl rfl (by simp [Blk.low,zG,AV.low,a,b]))⟩
  ·refine vm (q_block (q_loop ?_));obtain rfl:=uJ c;exact ⟨D,l,o,u,wk.trans (wk.le (by exact (.drop (.drop (.cons (leV.of_eq rfl) (.drop (.drop (.drop (.eq (.d16 (.d4 (.d4 (.drop leL.nil))))))))))))) (z8 (by simp [zG,AV.low,a,b]) rfl rfl (by simp [Blk.low,zG,AV.low,a,b]))⟩
 ·refine zc rfl (yu rfl gt7 rfl (za rfl)) st8 ?_;refine zD (zU (zW ?_));refine r_cond gt8 (λhh=>by cases hh) (λ_=>r_exit ?_);refine vF ?_;refine wW ?_;refine wX ?_;refine zU (zW (zz ?_));refine zc rfl (zy rfl gt2 (za rfl)) st29 ?_;refine zi c (λF m c=>xU rfl (yc rfl rfl rfl (zu gt29 (zu rfl zV)) (.cons (za rfl) (.cons (za rfl) .nil))) (spec_sortN sort54TryzLays Tryz.isAgg49 Tryz.sizeOf49 GC.rowN_le (λ_=>rfl) (λ_=>rfl) (λ_=>by simp [plL,AV.pl,plE_map,zC,intRow,byteRow,boolRow,GJ.row,GF.row,GI.row,GE.row,GC.row]) (enters_fn Tryz.func35 rfl (by kernel_rfl)) (λ_ _ _ h=>ok35 h) m (i:=1) (B':=[.miter mbyy0 f.length d,rwA h 0 22 (F.map GC.rowN)]) rfl rfl) st30 ?_);refine zD (zU (zW (zz ?_)));refine zc rfl (zy rfl gt2 (za rfl)) st31 ?_;refine zc rfl (zO rfl gt31 (za rfl)) st2 ?_;refine zD (zU (r_ret ?_));obtain rfl:=uJ c;refine q_retL1 rfl (wS gt2 qd) (fin_row1 (hds_row (j:=1) (i:=0) rfl (by rw [uA];exact sortO_len m)) ?_);exact ⟨by simp only [uA];try rfl,by simp only [uA];try rfl⟩
theorem ok101 {b:Int}  (a:qF b=some res):Sp 101 [.int .i32 b] h (yy (.bool res) h):=by
 unfold qF at a;refine zb Tryz.func101 rfl (by kernel_rfl) (yV 25 rfl) (R.r ?_);cases a;exact fz rfl rfl
theorem ok157 {f:zd} {b:Bool} {res:Int} (s:∀x0 v (L:List Blk) (M:List Nat),f1 x0=some v->Sp ff1 (af1++[.int .i32 x0]++kf1) (h.ext L M) (yy (.bool v) (h.ext L M))) (a:wM f f1 b=some res):Sp 157 [.str f,.fn (.func ff1) af1 kf1,.bool b] h (yy (.int .i64 res) h):=by
 unfold wM at a;refine zY Tryz.func157 rfl (by kernel_rfl) (yV 21 rfl) (λc w=>?_);simp only [zG,AV.low,ud,u2,t7] at c;have k:∀n m,h.blks.length<=n->h.toks.length<=m->zG n m af1=true:=λn m j g=>ym j g _ (by simp [c]);have i:∀n m,h.blks.length<=n->h.toks.length<=m->zG n m kf1=true:=λn m j g=>ym j g _ (by simp [c]);apply R.r;refine zc rfl (e_range (n:=0) rfl ty9 gg rfl) ss (R.r ?_);refine vt (λ(e:Nat)=>zo 3 7 (zo 11 10 [(0,.any)])) (λe=>h.ext [.siter f e] []) a (λ_=>by simp only [zo,x5,ue,uf];try rfl) (wk.le LEL.o) ?_;intro z e y a d;apply R.r;refine ops_nextF rfl rfl gg rfl ss ss a (λu a=>?_) (λa=>?_)
 ·apply R.r;refine r_cond gg (λ_=>?_) (λhh=>by cases hh);apply R.r;refine zi a (λx p a=>yb rfl (scC rfl) (s _ _ _ _ p) ss (R.r ?_));refine zc rfl (yK rfl gg gg (bin_boolE ty4)) ss (R.r ?_);refine zf gg a (λl a=>?_) (λl a=>?_)
  ·apply R.r;cases a;replace a:=d;apply R.r;cases a;exact fz rfl rfl
  ·apply R.r;cases a;exact ⟨(e+(dec f e).2),d,wk.le LEL.o⟩
 ·apply R.r;refine r_cond gg (λhh=>by cases hh) (λ_=>R.r ?_);cases a;replace a:=d;apply R.r;cases a;exact fz rfl rfl
theorem ok133 {j:zd} {res:Int} (d:∀x0 v (L:List Blk) (M:List Nat),f1 x0=some v->Sp ff1 (af1++[.int .i32 x0]++kf1) (h.ext L M) (yy (.bool v) (h.ext L M))) (b:ve j f1=some res):Sp 133 [.str j,.fn (.func ff1) af1 kf1] h (yy (.int .i64 res) h):=by
 unfold ve at b;refine zY Tryz.func133 rfl (by kernel_rfl) (yV 8 rfl) (λa l=>?_);simp only [zG,AV.low,ud,u2,t7] at a;have c:∀n m,h.blks.length<=n->h.toks.length<=m->zG n m af1=true:=λn m i e=>ym i e _ (by simp [a]);have f:∀n m,h.blks.length<=n->h.toks.length<=m->zG n m kf1=true:=λn m i e=>ym i e _ (by simp [a]);apply R.r;refine zi b (λo g b=>cp (ok157 (λx0 v L M k=>by rw [xf];exact d x0 v _ _ k) g) (R.r ?_));cases b;exact fz rfl rfl
theorem ok102 {j:zd} (d:∀x0 v (L:List Blk) (M:List Nat),f1 x0=some v->Sp ff1 (af1++[.int .i32 x0]++kf1) (h.ext L M) (yy (.bool v) (h.ext L M))) (b:xB j f1=some res):Sp 102 [.str j,.fn (.func ff1) af1 kf1] h (yy (.bool res) h):=by
 unfold xB at b;refine zY Tryz.func102 rfl (by kernel_rfl) (yV 9 rfl) (λa l=>?_);simp only [zG,AV.low,ud,u2,t7] at a;have c:∀n m,h.blks.length<=n->h.toks.length<=m->zG n m af1=true:=λn m i e=>ym i e _ (by simp [a]);have f:∀n m,h.blks.length<=n->h.toks.length<=m->zG n m kf1=true:=λn m i e=>ym i e _ (by simp [a]);apply R.r;refine zi b (λo g b=>cp (ok133 (λx0 v L M k=>by rw [xf];exact d x0 v _ _ k) g) (R.r ?_));cases b;exact fz rfl rfl
theorem ok61 {d:zd}  (b:opIsName d=some res):Sp 61 [.str d] h (yy (.bool res) h):=by
 unfold opIsName at b;refine zb Tryz.func61 rfl (by kernel_rfl) (yV 18 rfl) (R.r ?_);refine ln λa=>?_;replace a:=zZ a;apply R.r;refine lng λg=>R.r ?_;refine zN b (λv3 c b=>zA rfl sc (λf=>ok102 (λ_ v L M e=>ok101  e) (c f)) ss (R.r ?_));cases b;exact fz rfl rfl
theorem ok103 {a:Int}  (b:leafXisTime a=some res):Sp 103 [.int .u64 a] h (yy (.bool res) h):=by
 unfold leafXisTime at b;refine zb Tryz.func103 rfl (by kernel_rfl) (yV 9 rfl) (R.r ?_);cases b;exact fz rfl rfl
theorem ok134 {a0:GJ}  (a:dotMayActor a0=some res):Sp 134 [.agg (GJ.row a0)] h (yy (.bool res) h):=by
 unfold dotMayActor at a;refine zb Tryz.func134 rfl (by kernel_rfl) (yV 16 rfl) (R.r ?_);cases a;exact fz rfl rfl
theorem ok104 {c:GF}  (a:dotMay c=some res):Sp 104 [.agg (GF.row c)] h (yy (.bool res) h):=by
 unfold dotMay at a;refine zb Tryz.func104 rfl (by kernel_rfl) (yV 16 rfl) (R.r ?_);refine zi a (λd b a=>cp (ok134 b) (R.r ?_));cases a;exact fz rfl rfl
theorem ok105 {b:zd}  (c:vX b=some res):Sp 105 [.str b] h (yy (.bool res) h):=by
 unfold vX at c;refine zb Tryz.func105 rfl (by kernel_rfl) (yV 6 rfl) (R.r ?_);refine ln λa=>?_;replace a:=zZ a;apply R.r;cases c;exact fz rfl rfl
theorem ok168  (a:wF x0=some res):Sp 168 [.int .u64 x0] h (yy (.bool res) h):=by
 unfold wF at a;refine zb Tryz.func168 rfl (by kernel_rfl) (yV 6 rfl) (R.r ?_);cases a;exact fz rfl rfl
theorem ok160 {res:Int}  (a:xI x0 y1=some res):Sp 160 [.int .u64 x0,.int .u64 y1] h (yy (.int .i64 res) h):=by
 unfold xI at a;refine zb Tryz.func160 rfl (by kernel_rfl) (yV 20 rfl) (R.r ?_);refine zi a (λk f a=>cp (ok168 f) (R.r ?_));refine zi a (λj c a=>cp (ok168 c) (R.r ?_));refine zf gg a (λi a=>?_) (λi a=>?_)
 ·apply R.r;refine zf gg a (λd a=>?_) (λd a=>?_)
  ·apply R.r;cases a;exact fz rfl rfl
  ·apply R.r;cases a;exact fz rfl rfl
 ·apply R.r;refine zf gg a (λb a=>?_) (λb a=>?_)
  ·apply R.r;cases a;exact fz rfl rfl
  ·apply R.r;refine zf gg a (λe a=>?_) (λe a=>?_)
   ·apply R.r;cases a;exact fz rfl rfl
   ·apply R.r;refine zf gg a (λg a=>?_) (λg a=>?_)
    ·apply R.r;cases a;exact fz rfl rfl
    ·apply R.r;cases a;exact fz rfl rfl
theorem ok171  (a:wG x0=some res):Sp 171 [.int .u32 x0] h (yy (.bool res) h):=by
 unfold wG at a;refine zb Tryz.func171 rfl (by kernel_rfl) (yV 6 rfl) (R.r ?_);cases a;exact fz rfl rfl
theorem ok167 {res:Int}  (a:wm x0 y1=some res):Sp 167 [.int .u32 x0,.int .u32 y1] h (yy (.int .i64 res) h):=by
 unfold wm at a;refine zb Tryz.func167 rfl (by kernel_rfl) (yV 20 rfl) (R.r ?_);refine zi a (λk f a=>cp (ok171 f) (R.r ?_));refine zi a (λj c a=>cp (ok171 c) (R.r ?_));refine zf gg a (λi a=>?_) (λi a=>?_)
 ·apply R.r;refine zf gg a (λd a=>?_) (λd a=>?_)
  ·apply R.r;cases a;exact fz rfl rfl
  ·apply R.r;cases a;exact fz rfl rfl
 ·apply R.r;refine zf gg a (λb a=>?_) (λb a=>?_)
  ·apply R.r;cases a;exact fz rfl rfl
  ·apply R.r;refine zf gg a (λe a=>?_) (λe a=>?_)
   ·apply R.r;cases a;exact fz rfl rfl
   ·apply R.r;refine zf gg a (λg a=>?_) (λg a=>?_)
    ·apply R.r;cases a;exact fz rfl rfl
    ·apply R.r;cases a;exact fz rfl rfl
theorem ok159 {a0:GJ} {f:GJ} {res:Int}  (a:dotXcompare a0 f=some res):Sp 159 [.agg (GJ.row a0),.agg (GJ.row f)] h (yy (.int .i64 res) h):=by
 unfold dotXcompare at a;refine zb Tryz.func159 rfl (by kernel_rfl) (yV 17 rfl) (R.r ?_);refine yl [4,9,11] [] trivial mixed (by kernel_rfl) (R.r ?_);refine zi a (λi e a=>zK rfl rfl (λ_=>sc rfl) (by rintro _ ⟨B2,T2,rfl,b⟩;exact ok65 e) ss (R.r ?_));refine zi a (λg c a=>zK rfl rfl (λ_=>sc rfl) (by rintro _ ⟨B2,T2,rfl,b⟩;exact ok167 c) ss ?_);refine zx rfl rfl (zw (es:=([i,g]:List Int).map (intRow .i64)) rfl el141 ze3 rfl rfl (zk gg (zk gg zq)) (.cons (za rfl) (.cons (za rfl) .nil)) rfl rfl rfl) ss ?_;refine zi a (λv3 d a=>zK rfl rfl (λ_=>sc rfl) (by rintro _ ⟨B2,T2,rfl,b⟩;exact (ok63 d).le (.cons (leV.osl _ _ _) leL.nil)) ss (R.r ?_));cases a;exact fz rfl rfl
theorem ok137 {a0:GF} {f:GF} {res:Int}  (a:qL a0 f=some res):Sp 137 [.agg (GF.row a0),.agg (GF.row f)] h (yy (.int .i64 res) h):=by
 unfold qL at a;refine zb Tryz.func137 rfl (by kernel_rfl) (yV 17 rfl) (R.r ?_);refine yl [4,9,11] [] trivial mixed (by kernel_rfl) (R.r ?_);refine zi a (λi e a=>zK rfl rfl (λ_=>sc rfl) (by rintro _ ⟨B2,T2,rfl,b⟩;exact ok159 e) ss (R.r ?_));refine zi a (λg c a=>zK rfl rfl (λ_=>sc rfl) (by rintro _ ⟨B2,T2,rfl,b⟩;exact ok160 c) ss ?_);refine zx rfl rfl (zw (es:=([i,g]:List Int).map (intRow .i64)) rfl el141 ze3 rfl rfl (zk gg (zk gg zq)) (.cons (za rfl) (.cons (za rfl) .nil)) rfl rfl rfl) ss ?_;refine zi a (λv3 d a=>zK rfl rfl (λ_=>sc rfl) (by rintro _ ⟨B2,T2,rfl,b⟩;exact (ok63 d).le (.cons (leV.osl _ _ _) leL.nil)) ss (R.r ?_));cases a;exact fz rfl rfl
theorem ok158 {a0:Int} {g:GF} {i:Int} {f:GF} {res:Int}  (a:leafXcompare a0 g i f=some res):Sp 158 [.int .u64 a0,.agg (GF.row g),.int .u64 i,.agg (GF.row f)] h (yy (.int .i64 res) h):=by
 unfold leafXcompare at a;refine zb Tryz.func158 rfl (by kernel_rfl) (yV 17 rfl) (R.r ?_);refine yl [2,5,7] [] trivial mixed (by kernel_rfl) (R.r ?_);refine zi a (λk e a=>zK rfl rfl (λ_=>sc rfl) (by rintro _ ⟨B2,T2,rfl,b⟩;exact ok160 e) ss (R.r ?_));refine zi a (λj c a=>zK rfl rfl (λ_=>sc rfl) (by rintro _ ⟨B2,T2,rfl,b⟩;exact ok137 c) ss ?_);refine zx rfl rfl (zw (es:=([k,j]:List Int).map (intRow .i64)) rfl el141 ze3 rfl rfl (zk gg (zk gg zq)) (.cons (za rfl) (.cons (za rfl) .nil)) rfl rfl rfl) ss ?_;refine zi a (λv3 d a=>zK rfl rfl (λ_=>sc rfl) (by rintro _ ⟨B2,T2,rfl,b⟩;exact (ok63 d).le (.cons (leV.osl _ _ _) leL.nil)) ss (R.r ?_));cases a;exact fz rfl rfl
theorem ok135 {b:Int} {f:GF} {a:Int} {e:GF}  (c:leafAhead b f a e=some res):Sp 135 [.int .u64 b,.agg (GF.row f),.int .u64 a,.agg (GF.row e)] h (yy (.bool res) h):=by
 unfold leafAhead at c;refine zb Tryz.func135 rfl (by kernel_rfl) (yV 15 rfl) (R.r ?_);refine zi c (λg d c=>cp (ok158 d) (R.r ?_));cases c;exact fz rfl rfl
end Go.Vv
