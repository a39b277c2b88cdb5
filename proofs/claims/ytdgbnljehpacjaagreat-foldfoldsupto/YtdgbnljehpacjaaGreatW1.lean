/- Each function that the law reaches computes what its reading says; printed by a program. -/
import Derived.Test.YtdgbnljehpacjaaGreatVvSh
import Derived.Test.YtdgbnljehpacjaaGreatVvZ
import Derived.Test.YtdgbnljehpacjaaGreatVvRb
import Derived.Test.YtdgbnljehpacjaaGreatVvSo
import Derived.Test.YtdgbnljehpacjaaGreatVvSs
import Derived.Test.YtdgbnljehpacjaaGreatD
import Derived.Test.YtdgbnljehpacjaaGreatProg
set_option linter.all false
namespace Go.Vv
open Go Go.Proofs
set_option maxRecDepth 100000
set_option synthInstance.maxSize 100000
set_option synthInstance.maxHeartbeats 1000000
set_option maxHeartbeats 1000000
variable {h:AH} {res:Bool} {x0 y1 time0 other2:Int}
section
variable {v a0 a1 a2 a3 a4 a5 a6 a7 a8 a9 a10 a11 a12 a13 a14 a15 a16 a17 a18 a19 a20 a21 a22 a23 a24 a25 a26 a27 a28 a29 a30 a31 a32 a33 a34 a35 a36 a37 a38 a39:AV} {r q:List AV} {t:Nat}
abbrev Sp:=Spec Tryz.prog
theorem gt0:yx (a0::r) (.tmp 0)=some a0:=rfl
theorem st0:ww (some 0) (a0::r) v=some (v::r):=rfl
theorem gt1:yx (a0::a1::r) (.tmp 1)=some a1:=rfl
theorem st1:ww (some 1) (a0::a1::r) v=some (a0::v::r):=rfl
theorem gt2:yx (a0::a1::a2::r) (.tmp 2)=some a2:=rfl
theorem st2:ww (some 2) (a0::a1::a2::r) v=some (a0::a1::v::r):=rfl
theorem gt3:yx (a0::a1::a2::a3::r) (.tmp 3)=some a3:=rfl
theorem st3:ww (some 3) (a0::a1::a2::a3::r) v=some (a0::a1::a2::v::r):=rfl
theorem gt4:yx (a0::a1::a2::a3::a4::r) (.tmp 4)=some a4:=rfl
theorem st4:ww (some 4) (a0::a1::a2::a3::a4::r) v=some (a0::a1::a2::a3::v::r):=rfl
theorem gt5:yx (a0::a1::a2::a3::a4::a5::r) (.tmp 5)=some a5:=rfl
theorem st5:ww (some 5) (a0::a1::a2::a3::a4::a5::r) v=some (a0::a1::a2::a3::a4::v::r):=rfl
theorem gt6:yx (a0::a1::a2::a3::a4::a5::a6::r) (.tmp 6)=some a6:=rfl
theorem st6:ww (some 6) (a0::a1::a2::a3::a4::a5::a6::r) v=some (a0::a1::a2::a3::a4::a5::v::r):=rfl
theorem gt7:yx (a0::a1::a2::a3::a4::a5::a6::a7::r) (.tmp 7)=some a7:=rfl
theorem st7:ww (some 7) (a0::a1::a2::a3::a4::a5::a6::a7::r) v=some (a0::a1::a2::a3::a4::a5::a6::v::r):=rfl
theorem gt8:yx (a0::a1::a2::a3::a4::a5::a6::a7::a8::r) (.tmp 8)=some a8:=rfl
theorem st8:ww (some 8) (a0::a1::a2::a3::a4::a5::a6::a7::a8::r) v=some (a0::a1::a2::a3::a4::a5::a6::a7::v::r):=rfl
theorem gt9:yx (a0::a1::a2::a3::a4::a5::a6::a7::a8::a9::r) (.tmp 9)=some a9:=rfl
theorem st9:ww (some 9) (a0::a1::a2::a3::a4::a5::a6::a7::a8::a9::r) v=some (a0::a1::a2::a3::a4::a5::a6::a7::a8::v::r):=rfl
theorem gt10:yx (a0::a1::a2::a3::a4::a5::a6::a7::a8::a9::a10::r) (.tmp 10)=some a10:=rfl
theorem st10:ww (some 10) (a0::a1::a2::a3::a4::a5::a6::a7::a8::a9::a10::r) v=some (a0::a1::a2::a3::a4::a5::a6::a7::a8::a9::v::r):=rfl
theorem gt11:yx (a0::a1::a2::a3::a4::a5::a6::a7::a8::a9::a10::a11::r) (.tmp 11)=some a11:=rfl
theorem st11:ww (some 11) (a0::a1::a2::a3::a4::a5::a6::a7::a8::a9::a10::a11::r) v=some (a0::a1::a2::a3::a4::a5::a6::a7::a8::a9::a10::v::r):=rfl
theorem gt12:yx (a0::a1::a2::a3::a4::a5::a6::a7::a8::a9::a10::a11::a12::r) (.tmp 12)=some a12:=rfl
theorem st12:ww (some 12) (a0::a1::a2::a3::a4::a5::a6::a7::a8::a9::a10::a11::a12::r) v=some (a0::a1::a2::a3::a4::a5::a6::a7::a8::a9::a10::a11::v::r):=rfl
theorem gt13:yx (a0::a1::a2::a3::a4::a5::a6::a7::a8::a9::a10::a11::a12::a13::r) (.tmp 13)=some a13:=rfl
theorem st13:ww (some 13) (a0::a1::a2::a3::a4::a5::a6::a7::a8::a9::a10::a11::a12::a13::r) v=some (a0::a1::a2::a3::a4::a5::a6::a7::a8::a9::a10::a11::a12::v::r):=rfl
theorem gt14:yx (a0::a1::a2::a3::a4::a5::a6::a7::a8::a9::a10::a11::a12::a13::a14::r) (.tmp 14)=some a14:=rfl
theorem st14:ww (some 14) (a0::a1::a2::a3::a4::a5::a6::a7::a8::a9::a10::a11::a12::a13::a14::r) v=some (a0::a1::a2::a3::a4::a5::a6::a7::a8::a9::a10::a11::a12::a13::v::r):=rfl
theorem gt15:yx (a0::a1::a2::a3::a4::a5::a6::a7::a8::a9::a10::a11::a12::a13::a14::a15::r) (.tmp 15)=some a15:=rfl
theorem st15:ww (some 15) (a0::a1::a2::a3::a4::a5::a6::a7::a8::a9::a10::a11::a12::a13::a14::a15::r) v=some (a0::a1::a2::a3::a4::a5::a6::a7::a8::a9::a10::a11::a12::a13::a14::v::r):=rfl
theorem gt16:yx (a0::a1::a2::a3::a4::a5::a6::a7::a8::a9::a10::a11::a12::a13::a14::a15::a16::r) (.tmp 16)=some a16:=rfl
theorem st16:ww (some 16) (a0::a1::a2::a3::a4::a5::a6::a7::a8::a9::a10::a11::a12::a13::a14::a15::a16::r) v=some (a0::a1::a2::a3::a4::a5::a6::a7::a8::a9::a10::a11::a12::a13::a14::a15::v::r):=rfl
theorem gt17:yx (a0::a1::a2::a3::a4::a5::a6::a7::a8::a9::a10::a11::a12::a13::a14::a15::a16::a17::r) (.tmp 17)=some a17:=rfl
theorem st17:ww (some 17) (a0::a1::a2::a3::a4::a5::a6::a7::a8::a9::a10::a11::a12::a13::a14::a15::a16::a17::r) v=some (a0::a1::a2::a3::a4::a5::a6::a7::a8::a9::a10::a11::a12::a13::a14::a15::a16::v::r):=rfl
theorem gt18:yx (a0::a1::a2::a3::a4::a5::a6::a7::a8::a9::a10::a11::a12::a13::a14::a15::a16::a17::a18::r) (.tmp 18)=some a18:=rfl
theorem st18:ww (some 18) (a0::a1::a2::a3::a4::a5::a6::a7::a8::a9::a10::a11::a12::a13::a14::a15::a16::a17::a18::r) v=some (a0::a1::a2::a3::a4::a5::a6::a7::a8::a9::a10::a11::a12::a13::a14::a15::a16::a17::v::r):=rfl
theorem gt19:yx (a0::a1::a2::a3::a4::a5::a6::a7::a8::a9::a10::a11::a12::a13::a14::a15::a16::a17::a18::a19::r) (.tmp 19)=some a19:=rfl
theorem st19:ww (some 19) (a0::a1::a2::a3::a4::a5::a6::a7::a8::a9::a10::a11::a12::a13::a14::a15::a16::a17::a18::a19::r) v=some (a0::a1::a2::a3::a4::a5::a6::a7::a8::a9::a10::a11::a12::a13::a14::a15::a16::a17::a18::v::r):=rfl
theorem gt20:yx (a0::a1::a2::a3::a4::a5::a6::a7::a8::a9::a10::a11::a12::a13::a14::a15::a16::a17::a18::a19::a20::r) (.tmp 20)=some a20:=rfl
theorem st20:ww (some 20) (a0::a1::a2::a3::a4::a5::a6::a7::a8::a9::a10::a11::a12::a13::a14::a15::a16::a17::a18::a19::a20::r) v=some (a0::a1::a2::a3::a4::a5::a6::a7::a8::a9::a10::a11::a12::a13::a14::a15::a16::a17::a18::a19::v::r):=rfl
theorem gt21:yx (a0::a1::a2::a3::a4::a5::a6::a7::a8::a9::a10::a11::a12::a13::a14::a15::a16::a17::a18::a19::a20::a21::r) (.tmp 21)=some a21:=rfl
theorem st21:ww (some 21) (a0::a1::a2::a3::a4::a5::a6::a7::a8::a9::a10::a11::a12::a13::a14::a15::a16::a17::a18::a19::a20::a21::r) v=some (a0::a1::a2::a3::a4::a5::a6::a7::a8::a9::a10::a11::a12::a13::a14::a15::a16::a17::a18::a19::a20::v::r):=rfl
theorem gt22:yx (a0::a1::a2::a3::a4::a5::a6::a7::a8::a9::a10::a11::a12::a13::a14::a15::a16::a17::a18::a19::a20::a21::a22::r) (.tmp 22)=some a22:=rfl
theorem st22:ww (some 22) (a0::a1::a2::a3::a4::a5::a6::a7::a8::a9::a10::a11::a12::a13::a14::a15::a16::a17::a18::a19::a20::a21::a22::r) v=some (a0::a1::a2::a3::a4::a5::a6::a7::a8::a9::a10::a11::a12::a13::a14::a15::a16::a17::a18::a19::a20::a21::v::r):=rfl
theorem gt23:yx (a0::a1::a2::a3::a4::a5::a6::a7::a8::a9::a10::a11::a12::a13::a14::a15::a16::a17::a18::a19::a20::a21::a22::a23::r) (.tmp 23)=some a23:=rfl
theorem st23:ww (some 23) (a0::a1::a2::a3::a4::a5::a6::a7::a8::a9::a10::a11::a12::a13::a14::a15::a16::a17::a18::a19::a20::a21::a22::a23::r) v=some (a0::a1::a2::a3::a4::a5::a6::a7::a8::a9::a10::a11::a12::a13::a14::a15::a16::a17::a18::a19::a20::a21::a22::v::r):=rfl
theorem gt24:yx (a0::a1::a2::a3::a4::a5::a6::a7::a8::a9::a10::a11::a12::a13::a14::a15::a16::a17::a18::a19::a20::a21::a22::a23::a24::r) (.tmp 24)=some a24:=rfl
theorem st24:ww (some 24) (a0::a1::a2::a3::a4::a5::a6::a7::a8::a9::a10::a11::a12::a13::a14::a15::a16::a17::a18::a19::a20::a21::a22::a23::a24::r) v=some (a0::a1::a2::a3::a4::a5::a6::a7::a8::a9::a10::a11::a12::a13::a14::a15::a16::a17::a18::a19::a20::a21::a22::a23::v::r):=rfl
theorem gt25:yx (a0::a1::a2::a3::a4::a5::a6::a7::a8::a9::a10::a11::a12::a13::a14::a15::a16::a17::a18::a19::a20::a21::a22::a23::a24::a25::r) (.tmp 25)=some a25:=rfl
theorem st25:ww (some 25) (a0::a1::a2::a3::a4::a5::a6::a7::a8::a9::a10::a11::a12::a13::a14::a15::a16::a17::a18::a19::a20::a21::a22::a23::a24::a25::r) v=some (a0::a1::a2::a3::a4::a5::a6::a7::a8::a9::a10::a11::a12::a13::a14::a15::a16::a17::a18::a19::a20::a21::a22::a23::a24::v::r):=rfl
theorem gt26:yx (a0::a1::a2::a3::a4::a5::a6::a7::a8::a9::a10::a11::a12::a13::a14::a15::a16::a17::a18::a19::a20::a21::a22::a23::a24::a25::a26::r) (.tmp 26)=some a26:=rfl
theorem st26:ww (some 26) (a0::a1::a2::a3::a4::a5::a6::a7::a8::a9::a10::a11::a12::a13::a14::a15::a16::a17::a18::a19::a20::a21::a22::a23::a24::a25::a26::r) v=some (a0::a1::a2::a3::a4::a5::a6::a7::a8::a9::a10::a11::a12::a13::a14::a15::a16::a17::a18::a19::a20::a21::a22::a23::a24::a25::v::r):=rfl
theorem gt27:yx (a0::a1::a2::a3::a4::a5::a6::a7::a8::a9::a10::a11::a12::a13::a14::a15::a16::a17::a18::a19::a20::a21::a22::a23::a24::a25::a26::a27::r) (.tmp 27)=some a27:=rfl
theorem st27:ww (some 27) (a0::a1::a2::a3::a4::a5::a6::a7::a8::a9::a10::a11::a12::a13::a14::a15::a16::a17::a18::a19::a20::a21::a22::a23::a24::a25::a26::a27::r) v=some (a0::a1::a2::a3::a4::a5::a6::a7::a8::a9::a10::a11::a12::a13::a14::a15::a16::a17::a18::a19::a20::a21::a22::a23::a24::a25::a26::v::r):=rfl
theorem gt28:yx (a0::a1::a2::a3::a4::a5::a6::a7::a8::a9::a10::a11::a12::a13::a14::a15::a16::a17::a18::a19::a20::a21::a22::a23::a24::a25::a26::a27::a28::r) (.tmp 28)=some a28:=rfl
theorem st28:ww (some 28) (a0::a1::a2::a3::a4::a5::a6::a7::a8::a9::a10::a11::a12::a13::a14::a15::a16::a17::a18::a19::a20::a21::a22::a23::a24::a25::a26::a27::a28::r) v=some (a0::a1::a2::a3::a4::a5::a6::a7::a8::a9::a10::a11::a12::a13::a14::a15::a16::a17::a18::a19::a20::a21::a22::a23::a24::a25::a26::a27::v::r):=rfl
theorem gt29:yx (a0::a1::a2::a3::a4::a5::a6::a7::a8::a9::a10::a11::a12::a13::a14::a15::a16::a17::a18::a19::a20::a21::a22::a23::a24::a25::a26::a27::a28::a29::r) (.tmp 29)=some a29:=rfl
theorem st29:ww (some 29) (a0::a1::a2::a3::a4::a5::a6::a7::a8::a9::a10::a11::a12::a13::a14::a15::a16::a17::a18::a19::a20::a21::a22::a23::a24::a25::a26::a27::a28::a29::r) v=some (a0::a1::a2::a3::a4::a5::a6::a7::a8::a9::a10::a11::a12::a13::a14::a15::a16::a17::a18::a19::a20::a21::a22::a23::a24::a25::a26::a27::a28::v::r):=rfl
theorem gt30:yx (a0::a1::a2::a3::a4::a5::a6::a7::a8::a9::a10::a11::a12::a13::a14::a15::a16::a17::a18::a19::a20::a21::a22::a23::a24::a25::a26::a27::a28::a29::a30::r) (.tmp 30)=some a30:=rfl
theorem st30:ww (some 30) (a0::a1::a2::a3::a4::a5::a6::a7::a8::a9::a10::a11::a12::a13::a14::a15::a16::a17::a18::a19::a20::a21::a22::a23::a24::a25::a26::a27::a28::a29::a30::r) v=some (a0::a1::a2::a3::a4::a5::a6::a7::a8::a9::a10::a11::a12::a13::a14::a15::a16::a17::a18::a19::a20::a21::a22::a23::a24::a25::a26::a27::a28::a29::v::r):=rfl
theorem gt31:yx (a0::a1::a2::a3::a4::a5::a6::a7::a8::a9::a10::a11::a12::a13::a14::a15::a16::a17::a18::a19::a20::a21::a22::a23::a24::a25::a26::a27::a28::a29::a30::a31::r) (.tmp 31)=some a31:=rfl
theorem st31:ww (some 31) (a0::a1::a2::a3::a4::a5::a6::a7::a8::a9::a10::a11::a12::a13::a14::a15::a16::a17::a18::a19::a20::a21::a22::a23::a24::a25::a26::a27::a28::a29::a30::a31::r) v=some (a0::a1::a2::a3::a4::a5::a6::a7::a8::a9::a10::a11::a12::a13::a14::a15::a16::a17::a18::a19::a20::a21::a22::a23::a24::a25::a26::a27::a28::a29::a30::v::r):=rfl
theorem gt32:yx (a0::a1::a2::a3::a4::a5::a6::a7::a8::a9::a10::a11::a12::a13::a14::a15::a16::a17::a18::a19::a20::a21::a22::a23::a24::a25::a26::a27::a28::a29::a30::a31::a32::r) (.tmp 32)=some a32:=rfl
theorem st32:ww (some 32) (a0::a1::a2::a3::a4::a5::a6::a7::a8::a9::a10::a11::a12::a13::a14::a15::a16::a17::a18::a19::a20::a21::a22::a23::a24::a25::a26::a27::a28::a29::a30::a31::a32::r) v=some (a0::a1::a2::a3::a4::a5::a6::a7::a8::a9::a10::a11::a12::a13::a14::a15::a16::a17::a18::a19::a20::a21::a22::a23::a24::a25::a26::a27::a28::a29::a30::a31::v::r):=rfl
theorem gt33:yx (a0::a1::a2::a3::a4::a5::a6::a7::a8::a9::a10::a11::a12::a13::a14::a15::a16::a17::a18::a19::a20::a21::a22::a23::a24::a25::a26::a27::a28::a29::a30::a31::a32::a33::r) (.tmp 33)=some a33:=rfl
theorem st33:ww (some 33) (a0::a1::a2::a3::a4::a5::a6::a7::a8::a9::a10::a11::a12::a13::a14::a15::a16::a17::a18::a19::a20::a21::a22::a23::a24::a25::a26::a27::a28::a29::a30::a31::a32::a33::r) v=some (a0::a1::a2::a3::a4::a5::a6::a7::a8::a9::a10::a11::a12::a13::a14::a15::a16::a17::a18::a19::a20::a21::a22::a23::a24::a25::a26::a27::a28::a29::a30::a31::a32::v::r):=rfl
theorem gt34:yx (a0::a1::a2::a3::a4::a5::a6::a7::a8::a9::a10::a11::a12::a13::a14::a15::a16::a17::a18::a19::a20::a21::a22::a23::a24::a25::a26::a27::a28::a29::a30::a31::a32::a33::a34::r) (.tmp 34)=some a34:=rfl
theorem st34:ww (some 34) (a0::a1::a2::a3::a4::a5::a6::a7::a8::a9::a10::a11::a12::a13::a14::a15::a16::a17::a18::a19::a20::a21::a22::a23::a24::a25::a26::a27::a28::a29::a30::a31::a32::a33::a34::r) v=some (a0::a1::a2::a3::a4::a5::a6::a7::a8::a9::a10::a11::a12::a13::a14::a15::a16::a17::a18::a19::a20::a21::a22::a23::a24::a25::a26::a27::a28::a29::a30::a31::a32::a33::v::r):=rfl
theorem gt35:yx (a0::a1::a2::a3::a4::a5::a6::a7::a8::a9::a10::a11::a12::a13::a14::a15::a16::a17::a18::a19::a20::a21::a22::a23::a24::a25::a26::a27::a28::a29::a30::a31::a32::a33::a34::a35::r) (.tmp 35)=some a35:=rfl
theorem st35:ww (some 35) (a0::a1::a2::a3::a4::a5::a6::a7::a8::a9::a10::a11::a12::a13::a14::a15::a16::a17::a18::a19::a20::a21::a22::a23::a24::a25::a26::a27::a28::a29::a30::a31::a32::a33::a34::a35::r) v=some (a0::a1::a2::a3::a4::a5::a6::a7::a8::a9::a10::a11::a12::a13::a14::a15::a16::a17::a18::a19::a20::a21::a22::a23::a24::a25::a26::a27::a28::a29::a30::a31::a32::a33::a34::v::r):=rfl
theorem gt36:yx (a0::a1::a2::a3::a4::a5::a6::a7::a8::a9::a10::a11::a12::a13::a14::a15::a16::a17::a18::a19::a20::a21::a22::a23::a24::a25::a26::a27::a28::a29::a30::a31::a32::a33::a34::a35::a36::r) (.tmp 36)=some a36:=rfl
theorem st36:ww (some 36) (a0::a1::a2::a3::a4::a5::a6::a7::a8::a9::a10::a11::a12::a13::a14::a15::a16::a17::a18::a19::a20::a21::a22::a23::a24::a25::a26::a27::a28::a29::a30::a31::a32::a33::a34::a35::a36::r) v=some (a0::a1::a2::a3::a4::a5::a6::a7::a8::a9::a10::a11::a12::a13::a14::a15::a16::a17::a18::a19::a20::a21::a22::a23::a24::a25::a26::a27::a28::a29::a30::a31::a32::a33::a34::a35::v::r):=rfl
theorem gt37:yx (a0::a1::a2::a3::a4::a5::a6::a7::a8::a9::a10::a11::a12::a13::a14::a15::a16::a17::a18::a19::a20::a21::a22::a23::a24::a25::a26::a27::a28::a29::a30::a31::a32::a33::a34::a35::a36::a37::r) (.tmp 37)=some a37:=rfl
theorem st37:ww (some 37) (a0::a1::a2::a3::a4::a5::a6::a7::a8::a9::a10::a11::a12::a13::a14::a15::a16::a17::a18::a19::a20::a21::a22::a23::a24::a25::a26::a27::a28::a29::a30::a31::a32::a33::a34::a35::a36::a37::r) v=some (a0::a1::a2::a3::a4::a5::a6::a7::a8::a9::a10::a11::a12::a13::a14::a15::a16::a17::a18::a19::a20::a21::a22::a23::a24::a25::a26::a27::a28::a29::a30::a31::a32::a33::a34::a35::a36::v::r):=rfl
theorem gt38:yx (a0::a1::a2::a3::a4::a5::a6::a7::a8::a9::a10::a11::a12::a13::a14::a15::a16::a17::a18::a19::a20::a21::a22::a23::a24::a25::a26::a27::a28::a29::a30::a31::a32::a33::a34::a35::a36::a37::a38::r) (.tmp 38)=some a38:=rfl
theorem st38:ww (some 38) (a0::a1::a2::a3::a4::a5::a6::a7::a8::a9::a10::a11::a12::a13::a14::a15::a16::a17::a18::a19::a20::a21::a22::a23::a24::a25::a26::a27::a28::a29::a30::a31::a32::a33::a34::a35::a36::a37::a38::r) v=some (a0::a1::a2::a3::a4::a5::a6::a7::a8::a9::a10::a11::a12::a13::a14::a15::a16::a17::a18::a19::a20::a21::a22::a23::a24::a25::a26::a27::a28::a29::a30::a31::a32::a33::a34::a35::a36::a37::v::r):=rfl
theorem gt39:yx (a0::a1::a2::a3::a4::a5::a6::a7::a8::a9::a10::a11::a12::a13::a14::a15::a16::a17::a18::a19::a20::a21::a22::a23::a24::a25::a26::a27::a28::a29::a30::a31::a32::a33::a34::a35::a36::a37::a38::a39::r) (.tmp 39)=some a39:=rfl
theorem st39:ww (some 39) (a0::a1::a2::a3::a4::a5::a6::a7::a8::a9::a10::a11::a12::a13::a14::a15::a16::a17::a18::a19::a20::a21::a22::a23::a24::a25::a26::a27::a28::a29::a30::a31::a32::a33::a34::a35::a36::a37::a38::a39::r) v=some (a0::a1::a2::a3::a4::a5::a6::a7::a8::a9::a10::a11::a12::a13::a14::a15::a16::a17::a18::a19::a20::a21::a22::a23::a24::a25::a26::a27::a28::a29::a30::a31::a32::a33::a34::a35::a36::a37::a38::v::r):=rfl
theorem gk (h:yx r (.tmp t)=some v):yx (a0::a1::a2::a3::a4::a5::a6::a7::a8::a9::a10::a11::a12::a13::a14::a15::a16::a17::a18::a19::a20::a21::a22::a23::a24::a25::a26::a27::a28::a29::a30::a31::a32::a33::a34::a35::a36::a37::a38::a39::r) (.tmp (t+40))=some v:=h
theorem sk (h:ww (some t) r v=some q):ww (some (t+40)) (a0::a1::a2::a3::a4::a5::a6::a7::a8::a9::a10::a11::a12::a13::a14::a15::a16::a17::a18::a19::a20::a21::a22::a23::a24::a25::a26::a27::a28::a29::a30::a31::a32::a33::a34::a35::a36::a37::a38::a39::r) v=some (a0::a1::a2::a3::a4::a5::a6::a7::a8::a9::a10::a11::a12::a13::a14::a15::a16::a17::a18::a19::a20::a21::a22::a23::a24::a25::a26::a27::a28::a29::a30::a31::a32::a33::a34::a35::a36::a37::a38::a39::q):=congrArg (λx=>some (a0::a1::a2::a3::a4::a5::a6::a7::a8::a9::a10::a11::a12::a13::a14::a15::a16::a17::a18::a19::a20::a21::a22::a23::a24::a25::a26::a27::a28::a29::a30::a31::a32::a33::a34::a35::a36::a37::a38::a39::x)) (uS h)
end
def fvOp:Nat->AV
  | 1=>.fn (.func 98) [] []
  | 2=>.fn (.func 99) [] []
  | 3=>.fn (.func 100) [] []
  | _=>.nilf
def fnOp:Nat->FuncId
  | 1=>98
  | 2=>99
  | 3=>100
  | _=>0
theorem fvlOp (c n m:Nat):(fvOp c).low n m=true:=by unfold fvOp;split <;> rfl
theorem fvtOp (P:Program) (t:TypeId) (c:Nat):tyfix P t (fvOp c)=fvOp c:=by unfold fvOp;split <;> rfl
def fvFuse:Nat->AV
  | 1=>.fn (.func 135) [] []
  | 2=>.fn (.func 136) [] []
  | 3=>.fn (.func 137) [] []
  | 4=>.fn (.func 138) [] []
  | _=>.nilf
def fnFuse:Nat->FuncId
  | 1=>135
  | 2=>136
  | 3=>137
  | 4=>138
  | _=>0
theorem fvtFuse (P:Program) (t:TypeId) (c:Nat):tyfix P t (fvFuse c)=fvFuse c:=by unfold fvFuse;split <;> rfl
abbrev GJ.row (x:GJ):List AV:=[.int .u8 x.rep,.int .u32 x.inc]
abbrev GE.row (x:GE):List AV:=[.int .u8 x.actor.rep,.int .u32 x.actor.inc,.int .u64 x.seq]
abbrev GF.row (x:GF):List AV:=[.int .u64 x.time,.int .u8 x.dot.actor.rep,.int .u32 x.dot.actor.inc,.int .u64 x.dot.seq,.str x.text]
abbrev GC.row (x:GC):List AV:=[.int .u8 x.typ,.int .i64 x.n,.int .u64 x.time,.int .u8 x.dot.actor.rep,.int .u32 x.dot.actor.inc,.int .u64 x.dot.seq,.str x.text,.sl 5 (x.items.map GF.row),.sl 3 (x.tombs.map GE.row)]
mutual
def GA.row:GA->List AV
  | ⟨name,leaves,subs⟩=>[.str name,.sl 9 (leaves.map GC.row),.sl 3 (GA.rows subs)]
def GA.rows:List GA->List (List AV)
  | []=>[]
  | x::r=>x.row::GA.rows r
end
theorem GA.rows_eq (l:List GA):GA.rows l=l.map GA.row:=by
  induction l with
  | nil=>rfl
  | cons x r ih=>simp only [GA.rows,uz,ih]
theorem GA.row_eq (x:GA):x.row=[.str x.name,.sl 9 (x.leaves.map GC.row),.sl 3 (x.subs.map GA.row)]:=by
  cases x;simp only [GA.row,GA.rows_eq]
abbrev GK.row (x:GK):List AV:=[.int .u8 x.kind,.sl 1 (x.path.map zN),.int .i64 x.n,.str x.text,.sl 3 (x.dots.map GE.row)]
abbrev GH.row (x:GH):List AV:=[.int .u8 x.dot.actor.rep,.int .u32 x.dot.actor.inc,.int .u64 x.dot.seq,.int .u64 x.time,.int .u8 x.op.kind,.sl 1 (x.op.path.map zN),.int .i64 x.op.n,.str x.op.text,.sl 3 (x.op.dots.map GE.row)]
abbrev GI.row (x:GI):List AV:=[.int .u8 x.e.dot.actor.rep,.int .u32 x.e.dot.actor.inc,.int .u64 x.e.dot.seq,.int .u64 x.e.time,.int .u8 x.e.op.kind,.sl 1 (x.e.op.path.map zN),.int .i64 x.e.op.n,.str x.e.op.text,.sl 3 (x.e.op.dots.map GE.row),.int .i64 x.att]
abbrev GM.row (x:GM):List AV:=[.int .u8 x.leaf,fvOp x.may]
instance el23:El Tryz.prog 23 49 3:=mkEl Tryz.underlying23 (by kernel_rfl)
theorem mixed:Tryz.prog.follows .mixedOrders=true:=by kernel_rfl
theorem zX {Q:Exit->List AV->AH->Prop} {env:List AV} {B:List Blk} {T:List Nat} {id:Nat} {l:List Oper} (hd:drawOk ⟨l⟩ []=true) (a:zV Tryz.prog ⟨l⟩ [] (λn=>KeepB h (lk [] n)) (Q .normal) 0 l env (h.ext B T)):vK Tryz.prog (.region id ⟨l⟩ true) Q env (h.ext B T):=yN [] [] trivial mixed hd a
instance fo49x0:Fo Tryz.prog 49 0 0 9 1:=qv (by kernel_rfl) (by kernel_rfl)
instance ty9:Ty Tryz.prog 9 .string 1:=qG Tryz.underlying9 (by kernel_rfl)
instance fo49x2:Fo Tryz.prog 49 2 2 23 1:=qv (by kernel_rfl) (by kernel_rfl)
instance ty23:Ty Tryz.prog 23 (.slice 49) 1:=qG Tryz.underlying23 (by kernel_rfl)
instance fo49x1:Fo Tryz.prog 49 1 1 47 1:=qv (by kernel_rfl) (by kernel_rfl)
instance ty47:Ty Tryz.prog 47 (.slice 55) 1:=qG Tryz.underlying47 (by kernel_rfl)
instance el47:El Tryz.prog 47 55 9:=mkEl Tryz.underlying47 (by kernel_rfl)
theorem ty55:∃d,Ty Tryz.prog 55 d 9/\yp d=true:=⟨_,qG Tryz.underlying55 (by kernel_rfl),by kernel_rfl⟩
instance:TA Tryz.prog 55 9:=⟨ty55⟩
abbrev xb:List AV:=[.int .u8 (0:Int),.int .i64 (0:Int),.int .u64 (0:Int),.int .u8 (0:Int),.int .u32 (0:Int),.int .u64 (0:Int),.str ([]:zu),.osl none 5 (([]:List GF).map GF.row),.osl none 3 (([]:List GE).map GE.row)]
abbrev xF:List (AV×AV):=[(.int .u8 1,.fn (.func 66) [] []),(.int .u8 2,.fn (.func 67) [] []),(.int .u8 3,.fn (.func 68) [] []),(.int .u8 4,.fn (.func 69) [] []),(.int .u8 5,.fn (.func 70) [] [])]
abbrev lit2x:List AV:=[.int .u8 0,.int .i64 0,.int .u64 0,.int .u8 0,.int .u32 0,.int .u64 0,.str [],.osl none 5 [],.osl none 3 []]
abbrev lit3x:List AV:=[.str ([]:zu),.osl none 9 (([]:List GC).map GC.row),.osl none 3 (([]:List GA).map GA.row)]
abbrev lit4x:List AV:=[.int .u8 (0:Int),.int .u32 (0:Int),.int .u64 (0:Int)]
theorem ze55:xl Tryz.prog 55=some lit2x:=by kernel_rfl
instance:ZE Tryz.prog 55 lit2x:=⟨ze55⟩
instance fo55x4:Fo Tryz.prog 55 4 6 9 1:=qv (by kernel_rfl) (by kernel_rfl)
instance fo55x6:Fo Tryz.prog 55 6 8 38 1:=qv (by kernel_rfl) (by kernel_rfl)
instance ty38:Ty Tryz.prog 38 (.slice 36) 1:=qG Tryz.underlying38 (by kernel_rfl)
instance el38:El Tryz.prog 38 36 3:=mkEl Tryz.underlying38 (by kernel_rfl)
instance fo55x5:Fo Tryz.prog 55 5 7 53 1:=qv (by kernel_rfl) (by kernel_rfl)
instance ty53:Ty Tryz.prog 53 (.slice 73) 1:=qG Tryz.underlying53 (by kernel_rfl)
instance el53:El Tryz.prog 53 73 5:=mkEl Tryz.underlying53 (by kernel_rfl)
instance fo73x2:Fo Tryz.prog 73 2 4 9 1:=qv (by kernel_rfl) (by kernel_rfl)
instance el24:El Tryz.prog 24 42 9:=mkEl Tryz.underlying24 (by kernel_rfl)
theorem ty42:∃d,Ty Tryz.prog 42 d 9/\yp d=true:=⟨_,qG Tryz.underlying42 (by kernel_rfl),by kernel_rfl⟩
instance:TA Tryz.prog 42 9:=⟨ty42⟩
theorem ze42:xl Tryz.prog 42=some [.int .u8 0,.int .u32 0,.int .u64 0,.int .u64 0,.int .u8 0,.osl none 1 [],.int .i64 0,.str [],.osl none 3 []]:=by kernel_rfl
instance:ZE Tryz.prog 42 [.int .u8 0,.int .u32 0,.int .u64 0,.int .u64 0,.int .u8 0,.osl none 1 [],.int .i64 0,.str [],.osl none 3 []]:=⟨ze42⟩
instance fo42x2:Fo Tryz.prog 42 2 4 40 5:=qv (by kernel_rfl) (by kernel_rfl)
instance fo40x3:Fo Tryz.prog 40 3 3 9 1:=qv (by kernel_rfl) (by kernel_rfl)
instance fo40x1:Fo Tryz.prog 40 1 1 37 1:=qv (by kernel_rfl) (by kernel_rfl)
instance ty37:Ty Tryz.prog 37 (.slice 9) 1:=qG Tryz.underlying37 (by kernel_rfl)
instance el37:El Tryz.prog 37 9 1:=mkEl Tryz.underlying37 (by kernel_rfl)
instance fo40x4:Fo Tryz.prog 40 4 4 38 1:=qv (by kernel_rfl) (by kernel_rfl)
theorem ze9:xl Tryz.prog 9=some [.str []]:=by kernel_rfl
instance:ZE Tryz.prog 9 [.str []]:=⟨ze9⟩
theorem ze36:xl Tryz.prog 36=some [.int .u8 0,.int .u32 0,.int .u64 0]:=by kernel_rfl
instance:ZE Tryz.prog 36 [.int .u8 0,.int .u32 0,.int .u64 0]:=⟨ze36⟩
instance el204:El Tryz.prog 204 3 1:=mkEl Tryz.underlying204 (by kernel_rfl)
instance ty3:Ty Tryz.prog 3 (.int .i64) 1:=qG Tryz.underlying3 (by kernel_rfl)
instance fo33x0:Fo Tryz.prog 33 0 0 5 1:=qv (by kernel_rfl) (by kernel_rfl)
instance ty5:Ty Tryz.prog 5 (.int .u8) 1:=qG Tryz.underlying5 (by kernel_rfl)
instance fo33x1:Fo Tryz.prog 33 1 1 31 1:=qv (by kernel_rfl) (by kernel_rfl)
instance ty31:Ty Tryz.prog 31 (.int .u32) 1:=qG Tryz.underlying31 (by kernel_rfl)
theorem ze3:xl Tryz.prog 3=some [.int .i64 0]:=by kernel_rfl
instance:ZE Tryz.prog 3 [.int .i64 0]:=⟨ze3⟩
instance fo36x0:Fo Tryz.prog 36 0 0 33 2:=qv (by kernel_rfl) (by kernel_rfl)
theorem ty33:∃d,Ty Tryz.prog 33 d 2/\yp d=true:=⟨_,qG Tryz.underlying33 (by kernel_rfl),by kernel_rfl⟩
instance:TA Tryz.prog 33 2:=⟨ty33⟩
instance fo36x1:Fo Tryz.prog 36 1 2 34 1:=qv (by kernel_rfl) (by kernel_rfl)
instance ty34:Ty Tryz.prog 34 (.int .u64) 1:=qG Tryz.underlying34 (by kernel_rfl)
theorem ty36:∃d,Ty Tryz.prog 36 d 3/\yp d=true:=⟨_,qG Tryz.underlying36 (by kernel_rfl),by kernel_rfl⟩
instance:TA Tryz.prog 36 3:=⟨ty36⟩
instance el58:El Tryz.prog 58 62 10:=mkEl Tryz.underlying58 (by kernel_rfl)
theorem ty62:∃d,Ty Tryz.prog 62 d 10/\yp d=true:=⟨_,qG Tryz.underlying62 (by kernel_rfl),by kernel_rfl⟩
instance:TA Tryz.prog 62 10:=⟨ty62⟩
theorem ze62:xl Tryz.prog 62=some [.int .u8 0,.int .u32 0,.int .u64 0,.int .u64 0,.int .u8 0,.osl none 1 [],.int .i64 0,.str [],.osl none 3 [],.int .i64 0]:=by kernel_rfl
instance:ZE Tryz.prog 62 [.int .u8 0,.int .u32 0,.int .u64 0,.int .u64 0,.int .u8 0,.osl none 1 [],.int .i64 0,.str [],.osl none 3 [],.int .i64 0]:=⟨ze62⟩
instance fo62x0:Fo Tryz.prog 62 0 0 42 9:=qv (by kernel_rfl) (by kernel_rfl)
instance fo42x1:Fo Tryz.prog 42 1 3 34 1:=qv (by kernel_rfl) (by kernel_rfl)
instance fo42x0:Fo Tryz.prog 42 0 0 36 3:=qv (by kernel_rfl) (by kernel_rfl)
theorem pk36:PK Tryz.prog 36 [.i,.i,.i]:=mkPK (by kernel_rfl) (by kernel_rfl) (by kernel_rfl)
instance fo62x1:Fo Tryz.prog 62 1 9 3 1:=qv (by kernel_rfl) (by kernel_rfl)
instance ty56:Ty Tryz.prog 56 (.pointer 58) 1:=qG Tryz.underlying56 (by kernel_rfl)
noncomputable def sf62:Array Field:=match Tryz.prog.underlying 62 with | some (.struct fs)=>fs | _=>#[]
theorem su62:Tryz.prog.underlying 62=some (.struct sf62):=by kernel_rfl
theorem pl62:vD Tryz.prog sf62=some [(0,9),(9,1)]:=by kernel_rfl
theorem rc56xPush : rcB Tryz.prog 56 "Push" = some (235, true) := by kernel_rfl
instance ty58:Ty Tryz.prog 58 (.slice 62) 1:=qG Tryz.underlying58 (by kernel_rfl)
theorem rc56xLen : rcB Tryz.prog 56 "Len" = some (232, false) := by kernel_rfl
theorem rc56xLess : rcB Tryz.prog 56 "Less" = some (233, false) := by kernel_rfl
theorem rc56xSwap : rcB Tryz.prog 56 "Swap" = some (236, false) := by kernel_rfl
theorem rc56xPop : rcB Tryz.prog 56 "Pop" = some (234, true) := by kernel_rfl
noncomputable def sf33:Array Field:=match Tryz.prog.underlying 33 with | some (.struct fs)=>fs | _=>#[]
theorem su33:Tryz.prog.underlying 33=some (.struct sf33):=by kernel_rfl
theorem ze33:xl Tryz.prog 33=some [.int .u8 0,.int .u32 0]:=by kernel_rfl
instance:ZE Tryz.prog 33 [.int .u8 0,.int .u32 0]:=⟨ze33⟩
theorem pl33:vD Tryz.prog sf33=some [(0,1),(1,1)]:=by kernel_rfl
noncomputable def sf36:Array Field:=match Tryz.prog.underlying 36 with | some (.struct fs)=>fs | _=>#[]
theorem su36:Tryz.prog.underlying 36=some (.struct sf36):=by kernel_rfl
theorem pl36:vD Tryz.prog sf36=some [(0,2),(2,1)]:=by kernel_rfl
noncomputable def sf42:Array Field:=match Tryz.prog.underlying 42 with | some (.struct fs)=>fs | _=>#[]
theorem su42:Tryz.prog.underlying 42=some (.struct sf42):=by kernel_rfl
theorem pl42:vD Tryz.prog sf42=some [(0,3),(3,1),(4,5)]:=by kernel_rfl
noncomputable def sf49:Array Field:=match Tryz.prog.underlying 49 with | some (.struct fs)=>fs | _=>#[]
theorem su49:Tryz.prog.underlying 49=some (.struct sf49):=by kernel_rfl
theorem q9:xl Tryz.prog 49=some [.str [],.osl none 9 [],.osl none 3 []]:=by kernel_rfl
instance:ZE Tryz.prog 49 [.str [],.osl none 9 [],.osl none 3 []]:=⟨q9⟩
theorem pl49:vD Tryz.prog sf49=some [(0,1),(1,1),(2,1)]:=by kernel_rfl
theorem ty49:∃d,Ty Tryz.prog 49 d 3/\yp d=true:=⟨_,qG Tryz.underlying49 (by kernel_rfl),by kernel_rfl⟩
instance:TA Tryz.prog 49 3:=⟨ty49⟩
theorem ze73:xl Tryz.prog 73=some [.int .u64 0,.int .u8 0,.int .u32 0,.int .u64 0,.str []]:=by kernel_rfl
instance:ZE Tryz.prog 73 [.int .u64 0,.int .u8 0,.int .u32 0,.int .u64 0,.str []]:=⟨ze73⟩
instance fo40x0:Fo Tryz.prog 40 0 0 5 1:=qv (by kernel_rfl) (by kernel_rfl)
instance fo40x2:Fo Tryz.prog 40 2 2 2 1:=qv (by kernel_rfl) (by kernel_rfl)
instance ty2:Ty Tryz.prog 2 (.int .i64) 1:=qG Tryz.underlying2 (by kernel_rfl)
theorem ty40:∃d,Ty Tryz.prog 40 d 5/\yp d=true:=⟨_,qG Tryz.underlying40 (by kernel_rfl),by kernel_rfl⟩
instance:TA Tryz.prog 40 5:=⟨ty40⟩
instance ty4:Ty Tryz.prog 4 .bool 1:=qG Tryz.underlying4 (by kernel_rfl)
theorem ty73:∃d,Ty Tryz.prog 73 d 5/\yp d=true:=⟨_,qG Tryz.underlying73 (by kernel_rfl),by kernel_rfl⟩
instance:TA Tryz.prog 73 5:=⟨ty73⟩
instance fo73x1:Fo Tryz.prog 73 1 1 36 3:=qv (by kernel_rfl) (by kernel_rfl)
theorem pk73:PK Tryz.prog 73 [.i,.i,.i,.i,.s]:=mkPK (by kernel_rfl) (by kernel_rfl) (by kernel_rfl)
instance fo55x0:Fo Tryz.prog 55 0 0 5 1:=qv (by kernel_rfl) (by kernel_rfl)
instance fo55x1:Fo Tryz.prog 55 1 1 2 1:=qv (by kernel_rfl) (by kernel_rfl)
instance fo55x2:Fo Tryz.prog 55 2 2 34 1:=qv (by kernel_rfl) (by kernel_rfl)
instance fo55x3:Fo Tryz.prog 55 3 3 36 3:=qv (by kernel_rfl) (by kernel_rfl)
theorem kq36:KQ Tryz.prog 36 (λx=>AV.agg (GE.row x)) GE.eqb:=.struct su36 pk36 (λ_ _=>rfl) (λa=>by simp [GE.eqb])
theorem az3:aZeroM Tryz.prog 3=some ((AV.int .i64) (0:Int)):=by kernel_rfl
instance fo73x0:Fo Tryz.prog 73 0 0 34 1:=qv (by kernel_rfl) (by kernel_rfl)
noncomputable def sf55:Array Field:=match Tryz.prog.underlying 55 with | some (.struct fs)=>fs | _=>#[]
theorem su55:Tryz.prog.underlying 55=some (.struct sf55):=by kernel_rfl
theorem pl55:vD Tryz.prog sf55=some [(0,1),(1,1),(2,1),(3,3),(6,1),(7,1),(8,1)]:=by kernel_rfl
theorem ze104:xl Tryz.prog 104=some [.int .u8 0,.nilf]:=by kernel_rfl
instance:ZE Tryz.prog 104 [.int .u8 0,.nilf]:=⟨ze104⟩
noncomputable def sf104:Array Field:=match Tryz.prog.underlying 104 with | some (.struct fs)=>fs | _=>#[]
theorem su104:Tryz.prog.underlying 104=some (.struct sf104):=by kernel_rfl
theorem pl104:vD Tryz.prog sf104=some [(0,1),(1,1)]:=by kernel_rfl
instance ty140:Ty Tryz.prog 140 (.array 6 104) 12:=qG Tryz.underlying140 (by kernel_rfl)
theorem ze140:xl Tryz.prog 140=some [.int .u8 0,.nilf,.int .u8 0,.nilf,.int .u8 0,.nilf,.int .u8 0,.nilf,.int .u8 0,.nilf,.int .u8 0,.nilf]:=by kernel_rfl
instance:ZE Tryz.prog 140 [.int .u8 0,.nilf,.int .u8 0,.nilf,.int .u8 0,.nilf,.int .u8 0,.nilf,.int .u8 0,.nilf,.int .u8 0,.nilf]:=⟨ze140⟩
theorem ty104:∃d,Ty Tryz.prog 104 d 2/\yp d=true:=⟨_,qG Tryz.underlying104 (by kernel_rfl),by kernel_rfl⟩
instance:TA Tryz.prog 104 2:=⟨ty104⟩
instance fo104x1:Fo Tryz.prog 104 1 1 88 1:=qv (by kernel_rfl) (by kernel_rfl)
instance ty88:Ty Tryz.prog 88 (.func #[40] #[4] false) 1:=qG Tryz.underlying88 (by kernel_rfl)
instance el142:El Tryz.prog 142 23 1:=mkEl Tryz.underlying142 (by kernel_rfl)
instance el214:El Tryz.prog 214 38 1:=mkEl Tryz.underlying214 (by kernel_rfl)
instance el224:El Tryz.prog 224 53 1:=mkEl Tryz.underlying224 (by kernel_rfl)
theorem ze53:xl Tryz.prog 53=some [.osl none 5 []]:=by kernel_rfl
instance:ZE Tryz.prog 53 [.osl none 5 []]:=⟨ze53⟩
theorem ze68:xl Tryz.prog 68=some [.nilm]:=by kernel_rfl
instance:ZE Tryz.prog 68 [.nilm]:=⟨ze68⟩
instance ty68:Ty Tryz.prog 68 (.map 36 3) 1:=qG Tryz.underlying68 (by kernel_rfl)
theorem ze38:xl Tryz.prog 38=some [.osl none 3 []]:=by kernel_rfl
instance:ZE Tryz.prog 38 [.osl none 3 []]:=⟨ze38⟩
instance ty173:Ty Tryz.prog 173 (.array 5 172) 5:=qG Tryz.underlying173 (by kernel_rfl)
theorem ze173:xl Tryz.prog 173=some [.nilf,.nilf,.nilf,.nilf,.nilf]:=by kernel_rfl
instance:ZE Tryz.prog 173 [.nilf,.nilf,.nilf,.nilf,.nilf]:=⟨ze173⟩
instance ty172:Ty Tryz.prog 172 (.func #[55,55,55] #[55] false) 1:=qG Tryz.underlying172 (by kernel_rfl)
theorem ze23:xl Tryz.prog 23=some [.osl none 3 []]:=by kernel_rfl
instance:ZE Tryz.prog 23 [.osl none 3 []]:=⟨ze23⟩
instance fo104x0:Fo Tryz.prog 104 0 0 5 1:=qv (by kernel_rfl) (by kernel_rfl)
instance ty159:Ty Tryz.prog 159 (.int .u64) 1:=qG Tryz.underlying159 (by kernel_rfl)
noncomputable def sf120:Array Field:=match Tryz.prog.underlying 120 with | some (.struct fs)=>fs | _=>#[]
theorem su120:Tryz.prog.underlying 120=some (.struct sf120):=by kernel_rfl
theorem ze120:xl Tryz.prog 120=some lit2x:=by kernel_rfl
instance:ZE Tryz.prog 120 lit2x:=⟨ze120⟩
theorem pl120:vD Tryz.prog sf120=some [(0,9)]:=by kernel_rfl
instance fo120x0:Fo Tryz.prog 120 0 0 55 9:=qv (by kernel_rfl) (by kernel_rfl)
noncomputable def sf73:Array Field:=match Tryz.prog.underlying 73 with | some (.struct fs)=>fs | _=>#[]
theorem su73:Tryz.prog.underlying 73=some (.struct sf73):=by kernel_rfl
theorem pl73:vD Tryz.prog sf73=some [(0,1),(1,3),(4,1)]:=by kernel_rfl
theorem azf115:aZeroM Tryz.prog 115=some .nilf:=by kernel_rfl
instance el22:El Tryz.prog 22 49 3:=mkEl Tryz.underlying22 (by kernel_rfl)
abbrev zw (x:GC) (p q:AV):List AV:=[.int .u8 x.typ,.int .i64 x.n,.int .u64 x.time,.int .u8 x.dot.actor.rep,.int .u32 x.dot.actor.inc,.int .u64 x.dot.seq,.str x.text,p,q]
theorem ok14N (n:Nat):∀{t0:(List GA)} {b:Int} {res:Int} {h:AH} , xj n t0 b=some res->Sp 14 [.sl 3 (t0.map GA.row),.int .i64 b] h (yL (.int .i64 res) h):=by
 induction n with
 | zero=>intro t0 b res h  a;simp [xj] at a
 | succ n ih =>
  intro t0 b res h  a;unfold xj at a;refine zb Tryz.func14 rfl (by kernel_rfl) (yK 84 rfl) (R.r ?_);refine xe (λ(y:Int×Int)=>zo 2 3 (zo 7 77 [(5,.int .i64 y.1),(6,.int .i64 y.2)])) (λy=>h.ext [] []) a (λ_=>by simp only [zo,wg,uf,ug];try rfl) (wk.le LEL.o) ?_;intro S y P a B;apply R.r;refine ln λi=>?_;replace i:=yh i;apply R.r;refine ze gg a (λx a=>?_) (λx a=>?_)
  ·apply R.r;refine yN [16] [] trivial mixed (by kernel_rfl) (R.r ?_);refine zd a (λK w a=>zq rfl rfl (yw rfl el23 gg gg isl w (GA.row_eq _)) ss (R.r ?_));refine draw_len rfl rfl (s_lenStr rfl rfl rfl rfl ty9 gg) ss (R.r ?_);refine zd a (λM s a=>zq rfl rfl (yw rfl el23 gg gg isl s (GA.row_eq _)) ss (R.r ?_));refine zd a (λJ p a=>zJ rfl rfl (λ_=>sc rfl) (by rintro _ ⟨B2,T2,rfl,I⟩;exact ih p) ss (R.r ?_));refine xe (λ(s2:Int×Int)=>zo 2 3 (zo 8 76 [(5,.int .i64 s2.1),(7,.int .i64 s2.2)])) (λs2=>h.ext [] []) a (λ_=>by simp only [zo,wg,uf,ug];try rfl) (wk.le LEL.o) ?_;intro n2 s2 O a u;apply R.r;refine zd a (λH m a=>zc rfl (yw rfl el23 gg gg isl m (GA.row_eq _)) ss (R.r ?_));refine ln λc=>?_;replace c:=yh c;apply R.r;refine ze gg a (λj a=>?_) (λj a=>?_)
   ·apply R.r;refine zd a (λG l a=>zc rfl (yw rfl el23 gg gg isl l (GA.row_eq _)) ss (R.r ?_));refine zd a (λz k a=>ix k (R.r ?_));refine ln λf=>?_;replace f:=yh f;apply R.r;refine ln λg=>?_;replace g:=yh g;apply R.r;refine zy (λ(F:Nat) (A:Int)=>zo 2 3 (zo 10 74 [(5,.int .i64 A),(9,.int .i64 (F:Int))])) (λA=>h.ext [.cells (GC.row z)] []) a (λ_ _=>by simp only [zo,wg,uf,ug];try rfl) (wk.le LEL.o) ?_;intro F A N a;apply R.r;refine ln λd=>?_;replace d:=yh d;apply R.r;refine zF gg a (λL Q E C a D=>?_) (λa=>?_)
    ·apply R.r;refine ix (zB C) (R.r ?_);refine ln λe=>?_;replace e:=yh e;apply R.r;cases a;exact ⟨(IntKind.wrap .i64 ((IntKind.wrap .i64 (A+(1:Int)))+((L.text).length:Int))),E,D,wk.le (by exact (.eq (.eq (.drop (.drop (.drop (.cons (leV.of_eq rfl) (.eq (.eq (.eq (.cons (leV.of_eq (xc (by omega) (by omega))) (.d16 (.d16 (.d16 (.d16 (.d4 (.d4 (.drop (.drop leL.nil)))))))))))))))))))⟩
    ·apply R.r;cases a;exact ⟨(A,(IntKind.wrap .i64 (s2.2+(1:Int)))),u,wk.trans (wk.le LEL.o) (yz (by simp [zD,AV.low]) rfl rfl (by simp [Blk.low,zD,AV.low]))⟩
   ·apply R.r;cases a;replace a:=u;apply R.r;cases a;exact ⟨(s2.1,(IntKind.wrap .i64 (y.2+(1:Int)))),B,wk.le LEL.o⟩
  ·apply R.r;cases a;replace a:=B;apply R.r;cases a;exact fz rfl rfl
theorem ok14 {t0:(List GA)} {a:Int} {res:Int}  (c:ref07Xsize t0 a=some res):Sp 14 [.sl 3 (t0.map GA.row),.int .i64 a] h (yL (.int .i64 res) h):=by
 obtain ⟨n,b⟩:=anyN_is c;exact ok14N n b
theorem ok4 {t0:(List GA)}  (a:qb t0=some res):Sp 4 [.sl 3 (t0.map GA.row)] h (yL (.bool res) h):=by
 unfold qb at a;refine zb Tryz.func4 rfl (by kernel_rfl) (yK 6 rfl) (R.r ?_);refine zd a (λc b a=>cp (ok14 b) (R.r ?_));cases a;exact fz rfl rfl
theorem ok5 {u:(List GH)}  (a:law10Xgreat u=some res):Sp 5 [.sl 9 (u.map GH.row)] h (yL (.bool res) h):=by
 unfold law10Xgreat at a;refine zb Tryz.func5 rfl (by kernel_rfl) (yK 51 rfl) (R.r ?_);refine ln λg=>?_;replace g:=yh g;apply R.r;refine zy (λ(x:Nat) (w:Unit)=>zo 1 7 (zo 11 40 [(10,.int .i64 (x:Int))])) (λw=>h.ext [] []) a (λ_ _=>by simp only [zo,wg,uf,ug];try rfl) (wk.le LEL.o) ?_;intro x w y a;apply R.r;refine zF gg a (λB D p n a j=>?_) (λa=>?_)
 ·apply R.r;refine ix (zB n) (R.r ?_);refine ln λb=>?_;replace b:=yh b;apply R.r;refine ln λd=>?_;replace d:=yh d;apply R.r;refine zy (λ(n2:Nat) (s2:Int)=>zo 1 3 (zo 6 2 (zo 11 9 (zo 23 28 [(5,.int .i64 s2),(22,.int .i64 (n2:Int))])))) (λs2=>h.ext [.cells (GH.row B)] []) a (λ_ _=>by simp only [zo,wg,uf,ug];try rfl) (wk.le LEL.o) ?_;intro n2 s2 z a;apply R.r;refine zF gg a (λA C l k a m=>?_) (λa=>?_)
  ·apply R.r;refine ix (zB k) (R.r ?_);refine ln λf=>?_;replace f:=yh f;apply R.r;cases a;exact ⟨(IntKind.wrap .i64 (s2+(A.length:Int))),l,m,wk.le (by exact (.eq (.drop (.drop (.drop (.eq (.cons (leV.of_eq rfl) (.drop (.drop (.eq (.eq (.eq (.d4 (.d4 (.drop (.eq (.eq (.cons (leV.of_eq (xc (by omega) (by omega))) (.d16 (.d4 (.d4 (.d4 leL.nil))))))))))))))))))))))⟩
  ·apply R.r;refine ln λe=>?_;replace e:=yh e;apply R.r;refine lng λs=>R.r ?_;refine ze gg a (λi a=>?_) (λi a=>?_)
   ·apply R.r;cases a;replace a:=j;apply R.r;cases a;exact fz rfl rfl
   ·apply R.r;cases a;exact ⟨(),p,j,wk.trans (wk.le (by exact (.eq (.d4 (.drop (.drop (.drop (.eq (.eq (.cons (leV.of_eq (xc (by omega) (by omega))) (.d16 (.d16 (.d4 (.d4 leL.nil)))))))))))))) (yz (by simp [zD,AV.low]) rfl rfl (by simp [Blk.low,zD,AV.low]))⟩
 ·apply R.r;refine ln λc=>?_;replace c:=yh c;apply R.r;cases a;exact fz rfl rfl
theorem ok32 {d:(List zu)} {res:(List zu)}  (a:vg d=some res):Sp 32 [.sl 1 (d.map zN)] h (OwnK h 1 res.length (res.map zN)):=by
 unfold vg at a;refine zb Tryz.func32 rfl (by kernel_rfl) (yK 8 rfl) (R.r ?_);refine ops_nilqE rfl rfl el37 gg isl rfl (λ_=>ss) a (λf e a=>R.r ?_);refine ze gg a (λb a=>?_) (λb a=>?_)
 ·apply R.r;cases a;refine fr rfl (fin_own0 (row:=zN) (L:=([]:List zu)) ?_);exact ⟨rfl,rfl⟩
 ·apply R.r;refine zc rfl (zr (es:=([]:List zu).map zN) rfl el37 ze9 rfl rfl zg .nil rfl rfl rfl) ss (R.r ?_);refine yf a (λc a=>zc rfl (e_appN (m:=0) (T':=[((([]:List zu)++d)).length]) rfl rfl rfl rfl el37 el37 gg gg (za rfl) (za rfl) xk c rfl rfl) ss (R.r ?_));cases a;refine fr rfl (fin_own ?_);exact ⟨rfl,rfl⟩
theorem ok33 {d:(List GE)} {res:(List GE)}  (a:yS d=some res):Sp 33 [.sl 3 (d.map GE.row)] h (OwnK h 3 res.length (res.map GE.row)):=by
 unfold yS at a;refine zb Tryz.func33 rfl (by kernel_rfl) (yK 8 rfl) (R.r ?_);refine ops_nilqE rfl rfl el38 gg isl rfl (λ_=>ss) a (λf e a=>R.r ?_);refine ze gg a (λb a=>?_) (λb a=>?_)
 ·apply R.r;cases a;refine fr rfl (fin_own0 (row:=GE.row) (L:=([]:List GE)) ?_);exact ⟨rfl,rfl⟩
 ·apply R.r;refine zc rfl (zr (es:=([]:List GE).map GE.row) rfl el38 ze36 rfl rfl zg .nil rfl rfl rfl) ss (R.r ?_);refine yf a (λc a=>zc rfl (e_appN (m:=0) (T':=[((([]:List GE)++d)).length]) rfl rfl rfl rfl el38 el38 gg gg (za rfl) (za rfl) xk c rfl rfl) ss (R.r ?_));cases a;refine fr rfl (fin_own ?_);exact ⟨rfl,rfl⟩
theorem okR33 {b:(List GE)} {res:(List GE)}  (a:yS b=some res):Sp 33 [.sl 3 (b.map GE.row)] h (NewK h 3 res.length (res.map GE.row)):=by
 unfold yS at a;refine zb Tryz.func33 rfl (by kernel_rfl) (yK 8 rfl) (R.r ?_);refine ops_nilqE rfl rfl el38 gg isl rfl (λ_=>ss) a (λf e a=>R.r ?_);refine ze gg a (λc a=>?_) (λc a=>?_)
 ·apply R.r;cases a;refine fr rfl (fin_row0 ?_);exact ⟨rfl,rfl⟩
 ·apply R.r;refine zc rfl (zr (es:=([]:List GE).map GE.row) rfl el38 ze36 rfl rfl zg .nil rfl rfl rfl) ss (R.r ?_);refine vE (qy gt5 rfl rfl st5 rfl rfl) ?_;refine yf a (λd a=>zc rfl (e_appR (i:=0) (j:=0) (B':=[yA h 0 3 ((([]:List GE)++b).map GE.row)]) (T':=[((([]:List GE)++b)).length]) rfl rfl rfl rfl el38 el38 gg gg rfl (za rfl) xk d rfl rfl rfl rfl rfl) ss (R.r ?_));cases a;refine fr rfl (wF ?_);exact ⟨rfl,rfl⟩
theorem ok17 {a:GH} {res:GH}  (b:foldXown a=some res):Sp 17 [.agg (GH.row a)] h (yL (.agg (GH.row res)) h):=by
 unfold foldXown at b;refine zb Tryz.func17 rfl (by kernel_rfl) (yK 16 rfl) (R.r ?_);refine zX (by kernel_rfl) (R.r ?_);refine zd b (λc e b=>draw_callH rfl FOk.nil (by rfl) rfl (sc rfl) (own_ext (T':=[c.length]) (ok32 e) (m:=0) rfl rfl) ss (R.r ?_));refine zd b (λf d b=>draw_callH rfl FOk.nil (by rfl) rfl (sc rfl) (own_ext (T':=[c.length,f.length]) (ok33 d) (m:=1) rfl rfl) ss (R.r ?_));refine zz rfl FOk.nil (by kernel_rfl) rfl (zY (cs':=[.int .u8 a.dot.actor.rep,.int .u32 a.dot.actor.inc,.int .u64 a.dot.seq,.int .u64 a.time,.int .u8 a.op.kind,osA h 0 1 (c.map zN),.int .i64 a.op.n,.str a.op.text,.sl 3 (a.op.dots.map GE.row)]) rfl ty37 gg gg (za rfl) rfl rfl rfl rfl rfl) rfl (R.r ?_);refine zz rfl FOk.nil (by kernel_rfl) rfl (zY (cs':=[.int .u8 a.dot.actor.rep,.int .u32 a.dot.actor.inc,.int .u64 a.dot.seq,.int .u64 a.time,.int .u8 a.op.kind,osA h 0 1 (c.map zN),.int .i64 a.op.n,.str a.op.text,osA h 1 3 (f.map GE.row)]) rfl ty38 gg gg (za rfl) rfl rfl rfl rfl rfl) rfl (R.r ?_);cases b;exact fe rfl rfl (leV.agg (.eq (.eq (.eq (.eq (.eq (.cons (leV.osl _ _ _) (.eq (.eq (.cons (leV.osl _ _ _) leL.nil))))))))) rfl)
theorem ok145 {b:(List Int)} {res:Int}  (a:cmpOrInt b=some res):Sp 145 [.sl 1 (b.map (intRow .i64))] h (yL (.int .i64 res) h):=by
 unfold cmpOrInt at a;refine zb Tryz.func145 rfl (by kernel_rfl) (yK 18 rfl) (R.r ?_);refine ln λc=>?_;replace c:=yh c;apply R.r;refine zy (λ(i:Nat) (j:Unit)=>zo 0 3 (zo 4 2 (zo 9 9 [(8,.int .i64 (i:Int))]))) (λj=>h.ext [] []) a (λ_ _=>by simp only [zo,wg,uf,ug];try rfl) (wk.le LEL.o) ?_;intro i j k a;apply R.r;refine zF gg a (λl m e g a d=>?_) (λa=>?_)
 ·apply R.r;refine ix (zB g) (R.r ?_);refine ze gg a (λf a=>?_) (λf a=>?_)
  ·apply R.r;cases a;replace a:=d;apply R.r;cases a;exact fz rfl rfl
  ·apply R.r;cases a;exact ⟨(),e,d,wk.le (by exact (.drop (.drop (.drop (.eq (.drop (.drop (.eq (.eq (.cons (leV.of_eq (xc (by omega) (by omega))) (.d4 (.d4 (.drop leL.nil)))))))))))))⟩
 ·apply R.r;cases a;exact fz rfl rfl
theorem ok198  (a:wY x0=some res):Sp 198 [.int .u32 x0] h (yL (.bool res) h):=by
 unfold wY at a;refine zb Tryz.func198 rfl (by kernel_rfl) (yK 6 rfl) (R.r ?_);cases a;exact fz rfl rfl
theorem ok178 {res:Int}  (a:wG x0 y1=some res):Sp 178 [.int .u32 x0,.int .u32 y1] h (yL (.int .i64 res) h):=by
 unfold wG at a;refine zb Tryz.func178 rfl (by kernel_rfl) (yK 20 rfl) (R.r ?_);refine zd a (λk f a=>cp (ok198 f) (R.r ?_));refine zd a (λj c a=>cp (ok198 c) (R.r ?_));refine ze gg a (λi a=>?_) (λi a=>?_)
 ·apply R.r;refine ze gg a (λd a=>?_) (λd a=>?_)
  ·apply R.r;cases a;exact fz rfl rfl
  ·apply R.r;cases a;exact fz rfl rfl
 ·apply R.r;refine ze gg a (λb a=>?_) (λb a=>?_)
  ·apply R.r;cases a;exact fz rfl rfl
  ·apply R.r;refine ze gg a (λe a=>?_) (λe a=>?_)
   ·apply R.r;cases a;exact fz rfl rfl
   ·apply R.r;refine ze gg a (λg a=>?_) (λg a=>?_)
    ·apply R.r;cases a;exact fz rfl rfl
    ·apply R.r;cases a;exact fz rfl rfl
theorem ok123  (a:vu x0=some res):Sp 123 [.int .u8 x0] h (yL (.bool res) h):=by
 unfold vu at a;refine zb Tryz.func123 rfl (by kernel_rfl) (yK 6 rfl) (R.r ?_);cases a;exact fz rfl rfl
theorem ok79 {res:Int}  (a:xX x0 y1=some res):Sp 79 [.int .u8 x0,.int .u8 y1] h (yL (.int .i64 res) h):=by
 unfold xX at a;refine zb Tryz.func79 rfl (by kernel_rfl) (yK 20 rfl) (R.r ?_);refine zd a (λk f a=>cp (ok123 f) (R.r ?_));refine zd a (λj c a=>cp (ok123 c) (R.r ?_));refine ze gg a (λi a=>?_) (λi a=>?_)
 ·apply R.r;refine ze gg a (λd a=>?_) (λd a=>?_)
  ·apply R.r;cases a;exact fz rfl rfl
  ·apply R.r;cases a;exact fz rfl rfl
 ·apply R.r;refine ze gg a (λb a=>?_) (λb a=>?_)
  ·apply R.r;cases a;exact fz rfl rfl
  ·apply R.r;refine ze gg a (λe a=>?_) (λe a=>?_)
   ·apply R.r;cases a;exact fz rfl rfl
   ·apply R.r;refine ze gg a (λg a=>?_) (λg a=>?_)
    ·apply R.r;cases a;exact fz rfl rfl
    ·apply R.r;cases a;exact fz rfl rfl
theorem ok146 {a0:GJ} {f:GJ} {res:Int}  (a:dotXcompare a0 f=some res):Sp 146 [.agg (GJ.row a0),.agg (GJ.row f)] h (yL (.int .i64 res) h):=by
 unfold dotXcompare at a;refine zb Tryz.func146 rfl (by kernel_rfl) (yK 17 rfl) (R.r ?_);refine yN [4,9,11] [] trivial mixed (by kernel_rfl) (R.r ?_);refine zd a (λi e a=>zJ rfl rfl (λ_=>sc rfl) (by rintro _ ⟨B2,T2,rfl,b⟩;exact ok79 e) ss (R.r ?_));refine zd a (λg c a=>zJ rfl rfl (λ_=>sc rfl) (by rintro _ ⟨B2,T2,rfl,b⟩;exact ok178 c) ss ?_);refine zq rfl rfl (zr (es:=([i,g]:List Int).map (intRow .i64)) rfl el204 ze3 rfl rfl (zf gg (zf gg zg)) (.cons (za rfl) (.cons (za rfl) .nil)) rfl rfl rfl) ss ?_;refine zd a (λv3 d a=>zJ rfl rfl (λ_=>sc rfl) (by rintro _ ⟨B2,T2,rfl,b⟩;exact (ok145 d).le (.cons (leV.osl _ _ _) leL.nil)) ss (R.r ?_));cases a;exact fz rfl rfl
theorem ok179  (a:wX x0=some res):Sp 179 [.int .u64 x0] h (yL (.bool res) h):=by
 unfold wX at a;refine zb Tryz.func179 rfl (by kernel_rfl) (yK 6 rfl) (R.r ?_);cases a;exact fz rfl rfl
theorem ok147 {res:Int}  (a:we x0 y1=some res):Sp 147 [.int .u64 x0,.int .u64 y1] h (yL (.int .i64 res) h):=by
 unfold we at a;refine zb Tryz.func147 rfl (by kernel_rfl) (yK 20 rfl) (R.r ?_);refine zd a (λk f a=>cp (ok179 f) (R.r ?_));refine zd a (λj c a=>cp (ok179 c) (R.r ?_));refine ze gg a (λi a=>?_) (λi a=>?_)
 ·apply R.r;refine ze gg a (λd a=>?_) (λd a=>?_)
  ·apply R.r;cases a;exact fz rfl rfl
  ·apply R.r;cases a;exact fz rfl rfl
 ·apply R.r;refine ze gg a (λb a=>?_) (λb a=>?_)
  ·apply R.r;cases a;exact fz rfl rfl
  ·apply R.r;refine ze gg a (λe a=>?_) (λe a=>?_)
   ·apply R.r;cases a;exact fz rfl rfl
   ·apply R.r;refine ze gg a (λg a=>?_) (λg a=>?_)
    ·apply R.r;cases a;exact fz rfl rfl
    ·apply R.r;cases a;exact fz rfl rfl
theorem ok114 {a0:GE} {f:GE} {res:Int}  (a:wx a0 f=some res):Sp 114 [.agg (GE.row a0),.agg (GE.row f)] h (yL (.int .i64 res) h):=by
 unfold wx at a;refine zb Tryz.func114 rfl (by kernel_rfl) (yK 17 rfl) (R.r ?_);refine yN [4,9,11] [] trivial mixed (by kernel_rfl) (R.r ?_);refine zd a (λi e a=>zJ rfl rfl (λ_=>sc rfl) (by rintro _ ⟨B2,T2,rfl,b⟩;exact ok146 e) ss (R.r ?_));refine zd a (λg c a=>zJ rfl rfl (λ_=>sc rfl) (by rintro _ ⟨B2,T2,rfl,b⟩;exact ok147 c) ss ?_);refine zq rfl rfl (zr (es:=([i,g]:List Int).map (intRow .i64)) rfl el204 ze3 rfl rfl (zf gg (zf gg zg)) (.cons (za rfl) (.cons (za rfl) .nil)) rfl rfl rfl) ss ?_;refine zd a (λv3 d a=>zJ rfl rfl (λ_=>sc rfl) (by rintro _ ⟨B2,T2,rfl,b⟩;exact (ok145 d).le (.cons (leV.osl _ _ _) leL.nil)) ss (R.r ?_));cases a;exact fz rfl rfl
theorem ok139 {a0:Int} {g:GE} {i:Int} {f:GE} {res:Int}  (a:vF a0 g i f=some res):Sp 139 [.int .u64 a0,.agg (GE.row g),.int .u64 i,.agg (GE.row f)] h (yL (.int .i64 res) h):=by
 unfold vF at a;refine zb Tryz.func139 rfl (by kernel_rfl) (yK 17 rfl) (R.r ?_);refine yN [2,5,7] [] trivial mixed (by kernel_rfl) (R.r ?_);refine zd a (λk e a=>zJ rfl rfl (λ_=>sc rfl) (by rintro _ ⟨B2,T2,rfl,b⟩;exact ok147 e) ss (R.r ?_));refine zd a (λj c a=>zJ rfl rfl (λ_=>sc rfl) (by rintro _ ⟨B2,T2,rfl,b⟩;exact ok114 c) ss ?_);refine zq rfl rfl (zr (es:=([k,j]:List Int).map (intRow .i64)) rfl el204 ze3 rfl rfl (zf gg (zf gg zg)) (.cons (za rfl) (.cons (za rfl) .nil)) rfl rfl rfl) ss ?_;refine zd a (λv3 d a=>zJ rfl rfl (λ_=>sc rfl) (by rintro _ ⟨B2,T2,rfl,b⟩;exact (ok145 d).le (.cons (leV.osl _ _ _) leL.nil)) ss (R.r ?_));cases a;exact fz rfl rfl
theorem ok110 {d:GE} {c:GE}  (a:w9 time0 d other2 c=some res):Sp 110 [.int .u64 time0,.agg (GE.row d),.int .u64 other2,.agg (GE.row c)] h (yL (.bool res) h):=by
 unfold w9 at a;refine zb Tryz.func110 rfl (by kernel_rfl) (yK 15 rfl) (R.r ?_);refine zd a (λe b a=>cp (ok139 b) (R.r ?_));cases a;exact fz rfl rfl
theorem ok233 {h0:(List GI)} {k:Int} {k2:Int}  (a:yF h0 k k2=some res):Sp 233 [.sl 10 (h0.map GI.row),.int .i64 k,.int .i64 k2] h (yL (.bool res) h):=by
 unfold yF at a;refine zb Tryz.func233 rfl (by kernel_rfl) (yK 51 rfl) (R.r ?_);refine r_any 12 rfl mixed ?_;refine any_s (i:=0) (by kernel_rfl) (by kernel_rfl) rfl rfl (λ_=>zH rfl gg (za rfl)) ss ?_;refine any_s (i:=1) (by kernel_rfl) (by kernel_rfl) rfl rfl (λ_=>zH rfl gg (za rfl)) ss ?_;refine zd a (λy1 e a=>any_s (i:=2) (by kernel_rfl) (by kernel_rfl) rfl rfl (λ_=>vS rfl el58 gg gg isl e) ss ?_);refine any_s (i:=3) (by kernel_rfl) (by kernel_rfl) rfl rfl (λ_=>f_load rfl ty62.choose_spec.1 gg (yO (cs':=(GI.row y1)) ty62.choose_spec.2 rfl rfl) (za rfl)) ss ?_;refine any_s (i:=4) (by kernel_rfl) (by kernel_rfl) rfl rfl (λ_=>zH rfl gg (za rfl)) ss ?_;refine any_s (i:=5) (by kernel_rfl) (by kernel_rfl) rfl rfl (λ_=>zH rfl gg (za rfl)) ss ?_;refine zd a (λg f a=>any_s (i:=6) (by kernel_rfl) (by kernel_rfl) rfl rfl (λ_=>vS rfl el58 gg gg isl f) ss ?_);refine any_s (i:=7) (by kernel_rfl) (by kernel_rfl) rfl rfl (λ_=>f_load rfl ty62.choose_spec.1 gg (yO (cs':=(GI.row g)) ty62.choose_spec.2 rfl rfl) (za rfl)) ss ?_;refine any_2 (i:=8) (j:=9) (by kernel_rfl) ?_ ?_
 ·refine any_at rfl rfl (vi (n:=0) rfl ze62 rfl) ss ?_;refine any_1 (i:=9) (by kernel_rfl) (any_at rfl rfl (vi (n:=1) rfl ze62 rfl) ss ?_);refine any_1 (i:=10) (by kernel_rfl) (any_at rfl rfl (zY (cs':=(GI.row y1)) rfl ty62.choose_spec.1 gg gg (za rfl) rfl rfl rfl rfl rfl) rfl ?_);refine any_1 (i:=11) (by kernel_rfl) (any_at rfl rfl (zY (cs':=(GI.row g)) rfl ty62.choose_spec.1 gg gg (za rfl) rfl rfl rfl rfl rfl) rfl ?_);refine any_end (by kernel_rfl) (R.r ?_);refine vd rfl (λd=>xK rfl (yd gg d) (yd gg d) (bin_eq pk36 rfl)) ss (R.r ?_);refine ze gg a (λb a=>?_) (λb a=>?_)
  ·apply R.r;cases a;exact fz rfl rfl
  ·apply R.r;refine zd a (λv4 c a=>cp (ok110 c) (R.r ?_));cases a;exact fz rfl rfl
 ·refine any_at rfl rfl (vi (n:=0) rfl ze62 rfl) ss ?_;refine any_1 (i:=8) (by kernel_rfl) (any_at rfl rfl (vi (n:=1) rfl ze62 rfl) ss ?_);refine any_1 (i:=10) (by kernel_rfl) (any_at rfl rfl (zY (cs':=(GI.row y1)) rfl ty62.choose_spec.1 gg gg (za rfl) rfl rfl rfl rfl rfl) rfl ?_);refine any_1 (i:=11) (by kernel_rfl) (any_at rfl rfl (zY (cs':=(GI.row g)) rfl ty62.choose_spec.1 gg gg (za rfl) rfl rfl rfl rfl rfl) rfl ?_);refine any_end (by kernel_rfl) (R.r ?_);refine vd rfl (λd=>xK rfl (yd gg d) (yd gg d) (bin_eq pk36 rfl)) ss (R.r ?_);refine ze gg a (λb a=>?_) (λb a=>?_)
  ·apply R.r;cases a;exact fz rfl rfl
  ·apply R.r;refine zd a (λv4 c a=>cp (ok110 c) (R.r ?_));cases a;exact fz rfl rfl
theorem ok8 {l0:(List GH)} {res:(List GH)}  (a:xH l0=some res):Sp 8 [.sl 9 (l0.map GH.row)] h (yL (.sl 9 (res.map GH.row)) h):=by
 unfold xH at a;refine zb Tryz.func8 rfl (by kernel_rfl) (yK 27 rfl) (R.r ?_);refine zc rfl (zr (es:=([]:List GI).map GI.row) rfl el58 ze62 rfl rfl zg .nil rfl rfl rfl) ss (R.r ?_);refine ln λhn1=>?_;replace hn1:=yh hn1;apply R.r;refine zy (λ(n1:Nat) (p:(List GI))=>zo 0 3 (zo 4 4 (zo 11 16 [(10,.int .i64 (n1:Int))]))) (λp=>h.ext [.cells [zT h 1 0 10 (p.length)],yA h 0 10 (p.map GI.row)] [p.length]) a (λ_ _=>by simp only [zo,wg,uf,ug];try rfl) (wk.trans ((swk_thawB (jb:=0) (o:=0) (B':=[.cells [zT h 1 0 10 ((([]:List GI)).length)],yA h 0 10 (([]:List GI).map GI.row)]) (T':=[(([]:List GI)).length]) rfl rfl rfl rfl rfl rfl rfl).wk) (wk.le LEL.o)) ?_;intro n1 p hi1 a;apply R.r;refine zF gg a (λx1 o1 hl1 hx1 a hK1=>?_) (λa=>?_)
 ·apply R.r;refine ix (zB hx1) (R.r ?_);refine xE rfl (b_mkI rfl ty56 rfl gg (za rfl)) ss (R.r ?_);refine zd a (λb hv158 a=>cp (ok17 hv158) (R.r ?_));refine zc rfl (yi (cs':=[.int .u8 b.dot.actor.rep,.int .u32 b.dot.actor.inc,.int .u64 b.dot.seq,.int .u64 b.time,.int .u8 b.op.kind,.sl 1 (b.op.path.map zN),.int .i64 b.op.n,.str b.op.text,.sl 3 (b.op.dots.map GE.row),.int .i64 (n1:Int)]) rfl su62 ze62 pl62 (zf gg (zf gg zg)) (.cons (za rfl) (.cons (za rfl) .nil)) rfl rfl) ss ?_;refine xE rfl (b_mkI rfl ty62.choose_spec.1 (notI_agg ty62.choose_spec.2) gg (za rfl)) ss ?_;refine zd a (λP hv159 a=>xC (X:=Unit) (v:=.tup []) (H':=λ_=>h.ext [.cells [zT h 1 0 10 (P.length)],yA h 0 10 (P.map GI.row),.cells (GH.row x1)] [P.length]) rfl (z7 rfl rfl rfl (zk gg (zk gg zA)) (.cons (za rfl) (.cons (za rfl) .nil))) ?_ ss (λ_=>?_))
  ·replace a:=hv159;refine zC Tryz.func16 rfl (by kernel_rfl) (yK 12 rfl) (R.r ?_);refine zd a (λd hv235 a=>xC (args:=[.ptr (h.blks.length+0) 0,.iface 62 (.agg [.int .u8 b.dot.actor.rep,.int .u32 b.dot.actor.inc,.int .u64 b.dot.seq,.int .u64 b.time,.int .u8 b.op.kind,.sl 1 (b.op.path.map zN),.int .i64 b.op.n,.str b.op.text,.sl 3 (b.op.dots.map GE.row),.int .i64 (n1:Int)])]) (X:=Unit) (v:=.tup []) (H':=λ_=>h.ext [.cells [zT h 1 0 10 (d.length)],yA h 0 10 (d.map GI.row),.cells (GH.row x1)] [d.length]) rfl (vz rfl rfl gg (rc_p rc56xPush ty56) (zk gg zA) (.cons (za rfl) .nil)) ?_ ss (λ_=>?_))
   ·replace a:=hv235;refine zC Tryz.func235 rfl (by kernel_rfl) (yK 20 rfl) (R.r ?_);refine xE rfl (b_tyA rfl ty62.choose_spec.1 (notI_agg ty62.choose_spec.2) gg) ss (R.r ?_);refine r_cond gg (λ_=>?_) (λhh=>by cases hh);refine zX (by kernel_rfl) (R.r ?_);refine zq rfl rfl (zr (es:=([(GI.mk b (n1:Int))]:List GI).map GI.row) rfl el58 ze62 rfl rfl (zf gg zg) (.cons (za rfl) .nil) rfl rfl rfl) ss ?_;refine yf a (λhm237 a=>zz rfl FOk.nil (by kernel_rfl) rfl (e_appR (i:=1) (j:=0) (B':=[.cells [zT h 1 0 10 (p.length)],yA h 0 10 ((p++([(GI.mk b (n1:Int))]:List GI)).map GI.row),.cells (GH.row x1),.cells [.int .u8 b.dot.actor.rep,.int .u32 b.dot.actor.inc,.int .u64 b.dot.seq,.int .u64 b.time,.int .u8 b.op.kind,.sl 1 (b.op.path.map zN),.int .i64 b.op.n,.str b.op.text,.sl 3 (b.op.dots.map GE.row),.int .i64 (n1:Int)]]) (T':=[((p++([(GI.mk b (n1:Int))]:List GI))).length]) rfl rfl rfl rfl el58 el58 gg gg rfl (za rfl) yH hm237 rfl rfl rfl rfl rfl) ss (R.r ?_));refine zz rfl FOk.nil (by kernel_rfl) rfl (zY (cs':=[zT h 1 0 10 (((p++([(GI.mk b (n1:Int))]:List GI))).length)]) rfl ty58 gg gg (za rfl) rfl rfl rfl rfl rfl) rfl (R.r ?_);obtain rfl:=oi a;refine fr rfl (wm (yz (by simp [zD,AV.low]) rfl rfl (by simp [Blk.low,zD,AV.low])) ?_);exact ⟨rfl,(),rfl⟩
   ·apply R.r;refine zd a (λv238 hv238 a=>xC (args:=[zT h 1 0 10 (d.length)]) (X:=Unit) (v:=.int .i64 v238) (H':=λ_=>h.ext [.cells [zT h 1 0 10 (d.length)],yA h 0 10 (d.map GI.row),.cells (GH.row x1)] [d.length]) rfl (vz rfl rfl gg (rc_v rc56xLen ty56 ty58 (ld_ext rfl (yq rfl)) (za rfl)) zA .nil) ?_ ss (λ_=>?_))
    ·replace a:=hv238;refine zC Tryz.func232 rfl (by kernel_rfl) (yK 5 rfl) (R.r ?_);refine ln λhn240=>R.r ?_;cases a;refine fr rfl (wF ?_);exact ⟨rfl,(),rfl⟩
    ·apply R.r;refine zd a (λv241 hv241 a=>xC (X:=Unit) (v:=.tup []) (H':=λ_=>h.ext [.cells [zT h 1 0 10 (d.length)],yA h 0 10 (v241.map GI.row),.cells (GH.row x1)] [d.length]) rfl (z7 rfl rfl rfl (zk gg (zk gg zA)) (.cons (za rfl) (.cons (za rfl) .nil))) ?_ ss (λ_=>?_))
     ·replace a:=hv241;refine zC Tryz.func31 rfl (by kernel_rfl) (yK 23 rfl) (R.r ?_);refine xe (λ(s2:Int×(List GI))=>zo 2 21 [(1,.int .i64 s2.1)]) (λs2=>h.ext [.cells [zT h 1 0 10 (d.length)],yA h 0 10 (s2.2.map GI.row),.cells (GH.row x1)] [d.length]) a (λ_=>by simp only [zo,wg,uf,ug];try rfl) (wk.le LEL.o) ?_;intro n2 s2 o2 a hK2;refine yf a (λB a=>R.r ?_);refine ya a (λv298 hv298 a=>zL rfl (λhb=>vz rfl rfl (yd gg hb) (rc_v rc56xLess ty56 ty58 (ld_ext rfl (yq rfl)) (za rfl)) (zk (yd gg hb) (zk (yd gg hb) zA)) (.cons (za rfl) (.cons (za rfl) .nil))) (λhb=>wb (by exact (.cons (.row _ _ _ _ _ (by rw [yb];rfl) (by rw [ul];exact tV (B))) (.cons (.low _ rfl) (.cons (.low _ rfl) .nil)))) rfl (ok233 (hv298 hb)) (λ_ _ h=>h.1)) ss (R.r ?_));refine ze gg a (λhc299 a=>?_) (λhc299 a=>?_)
      ·apply R.r;refine qF (by decide) (R.r ?_);cases a;replace a:=hK2;apply R.r;cases a;refine fr rfl (wF ?_);exact ⟨rfl,(),rfl⟩
      ·apply R.r;refine zd a (λv300 hv300 a=>xC (args:=[zT h 1 0 10 (d.length),.int .i64 (IntKind.wrap .i64 (Int.tdiv (IntKind.wrap .i64 (s2.1 - (1:Int))) (2:Int))),.int .i64 s2.1]) (X:=Unit) (v:=.tup []) (H':=λ_=>h.ext [.cells [zT h 1 0 10 (d.length)],yA h 0 10 (v300.map GI.row),.cells (GH.row x1)] [d.length]) rfl (vz rfl rfl gg (rc_v rc56xSwap ty56 ty58 (ld_ext rfl (yq rfl)) (za rfl)) (zk gg (zk gg zA)) (.cons (za rfl) (.cons (za rfl) .nil))) ?_ ss (λ_=>?_))
       ·replace a:=hv300;refine zC Tryz.func236 rfl (by kernel_rfl) (yK 20 rfl) ?_;refine zX (by kernel_rfl) (R.r ?_);refine zd a (λH hy305 a=>zq rfl rfl (yG rfl el58 gg gg (xn hy305 B)) ss ?_);refine zq rfl rfl (vh (off:=0) (i:=1) (q:=h.toks.length+0) (z:=s2.1.toNat) (row:=GI.row) (λ_=>rfl) rfl ty62.choose_spec.1 (by decide) gg rfl B (wz hy305).2.2 (yO (cs':=(GI.row H)) ty62.choose_spec.2 rfl rfl) (za rfl)) ss (R.r ?_);refine zd a (λN hy306 a=>zq rfl rfl (yG rfl el58 gg gg (xn hy306 B)) ss ?_);refine zq rfl rfl (vh (off:=0) (i:=1) (q:=h.toks.length+0) (z:=(IntKind.wrap .i64 (Int.tdiv (IntKind.wrap .i64 (s2.1 - (1:Int))) (2:Int))).toNat) (row:=GI.row) (λ_=>rfl) rfl ty62.choose_spec.1 (by decide) gg rfl B (wz hy306).2.2 (yO (cs':=(GI.row N)) ty62.choose_spec.2 rfl rfl) (za rfl)) ss ?_;refine zd a (λy307 hy307 a=>zq rfl rfl (yG rfl el58 gg gg (xn hy307 B)) ss ?_);refine zz rfl FOk.nil (by kernel_rfl) rfl (vM (off:=0) (i:=1) (q:=h.toks.length+0) (z:=(IntKind.wrap .i64 (Int.tdiv (IntKind.wrap .i64 (s2.1 - (1:Int))) (2:Int))).toNat) (row:=GI.row) (y':=H) (us:=(GI.row H)) (B':=[.cells [zT h 1 0 10 (d.length)],yA h 0 10 ((s2.2.set (IntKind.wrap .i64 (Int.tdiv (IntKind.wrap .i64 (s2.1 - (1:Int))) (2:Int))).toNat H).map GI.row),.cells (GH.row x1)]) (λ_=>rfl) rfl ty62.choose_spec.1 gg gg (za rfl) rfl rfl rfl rfl B (wz hy307).2.2 (by decide) rfl rfl) rfl ?_;refine zd a (λy308 hy308 a=>zq rfl rfl (yG rfl el58 gg gg (xn hy308 (uI.trans B))) ss ?_);refine zz rfl FOk.nil (by kernel_rfl) rfl (vM (off:=0) (i:=1) (q:=h.toks.length+0) (z:=s2.1.toNat) (row:=GI.row) (y':=N) (us:=(GI.row N)) (B':=[.cells [zT h 1 0 10 (d.length)],yA h 0 10 (((s2.2.set (IntKind.wrap .i64 (Int.tdiv (IntKind.wrap .i64 (s2.1 - (1:Int))) (2:Int))).toNat H).set s2.1.toNat N).map GI.row),.cells (GH.row x1)]) (λ_=>rfl) rfl ty62.choose_spec.1 gg gg (za rfl) rfl rfl rfl rfl (uI.trans B) (wz hy308).2.2 (by decide) rfl rfl) rfl (R.r ?_);cases a;refine fr rfl (wF ?_);exact ⟨rfl,(),rfl⟩
       ·refine yf a (λhlv3001 a=>R.r ?_);cases a;exact ⟨((IntKind.wrap .i64 (Int.tdiv (IntKind.wrap .i64 (s2.1 - (1:Int))) (2:Int))),v300),hK2,wk.le LEL.o⟩
     ·refine yf a (λI a=>R.r ?_);cases a;refine fr rfl (wF ?_);refine ⟨by first | rfl | simp only [I],(),?_⟩;first | rfl | simp only [I]
  ·apply R.r;cases a;exact ⟨P,hl1,hK1,wk.trans (wk.le (by exact (.drop (.drop (.drop (.eq (.d4 (.eq (.eq (.cons (leV.of_eq (xc (by omega) (by omega))) (.d16 leL.nil))))))))))) (yz (by simp [zD,AV.low]) rfl rfl (by simp [Blk.low,zD,AV.low]))⟩
 ·apply R.r;refine xE rfl (b_mkI rfl ty56 rfl gg (za rfl)) ss ?_;refine zd a (λU hv309 a=>xC (X:=Nat×Nat) (v:=.sl 9 (U.1.map GH.row)) (H':=λC=>h.ext [.cells [zT h 2 2 10 ((U.2).length)],.dead,yA h 2 10 (U.2.map GI.row)] [C.1,C.2,(U.2).length]) rfl (z7 rfl rfl rfl (zk gg zA) (.cons (za rfl) .nil)) ?_ ss (λC=>?_))
  ·replace a:=hv309;refine zC Tryz.func18 rfl (by kernel_rfl) (yK 21 rfl) (R.r ?_);refine r_loopWE (λ(s2:(List GH)×(List GI))=>[(1,.any),(2,osA h 1 9 (s2.1.map GH.row)),(3,.any),(4,.any),(5,.any),(6,.any),(7,.any),(8,.any),(9,.any),(10,.any),(11,.any),(12,.any),(13,.any),(14,.any),(15,.any),(16,.any),(17,.any),(18,.any),(19,.any),(20,.any)]) (λs2=>h.ext [.cells [zT h 2 2 10 ((s2.2).length)],.dead,yA h 2 10 (s2.2.map GI.row)] [p.length+1,(s2.1).length,(s2.2).length]) a (λ_=>by simp only [wg,uf,ug];try rfl) (wk.trans (wk_tok gt2 rfl st2 rfl) (wk.trans ((swk_moveB (jb:=0) (o:=0) (j:=1) (i:=0) (n2:=p.length) (B':=[.cells [zT h 2 2 10 (p.length)],.dead,yA h 2 10 (p.map GI.row)]) (T':=[p.length+1,(([]:List GH)).length,p.length]) rfl rfl rfl (by simp) rfl rfl rfl rfl rfl rfl).wk) (wk.le (by exact (.eq (.drop (.cons (leV.of_eq rfl) (.d16 (.drop (.drop leL.nil)))))))))) ?_;intro n2 s2 o2 a hK2;apply R.r;refine zd a (λv1089 hv1089 a=>xC (args:=[zT h 2 2 10 ((s2.2).length)]) (X:=Unit) (v:=.int .i64 v1089) (H':=λ_=>h.ext [.cells [zT h 2 2 10 ((s2.2).length)],.dead,yA h 2 10 (s2.2.map GI.row)] [p.length+1,(s2.1).length,(s2.2).length]) rfl (vz rfl rfl gg (rc_v rc56xLen ty56 ty58 (ld_ext rfl (yq rfl)) (za rfl)) zA .nil) ?_ ss (λ_=>?_))
   ·replace a:=hv1089;refine zC Tryz.func232 rfl (by kernel_rfl) (yK 5 rfl) (R.r ?_);refine ln λhn1091=>R.r ?_;cases a;refine fr rfl (wF ?_);exact ⟨rfl,(),rfl⟩
   ·apply R.r;refine ze gg a (λhc1092 a=>?_) (λhc1092 a=>?_)
    ·apply R.r;refine zd a (λg hv1093 a=>xC (X:=Nat) (v:=.iface 62 (.agg (GI.row g.1))) (H':=λy=>h.ext [.cells [zT h 4 3 10 ((g.2).length)],.dead,.dead,.dead,yA h 3 10 (g.2.map GI.row)] [p.length+1,(s2.1).length,y,(g.2).length]) rfl (z7 rfl rfl rfl (zk gg zA) (.cons (za rfl) .nil)) ?_ ss (λy=>?_))
     ·replace a:=hv1093;refine zC Tryz.func34 rfl (by kernel_rfl) (yK 15 rfl) (R.r ?_);refine zd a (λx hv1220 a=>xC (args:=[zT h 2 2 10 ((s2.2).length)]) (X:=Unit) (v:=.int .i64 x) (H':=λ_=>h.ext [.cells [zT h 2 2 10 ((s2.2).length)],.dead,yA h 2 10 (s2.2.map GI.row)] [p.length+1,(s2.1).length,(s2.2).length]) rfl (vz rfl rfl gg (rc_v rc56xLen ty56 ty58 (ld_ext rfl (yq rfl)) (za rfl)) zA .nil) ?_ ss (λ_=>?_))
      ·replace a:=hv1220;refine zC Tryz.func232 rfl (by kernel_rfl) (yK 5 rfl) (R.r ?_);refine ln λhn1222=>R.r ?_;cases a;refine fr rfl (wF ?_);exact ⟨rfl,(),rfl⟩
      ·apply R.r;refine zd a (λv1223 hv1223 a=>xC (args:=[zT h 2 2 10 ((s2.2).length),.int .i64 (0:Int),.int .i64 (IntKind.wrap .i64 (x - (1:Int)))]) (X:=Unit) (v:=.tup []) (H':=λ_=>h.ext [.cells [zT h 2 2 10 ((s2.2).length)],.dead,yA h 2 10 (v1223.map GI.row)] [p.length+1,(s2.1).length,(s2.2).length]) rfl (vz rfl rfl gg (rc_v rc56xSwap ty56 ty58 (ld_ext rfl (yq rfl)) (za rfl)) (zk rfl (zk gg zA)) (.cons (za rfl) (.cons (za rfl) .nil))) ?_ ss (λ_=>?_))
       ·replace a:=hv1223;refine zC Tryz.func236 rfl (by kernel_rfl) (yK 20 rfl) ?_;refine zX (by kernel_rfl) (R.r ?_);refine zd a (λA hy1228 a=>zq rfl rfl (yG rfl el58 gg gg (xn hy1228 rfl)) ss ?_);refine zq rfl rfl (vh (off:=0) (i:=2) (q:=h.toks.length+2) (z:=(IntKind.wrap .i64 (x - (1:Int))).toNat) (row:=GI.row) (λ_=>rfl) rfl ty62.choose_spec.1 (by decide) gg rfl rfl (wz hy1228).2.2 (yO (cs':=(GI.row A)) ty62.choose_spec.2 rfl rfl) (za rfl)) ss (R.r ?_);refine zd a (λG Z a=>zq rfl rfl (yG rfl el58 gg gg (xn Z rfl)) ss ?_);refine zq rfl rfl (vh (off:=0) (i:=2) (q:=h.toks.length+2) (z:=(0:Int).toNat) (row:=GI.row) (λ_=>rfl) rfl ty62.choose_spec.1 (by decide) gg rfl rfl (wz Z).2.2 (yO (cs':=(GI.row G)) ty62.choose_spec.2 rfl rfl) (za rfl)) ss ?_;refine zd a (λy1230 O a=>zq rfl rfl (yG rfl el58 gg gg (xn O rfl)) ss ?_);refine zz rfl FOk.nil (by kernel_rfl) rfl (vM (off:=0) (i:=2) (q:=h.toks.length+2) (z:=(0:Int).toNat) (row:=GI.row) (y':=A) (us:=(GI.row A)) (B':=[.cells [zT h 2 2 10 ((s2.2).length)],.dead,yA h 2 10 ((s2.2.set (0:Int).toNat A).map GI.row)]) (λ_=>rfl) rfl ty62.choose_spec.1 gg gg (za rfl) rfl rfl rfl rfl rfl (wz O).2.2 (by decide) rfl rfl) rfl ?_;refine zd a (λy1231 Q a=>zq rfl rfl (yG rfl el58 gg gg (xn Q (uI.trans rfl))) ss ?_);refine zz rfl FOk.nil (by kernel_rfl) rfl (vM (off:=0) (i:=2) (q:=h.toks.length+2) (z:=(IntKind.wrap .i64 (x - (1:Int))).toNat) (row:=GI.row) (y':=G) (us:=(GI.row G)) (B':=[.cells [zT h 2 2 10 ((s2.2).length)],.dead,yA h 2 10 (((s2.2.set (0:Int).toNat A).set (IntKind.wrap .i64 (x - (1:Int))).toNat G).map GI.row)]) (λ_=>rfl) rfl ty62.choose_spec.1 gg gg (za rfl) rfl rfl rfl rfl (uI.trans rfl) (wz Q).2.2 (by decide) rfl rfl) rfl (R.r ?_);cases a;refine fr rfl (wF ?_);exact ⟨rfl,(),rfl⟩
       ·refine yf a (λhlv12232 a=>R.r ?_);refine zd a (λJ hv1232 a=>xC (X:=Unit) (v:=.bool J.1) (H':=λ_=>h.ext [.cells [zT h 2 2 10 ((s2.2).length)],.dead,yA h 2 10 (J.2.map GI.row)] [p.length+1,(s2.1).length,(s2.2).length]) rfl (z7 rfl rfl rfl (zk gg (zk rfl (zk gg zA))) (.cons (za rfl) (.cons (za rfl) (.cons (za rfl) .nil)))) ?_ ss (λ_=>?_))
        ·replace a:=hv1232;refine zC Tryz.func53 rfl (by kernel_rfl) (yK 48 rfl) (R.r ?_);refine xe (λ(k:Int×(List GI))=>zo 3 4 (zo 8 40 [(7,.int .i64 k.1)])) (λk=>h.ext [.cells [zT h 2 2 10 ((s2.2).length)],.dead,yA h 2 10 (k.2.map GI.row)] [p.length+1,(s2.1).length,(s2.2).length]) a (λ_=>by simp only [zo,wg,uf,ug];try rfl) (wk.le LEL.o) ?_;intro n3 k o3 a hK3;refine yf a (λf a=>R.r ?_);refine ze gg a (λhc1313 a=>?_) (λhc1313 a=>?_)
         ·apply R.r;refine qF (by decide) (R.r ?_);cases a;replace a:=hK3;apply R.r;cases a;refine fr rfl (wF ?_);exact ⟨rfl,(),rfl⟩
         ·apply R.r;refine ya a (λv1314 hv1314 a=>zL rfl (λhb=>vz rfl rfl (yd gg hb) (rc_v rc56xLess ty56 ty58 (ld_ext rfl (yq rfl)) (za rfl)) (zk (yd gg hb) (zk (yd gg hb) zA)) (.cons (za rfl) (.cons (za rfl) .nil))) (λhb=>wb (by exact (.cons (.row _ _ _ _ _ (by rw [yb];rfl) (by rw [ul];exact tV (f))) (.cons (.low _ rfl) (.cons (.low _ rfl) .nil)))) rfl (ok233 (hv1314 hb)) (λ_ _ h=>h.1)) ss (R.r ?_));refine ze gg a (λhc1315 a=>?_) (λhc1315 a=>?_)
          ·apply R.r;refine zd a (λv1316 hv1316 a=>yg rfl (vz rfl rfl gg (rc_v rc56xLess ty56 ty58 (ld_ext rfl (yq rfl)) (za rfl)) (zk gg (zk gg zA)) (.cons (za rfl) (.cons (za rfl) .nil))) (wb (by exact (.cons (.row _ _ _ _ _ (by rw [yb];rfl) (by rw [ul];exact tV (f))) (.cons (.low _ rfl) (.cons (.low _ rfl) .nil)))) rfl (ok233 hv1316) (λ_ _ h=>h.1)) ss (R.r ?_));refine ze gg a (λhc1317 a=>?_) (λhc1317 a=>?_)
           ·apply R.r;refine qF (by decide) (R.r ?_);cases a;replace a:=hK3;apply R.r;cases a;refine fr rfl (wF ?_);exact ⟨rfl,(),rfl⟩
           ·apply R.r;refine zd a (λv1318 hv1318 a=>xC (args:=[zT h 2 2 10 ((s2.2).length),.int .i64 k.1,.int .i64 (IntKind.wrap .i64 ((IntKind.wrap .i64 ((IntKind.wrap .i64 ((2:Int) * k.1))+(1:Int)))+(1:Int)))]) (X:=Unit) (v:=.tup []) (H':=λ_=>h.ext [.cells [zT h 2 2 10 ((s2.2).length)],.dead,yA h 2 10 (v1318.map GI.row)] [p.length+1,(s2.1).length,(s2.2).length]) rfl (vz rfl rfl gg (rc_v rc56xSwap ty56 ty58 (ld_ext rfl (yq rfl)) (za rfl)) (zk gg (zk gg zA)) (.cons (za rfl) (.cons (za rfl) .nil))) ?_ ss (λ_=>?_))
            ·replace a:=hv1318;refine zC Tryz.func236 rfl (by kernel_rfl) (yK 20 rfl) ?_;refine zX (by kernel_rfl) (R.r ?_);refine zd a (λs T a=>zq rfl rfl (yG rfl el58 gg gg (xn T f)) ss ?_);refine zq rfl rfl (vh (off:=0) (i:=2) (q:=h.toks.length+2) (z:=(IntKind.wrap .i64 ((IntKind.wrap .i64 ((IntKind.wrap .i64 ((2:Int) * k.1))+(1:Int)))+(1:Int))).toNat) (row:=GI.row) (λ_=>rfl) rfl ty62.choose_spec.1 (by decide) gg rfl f (wz T).2.2 (yO (cs':=(GI.row s)) ty62.choose_spec.2 rfl rfl) (za rfl)) ss (R.r ?_);refine zd a (λE Y a=>zq rfl rfl (yG rfl el58 gg gg (xn Y f)) ss ?_);refine zq rfl rfl (vh (off:=0) (i:=2) (q:=h.toks.length+2) (z:=k.1.toNat) (row:=GI.row) (λ_=>rfl) rfl ty62.choose_spec.1 (by decide) gg rfl f (wz Y).2.2 (yO (cs':=(GI.row E)) ty62.choose_spec.2 rfl rfl) (za rfl)) ss ?_;refine zd a (λy1325 hy1325 a=>zq rfl rfl (yG rfl el58 gg gg (xn hy1325 f)) ss ?_);refine zz rfl FOk.nil (by kernel_rfl) rfl (vM (off:=0) (i:=2) (q:=h.toks.length+2) (z:=k.1.toNat) (row:=GI.row) (y':=s) (us:=(GI.row s)) (B':=[.cells [zT h 2 2 10 ((s2.2).length)],.dead,yA h 2 10 ((k.2.set k.1.toNat s).map GI.row)]) (λ_=>rfl) rfl ty62.choose_spec.1 gg gg (za rfl) rfl rfl rfl rfl f (wz hy1325).2.2 (by decide) rfl rfl) rfl ?_;refine zd a (λy1326 W a=>zq rfl rfl (yG rfl el58 gg gg (xn W (uI.trans f))) ss ?_);refine zz rfl FOk.nil (by kernel_rfl) rfl (vM (off:=0) (i:=2) (q:=h.toks.length+2) (z:=(IntKind.wrap .i64 ((IntKind.wrap .i64 ((IntKind.wrap .i64 ((2:Int) * k.1))+(1:Int)))+(1:Int))).toNat) (row:=GI.row) (y':=E) (us:=(GI.row E)) (B':=[.cells [zT h 2 2 10 ((s2.2).length)],.dead,yA h 2 10 (((k.2.set k.1.toNat s).set (IntKind.wrap .i64 ((IntKind.wrap .i64 ((IntKind.wrap .i64 ((2:Int) * k.1))+(1:Int)))+(1:Int))).toNat E).map GI.row)]) (λ_=>rfl) rfl ty62.choose_spec.1 gg gg (za rfl) rfl rfl rfl rfl (uI.trans f) (wz W).2.2 (by decide) rfl rfl) rfl (R.r ?_);cases a;refine fr rfl (wF ?_);exact ⟨rfl,(),rfl⟩
            ·refine yf a (λhlv13182 a=>R.r ?_);cases a;exact ⟨((IntKind.wrap .i64 ((IntKind.wrap .i64 ((IntKind.wrap .i64 ((2:Int) * k.1))+(1:Int)))+(1:Int))),v1318),hK3,wk.le LEL.o⟩
          ·apply R.r;refine zd a (λv1327 hv1327 a=>yg rfl (vz rfl rfl gg (rc_v rc56xLess ty56 ty58 (ld_ext rfl (yq rfl)) (za rfl)) (zk gg (zk gg zA)) (.cons (za rfl) (.cons (za rfl) .nil))) (wb (by exact (.cons (.row _ _ _ _ _ (by rw [yb];rfl) (by rw [ul];exact tV (f))) (.cons (.low _ rfl) (.cons (.low _ rfl) .nil)))) rfl (ok233 hv1327) (λ_ _ h=>h.1)) ss (R.r ?_));refine ze gg a (λhc1328 a=>?_) (λhc1328 a=>?_)
           ·apply R.r;refine qF (by decide) (R.r ?_);cases a;replace a:=hK3;apply R.r;cases a;refine fr rfl (wF ?_);exact ⟨rfl,(),rfl⟩
           ·apply R.r;refine zd a (λv1329 hv1329 a=>xC (args:=[zT h 2 2 10 ((s2.2).length),.int .i64 k.1,.int .i64 (IntKind.wrap .i64 ((IntKind.wrap .i64 ((2:Int) * k.1))+(1:Int)))]) (X:=Unit) (v:=.tup []) (H':=λ_=>h.ext [.cells [zT h 2 2 10 ((s2.2).length)],.dead,yA h 2 10 (v1329.map GI.row)] [p.length+1,(s2.1).length,(s2.2).length]) rfl (vz rfl rfl gg (rc_v rc56xSwap ty56 ty58 (ld_ext rfl (yq rfl)) (za rfl)) (zk gg (zk gg zA)) (.cons (za rfl) (.cons (za rfl) .nil))) ?_ ss (λ_=>?_))
            ·replace a:=hv1329;refine zC Tryz.func236 rfl (by kernel_rfl) (yK 20 rfl) ?_;refine zX (by kernel_rfl) (R.r ?_);refine zd a (λu hy1334 a=>zq rfl rfl (yG rfl el58 gg gg (xn hy1334 f)) ss ?_);refine zq rfl rfl (vh (off:=0) (i:=2) (q:=h.toks.length+2) (z:=(IntKind.wrap .i64 ((IntKind.wrap .i64 ((2:Int) * k.1))+(1:Int))).toNat) (row:=GI.row) (λ_=>rfl) rfl ty62.choose_spec.1 (by decide) gg rfl f (wz hy1334).2.2 (yO (cs':=(GI.row u)) ty62.choose_spec.2 rfl rfl) (za rfl)) ss (R.r ?_);refine zd a (λD V a=>zq rfl rfl (yG rfl el58 gg gg (xn V f)) ss ?_);refine zq rfl rfl (vh (off:=0) (i:=2) (q:=h.toks.length+2) (z:=k.1.toNat) (row:=GI.row) (λ_=>rfl) rfl ty62.choose_spec.1 (by decide) gg rfl f (wz V).2.2 (yO (cs':=(GI.row D)) ty62.choose_spec.2 rfl rfl) (za rfl)) ss ?_;refine zd a (λy1336 S a=>zq rfl rfl (yG rfl el58 gg gg (xn S f)) ss ?_);refine zz rfl FOk.nil (by kernel_rfl) rfl (vM (off:=0) (i:=2) (q:=h.toks.length+2) (z:=k.1.toNat) (row:=GI.row) (y':=u) (us:=(GI.row u)) (B':=[.cells [zT h 2 2 10 ((s2.2).length)],.dead,yA h 2 10 ((k.2.set k.1.toNat u).map GI.row)]) (λ_=>rfl) rfl ty62.choose_spec.1 gg gg (za rfl) rfl rfl rfl rfl f (wz S).2.2 (by decide) rfl rfl) rfl ?_;refine zd a (λy1337 M a=>zq rfl rfl (yG rfl el58 gg gg (xn M (uI.trans f))) ss ?_);refine zz rfl FOk.nil (by kernel_rfl) rfl (vM (off:=0) (i:=2) (q:=h.toks.length+2) (z:=(IntKind.wrap .i64 ((IntKind.wrap .i64 ((2:Int) * k.1))+(1:Int))).toNat) (row:=GI.row) (y':=D) (us:=(GI.row D)) (B':=[.cells [zT h 2 2 10 ((s2.2).length)],.dead,yA h 2 10 (((k.2.set k.1.toNat u).set (IntKind.wrap .i64 ((IntKind.wrap .i64 ((2:Int) * k.1))+(1:Int))).toNat D).map GI.row)]) (λ_=>rfl) rfl ty62.choose_spec.1 gg gg (za rfl) rfl rfl rfl rfl (uI.trans f) (wz M).2.2 (by decide) rfl rfl) rfl (R.r ?_);cases a;refine fr rfl (wF ?_);exact ⟨rfl,(),rfl⟩
            ·refine yf a (λhlv13292 a=>R.r ?_);cases a;exact ⟨((IntKind.wrap .i64 ((IntKind.wrap .i64 ((2:Int) * k.1))+(1:Int))),v1329),hK3,wk.le LEL.o⟩
        ·refine yf a (λl a=>R.r ?_);refine zd a (λF hv1338 a=>xC (args:=[.ptr (h.blks.length+0) 0]) (X:=Nat) (v:=.iface 62 (.agg (GI.row F.1))) (H':=λw=>h.ext [.cells [zT h 4 3 10 ((F.2).length)],.dead,.dead,.dead,yA h 3 10 (F.2.map GI.row)] [p.length+1,(s2.1).length,w,(F.2).length]) rfl (vz rfl rfl gg (rc_p rc56xPop ty56) zA .nil) ?_ ss (λw=>?_))
         ·replace a:=hv1338;refine zC Tryz.func234 rfl (by kernel_rfl) (yK 25 rfl) (R.r ?_);refine ln λhn1342=>R.r ?_;refine zd a (λy1343 K a=>zc rfl (yG rfl el58 gg gg (xn K l)) ss ?_);refine zc rfl (vh (off:=0) (i:=2) (q:=h.toks.length+2) (z:=(IntKind.wrap .i64 ((((s2.2).length:Nat):Int) - (1:Int))).toNat) (row:=GI.row) (λ_=>rfl) rfl ty62.choose_spec.1 (by decide) gg rfl l (wz K).2.2 (yO (cs':=(GI.row y1343)) ty62.choose_spec.2 rfl rfl) (za rfl)) ss (R.r ?_);refine zd a (λm1344 hm1344 a=>xE rfl (e_cutR (i:=2) (j:=2) (L:=J.2) (row:=GI.row) (B':=[.cells [zT h 2 2 10 ((s2.2).length)],.dead,.dead,.cells (GI.row y1343),yA h 3 10 (m1344.map GI.row)]) (T':=[p.length+1,(s2.1).length,((s2.2).length)+1,m1344.length]) rfl el58 gg gg rfl l hm1344 rfl rfl rfl rfl) ss (R.r ?_));refine xE rfl (b_mkI rfl ty62.choose_spec.1 (notI_agg ty62.choose_spec.2) gg (za rfl)) ss (R.r ?_);obtain rfl:=oi a;refine fr rfl (wm ((qz (by exact (.keep (.keep (.keep (.dead (.keep .nil))))))).wk) ?_);exact ⟨rfl,((s2.2).length)+1,rfl⟩
         ·apply R.r;cases a;refine fr rfl (wF ?_);exact ⟨rfl,w,rfl⟩
     ·refine xE rfl (b_tyA rfl ty62.choose_spec.1 (notI_agg ty62.choose_spec.2) gg) ss (R.r ?_);refine r_cond gg (λ_=>?_) (λhh=>by cases hh);apply R.r;refine zc rfl (zr (es:=([g.1.e]:List GH).map GH.row) rfl el24 ze42 rfl rfl (zf gg zg) (.cons (za rfl) .nil) rfl rfl rfl) ss ?_;refine yf a (λhm1345 a=>zc rfl (xq (j:=1) (T':=[p.length+1,((s2.1++([g.1.e]:List GH))).length,y,(g.2).length]) rfl rfl rfl rfl el24 el24 gg gg (za rfl) (za rfl) yH hm1345 rfl rfl) ss (R.r ?_));cases a;exact ⟨((s2.1++([g.1.e]:List GH)),g.2),hK2,wk.trans (wk.le LEL.o) (wk_reB (jb:=0) (o:=0) (jr:=4) (c:=2) (m:=3) (q:=2) (tx rfl) (tx rfl) (tx rfl) (sg (pH _) (tx rfl)) (tx rfl) rfl rfl rfl rfl (by simp [zD,AV.low]) rfl (by simp [Blk.low,zD,AV.low]) rfl rfl)⟩
    ·apply R.r;cases a;replace a:=hK2;apply R.r;obtain rfl:=oi a;refine fr rfl (wm (wk.le (leL.cons (leV.osl _ _ _) leL.nil)) ?_);exact ⟨rfl,(p.length+1,(s2.1).length),rfl⟩
  ·apply R.r;cases a;exact fz rfl rfl
theorem ok15 {a:Int} {b:Int} {res:GH}  (c:wu a b=some res):Sp 15 [.int .u8 a,.int .u64 b] h (yL (.agg (GH.row res)) h):=by
 unfold wu at c;refine zb Tryz.func15 rfl (by kernel_rfl) (yK 10 rfl) (R.r ?_);refine zc rfl (yi (cs':=[.int .u8 a,.int .u32 (1:Int)]) rfl su33 ze33 pl33 (zf gg (zf rfl zg)) (.cons (za rfl) (.cons (za rfl) .nil)) rfl rfl) ss ?_;refine zc rfl (yi (cs':=[.int .u8 a,.int .u32 (1:Int),.int .u64 (1:Int)]) rfl su36 ze36 pl36 (zf gg (zf rfl zg)) (.cons (za rfl) (.cons (za rfl) .nil)) rfl rfl) ss (R.r ?_);refine zc rfl (yi (cs':=[.int .u8 a,.int .u32 (1:Int),.int .u64 (1:Int),.int .u64 b,.int .u8 (0:Int),.osl none 1 (([]:List zu).map zN),.int .i64 (0:Int),.str ([]:zu),.osl none 3 (([]:List GE).map GE.row)]) rfl su42 ze42 pl42 (zf gg (zf gg zg)) (.cons (za rfl) (.cons (za rfl) .nil)) rfl rfl) ss (R.r ?_);cases c;exact fe rfl rfl (leV.agg (.eq (.eq (.eq (.eq (.eq (.cons (leV.osl _ _ _) (.eq (.eq (.cons (leV.osl _ _ _) leL.nil))))))))) rfl)
theorem ok6  {res:Bool} {h:AH}  (a:qp  = some res):Sp 6 [] h (yL (.bool res) h):=by
 unfold qp at a;refine zb Tryz.func6 rfl (by kernel_rfl) (yK 42 rfl) (R.r ?_);refine zd a (λm d a=>yg rfl (z7 rfl rfl gg (zk rfl (zk rfl zA)) (.cons (za rfl) (.cons (za rfl) .nil))) (ok15 d) ss (R.r ?_));refine zd a (λn f a=>yg rfl (z7 rfl rfl gg (zk rfl (zk rfl zA)) (.cons (za rfl) (.cons (za rfl) .nil))) (ok15 f) ss ?_);refine zc rfl (zr (es:=([m,n]:List GH).map GH.row) rfl el24 ze42 rfl rfl (zf gg (zf gg zg)) (.cons (za rfl) (.cons (za rfl) .nil)) rfl rfl rfl) ss ?_;refine zd a (λv3 g a=>cp ((ok8 g).le (.cons (leV.osl _ _ _) leL.nil)) (R.r ?_));refine zd a (λv4 e a=>yg rfl (z7 rfl rfl gg (zk rfl (zk rfl zA)) (.cons (za rfl) (.cons (za rfl) .nil))) (ok15 e) ss (R.r ?_));refine zd a (λv5 i a=>yg rfl (z7 rfl rfl gg (zk rfl (zk rfl zA)) (.cons (za rfl) (.cons (za rfl) .nil))) (ok15 i) ss ?_);refine zc rfl (zr (es:=([v4,v5]:List GH).map GH.row) rfl el24 ze42 rfl rfl (zf gg (zf gg zg)) (.cons (za rfl) (.cons (za rfl) .nil)) rfl rfl rfl) ss ?_;refine zd a (λo k a=>cp ((ok8 k).le (.cons (leV.osl _ _ _) leL.nil)) (R.r ?_));refine ln λc=>?_;replace c:=yh c;apply R.r;refine lng λl=>R.r ?_;refine yf a (λj a=>gix j (R.r ?_));refine yf a (λb a=>gix b (R.r ?_));cases a;exact fz rfl rfl
theorem ok7N (n:Nat):∀{t0:(List GA)} {res:(List GA)} {h:AH} , ref07OwnN n t0=some res->Sp 7 [.sl 3 (t0.map GA.row)] h (yL (.sl 3 (res.map GA.row)) h):=by
 induction n with
 | zero=>intro t0 res h  a;simp [ref07OwnN] at a
 | succ n ih =>
  intro t0 res h  a;unfold ref07OwnN at a;refine zb Tryz.func7 rfl (by kernel_rfl) (yK 65 rfl) (R.r ?_);refine zy (λ(B:Nat) (d:(List GA))=>zo 1 2 (zo 5 60 [(3,osA h 0 3 (d.map GA.row)),(4,.int .i64 (B:Int))])) (λd=>h.ext [] [d.length]) a (λ_ _=>by simp only [zo,wg,uf,ug];try rfl) (wk.trans (wk_tok gt3 rfl st3 rfl) (wk.le (by exact (.eq (.drop (.drop (.cons (leV.of_eq rfl) (.cons (leV.of_eq rfl) (.d16 (.d16 (.d16 (.d4 (.d4 (.d4 leL.nil)))))))))))))) ?_;intro B d C a;apply R.r;refine ln λf=>?_;replace f:=yh f;apply R.r;refine zF gg a (λi F z e a A=>?_) (λa=>?_)
  ·apply R.r;refine yN [4,9,10] [] trivial mixed (by kernel_rfl) (R.r ?_);refine zq rfl rfl (yw rfl el23 gg gg isl (zB e) (GA.row_eq _)) ss (R.r ?_);refine xr rfl rfl (by rintro _ ⟨B2,T2,rfl,k⟩;exact f_load rfl ty9 gg (yq rfl) (za rfl)) ss (R.r ?_);refine zq rfl rfl (yw rfl el23 gg gg isl (zB e) (GA.row_eq _)) ss (R.r ?_);refine xr rfl rfl (by rintro _ ⟨B2,T2,rfl,k⟩;exact f_load rfl ty23 gg (yq rfl) (za rfl)) ss ?_;refine zd a (λc p a=>zJ rfl rfl (λ_=>sc rfl) (by rintro _ ⟨B2,T2,rfl,k⟩;exact ih p) ss ?_);refine zq rfl rfl (yi (cs':=[.str i.name,.osl none 9 (([]:List GC).map GC.row),.sl 3 (c.map GA.row)]) rfl su49 q9 pl49 (zf gg (zf gg zg)) (.cons (za rfl) (.cons (za rfl) .nil)) rfl rfl) ss ?_;refine zz rfl (FOk.cons (.inr (yD trivial)) (FOk.cons (.inr (yD trivial)) (FOk.cons (.inr (yD trivial)) FOk.nil))) (by kernel_rfl) rfl (vi (n:=0) rfl q9 rfl) ss ?_;refine zz rfl (FOk.cons (.inr (yD trivial)) (FOk.cons (.inr (yD trivial)) (FOk.cons (.inr (yD trivial)) FOk.nil))) (by kernel_rfl) rfl (zY (cs':=[.str i.name,.osl none 9 (([]:List GC).map GC.row),.sl 3 (c.map GA.row)]) rfl ty49.choose_spec.1 gg gg (za rfl) rfl rfl rfl rfl rfl) rfl (R.r ?_);refine zy (λ(n2:Nat) (s2:(List GC))=>zo 1 2 (zo 7 58 [(6,.int .i64 (n2:Int))])) (λs2=>h.ext [.cells [.str i.name,osA h 1 9 (s2.map GC.row),.sl 3 (c.map GA.row)]] [d.length,s2.length]) a (λ_ _=>by simp only [zo,wg,uf,ug];try rfl) (wk.trans (wk_tokB (j:=0) rfl gt1 rfl st1 rfl rfl) (wk.le (by exact (.eq (.drop (.drop (.eq (.eq (.eq (.cons (leV.of_eq rfl) (.d16 (.d16 (.d16 (.d4 (.d4 (.drop (.drop leL.nil))))))))))))))))) ?_;intro n2 s2 D a;apply R.r;refine zc rfl (yw rfl el23 gg gg isl (zB e) (GA.row_eq _)) ss (R.r ?_);refine ln λg=>?_;replace g:=yh g;apply R.r;refine zF gg a (λb E x w a y=>?_) (λa=>?_)
   ·apply R.r;refine zc rfl (yw rfl el23 gg gg isl (zB e) (GA.row_eq _)) ss (R.r ?_);refine ix (zB w) (R.r ?_);refine zc rfl (zr (es:=([]:List GF).map GF.row) rfl el53 ze73 rfl rfl zg .nil rfl rfl rfl) ss (R.r ?_);refine yf a (λl a=>zc rfl (e_appN (m:=2) (T':=[d.length,s2.length,((([]:List GF)++b.items)).length]) rfl rfl rfl rfl el53 el53 gg gg (za rfl) (za rfl) xk l rfl rfl) ss (R.r ?_));refine zc rfl (zr (es:=([]:List GE).map GE.row) rfl el38 ze36 rfl rfl zg .nil rfl rfl rfl) ss (R.r ?_);refine yf a (λo a=>zc rfl (e_appN (m:=3) (T':=[d.length,s2.length,((([]:List GF)++b.items)).length,((([]:List GE)++b.tombs)).length]) rfl rfl rfl rfl el38 el38 gg gg (za rfl) (za rfl) xk o rfl rfl) ss (R.r ?_));refine zc rfl (zr (es:=([(GC.mk b.typ b.n b.time b.dot b.text (([]:List GF)++b.items) (([]:List GE)++b.tombs))]:List GC).map GC.row) rfl el47 ze55 rfl rfl (zf gg zg) (.cons (za rfl) .nil) rfl rfl rfl) ss ?_;refine yf a (λu a=>zc rfl (xq (j:=1) (T':=[d.length,((s2++([(GC.mk b.typ b.n b.time b.dot b.text (([]:List GF)++b.items) (([]:List GE)++b.tombs))]:List GC))).length,((([]:List GF)++b.items)).length,((([]:List GE)++b.tombs)).length]) rfl rfl rfl rfl el47 el47 gg gg (za rfl) (za rfl) yH u rfl rfl) ss (R.r ?_));cases a;exact ⟨(s2++([(GC.mk b.typ b.n b.time b.dot b.text (([]:List GF)++b.items) (([]:List GE)++b.tombs))]:List GC)),x,y,wk.trans (wk.le (by exact (.eq (.drop (.drop (.eq (.eq (.eq (.cons (leV.of_eq (xc (by omega) (by omega))) (.d16 (.d16 (.d16 (.d4 (.d4 (.drop (.drop leL.nil)))))))))))))))) (yz (by simp [zD,AV.low]) rfl rfl (by simp [Blk.low,zD,AV.low]))⟩
   ·apply R.r;refine zc rfl (zr (es:=([(GA.mk i.name s2 c)]:List GA).map GA.row) rfl el23 q9 rfl rfl (zf gg zg) (.cons (za rfl) .nil) rfl rfl (by simp only [uz,tr,GA.row_eq];rfl)) ss ?_;refine yf a (λs a=>zc rfl (xq (j:=0) (T':=[((d++([(GA.mk i.name s2 c)]:List GA))).length,s2.length]) rfl rfl rfl rfl el23 el23 gg gg (za rfl) (za rfl) yH s rfl rfl) ss (R.r ?_));cases a;exact ⟨(d++([(GA.mk i.name s2 c)]:List GA)),z,A,wk.trans (wk.le (by exact (.eq (.drop (.drop (.cons (leV.of_eq rfl) (.cons (leV.of_eq (xc (by omega) (by omega))) (.d16 (.d16 (.d16 (.d4 (.d4 (.d4 leL.nil))))))))))))) (yz (by simp [zD,AV.low]) rfl rfl (by simp [Blk.low,zD,AV.low]))⟩
  ·apply R.r;cases a;exact fe rfl rfl (leV.osl _ _ _)
theorem ok7 {t0:(List GA)} {res:(List GA)}  (b:ref07Own t0=some res):Sp 7 [.sl 3 (t0.map GA.row)] h (yL (.sl 3 (res.map GA.row)) h):=by
 obtain ⟨n,a⟩:=anyN_is b;exact ok7N n a
theorem ok35 {a0:GE} {d:GE}  (a:vC a0 d=some res):Sp 35 [.agg (GE.row a0),.agg (GE.row d)] h (yL (.bool res) h):=by
 unfold vC at a;refine zb Tryz.func35 rfl (by kernel_rfl) (yK 38 rfl) (R.r ?_);refine ze gg a (λc a=>?_) (λc a=>?_)
 ·apply R.r;cases a;exact fz rfl rfl
 ·apply R.r;refine ze gg a (λb a=>?_) (λb a=>?_)
  ·apply R.r;cases a;exact fz rfl rfl
  ·apply R.r;cases a;exact fz rfl rfl
theorem ok19 {e:GE} {d:GE}  (a:wi time0 e other2 d=some res):Sp 19 [.int .u64 time0,.agg (GE.row e),.int .u64 other2,.agg (GE.row d)] h (yL (.bool res) h):=by
 unfold wi at a;refine zb Tryz.func19 rfl (by kernel_rfl) (yK 18 rfl) (R.r ?_);refine ze gg a (λc a=>?_) (λc a=>?_)
 ·apply R.r;cases a;exact fz rfl rfl
 ·apply R.r;refine zd a (λf b a=>cp (ok35 b) (R.r ?_));cases a;exact fz rfl rfl
end Go.Vv
