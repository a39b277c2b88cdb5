/- Each function that the law reaches computes what its reading says; printed by a program. -/
import Derived.Test.YtdkfnnpdeenhnaaGreatVvSh
import Derived.Test.YtdkfnnpdeenhnaaGreatVvMl
import Derived.Test.YtdkfnnpdeenhnaaGreatVvRb
import Derived.Test.YtdkfnnpdeenhnaaGreatVvSo
import Derived.Test.YtdkfnnpdeenhnaaGreatVvPt
import Derived.Test.YtdkfnnpdeenhnaaGreatVvIn
import Derived.Test.YtdkfnnpdeenhnaaGreatVvR1
import Derived.Test.YtdkfnnpdeenhnaaGreatVvSs
import Derived.Test.YtdkfnnpdeenhnaaGreatVvZ
import Derived.Test.YtdkfnnpdeenhnaaGreatVvAn
import Derived.Test.YtdkfnnpdeenhnaaGreatVvLb
import Derived.Test.YtdkfnnpdeenhnaaGreatVvLc
import Derived.Test.YtdkfnnpdeenhnaaGreatVvMr
import Derived.Test.YtdkfnnpdeenhnaaGreatVvIt
import Derived.Test.YtdkfnnpdeenhnaaGreatVvRd
import Derived.Test.YtdkfnnpdeenhnaaGreatD
import Derived.Test.YtdkfnnpdeenhnaaGreatProg
namespace Go.Vv
open Go Go.Proofs
set_option maxRecDepth 100000
set_option synthInstance.maxSize 100000
set_option synthInstance.maxHeartbeats 1000000
set_option maxHeartbeats 1000000
set_option linter.unusedSimpArgs false
set_option linter.unusedVariables false
section
variable {v a0 a1 a2 a3 a4 a5 a6 a7 a8 a9 a10 a11 a12 a13 a14 a15 a16 a17 a18 a19 a20 a21 a22 a23 a24 a25 a26 a27 a28 a29 a30 a31 a32 a33 a34 a35 a36 a37 a38 a39:AV} {r q:List AV} {t:Nat}
theorem gt0:zU (a0::r) (.tmp 0)=some a0:=rfl
theorem st0:xw (some 0) (a0::r) v=some (v::r):=rfl
theorem gt1:zU (a0::a1::r) (.tmp 1)=some a1:=rfl
theorem st1:xw (some 1) (a0::a1::r) v=some (a0::v::r):=rfl
theorem gt2:zU (a0::a1::a2::r) (.tmp 2)=some a2:=rfl
theorem st2:xw (some 2) (a0::a1::a2::r) v=some (a0::a1::v::r):=rfl
theorem gt3:zU (a0::a1::a2::a3::r) (.tmp 3)=some a3:=rfl
theorem st3:xw (some 3) (a0::a1::a2::a3::r) v=some (a0::a1::a2::v::r):=rfl
theorem gt4:zU (a0::a1::a2::a3::a4::r) (.tmp 4)=some a4:=rfl
theorem st4:xw (some 4) (a0::a1::a2::a3::a4::r) v=some (a0::a1::a2::a3::v::r):=rfl
theorem gt5:zU (a0::a1::a2::a3::a4::a5::r) (.tmp 5)=some a5:=rfl
theorem st5:xw (some 5) (a0::a1::a2::a3::a4::a5::r) v=some (a0::a1::a2::a3::a4::v::r):=rfl
theorem gt6:zU (a0::a1::a2::a3::a4::a5::a6::r) (.tmp 6)=some a6:=rfl
theorem st6:xw (some 6) (a0::a1::a2::a3::a4::a5::a6::r) v=some (a0::a1::a2::a3::a4::a5::v::r):=rfl
theorem gt7:zU (a0::a1::a2::a3::a4::a5::a6::a7::r) (.tmp 7)=some a7:=rfl
theorem st7:xw (some 7) (a0::a1::a2::a3::a4::a5::a6::a7::r) v=some (a0::a1::a2::a3::a4::a5::a6::v::r):=rfl
theorem gt8:zU (a0::a1::a2::a3::a4::a5::a6::a7::a8::r) (.tmp 8)=some a8:=rfl
theorem st8:xw (some 8) (a0::a1::a2::a3::a4::a5::a6::a7::a8::r) v=some (a0::a1::a2::a3::a4::a5::a6::a7::v::r):=rfl
theorem gt9:zU (a0::a1::a2::a3::a4::a5::a6::a7::a8::a9::r) (.tmp 9)=some a9:=rfl
theorem st9:xw (some 9) (a0::a1::a2::a3::a4::a5::a6::a7::a8::a9::r) v=some (a0::a1::a2::a3::a4::a5::a6::a7::a8::v::r):=rfl
theorem gt10:zU (a0::a1::a2::a3::a4::a5::a6::a7::a8::a9::a10::r) (.tmp 10)=some a10:=rfl
theorem st10:xw (some 10) (a0::a1::a2::a3::a4::a5::a6::a7::a8::a9::a10::r) v=some (a0::a1::a2::a3::a4::a5::a6::a7::a8::a9::v::r):=rfl
theorem gt11:zU (a0::a1::a2::a3::a4::a5::a6::a7::a8::a9::a10::a11::r) (.tmp 11)=some a11:=rfl
theorem st11:xw (some 11) (a0::a1::a2::a3::a4::a5::a6::a7::a8::a9::a10::a11::r) v=some (a0::a1::a2::a3::a4::a5::a6::a7::a8::a9::a10::v::r):=rfl
theorem gt12:zU (a0::a1::a2::a3::a4::a5::a6::a7::a8::a9::a10::a11::a12::r) (.tmp 12)=some a12:=rfl
theorem st12:xw (some 12) (a0::a1::a2::a3::a4::a5::a6::a7::a8::a9::a10::a11::a12::r) v=some (a0::a1::a2::a3::a4::a5::a6::a7::a8::a9::a10::a11::v::r):=rfl
theorem gt13:zU (a0::a1::a2::a3::a4::a5::a6::a7::a8::a9::a10::a11::a12::a13::r) (.tmp 13)=some a13:=rfl
theorem st13:xw (some 13) (a0::a1::a2::a3::a4::a5::a6::a7::a8::a9::a10::a11::a12::a13::r) v=some (a0::a1::a2::a3::a4::a5::a6::a7::a8::a9::a10::a11::a12::v::r):=rfl
theorem gt14:zU (a0::a1::a2::a3::a4::a5::a6::a7::a8::a9::a10::a11::a12::a13::a14::r) (.tmp 14)=some a14:=rfl
theorem st14:xw (some 14) (a0::a1::a2::a3::a4::a5::a6::a7::a8::a9::a10::a11::a12::a13::a14::r) v=some (a0::a1::a2::a3::a4::a5::a6::a7::a8::a9::a10::a11::a12::a13::v::r):=rfl
theorem st15:xw (some 15) (a0::a1::a2::a3::a4::a5::a6::a7::a8::a9::a10::a11::a12::a13::a14::a15::r) v=some (a0::a1::a2::a3::a4::a5::a6::a7::a8::a9::a10::a11::a12::a13::a14::v::r):=rfl
theorem gt16:zU (a0::a1::a2::a3::a4::a5::a6::a7::a8::a9::a10::a11::a12::a13::a14::a15::a16::r) (.tmp 16)=some a16:=rfl
theorem st16:xw (some 16) (a0::a1::a2::a3::a4::a5::a6::a7::a8::a9::a10::a11::a12::a13::a14::a15::a16::r) v=some (a0::a1::a2::a3::a4::a5::a6::a7::a8::a9::a10::a11::a12::a13::a14::a15::v::r):=rfl
theorem st17:xw (some 17) (a0::a1::a2::a3::a4::a5::a6::a7::a8::a9::a10::a11::a12::a13::a14::a15::a16::a17::r) v=some (a0::a1::a2::a3::a4::a5::a6::a7::a8::a9::a10::a11::a12::a13::a14::a15::a16::v::r):=rfl
theorem gt18:zU (a0::a1::a2::a3::a4::a5::a6::a7::a8::a9::a10::a11::a12::a13::a14::a15::a16::a17::a18::r) (.tmp 18)=some a18:=rfl
theorem st18:xw (some 18) (a0::a1::a2::a3::a4::a5::a6::a7::a8::a9::a10::a11::a12::a13::a14::a15::a16::a17::a18::r) v=some (a0::a1::a2::a3::a4::a5::a6::a7::a8::a9::a10::a11::a12::a13::a14::a15::a16::a17::v::r):=rfl
theorem gt19:zU (a0::a1::a2::a3::a4::a5::a6::a7::a8::a9::a10::a11::a12::a13::a14::a15::a16::a17::a18::a19::r) (.tmp 19)=some a19:=rfl
theorem st19:xw (some 19) (a0::a1::a2::a3::a4::a5::a6::a7::a8::a9::a10::a11::a12::a13::a14::a15::a16::a17::a18::a19::r) v=some (a0::a1::a2::a3::a4::a5::a6::a7::a8::a9::a10::a11::a12::a13::a14::a15::a16::a17::a18::v::r):=rfl
theorem gt20:zU (a0::a1::a2::a3::a4::a5::a6::a7::a8::a9::a10::a11::a12::a13::a14::a15::a16::a17::a18::a19::a20::r) (.tmp 20)=some a20:=rfl
theorem st20:xw (some 20) (a0::a1::a2::a3::a4::a5::a6::a7::a8::a9::a10::a11::a12::a13::a14::a15::a16::a17::a18::a19::a20::r) v=some (a0::a1::a2::a3::a4::a5::a6::a7::a8::a9::a10::a11::a12::a13::a14::a15::a16::a17::a18::a19::v::r):=rfl
theorem st21:xw (some 21) (a0::a1::a2::a3::a4::a5::a6::a7::a8::a9::a10::a11::a12::a13::a14::a15::a16::a17::a18::a19::a20::a21::r) v=some (a0::a1::a2::a3::a4::a5::a6::a7::a8::a9::a10::a11::a12::a13::a14::a15::a16::a17::a18::a19::a20::v::r):=rfl
theorem gt22:zU (a0::a1::a2::a3::a4::a5::a6::a7::a8::a9::a10::a11::a12::a13::a14::a15::a16::a17::a18::a19::a20::a21::a22::r) (.tmp 22)=some a22:=rfl
theorem st22:xw (some 22) (a0::a1::a2::a3::a4::a5::a6::a7::a8::a9::a10::a11::a12::a13::a14::a15::a16::a17::a18::a19::a20::a21::a22::r) v=some (a0::a1::a2::a3::a4::a5::a6::a7::a8::a9::a10::a11::a12::a13::a14::a15::a16::a17::a18::a19::a20::a21::v::r):=rfl
theorem st23:xw (some 23) (a0::a1::a2::a3::a4::a5::a6::a7::a8::a9::a10::a11::a12::a13::a14::a15::a16::a17::a18::a19::a20::a21::a22::a23::r) v=some (a0::a1::a2::a3::a4::a5::a6::a7::a8::a9::a10::a11::a12::a13::a14::a15::a16::a17::a18::a19::a20::a21::a22::v::r):=rfl
theorem gt24:zU (a0::a1::a2::a3::a4::a5::a6::a7::a8::a9::a10::a11::a12::a13::a14::a15::a16::a17::a18::a19::a20::a21::a22::a23::a24::r) (.tmp 24)=some a24:=rfl
theorem st24:xw (some 24) (a0::a1::a2::a3::a4::a5::a6::a7::a8::a9::a10::a11::a12::a13::a14::a15::a16::a17::a18::a19::a20::a21::a22::a23::a24::r) v=some (a0::a1::a2::a3::a4::a5::a6::a7::a8::a9::a10::a11::a12::a13::a14::a15::a16::a17::a18::a19::a20::a21::a22::a23::v::r):=rfl
theorem gt25:zU (a0::a1::a2::a3::a4::a5::a6::a7::a8::a9::a10::a11::a12::a13::a14::a15::a16::a17::a18::a19::a20::a21::a22::a23::a24::a25::r) (.tmp 25)=some a25:=rfl
theorem st25:xw (some 25) (a0::a1::a2::a3::a4::a5::a6::a7::a8::a9::a10::a11::a12::a13::a14::a15::a16::a17::a18::a19::a20::a21::a22::a23::a24::a25::r) v=some (a0::a1::a2::a3::a4::a5::a6::a7::a8::a9::a10::a11::a12::a13::a14::a15::a16::a17::a18::a19::a20::a21::a22::a23::a24::v::r):=rfl
theorem gt26:zU (a0::a1::a2::a3::a4::a5::a6::a7::a8::a9::a10::a11::a12::a13::a14::a15::a16::a17::a18::a19::a20::a21::a22::a23::a24::a25::a26::r) (.tmp 26)=some a26:=rfl
theorem st26:xw (some 26) (a0::a1::a2::a3::a4::a5::a6::a7::a8::a9::a10::a11::a12::a13::a14::a15::a16::a17::a18::a19::a20::a21::a22::a23::a24::a25::a26::r) v=some (a0::a1::a2::a3::a4::a5::a6::a7::a8::a9::a10::a11::a12::a13::a14::a15::a16::a17::a18::a19::a20::a21::a22::a23::a24::a25::v::r):=rfl
theorem gt27:zU (a0::a1::a2::a3::a4::a5::a6::a7::a8::a9::a10::a11::a12::a13::a14::a15::a16::a17::a18::a19::a20::a21::a22::a23::a24::a25::a26::a27::r) (.tmp 27)=some a27:=rfl
theorem st27:xw (some 27) (a0::a1::a2::a3::a4::a5::a6::a7::a8::a9::a10::a11::a12::a13::a14::a15::a16::a17::a18::a19::a20::a21::a22::a23::a24::a25::a26::a27::r) v=some (a0::a1::a2::a3::a4::a5::a6::a7::a8::a9::a10::a11::a12::a13::a14::a15::a16::a17::a18::a19::a20::a21::a22::a23::a24::a25::a26::v::r):=rfl
theorem gt28:zU (a0::a1::a2::a3::a4::a5::a6::a7::a8::a9::a10::a11::a12::a13::a14::a15::a16::a17::a18::a19::a20::a21::a22::a23::a24::a25::a26::a27::a28::r) (.tmp 28)=some a28:=rfl
theorem st28:xw (some 28) (a0::a1::a2::a3::a4::a5::a6::a7::a8::a9::a10::a11::a12::a13::a14::a15::a16::a17::a18::a19::a20::a21::a22::a23::a24::a25::a26::a27::a28::r) v=some (a0::a1::a2::a3::a4::a5::a6::a7::a8::a9::a10::a11::a12::a13::a14::a15::a16::a17::a18::a19::a20::a21::a22::a23::a24::a25::a26::a27::v::r):=rfl
theorem gt29:zU (a0::a1::a2::a3::a4::a5::a6::a7::a8::a9::a10::a11::a12::a13::a14::a15::a16::a17::a18::a19::a20::a21::a22::a23::a24::a25::a26::a27::a28::a29::r) (.tmp 29)=some a29:=rfl
theorem st29:xw (some 29) (a0::a1::a2::a3::a4::a5::a6::a7::a8::a9::a10::a11::a12::a13::a14::a15::a16::a17::a18::a19::a20::a21::a22::a23::a24::a25::a26::a27::a28::a29::r) v=some (a0::a1::a2::a3::a4::a5::a6::a7::a8::a9::a10::a11::a12::a13::a14::a15::a16::a17::a18::a19::a20::a21::a22::a23::a24::a25::a26::a27::a28::v::r):=rfl
theorem gt30:zU (a0::a1::a2::a3::a4::a5::a6::a7::a8::a9::a10::a11::a12::a13::a14::a15::a16::a17::a18::a19::a20::a21::a22::a23::a24::a25::a26::a27::a28::a29::a30::r) (.tmp 30)=some a30:=rfl
theorem st30:xw (some 30) (a0::a1::a2::a3::a4::a5::a6::a7::a8::a9::a10::a11::a12::a13::a14::a15::a16::a17::a18::a19::a20::a21::a22::a23::a24::a25::a26::a27::a28::a29::a30::r) v=some (a0::a1::a2::a3::a4::a5::a6::a7::a8::a9::a10::a11::a12::a13::a14::a15::a16::a17::a18::a19::a20::a21::a22::a23::a24::a25::a26::a27::a28::a29::v::r):=rfl
theorem gt31:zU (a0::a1::a2::a3::a4::a5::a6::a7::a8::a9::a10::a11::a12::a13::a14::a15::a16::a17::a18::a19::a20::a21::a22::a23::a24::a25::a26::a27::a28::a29::a30::a31::r) (.tmp 31)=some a31:=rfl
theorem st31:xw (some 31) (a0::a1::a2::a3::a4::a5::a6::a7::a8::a9::a10::a11::a12::a13::a14::a15::a16::a17::a18::a19::a20::a21::a22::a23::a24::a25::a26::a27::a28::a29::a30::a31::r) v=some (a0::a1::a2::a3::a4::a5::a6::a7::a8::a9::a10::a11::a12::a13::a14::a15::a16::a17::a18::a19::a20::a21::a22::a23::a24::a25::a26::a27::a28::a29::a30::v::r):=rfl
theorem gt32:zU (a0::a1::a2::a3::a4::a5::a6::a7::a8::a9::a10::a11::a12::a13::a14::a15::a16::a17::a18::a19::a20::a21::a22::a23::a24::a25::a26::a27::a28::a29::a30::a31::a32::r) (.tmp 32)=some a32:=rfl
theorem st32:xw (some 32) (a0::a1::a2::a3::a4::a5::a6::a7::a8::a9::a10::a11::a12::a13::a14::a15::a16::a17::a18::a19::a20::a21::a22::a23::a24::a25::a26::a27::a28::a29::a30::a31::a32::r) v=some (a0::a1::a2::a3::a4::a5::a6::a7::a8::a9::a10::a11::a12::a13::a14::a15::a16::a17::a18::a19::a20::a21::a22::a23::a24::a25::a26::a27::a28::a29::a30::a31::v::r):=rfl
theorem gt33:zU (a0::a1::a2::a3::a4::a5::a6::a7::a8::a9::a10::a11::a12::a13::a14::a15::a16::a17::a18::a19::a20::a21::a22::a23::a24::a25::a26::a27::a28::a29::a30::a31::a32::a33::r) (.tmp 33)=some a33:=rfl
theorem st33:xw (some 33) (a0::a1::a2::a3::a4::a5::a6::a7::a8::a9::a10::a11::a12::a13::a14::a15::a16::a17::a18::a19::a20::a21::a22::a23::a24::a25::a26::a27::a28::a29::a30::a31::a32::a33::r) v=some (a0::a1::a2::a3::a4::a5::a6::a7::a8::a9::a10::a11::a12::a13::a14::a15::a16::a17::a18::a19::a20::a21::a22::a23::a24::a25::a26::a27::a28::a29::a30::a31::a32::v::r):=rfl
theorem gt34:zU (a0::a1::a2::a3::a4::a5::a6::a7::a8::a9::a10::a11::a12::a13::a14::a15::a16::a17::a18::a19::a20::a21::a22::a23::a24::a25::a26::a27::a28::a29::a30::a31::a32::a33::a34::r) (.tmp 34)=some a34:=rfl
theorem st34:xw (some 34) (a0::a1::a2::a3::a4::a5::a6::a7::a8::a9::a10::a11::a12::a13::a14::a15::a16::a17::a18::a19::a20::a21::a22::a23::a24::a25::a26::a27::a28::a29::a30::a31::a32::a33::a34::r) v=some (a0::a1::a2::a3::a4::a5::a6::a7::a8::a9::a10::a11::a12::a13::a14::a15::a16::a17::a18::a19::a20::a21::a22::a23::a24::a25::a26::a27::a28::a29::a30::a31::a32::a33::v::r):=rfl
theorem gt35:zU (a0::a1::a2::a3::a4::a5::a6::a7::a8::a9::a10::a11::a12::a13::a14::a15::a16::a17::a18::a19::a20::a21::a22::a23::a24::a25::a26::a27::a28::a29::a30::a31::a32::a33::a34::a35::r) (.tmp 35)=some a35:=rfl
theorem st35:xw (some 35) (a0::a1::a2::a3::a4::a5::a6::a7::a8::a9::a10::a11::a12::a13::a14::a15::a16::a17::a18::a19::a20::a21::a22::a23::a24::a25::a26::a27::a28::a29::a30::a31::a32::a33::a34::a35::r) v=some (a0::a1::a2::a3::a4::a5::a6::a7::a8::a9::a10::a11::a12::a13::a14::a15::a16::a17::a18::a19::a20::a21::a22::a23::a24::a25::a26::a27::a28::a29::a30::a31::a32::a33::a34::v::r):=rfl
theorem gt36:zU (a0::a1::a2::a3::a4::a5::a6::a7::a8::a9::a10::a11::a12::a13::a14::a15::a16::a17::a18::a19::a20::a21::a22::a23::a24::a25::a26::a27::a28::a29::a30::a31::a32::a33::a34::a35::a36::r) (.tmp 36)=some a36:=rfl
theorem st36:xw (some 36) (a0::a1::a2::a3::a4::a5::a6::a7::a8::a9::a10::a11::a12::a13::a14::a15::a16::a17::a18::a19::a20::a21::a22::a23::a24::a25::a26::a27::a28::a29::a30::a31::a32::a33::a34::a35::a36::r) v=some (a0::a1::a2::a3::a4::a5::a6::a7::a8::a9::a10::a11::a12::a13::a14::a15::a16::a17::a18::a19::a20::a21::a22::a23::a24::a25::a26::a27::a28::a29::a30::a31::a32::a33::a34::a35::v::r):=rfl
theorem gt37:zU (a0::a1::a2::a3::a4::a5::a6::a7::a8::a9::a10::a11::a12::a13::a14::a15::a16::a17::a18::a19::a20::a21::a22::a23::a24::a25::a26::a27::a28::a29::a30::a31::a32::a33::a34::a35::a36::a37::r) (.tmp 37)=some a37:=rfl
theorem st37:xw (some 37) (a0::a1::a2::a3::a4::a5::a6::a7::a8::a9::a10::a11::a12::a13::a14::a15::a16::a17::a18::a19::a20::a21::a22::a23::a24::a25::a26::a27::a28::a29::a30::a31::a32::a33::a34::a35::a36::a37::r) v=some (a0::a1::a2::a3::a4::a5::a6::a7::a8::a9::a10::a11::a12::a13::a14::a15::a16::a17::a18::a19::a20::a21::a22::a23::a24::a25::a26::a27::a28::a29::a30::a31::a32::a33::a34::a35::a36::v::r):=rfl
theorem gt38:zU (a0::a1::a2::a3::a4::a5::a6::a7::a8::a9::a10::a11::a12::a13::a14::a15::a16::a17::a18::a19::a20::a21::a22::a23::a24::a25::a26::a27::a28::a29::a30::a31::a32::a33::a34::a35::a36::a37::a38::r) (.tmp 38)=some a38:=rfl
theorem st38:xw (some 38) (a0::a1::a2::a3::a4::a5::a6::a7::a8::a9::a10::a11::a12::a13::a14::a15::a16::a17::a18::a19::a20::a21::a22::a23::a24::a25::a26::a27::a28::a29::a30::a31::a32::a33::a34::a35::a36::a37::a38::r) v=some (a0::a1::a2::a3::a4::a5::a6::a7::a8::a9::a10::a11::a12::a13::a14::a15::a16::a17::a18::a19::a20::a21::a22::a23::a24::a25::a26::a27::a28::a29::a30::a31::a32::a33::a34::a35::a36::a37::v::r):=rfl
theorem gt39:zU (a0::a1::a2::a3::a4::a5::a6::a7::a8::a9::a10::a11::a12::a13::a14::a15::a16::a17::a18::a19::a20::a21::a22::a23::a24::a25::a26::a27::a28::a29::a30::a31::a32::a33::a34::a35::a36::a37::a38::a39::r) (.tmp 39)=some a39:=rfl
theorem st39:xw (some 39) (a0::a1::a2::a3::a4::a5::a6::a7::a8::a9::a10::a11::a12::a13::a14::a15::a16::a17::a18::a19::a20::a21::a22::a23::a24::a25::a26::a27::a28::a29::a30::a31::a32::a33::a34::a35::a36::a37::a38::a39::r) v=some (a0::a1::a2::a3::a4::a5::a6::a7::a8::a9::a10::a11::a12::a13::a14::a15::a16::a17::a18::a19::a20::a21::a22::a23::a24::a25::a26::a27::a28::a29::a30::a31::a32::a33::a34::a35::a36::a37::a38::v::r):=rfl
theorem gk (h:zU r (.tmp t)=some v):zU (a0::a1::a2::a3::a4::a5::a6::a7::a8::a9::a10::a11::a12::a13::a14::a15::a16::a17::a18::a19::a20::a21::a22::a23::a24::a25::a26::a27::a28::a29::a30::a31::a32::a33::a34::a35::a36::a37::a38::a39::r) (.tmp (t+40))=some v:=h
theorem sk (h:xw (some t) r v=some q):xw (some (t+40)) (a0::a1::a2::a3::a4::a5::a6::a7::a8::a9::a10::a11::a12::a13::a14::a15::a16::a17::a18::a19::a20::a21::a22::a23::a24::a25::a26::a27::a28::a29::a30::a31::a32::a33::a34::a35::a36::a37::a38::a39::r) v=some (a0::a1::a2::a3::a4::a5::a6::a7::a8::a9::a10::a11::a12::a13::a14::a15::a16::a17::a18::a19::a20::a21::a22::a23::a24::a25::a26::a27::a28::a29::a30::a31::a32::a33::a34::a35::a36::a37::a38::a39::q):=congrArg (λx=>some (a0::a1::a2::a3::a4::a5::a6::a7::a8::a9::a10::a11::a12::a13::a14::a15::a16::a17::a18::a19::a20::a21::a22::a23::a24::a25::a26::a27::a28::a29::a30::a31::a32::a33::a34::a35::a36::a37::a38::a39::x)) (Option.some.inj h)
end

abbrev GActor.row (x:GActor):List AV:=[.int .u8 x.rep,.int .u32 x.inc]
abbrev GDot.row (x:GDot):List AV:=[.int .u8 x.actor.rep,.int .u32 x.actor.inc,.int .u64 x.seq]
abbrev GItem.row (x:GItem):List AV:=[.int .u64 x.time,.int .u8 x.dot.actor.rep,.int .u32 x.dot.actor.inc,.int .u64 x.dot.seq,.str x.text]
abbrev GLeaf.row (x:GLeaf):List AV:=[.int .u8 x.typ,.int .i64 x.n,.int .u64 x.time,.int .u8 x.dot.actor.rep,.int .u32 x.dot.actor.inc,.int .u64 x.dot.seq,.str x.text,.sl 5 (x.items.map GItem.row),.sl 3 (x.tombs.map GDot.row)]
mutual
def GNode.row:GNode->List AV
  | ⟨name,leaves,subs⟩=>[.str name,.sl 9 (leaves.map GLeaf.row),.sl 3 (GNode.rows subs)]
def GNode.rows:List GNode->List (List AV)
  | []=>[]
  | x::r=>x.row::GNode.rows r
end
theorem GNode.rows_eq (l:List GNode):GNode.rows l=l.map GNode.row:=by
  induction l with
  | nil=>rfl
  | cons x r ih=>simp only [GNode.rows,List.map_cons,ih]
theorem GNode.row_eq (x:GNode):x.row=[.str x.name,.sl 9 (x.leaves.map GLeaf.row),.sl 3 (x.subs.map GNode.row)]:=by
  cases x;simp only [GNode.row,GNode.rows_eq]
abbrev GQuery.row (x:GQuery):List AV:=[.int .u8 x.kind,.sl 1 (x.path.map zd)]
abbrev GAnswer.row (x:GAnswer):List AV:=[.bool x.is,.int .i64 x.n,.sl 1 (x.l.map zd)]
abbrev GQueryAsked.row (x:GQueryAsked):List AV:=[.sl 3 (x.t.map GNode.row),.sl 1 (x.path.map zd)]
instance el23:El Tryz.prog 23 56 3:=mkEl Tryz.underlying23 (by kernel_rfl)
theorem mixed:Tryz.prog.follows .mixedOrders=true:=by kernel_rfl
instance fo56x0:Fo Tryz.prog 56 0 0 9 1:=vX (by kernel_rfl) (by kernel_rfl)
instance ty9:Ty Tryz.prog 9 .string 1:=mkTy Tryz.underlying9 (by kernel_rfl)
instance fo56x2:Fo Tryz.prog 56 2 2 23 1:=vX (by kernel_rfl) (by kernel_rfl)
instance ty23:Ty Tryz.prog 23 (.slice 56) 1:=mkTy Tryz.underlying23 (by kernel_rfl)
instance fo56x1:Fo Tryz.prog 56 1 1 54 1:=vX (by kernel_rfl) (by kernel_rfl)
instance ty54:Ty Tryz.prog 54 (.slice 53) 1:=mkTy Tryz.underlying54 (by kernel_rfl)
instance el54:El Tryz.prog 54 53 9:=mkEl Tryz.underlying54 (by kernel_rfl)
theorem ty53:∃d,Ty Tryz.prog 53 d 9/\zK d=true:=⟨_,mkTy Tryz.underlying53 (by kernel_rfl),by kernel_rfl⟩
instance:TA Tryz.prog 53 9:=⟨ty53⟩
theorem ze53:xc Tryz.prog 53=some [.int .u8 0,.int .i64 0,.int .u64 0,.int .u8 0,.int .u32 0,.int .u64 0,.str [],.osl none 5 [],.osl none 3 []]:=by kernel_rfl
instance:ZE Tryz.prog 53 [.int .u8 0,.int .i64 0,.int .u64 0,.int .u8 0,.int .u32 0,.int .u64 0,.str [],.osl none 5 [],.osl none 3 []]:=⟨ze53⟩
instance fo53x4:Fo Tryz.prog 53 4 6 9 1:=vX (by kernel_rfl) (by kernel_rfl)
instance fo53x6:Fo Tryz.prog 53 6 8 51 1:=vX (by kernel_rfl) (by kernel_rfl)
instance ty51:Ty Tryz.prog 51 (.slice 46) 1:=mkTy Tryz.underlying51 (by kernel_rfl)
instance el51:El Tryz.prog 51 46 3:=mkEl Tryz.underlying51 (by kernel_rfl)
instance fo53x5:Fo Tryz.prog 53 5 7 50 1:=vX (by kernel_rfl) (by kernel_rfl)
instance ty50:Ty Tryz.prog 50 (.slice 49) 1:=mkTy Tryz.underlying50 (by kernel_rfl)
instance el50:El Tryz.prog 50 49 5:=mkEl Tryz.underlying50 (by kernel_rfl)
instance fo49x2:Fo Tryz.prog 49 2 4 9 1:=vX (by kernel_rfl) (by kernel_rfl)
instance el24:El Tryz.prog 24 9 1:=mkEl Tryz.underlying24 (by kernel_rfl)
theorem ze46:xc Tryz.prog 46=some [.int .u8 0,.int .u32 0,.int .u64 0]:=by kernel_rfl
instance:ZE Tryz.prog 46 [.int .u8 0,.int .u32 0,.int .u64 0]:=⟨ze46⟩
noncomputable def sf44:Array Field:=match Tryz.prog.underlying 44 with | some (.struct fs)=>fs | _=>#[]
theorem su44:Tryz.prog.underlying 44=some (.struct sf44):=by kernel_rfl
theorem ze44:xc Tryz.prog 44=some [.int .u8 0,.int .u32 0]:=by kernel_rfl
instance:ZE Tryz.prog 44 [.int .u8 0,.int .u32 0]:=⟨ze44⟩
theorem pl44:wt Tryz.prog sf44=some [(0,1),(1,1)]:=by kernel_rfl
noncomputable def sf46:Array Field:=match Tryz.prog.underlying 46 with | some (.struct fs)=>fs | _=>#[]
theorem su46:Tryz.prog.underlying 46=some (.struct sf46):=by kernel_rfl
theorem pl46:wt Tryz.prog sf46=some [(0,2),(2,1)]:=by kernel_rfl
theorem ty46:∃d,Ty Tryz.prog 46 d 3/\zK d=true:=⟨_,mkTy Tryz.underlying46 (by kernel_rfl),by kernel_rfl⟩
instance:TA Tryz.prog 46 3:=⟨ty46⟩
instance ty4:Ty Tryz.prog 4 .bool 1:=mkTy Tryz.underlying4 (by kernel_rfl)
instance fo26x0:Fo Tryz.prog 26 0 0 5 1:=vX (by kernel_rfl) (by kernel_rfl)
instance ty5:Ty Tryz.prog 5 (.int .u8) 1:=mkTy Tryz.underlying5 (by kernel_rfl)
instance fo26x1:Fo Tryz.prog 26 1 1 24 1:=vX (by kernel_rfl) (by kernel_rfl)
instance ty24:Ty Tryz.prog 24 (.slice 9) 1:=mkTy Tryz.underlying24 (by kernel_rfl)
theorem ty56:∃d,Ty Tryz.prog 56 d 3/\zK d=true:=⟨_,mkTy Tryz.underlying56 (by kernel_rfl),by kernel_rfl⟩
instance:TA Tryz.prog 56 3:=⟨ty56⟩
theorem ze56:xc Tryz.prog 56=some [.str [],.osl none 9 [],.osl none 3 []]:=by kernel_rfl
instance:ZE Tryz.prog 56 [.str [],.osl none 9 [],.osl none 3 []]:=⟨ze56⟩
noncomputable def sf56:Array Field:=match Tryz.prog.underlying 56 with | some (.struct fs)=>fs | _=>#[]
theorem su56:Tryz.prog.underlying 56=some (.struct sf56):=by kernel_rfl
theorem pl56:wt Tryz.prog sf56=some [(0,1),(1,1),(2,1)]:=by kernel_rfl
instance fo53x0:Fo Tryz.prog 53 0 0 5 1:=vX (by kernel_rfl) (by kernel_rfl)
noncomputable def sf53:Array Field:=match Tryz.prog.underlying 53 with | some (.struct fs)=>fs | _=>#[]
theorem su53:Tryz.prog.underlying 53=some (.struct sf53):=by kernel_rfl
theorem pl53:wt Tryz.prog sf53=some [(0,1),(1,1),(2,1),(3,3),(6,1),(7,1),(8,1)]:=by kernel_rfl
theorem ze49:xc Tryz.prog 49=some [.int .u64 0,.int .u8 0,.int .u32 0,.int .u64 0,.str []]:=by kernel_rfl
instance:ZE Tryz.prog 49 [.int .u64 0,.int .u8 0,.int .u32 0,.int .u64 0,.str []]:=⟨ze49⟩
theorem ze32:xc Tryz.prog 32=some [.bool false,.int .i64 0,.osl none 1 []]:=by kernel_rfl
instance:ZE Tryz.prog 32 [.bool false,.int .i64 0,.osl none 1 []]:=⟨ze32⟩
instance fo58x0:Fo Tryz.prog 58 0 0 23 1:=vX (by kernel_rfl) (by kernel_rfl)
instance fo58x1:Fo Tryz.prog 58 1 1 24 1:=vX (by kernel_rfl) (by kernel_rfl)
instance fo53x1:Fo Tryz.prog 53 1 1 2 1:=vX (by kernel_rfl) (by kernel_rfl)
instance ty2:Ty Tryz.prog 2 (.int .i64) 1:=mkTy Tryz.underlying2 (by kernel_rfl)
noncomputable def sf32:Array Field:=match Tryz.prog.underlying 32 with | some (.struct fs)=>fs | _=>#[]
theorem su32:Tryz.prog.underlying 32=some (.struct sf32):=by kernel_rfl
theorem pl32:wt Tryz.prog sf32=some [(0,1),(1,1),(2,1)]:=by kernel_rfl
theorem ty32:∃d,Ty Tryz.prog 32 d 3/\zK d=true:=⟨_,mkTy Tryz.underlying32 (by kernel_rfl),by kernel_rfl⟩
instance:TA Tryz.prog 32 3:=⟨ty32⟩
instance fo53x2:Fo Tryz.prog 53 2 2 41 1:=vX (by kernel_rfl) (by kernel_rfl)
instance ty41:Ty Tryz.prog 41 (.int .u64) 1:=mkTy Tryz.underlying41 (by kernel_rfl)
theorem ze9:xc Tryz.prog 9=some [.str []]:=by kernel_rfl
instance:ZE Tryz.prog 9 [.str []]:=⟨ze9⟩
theorem ty49:∃d,Ty Tryz.prog 49 d 5/\zK d=true:=⟨_,mkTy Tryz.underlying49 (by kernel_rfl),by kernel_rfl⟩
instance:TA Tryz.prog 49 5:=⟨ty49⟩
instance fo44x0:Fo Tryz.prog 44 0 0 5 1:=vX (by kernel_rfl) (by kernel_rfl)
instance fo44x1:Fo Tryz.prog 44 1 1 42 1:=vX (by kernel_rfl) (by kernel_rfl)
instance ty42:Ty Tryz.prog 42 (.int .u32) 1:=mkTy Tryz.underlying42 (by kernel_rfl)
instance fo46x0:Fo Tryz.prog 46 0 0 44 2:=vX (by kernel_rfl) (by kernel_rfl)
theorem ty44:∃d,Ty Tryz.prog 44 d 2/\zK d=true:=⟨_,mkTy Tryz.underlying44 (by kernel_rfl),by kernel_rfl⟩
instance:TA Tryz.prog 44 2:=⟨ty44⟩
instance fo46x1:Fo Tryz.prog 46 1 2 41 1:=vX (by kernel_rfl) (by kernel_rfl)
instance el131:El Tryz.prog 131 3 1:=mkEl Tryz.underlying131 (by kernel_rfl)
instance ty3:Ty Tryz.prog 3 (.int .i64) 1:=mkTy Tryz.underlying3 (by kernel_rfl)
theorem ze3:xc Tryz.prog 3=some [.int .i64 0]:=by kernel_rfl
instance:ZE Tryz.prog 3 [.int .i64 0]:=⟨ze3⟩
instance fo49x1:Fo Tryz.prog 49 1 1 46 3:=vX (by kernel_rfl) (by kernel_rfl)
theorem pk46:PK Tryz.prog 46 [.i,.i,.i]:=mkPK (by kernel_rfl) (by kernel_rfl) (by kernel_rfl)
theorem kq46:KQ Tryz.prog 46 (λx=>AV.agg (GDot.row x)) GDot.eqb:=.struct su46 pk46 (λ_ _=>rfl) (λa=>by simp [GDot.eqb])
theorem az3:vT Tryz.prog 3=some ((AV.int .i64) (0:Int)):=by kernel_rfl
instance fo49x0:Fo Tryz.prog 49 0 0 41 1:=vX (by kernel_rfl) (by kernel_rfl)
theorem pk49:PK Tryz.prog 49 [.i,.i,.i,.i,.s]:=mkPK (by kernel_rfl) (by kernel_rfl) (by kernel_rfl)
instance fo53x3:Fo Tryz.prog 53 3 3 46 3:=vX (by kernel_rfl) (by kernel_rfl)
noncomputable def sf58:Array Field:=match Tryz.prog.underlying 58 with | some (.struct fs)=>fs | _=>#[]
theorem su58:Tryz.prog.underlying 58=some (.struct sf58):=by kernel_rfl
theorem ze58:xc Tryz.prog 58=some [.osl none 3 [],.osl none 1 []]:=by kernel_rfl
instance:ZE Tryz.prog 58 [.osl none 3 [],.osl none 1 []]:=⟨ze58⟩
theorem pl58:wt Tryz.prog sf58=some [(0,1),(1,1)]:=by kernel_rfl
theorem ty58:∃d,Ty Tryz.prog 58 d 2/\zK d=true:=⟨_,mkTy Tryz.underlying58 (by kernel_rfl),by kernel_rfl⟩
instance:TA Tryz.prog 58 2:=⟨ty58⟩
theorem ty26:∃d,Ty Tryz.prog 26 d 2/\zK d=true:=⟨_,mkTy Tryz.underlying26 (by kernel_rfl),by kernel_rfl⟩
instance:TA Tryz.prog 26 2:=⟨ty26⟩
theorem azf59:vT Tryz.prog 59=some .nilf:=by kernel_rfl
instance fo32x0:Fo Tryz.prog 32 0 0 4 1:=vX (by kernel_rfl) (by kernel_rfl)
instance fo32x1:Fo Tryz.prog 32 1 1 2 1:=vX (by kernel_rfl) (by kernel_rfl)
instance fo32x2:Fo Tryz.prog 32 2 2 24 1:=vX (by kernel_rfl) (by kernel_rfl)
noncomputable def sf49:Array Field:=match Tryz.prog.underlying 49 with | some (.struct fs)=>fs | _=>#[]
theorem su49:Tryz.prog.underlying 49=some (.struct sf49):=by kernel_rfl
theorem pl49:wt Tryz.prog sf49=some [(0,1),(1,3),(4,1)]:=by kernel_rfl
noncomputable def sf26:Array Field:=match Tryz.prog.underlying 26 with | some (.struct fs)=>fs | _=>#[]
theorem su26:Tryz.prog.underlying 26=some (.struct sf26):=by kernel_rfl
theorem ze26:xc Tryz.prog 26=some [.int .u8 0,.osl none 1 []]:=by kernel_rfl
instance:ZE Tryz.prog 26 [.int .u8 0,.osl none 1 []]:=⟨ze26⟩
theorem pl26:wt Tryz.prog sf26=some [(0,1),(1,1)]:=by kernel_rfl
abbrev GLeafRw (x:GLeaf) (p q:AV):List AV:=[.int .u8 x.typ,.int .i64 x.n,.int .u64 x.time,.int .u8 x.dot.actor.rep,.int .u32 x.dot.actor.inc,.int .u64 x.dot.seq,.str x.text,p,q]
abbrev lit0x:List AV:=[.int .u8 (0:Int),.int .i64 (0:Int),.int .u64 (0:Int),.int .u8 (0:Int),.int .u32 (0:Int),.int .u64 (0:Int),.str ([]:ze),.osl none 5 (([]:List GItem).map GItem.row),.osl none 3 (([]:List GDot).map GDot.row)]
abbrev lit1x:List AV:=[.str ([]:ze),.osl none 9 (([]:List GLeaf).map GLeaf.row),.osl none 3 (([]:List GNode).map GNode.row)]
abbrev lit2x:List AV:=[.int .u8 (0:Int),.int .u32 (0:Int),.int .u64 (0:Int)]
theorem ok15N (n:Nat):∀{t0:(List GNode)} {b:Int} {res:Int} {h:AH} , yC n t0 b=some res->Spec Tryz.prog 15 [.sl 3 (t0.map GNode.row),.int .i64 b] h (yR (.int .i64 res) h):=by
 induction n with
 | zero=>intro t0 b res h  a;simp [yC] at a
 | succ n ih =>
  intro t0 b res h  a;unfold yC at a;refine za Tryz.func15 rfl (by kernel_rfl) (xh 84 rfl) (R.r ?_);refine vC (λ(C:Int×Int)=>zz [2,3,4,7,8,9,10,11,12,13,14,15,16,17,18,19,20,21,22,23,24,25,26,27,28,29,30,31,32,33,34,35,36,37,38,39,40,41,42,43,44,45,46,47,48,49,50,51,52,53,54,55,56,57,58,59,60,61,62,63,64,65,66,67,68,69,70,71,72,73,74,75,76,77,78,79,80,81,82,83] [(5,.int .i64 C.1),(6,.int .i64 C.2)]) (λC=>h.ext [] []) a (λ_=>by simp only [zz,wQ,List.set_cons_succ,List.set_cons_zero];try rfl) (wk.le LEL.o) ?_;intro T C S a z;refine R.r ?_;refine ln λi=>?_;replace i:=ya i;refine R.r ?_;refine zg gg a (λy a=>?_) (λy a=>?_)
  ·refine R.r ?_;refine zI [16] [] trivial mixed (by kernel_rfl) (R.r ?_);refine zo a (λM A a=>zD rfl rfl (zX rfl el23 gg gg isl A (GNode.row_eq _)) ss ?_);refine R.r ?_;refine draw_len rfl rfl (s_lenStr rfl rfl rfl rfl ty9 gg) ss (R.r ?_);refine zo a (λO s a=>zD rfl rfl (zX rfl el23 gg gg isl s (GNode.row_eq _)) ss ?_);refine R.r ?_;refine zo a (λL w a=>zM rfl rfl (λ_=>sc rfl) (by rintro _ ⟨B2,T2,rfl,K⟩;exact ih w) ss ?_);refine R.r ?_;refine vC (λ(p:Int×Int)=>zz [2,3,4,8,9,10,11,12,13,14,15,16,17,18,19,20,21,22,23,24,25,26,27,28,29,30,31,32,33,34,35,36,37,38,39,40,41,42,43,44,45,46,47,48,49,50,51,52,53,54,55,56,57,58,59,60,61,62,63,64,65,66,67,68,69,70,71,72,73,74,75,76,77,78,79,80,81,82,83] [(5,.int .i64 p.1),(7,.int .i64 p.2)]) (λp=>h.ext [] []) a (λ_=>by simp only [zz,wQ,List.set_cons_succ,List.set_cons_zero];try rfl) (wk.le LEL.o) ?_;intro n2 p P a x;refine R.r ?_;refine zo a (λG k a=>zc rfl (zX rfl el23 gg gg isl k (GNode.row_eq _)) ss ?_);refine R.r ?_;refine ln λg=>?_;replace g:=ya g;refine R.r ?_;refine zg gg a (λm a=>?_) (λm a=>?_)
   ·refine R.r ?_;refine zo a (λH j a=>zc rfl (zX rfl el23 gg gg isl j (GNode.row_eq _)) ss ?_);refine R.r ?_;refine zo a (λB l a=>ix l ?_);refine R.r ?_;refine ln λc=>?_;replace c:=ya c;refine R.r ?_;refine ln λf=>?_;replace f:=ya f;refine R.r ?_;refine zq (λ(I:Nat) (u:Int)=>zz [2,3,4,10,11,12,13,14,15,16,17,18,19,20,21,22,23,24,25,26,27,28,29,30,31,32,33,34,35,36,37,38,39,40,41,42,43,44,45,46,47,48,49,50,51,52,53,54,55,56,57,58,59,60,61,62,63,64,65,66,67,68,69,70,71,72,73,74,75,76,77,78,79,80,81,82,83] [(5,.int .i64 u),(9,.int .i64 (I:Int))]) (λu=>h.ext [.cells (GLeaf.row B)] []) a (λ_ _=>by simp only [zz,wQ,List.set_cons_succ,List.set_cons_zero];try rfl) (wk.le LEL.o) ?_;intro I u N a;refine R.r ?_;refine ln λd=>?_;replace d:=ya d;refine R.r ?_;refine zy gg a (λJ Q F D a E=>?_) (λa=>?_)
    ·refine R.r ?_;refine ix (zC D) (R.r ?_);refine ln λe=>?_;replace e:=ya e;refine R.r ?_;cases a;exact ⟨(IntKind.wrap .i64 ((IntKind.wrap .i64 (u+(1:Int)))+((J.text).length:Int))),F,E,wk.le (by exact (.eq (.eq (.drop (.drop (.drop (.cons (leV.of_eq rfl) (.eq (.eq (.eq (.cons (leV.of_eq (y8 (by omega) (by omega))) (.d16 (.d16 (.d16 (.d16 (.d4 (.d4 (.drop (.drop leL.nil)))))))))))))))))))⟩
    ·refine R.r ?_;cases a;exact ⟨(u,(IntKind.wrap .i64 (p.2+(1:Int)))),x,wk.trans (wk.le LEL.o) (xj (by simp [zJ,AV.low]) rfl rfl (by simp [Blk.low,zJ,AV.low]))⟩
   ·refine R.r ?_;cases a;replace a:=x;refine R.r ?_;cases a;exact ⟨(p.1,(IntKind.wrap .i64 (C.2+(1:Int)))),z,wk.le LEL.o⟩
  ·refine R.r ?_;cases a;replace a:=z;refine R.r ?_;cases a;exact fz rfl rfl
theorem ok15 {t0:(List GNode)} {a:Int} {res:Int} {h:AH}  (b:ref07Xsize t0 a=some res):Spec Tryz.prog 15 [.sl 3 (t0.map GNode.row),.int .i64 a] h (yR (.int .i64 res) h):=by
 obtain ⟨n,c⟩:=anyN_is b;exact ok15N n c
theorem ok4 {t0:(List GNode)} {res:Bool} {h:AH}  (a:wy t0=some res):Spec Tryz.prog 4 [.sl 3 (t0.map GNode.row)] h (yR (.bool res) h):=by
 unfold wy at a;refine za Tryz.func4 rfl (by kernel_rfl) (xh 6 rfl) (R.r ?_);refine zo a (λc b a=>cp (ok15 b) ?_);refine R.r ?_;cases a;exact fz rfl rfl
theorem ok5 {a:(List ze)} {res:Bool} {h:AH}  (b:wM a=some res):Spec Tryz.prog 5 [.sl 1 (a.map zd)] h (yR (.bool res) h):=by
 unfold wM at b;refine za Tryz.func5 rfl (by kernel_rfl) (xh 24 rfl) (R.r ?_);refine ln λe=>?_;replace e:=ya e;refine R.r ?_;refine zq (λ(k:Nat) (f:Int)=>zz [1,2,4,5,9,10,11,12,13,14,15,16,17,18,19,20,21,22,23] [(3,.int .i64 f),(8,.int .i64 (k:Int))]) (λf=>h.ext [] []) b (λ_ _=>by simp only [zz,wQ,List.set_cons_succ,List.set_cons_zero];try rfl) (wk.le LEL.o) ?_;intro k f l b;refine R.r ?_;refine zy gg b (λm n j i b g=>?_) (λb=>?_)
 ·refine R.r ?_;refine ix (zC i) (R.r ?_);refine ln λd=>?_;replace d:=ya d;refine R.r ?_;cases b;exact ⟨(IntKind.wrap .i64 (f+((m).length:Int))),j,g,wk.le (by exact (.eq (.drop (.drop (.cons (leV.of_eq rfl) (.drop (.drop (.eq (.eq (.cons (leV.of_eq (y8 (by omega) (by omega))) (.d4 (.d4 (.d4 (.drop (.drop (.drop leL.nil))))))))))))))))⟩
 ·refine R.r ?_;refine ln λc=>?_;replace c:=ya c;refine R.r ?_;cases b;exact fz rfl rfl
theorem ok16 {a:Int} {res:GDot} {h:AH}  (b:xR a=some res):Spec Tryz.prog 16 [.int .u64 a] h (yR (.agg (GDot.row res)) h):=by
 unfold xR at b;refine za Tryz.func16 rfl (by kernel_rfl) (xh 6 rfl) (R.r ?_);refine zc rfl (zG (cs':=[.int .u8 (0:Int),.int .u32 (1:Int)]) rfl su44 ze44 pl44 (zf rfl zk) (.cons (zb rfl) .nil) rfl rfl) ss (R.r ?_);refine zc rfl (zG (cs':=[.int .u8 (0:Int),.int .u32 (1:Int),.int .u64 a]) rfl su46 ze46 pl46 (zf gg (zf gg zk)) (.cons (zb rfl) (.cons (zb rfl) .nil)) rfl rfl) ss (R.r ?_);cases b;exact fz rfl rfl
theorem ok54 {A:(List ze)} {z:(ze->Option Bool)} {f:FuncId} {c d:List AV} {res:Int} {h:AH} (j:∀y v (L:List Blk) (M:List Nat),z y=some v->Spec Tryz.prog f (c++[.str y]++d) (h.ext L M) (yR (.bool v) (h.ext L M))) (a:yZ A z=some res):Spec Tryz.prog 54 [.sl 1 (A.map zd),.fn (.func f) c d] h (yR (.int .i64 res) h):=by
 unfold yZ at a;refine zY Tryz.func54 rfl (by kernel_rfl) (xh 19 rfl) (λb H=>?_);simp only [zJ,AV.low,Bool.and_eq_true,Bool.true_and,and_true] at b;have u:∀n m,h.blks.length<=n->h.toks.length<=m->zJ n m c=true:=λn m s p=>yl s p _ (by simp [b]);have w:∀n m,h.blks.length<=n->h.toks.length<=m->zJ n m d=true:=λn m s p=>yl s p _ (by simp [b]);refine R.r ?_;refine ln λg=>?_;replace g:=ya g;refine R.r ?_;refine zq (λ(B:Nat) (C:Unit)=>zz [2,3,4,5,6,9,10,11,12,13,14,15,16,17,18] [(8,.int .i64 (B:Int))]) (λC=>h.ext [] []) a (λ_ _=>by simp only [zz,wQ,List.set_cons_succ,List.set_cons_zero];try rfl) (wk.le LEL.o) ?_;intro B C D a;refine R.r ?_;refine zy gg a (λG F l x a e=>?_) (λa=>?_)
 ·refine R.r ?_;refine ix (zC x) (R.r ?_);refine zo a (λE k a=>yH rfl (scC rfl) (j _ _ _ _ k) ss ?_);refine R.r ?_;refine zg gg a (λi a=>?_) (λi a=>?_)
  ·refine R.r ?_;cases a;replace a:=e;refine R.r ?_;cases a;exact fz rfl rfl
  ·refine R.r ?_;cases a;exact ⟨(),l,e,wk.le (by exact (.eq (.eq (.d4 (.drop (.eq (.cons (leV.of_eq (y8 (by omega) (by omega))) (.d4 (.d4 (.drop (.drop leL.nil)))))))))))⟩
 ·refine R.r ?_;cases a;exact fz rfl rfl
theorem ok40 {s:(List ze)} {p:(ze->Option Bool)} {d:FuncId} {b c:List AV} {res:Bool} {h:AH} (g:∀e v (L:List Blk) (M:List Nat),p e=some v->Spec Tryz.prog d (b++[.str e]++c) (h.ext L M) (yR (.bool v) (h.ext L M))) (f:zW s p=some res):Spec Tryz.prog 40 [.sl 1 (s.map zd),.fn (.func d) b c] h (yR (.bool res) h):=by
 unfold zW at f;refine zY Tryz.func40 rfl (by kernel_rfl) (xh 9 rfl) (λa x=>?_);simp only [zJ,AV.low,Bool.and_eq_true,Bool.true_and,and_true] at a;have l:∀n m,h.blks.length<=n->h.toks.length<=m->zJ n m b=true:=λn m k j=>yl k j _ (by simp [a]);have o:∀n m,h.blks.length<=n->h.toks.length<=m->zJ n m c=true:=λn m k j=>yl k j _ (by simp [a]);refine R.r ?_;refine zo f (λw i f=>cp (ok54 (λe v L M u=>by rw [qS];exact g e v _ _ u) i) ?_);refine R.r ?_;cases f;exact fz rfl rfl
theorem ok96 {j:ze} {z:(Int->Option Bool)} {g:FuncId} {d e:List AV} {b:Bool} {res:Int} {h:AH} (k:∀y v (L:List Blk) (M:List Nat),z y=some v->Spec Tryz.prog g (d++[.int .i32 y]++e) (h.ext L M) (yR (.bool v) (h.ext L M))) (a:xS j z b=some res):Spec Tryz.prog 96 [.str j,.fn (.func g) d e,.bool b] h (yR (.int .i64 res) h):=by
 unfold xS at a;refine zY Tryz.func96 rfl (by kernel_rfl) (xh 21 rfl) (λc E=>?_);simp only [zJ,AV.low,Bool.and_eq_true,Bool.true_and,and_true] at c;have w:∀n m,h.blks.length<=n->h.toks.length<=m->zJ n m d=true:=λn m u s=>yl u s _ (by simp [c]);have x:∀n m,h.blks.length<=n->h.toks.length<=m->zJ n m e=true:=λn m u s=>yl u s _ (by simp [c]);refine R.r ?_;refine zc rfl (e_range (n:=0) rfl ty9 gg rfl) ss (R.r ?_);refine vC (λ(i:Nat)=>zz [0,3,4,5,6,7,8,9,11,12,13,14,15,16,17,18,19,20] []) (λi=>h.ext [.siter j i] []) a (λ_=>by simp only [zz,wQ,List.set_cons_succ,List.set_cons_zero];try rfl) (wk.le LEL.o) ?_;intro D i C a f;refine R.r ?_;refine ops_nextF rfl rfl gg rfl ss ss a (λA a=>?_) (λa=>?_)
 ·refine R.r ?_;refine r_cond gg (λ_=>?_) (λhh=>by cases hh);refine R.r ?_;refine zo a (λB p a=>yH rfl (scC rfl) (k _ _ _ _ p) ss ?_);refine R.r ?_;refine zc rfl (wT rfl gg gg (bin_boolE ty4)) ss (R.r ?_);refine zg gg a (λl a=>?_) (λl a=>?_)
  ·refine R.r ?_;cases a;replace a:=f;refine R.r ?_;cases a;exact fz rfl rfl
  ·refine R.r ?_;cases a;exact ⟨(i+(dec j i).2),f,wk.le LEL.o⟩
 ·refine R.r ?_;refine r_cond gg (λhh=>by cases hh) (λ_=>R.r ?_);cases a;replace a:=f;refine R.r ?_;cases a;exact fz rfl rfl
theorem ok81 {s:ze} {p:(Int->Option Bool)} {d:FuncId} {b c:List AV} {res:Int} {h:AH} (g:∀e v (L:List Blk) (M:List Nat),p e=some v->Spec Tryz.prog d (b++[.int .i32 e]++c) (h.ext L M) (yR (.bool v) (h.ext L M))) (f:wa s p=some res):Spec Tryz.prog 81 [.str s,.fn (.func d) b c] h (yR (.int .i64 res) h):=by
 unfold wa at f;refine zY Tryz.func81 rfl (by kernel_rfl) (xh 8 rfl) (λa x=>?_);simp only [zJ,AV.low,Bool.and_eq_true,Bool.true_and,and_true] at a;have l:∀n m,h.blks.length<=n->h.toks.length<=m->zJ n m b=true:=λn m k j=>yl k j _ (by simp [a]);have o:∀n m,h.blks.length<=n->h.toks.length<=m->zJ n m c=true:=λn m k j=>yl k j _ (by simp [a]);refine R.r ?_;refine zo f (λw i f=>cp (ok96 (λe v L M u=>by rw [qS];exact g e v _ _ u) i) ?_);refine R.r ?_;cases f;exact fz rfl rfl
theorem ok56 {s:ze} {p:(Int->Option Bool)} {d:FuncId} {b c:List AV} {res:Bool} {h:AH} (g:∀e v (L:List Blk) (M:List Nat),p e=some v->Spec Tryz.prog d (b++[.int .i32 e]++c) (h.ext L M) (yR (.bool v) (h.ext L M))) (f:yI s p=some res):Spec Tryz.prog 56 [.str s,.fn (.func d) b c] h (yR (.bool res) h):=by
 unfold yI at f;refine zY Tryz.func56 rfl (by kernel_rfl) (xh 9 rfl) (λa x=>?_);simp only [zJ,AV.low,Bool.and_eq_true,Bool.true_and,and_true] at a;have l:∀n m,h.blks.length<=n->h.toks.length<=m->zJ n m b=true:=λn m k j=>yl k j _ (by simp [a]);have o:∀n m,h.blks.length<=n->h.toks.length<=m->zJ n m c=true:=λn m k j=>yl k j _ (by simp [a]);refine R.r ?_;refine zo f (λw i f=>cp (ok81 (λe v L M u=>by rw [qS];exact g e v _ _ u) i) ?_);refine R.r ?_;cases f;exact fz rfl rfl
theorem ok55 {b:Int} {res:Bool} {h:AH}  (a:vg b=some res):Spec Tryz.prog 55 [.int .i32 b] h (yR (.bool res) h):=by
 unfold vg at a;refine za Tryz.func55 rfl (by kernel_rfl) (xh 25 rfl) (R.r ?_);cases a;exact fz rfl rfl
theorem ok42 {d:ze} {res:Bool} {h:AH}  (b:vF d=some res):Spec Tryz.prog 42 [.str d] h (yR (.bool res) h):=by
 unfold vF at b;refine za Tryz.func42 rfl (by kernel_rfl) (xh 18 rfl) (R.r ?_);refine ln λa=>?_;replace a:=ya a;refine R.r ?_;refine lng λg=>R.r ?_;refine zT b (λv3 c b=>zF rfl sc (λf=>ok56 (λ_ v L M e=>ok55  e) (c f)) ss ?_);refine R.r ?_;cases b;exact fz rfl rfl
theorem ok41 {c:ze} {res:Bool} {h:AH}  (a:qL c=some res):Spec Tryz.prog 41 [.str c] h (yR (.bool res) h):=by
 unfold qL at a;refine za Tryz.func41 rfl (by kernel_rfl) (xh 6 rfl) (R.r ?_);refine zo a (λd b a=>cp (ok42 b) ?_);refine R.r ?_;cases a;exact fz rfl rfl
theorem ok27 {d:(List ze)} {res:Bool} {h:AH}  (b:wJ d=some res):Spec Tryz.prog 27 [.sl 1 (d.map zd)] h (yR (.bool res) h):=by
 unfold wJ at b;refine za Tryz.func27 rfl (by kernel_rfl) (xh 16 rfl) (R.r ?_);refine ln λa=>?_;replace a:=ya a;refine R.r ?_;refine lng λg=>R.r ?_;refine zT b (λv3 c b=>zF rfl sc (λf=>ok40 (λ_ v L M e=>ok41  e) (c f)) ss ?_);refine R.r ?_;cases b;exact fz rfl rfl
theorem ok10 {d:GQuery} {res:Bool} {h:AH}  (a:xZ d=some res):Spec Tryz.prog 10 [.agg (GQuery.row d)] h (yR (.bool res) h):=by
 unfold xZ at a;refine za Tryz.func10 rfl (by kernel_rfl) (xh 25 rfl) (R.r ?_);refine lng λf=>R.r ?_;refine zg gg a (λc a=>?_) (λc a=>?_)
 ·refine R.r ?_;cases a;exact fz rfl rfl
 ·refine R.r ?_;refine zT a (λv3 b a=>zF rfl sc (λe=>ok27 (b e)) ss ?_);refine R.r ?_;cases a;exact fz rfl rfl
theorem ok57 {A:(List GNode)} {z:(GNode->Option Bool)} {f:FuncId} {c d:List AV} {res:Int} {h:AH} (k:∀i v (L:List Blk) (M:List Nat),z i=some v->Spec Tryz.prog f (c++[.agg [.str i.name,.sl 9 (i.leaves.map GLeaf.row),.sl 3 (i.subs.map GNode.row)]]++d) (h.ext L M) (yR (.bool v) (h.ext L M))) (a:yE A z=some res):Spec Tryz.prog 57 [.sl 3 (A.map GNode.row),.fn (.func f) c d] h (yR (.int .i64 res) h):=by
 unfold yE at a;refine zY Tryz.func57 rfl (by kernel_rfl) (xh 19 rfl) (λb H=>?_);simp only [zJ,AV.low,Bool.and_eq_true,Bool.true_and,and_true] at b;have w:∀n m,h.blks.length<=n->h.toks.length<=m->zJ n m c=true:=λn m u s=>yl u s _ (by simp [b]);have x:∀n m,h.blks.length<=n->h.toks.length<=m->zJ n m d=true:=λn m u s=>yl u s _ (by simp [b]);refine R.r ?_;refine ln λg=>?_;replace g:=ya g;refine R.r ?_;refine zq (λ(B:Nat) (C:Unit)=>zz [2,3,4,5,6,9,10,11,12,13,14,15,16,17,18] [(8,.int .i64 (B:Int))]) (λC=>h.ext [] []) a (λ_ _=>by simp only [zz,wQ,List.set_cons_succ,List.set_cons_zero];try rfl) (wk.le LEL.o) ?_;intro B C D a;refine R.r ?_;refine zy gg a (λG F p y a e=>?_) (λa=>?_)
 ·refine R.r ?_;refine zc rfl (zX rfl el23 gg gg isl (zC y) (GNode.row_eq _)) ss (R.r ?_);refine zo a (λE l a=>yH rfl (scC rfl) (k _ _ _ _ l) ss ?_);refine R.r ?_;refine zg gg a (λj a=>?_) (λj a=>?_)
  ·refine R.r ?_;cases a;replace a:=e;refine R.r ?_;cases a;exact fz rfl rfl
  ·refine R.r ?_;cases a;exact ⟨(),p,e,wk.le (by exact (.eq (.eq (.d4 (.drop (.eq (.cons (leV.of_eq (y8 (by omega) (by omega))) (.d4 (.d4 (.drop (.drop leL.nil)))))))))))⟩
 ·refine R.r ?_;cases a;exact fz rfl rfl
theorem ok58 {a:GNode} {c:ze} {d:Nat} {res:Bool} {h:AH} (b:h.blk d=some (.cells [.str c])) (e:vr a c=some res):Spec Tryz.prog 58 [.agg [.str a.name,.sl 9 (a.leaves.map GLeaf.row),.sl 3 (a.subs.map GNode.row)],.ptr d 0] h (yR (.bool res) h):=by
 unfold vr at e;refine za Tryz.func58 rfl (by kernel_rfl) (xh 8 rfl) (R.r ?_);refine zc rfl (b_load rfl ty9 gg b (xk rfl) (zb rfl)) ss (R.r ?_);cases e;exact fz rfl rfl
theorem ok44 {t0:(List GNode)} {a:ze} {res:(GNode×Bool)} {h:AH}  (b:xd t0 a=some res):Spec Tryz.prog 44 [.sl 3 (t0.map GNode.row),.str a] h (yR (.tup [.agg [.str res.1.name,.sl 9 (res.1.leaves.map GLeaf.row),.sl 3 (res.1.subs.map GNode.row)],.bool res.2]) h):=by
 unfold xd at b;refine za Tryz.func44 rfl (by kernel_rfl) (xh 17 rfl) (R.r ?_);refine zc rfl (xV rfl rfl rfl) ss ?_;refine zo b (λi e b=>cp (ok57 (λ_ v L M f=>ok58 (blk_ext2 (j:=0) rfl) f) e) ?_);refine R.r ?_;refine zg gg b (λd b=>?_) (λd b=>?_)
 ·refine R.r ?_;refine zc rfl (zG (cs':=lit1x) rfl su56 ze56 pl56 zk .nil rfl rfl) ss (R.r ?_);cases b;exact fe rfl rfl (leV.tup (.cons (leV.agg (.eq (.cons (leV.osl _ _ _) (.cons (leV.osl _ _ _) leL.nil))) rfl) (.eq leL.nil)))
 ·refine R.r ?_;refine zo b (λg c b=>zc rfl (zX rfl el23 gg gg isl c (GNode.row_eq _)) ss ?_);refine R.r ?_;cases b;exact fz rfl rfl
theorem ok45 {A:(List GLeaf)} {z:(GLeaf->Option Bool)} {f:FuncId} {c d:List AV} {res:Int} {h:AH} (j:∀y v (L:List Blk) (M:List Nat),z y=some v->Spec Tryz.prog f (c++[.agg (GLeaf.row y)]++d) (h.ext L M) (yR (.bool v) (h.ext L M))) (a:yh A z=some res):Spec Tryz.prog 45 [.sl 9 (A.map GLeaf.row),.fn (.func f) c d] h (yR (.int .i64 res) h):=by
 unfold yh at a;refine zY Tryz.func45 rfl (by kernel_rfl) (xh 19 rfl) (λb H=>?_);simp only [zJ,AV.low,Bool.and_eq_true,Bool.true_and,and_true] at b;have u:∀n m,h.blks.length<=n->h.toks.length<=m->zJ n m c=true:=λn m s p=>yl s p _ (by simp [b]);have w:∀n m,h.blks.length<=n->h.toks.length<=m->zJ n m d=true:=λn m s p=>yl s p _ (by simp [b]);refine R.r ?_;refine ln λg=>?_;replace g:=ya g;refine R.r ?_;refine zq (λ(B:Nat) (C:Unit)=>zz [2,3,4,5,6,9,10,11,12,13,14,15,16,17,18] [(8,.int .i64 (B:Int))]) (λC=>h.ext [] []) a (λ_ _=>by simp only [zz,wQ,List.set_cons_succ,List.set_cons_zero];try rfl) (wk.le LEL.o) ?_;intro B C D a;refine R.r ?_;refine zy gg a (λG F l x a e=>?_) (λa=>?_)
 ·refine R.r ?_;refine ix (zC x) (R.r ?_);refine zo a (λE k a=>yH rfl (scC rfl) (j _ _ _ _ k) ss ?_);refine R.r ?_;refine zg gg a (λi a=>?_) (λi a=>?_)
  ·refine R.r ?_;cases a;replace a:=e;refine R.r ?_;cases a;exact fz rfl rfl
  ·refine R.r ?_;cases a;exact ⟨(),l,e,wk.le (by exact (.eq (.eq (.d4 (.drop (.eq (.cons (leV.of_eq (y8 (by omega) (by omega))) (.d4 (.d4 (.drop (.drop leL.nil)))))))))))⟩
 ·refine R.r ?_;cases a;exact fz rfl rfl
theorem ok46 {c:GLeaf} {b:Int} {d:Nat} {res:Bool} {h:AH} (a:h.blk d=some (.cells [.int .u8 b])) (e:qi c b=some res):Spec Tryz.prog 46 [.agg (GLeaf.row c),.ptr d 0] h (yR (.bool res) h):=by
 unfold qi at e;refine za Tryz.func46 rfl (by kernel_rfl) (xh 8 rfl) (R.r ?_);refine zc rfl (b_load rfl ty5 gg a (xk rfl) (zb rfl)) ss (R.r ?_);cases e;exact fz rfl rfl
theorem ok47 {a:Int} {res:GLeaf} {h:AH}  (b:wu a=some res):Spec Tryz.prog 47 [.int .u8 a] h (yR (.agg (GLeaf.row res)) h):=by
 unfold wu at b;refine za Tryz.func47 rfl (by kernel_rfl) (xh 12 rfl) (R.r ?_);refine zg gg b (λc b=>?_) (λc b=>?_)
 ·refine R.r ?_;refine zc rfl (zG (cs':=lit0x) rfl su53 ze53 pl53 zk .nil rfl rfl) ss (R.r ?_);cases b;exact fe rfl rfl (leV.agg (.eq (.eq (.eq (.eq (.eq (.eq (.eq (.cons (leV.osl _ _ _) (.cons (leV.osl _ _ _) leL.nil))))))))) rfl)
 ·refine R.r ?_;refine zc rfl (zG (cs':=[.int .u8 a,.int .i64 (0:Int),.int .u64 (0:Int),.int .u8 (0:Int),.int .u32 (0:Int),.int .u64 (0:Int),.str ([]:ze),.osl none 5 (([]:List GItem).map GItem.row),.osl none 3 (([]:List GDot).map GDot.row)]) rfl su53 ze53 pl53 (zf gg zk) (.cons (zb rfl) .nil) rfl rfl) ss (R.r ?_);cases b;exact fe rfl rfl (leV.agg (.eq (.eq (.eq (.eq (.eq (.eq (.eq (.cons (leV.osl _ _ _) (.cons (leV.osl _ _ _) leL.nil))))))))) rfl)
theorem ok48 {d:(List GItem)} {res:(List GItem)} {h:AH}  (a:yk d=some res):Spec Tryz.prog 48 [.sl 5 (d.map GItem.row)] h (OwnK h 5 res.length (res.map GItem.row)):=by
 unfold yk at a;refine za Tryz.func48 rfl (by kernel_rfl) (xh 8 rfl) (R.r ?_);refine ops_nilqE rfl rfl el50 gg isl rfl (λ_=>ss) a (λf e a=>R.r ?_);refine zg gg a (λb a=>?_) (λb a=>?_)
 ·refine R.r ?_;cases a;refine fr rfl (fin_own0 (row:=GItem.row) (L:=([]:List GItem)) ?_);exact ⟨rfl,rfl⟩
 ·refine R.r ?_;refine zc rfl (zr (es:=([]:List GItem).map GItem.row) rfl el50 ze49 rfl rfl zk .nil rfl rfl rfl) ss (R.r ?_);refine xi a (λc a=>zc rfl (e_appN (m:=0) (T':=[((([]:List GItem)++d)).length]) rfl rfl rfl rfl el50 el50 gg gg (zb rfl) (zb rfl) news_sl c rfl rfl) ss ?_);refine R.r ?_;cases a;refine fr rfl (fin_own ?_);exact ⟨rfl,rfl⟩
theorem ok49 {d:(List GDot)} {res:(List GDot)} {h:AH}  (a:yo d=some res):Spec Tryz.prog 49 [.sl 3 (d.map GDot.row)] h (OwnK h 3 res.length (res.map GDot.row)):=by
 unfold yo at a;refine za Tryz.func49 rfl (by kernel_rfl) (xh 8 rfl) (R.r ?_);refine ops_nilqE rfl rfl el51 gg isl rfl (λ_=>ss) a (λf e a=>R.r ?_);refine zg gg a (λb a=>?_) (λb a=>?_)
 ·refine R.r ?_;cases a;refine fr rfl (fin_own0 (row:=GDot.row) (L:=([]:List GDot)) ?_);exact ⟨rfl,rfl⟩
 ·refine R.r ?_;refine zc rfl (zr (es:=([]:List GDot).map GDot.row) rfl el51 ze46 rfl rfl zk .nil rfl rfl rfl) ss (R.r ?_);refine xi a (λc a=>zc rfl (e_appN (m:=0) (T':=[((([]:List GDot)++d)).length]) rfl rfl rfl rfl el51 el51 gg gg (zb rfl) (zb rfl) news_sl c rfl rfl) ss ?_);refine R.r ?_;cases a;refine fr rfl (fin_own ?_);exact ⟨rfl,rfl⟩
theorem ok31 {t0:(List GNode)} {d:(List ze)} {c:Int} {res:(GLeaf×Bool)} {h:AH}  (a:yT t0 d c=some res):Spec Tryz.prog 31 [.sl 3 (t0.map GNode.row),.sl 1 (d.map zd),.int .u8 c] h (yR (.tup [.agg (GLeaf.row res.1),.bool res.2]) h):=by
 unfold yT at a;refine za Tryz.func31 rfl (by kernel_rfl) (xh 66 rfl) (R.r ?_);refine ln λB=>?_;replace B:=ya B;refine zc rfl (wT rfl gg rfl rfl) ss ?_;refine zc rfl (zS rfl gg (zb rfl)) ss ?_;refine zZ (yG ?_);refine r_join (λ(k:Bool×ze×(List GLeaf)×(List GNode))=>zz [0,1,2,3,4,7,10,11,12,13,14,15,16,17,18,19,20,21,22,23,24,25,26,27,28,29,30,31,32,33,34,35,36,37,38,39,40,41,42,43,44,45,46,47,48,49,50,51,52,53,54,55,56,57,58,59,60,61,62,63,64,65] [(9,.bool k.1)]) (λk=>h.ext [.cells [.int .u8 c],.cells lit0x,.cells [.str k.2.1,.sl 9 (k.2.2.1.map GLeaf.row),.sl 3 (k.2.2.2.map GNode.row)]] []) a (λ_=>by simp only [zz,wQ,List.set_cons_succ,List.set_cons_zero];try rfl) (λP a A=>?_) (λk a=>?_)
 ·refine R.r ?_;refine ln λg=>?_;replace g:=ya g;refine R.r ?_;refine zq (λ(n2:Nat) (e:(List GNode)×Bool×ze×(List GLeaf)×(List GNode))=>zz [1,2,3,4,7,10,11,12,13,14,15,16,20,21,22,23,24,25,26,27,28,29,30,31,32,33,34,35,36,37,38,39,40,41,42,43,44,45,46,47,48,49,50,51,52,53,54,55,56,57,58,59,60,61,62,63,64,65] [(0,.sl 3 (e.1.map GNode.row)),(9,.bool e.2.1),(19,.int .i64 (n2:Int))]) (λe=>h.ext [.cells [.int .u8 c],.cells lit0x,.cells [.str e.2.2.1,.sl 9 (e.2.2.2.1.map GLeaf.row),.sl 3 (e.2.2.2.2.map GNode.row)]] []) a (λ_ _=>by simp only [zz,wQ,List.set_cons_succ,List.set_cons_zero];try rfl) (wk.trans (wk_leB (j:=2) rfl (by exact (.eq (.cons (leV.osl _ _ _) (.cons (leV.osl _ _ _) leL.nil)))) rfl rfl) (wk.le LEL.o)) ?_;intro n2 e K a;refine R.r ?_;refine zy gg a (λQ O G F a y=>?_) (λa=>?_)
  ·refine R.r ?_;refine ix (zC F) (R.r ?_);refine zo a (λb C a=>cp (ok44 C) ?_);refine R.r ?_;refine zg gg a (λl a=>?_) (λl a=>?_)
   ·refine R.r ?_;refine q_block_miss (by decide) (R.r ?_);cases a;replace a:=y;refine R.r ?_;refine q_join ?_;cases a;exact ⟨(b.2,b.1.name,b.1.leaves,b.1.subs),A,wk.le LEL.o⟩
   ·refine R.r ?_;cases a;exact ⟨(b.1.subs,b.2,b.1.name,b.1.leaves,b.1.subs),G,y,wk.le (by exact (.cons (leV.of_eq rfl) (.d4 (.eq (.eq (.drop (.eq (.cons (leV.of_eq rfl) (.d4 (.drop (.drop (.drop (.eq (.eq (.cons (leV.of_eq (y8 (by omega) (by omega))) (.d16 (.d16 (.d4 (.d4 (.d4 (.drop (.drop leL.nil))))))))))))))))))))))⟩
  ·refine R.r ?_;refine q_join ?_;cases a;exact ⟨(e.2.1,e.2.2.1,e.2.2.2.1,e.2.2.2.2),A,wk.le LEL.o⟩
 ·refine R.r ?_;refine zc rfl (xV rfl rfl rfl) ss ?_;refine zo a (λH s a=>cp (ok45 (λ_ v L M I=>ok46 (blk_ext2 (j:=0) rfl) I) s) ?_);refine R.r ?_;refine zT a (λJ u a=>zF rfl sc (λE=>ok47 (u E)) ss ?_);refine yO rfl (λE=>s_field rfl fo53x0 ty5 (zL gg E) rfl (zb rfl)) ss (R.r ?_);refine zg gg a (λD a=>?_) (λD a=>?_)
  ·refine R.r ?_;refine zo a (λN z a=>cp (ok47 z) ?_);refine R.r ?_;cases a;exact fz rfl rfl
  ·refine R.r ?_;refine zo a (λi w a=>ix w ?_);refine R.r ?_;refine zI [] [] trivial mixed (by kernel_rfl) (R.r ?_);refine zo a (λf n a=>draw_callH rfl FOk.nil (by rfl) rfl (sc rfl) (own_ext (T':=[(f).length]) (ok48 n) (m:=0) rfl rfl) ss ?_);refine R.r ?_;refine zo a (λp x a=>draw_callH rfl FOk.nil (by rfl) rfl (sc rfl) (own_ext (T':=[(f).length,(p).length]) (ok49 x) (m:=1) rfl rfl) ss ?_);refine R.r ?_;refine yD rfl FOk.nil (by kernel_rfl) rfl (z7 (cs':=(GLeafRw i (.osl (some (h.toks.length+0)) 5 (f.map GItem.row)) (.sl 3 (i.tombs.map GDot.row)))) rfl ty50 gg gg (zb rfl) rfl rfl rfl rfl rfl) rfl (R.r ?_);refine yD rfl FOk.nil (by kernel_rfl) rfl (z7 (cs':=(GLeafRw i (.osl (some (h.toks.length+0)) 5 (f.map GItem.row)) (.osl (some (h.toks.length+1)) 3 (p.map GDot.row)))) rfl ty51 gg gg (zb rfl) rfl rfl rfl rfl rfl) rfl (R.r ?_);cases a;exact fe rfl rfl (leV.tup (.cons (leV.agg (.eq (.eq (.eq (.eq (.eq (.eq (.eq (.cons (leV.osl _ _ _) (.cons (leV.osl _ _ _) leL.nil))))))))) rfl) (.eq leL.nil)))
theorem okR17 {g:GQueryAsked} {i d:Nat} {res:GAnswer} {h:AH} (c:h.blks.length=i) (e:h.toks.length=d) (b:yW g=some res):Spec Tryz.prog 17 [.agg (GQueryAsked.row g)] h (yR (.agg [.bool res.is,.int .i64 res.n,.rsl i d 1 (res.l).length]) (h.ext [.row d 1 (res.l.map zd)] [(res.l).length])):=by
 unfold yW at b;subst c e;refine za Tryz.func17 rfl (by kernel_rfl) (xh 17 rfl) (R.r ?_);refine zo b (λa f b=>cp (ok31 f) ?_);refine R.r ?_;refine zc rfl (zG (cs':=[.bool a.2,.int .i64 a.1.n,.osl none 1 (([]:List ze).map zd)]) rfl su32 ze32 pl32 (zf gg (zf gg zk)) (.cons (zb rfl) (.cons (zb rfl) .nil)) rfl rfl) ss (R.r ?_);cases b;refine fr rfl (vl (ps:=[.bool a.2,.int .i64 a.1.n]) qQ rfl rfl ?_);exact ⟨by simp only [List.length_map];try rfl,by simp only [List.length_map];try rfl⟩
theorem okR18 {d:GQueryAsked} {m e:Nat} {res:GAnswer} {h:AH} (c:h.blks.length=m) (g:h.toks.length=e) (a:xq d=some res):Spec Tryz.prog 18 [.agg (GQueryAsked.row d)] h (yR (.agg [.bool res.is,.int .i64 res.n,.rsl m e 1 (res.l).length]) (h.ext [.row e 1 (res.l.map zd)] [(res.l).length])):=by
 unfold xq at a;subst c g;refine za Tryz.func18 rfl (by kernel_rfl) (xh 21 rfl) (R.r ?_);refine zo a (λb k a=>cp (ok31 k) ?_);refine R.r ?_;refine zg gg a (λf a=>?_) (λf a=>?_)
 ·refine R.r ?_;refine zc rfl (zG (cs':=[.bool false,.int .i64 (0:Int),.osl none 1 (([]:List ze).map zd)]) rfl su32 ze32 pl32 zk .nil rfl rfl) ss (R.r ?_);cases a;refine fr rfl (vl (ps:=[.bool false,.int .i64 (0:Int)]) qQ rfl rfl ?_);exact ⟨by simp only [List.length_map];try rfl,by simp only [List.length_map];try rfl⟩
 ·refine R.r ?_;refine ops_b rfl (e_bsR (es:=([b.1.text]:List ze).map zd) (B':=[.cells (GQueryAsked.row d),.cells [.bool false,.int .i64 (0:Int),.osl none 1 (([]:List ze).map zd)],.cells (GLeaf.row b.1),.row (h.toks.length+0) 1 (([b.1.text]:List ze).map zd)]) (T':=[([b.1.text]:List ze).length]) rfl el24 ze9 rfl rfl rfl (zf gg zk) (.cons (zb rfl) .nil) rfl rfl rfl rfl rfl rfl rfl) ss ?_;refine zc rfl (zG (cs':=[.bool true,.int .i64 (0:Int),.rsl (h.blks.length+3) (h.toks.length+0) 1 (([b.1.text]:List ze).length)]) rfl su32 ze32 pl32 (zf rfl (zf gg zk)) (.cons (zb rfl) (.cons (zb rfl) .nil)) rfl rfl) ss (R.r ?_);cases a;refine fr rfl (vl (ps:=[.bool true,.int .i64 (0:Int)]) (wZ (j:=3) (i:=0) rfl (by simp)) rfl rfl ?_);exact ⟨by simp only [List.length_map];try rfl,by simp only [List.length_map];try rfl⟩
theorem okR32 {f:GLeaf} {s g:Nat} {res:(List ze)} {h:AH} (m:h.blks.length=s) (l:h.toks.length=g) (a:wI f=some res):Spec Tryz.prog 32 [.agg (GLeaf.row f)] h (yR (.rsl s g 1 (res).length) (h.ext [.row g 1 (res.map zd)] [(res).length])):=by
 unfold wI at a;subst m l;refine za Tryz.func32 rfl (by kernel_rfl) (xh 19 rfl) (R.r ?_);refine ln λe=>?_;replace e:=ya e;refine R.r ?_;refine zq (λ(u:Nat) (b:(List ze))=>zz [0,1,3,4,5,9,10,11,12,13,14,15,16,17,18] [(2,.rsl (h.blks.length+1) (h.toks.length+0) 1 ((b).length)),(8,.int .i64 (u:Int))]) (λb=>h.ext [.cells (GLeaf.row f),.row (h.toks.length+0) 1 (b.map zd)] [(b).length]) a (λ_ _=>by simp only [zz,wQ,List.set_cons_succ,List.set_cons_zero];try rfl) (wk.trans ((swk_thaw gt2 rfl rfl st2 rfl rfl).wk) (wk.le LEL.o)) ?_;intro u b w a;refine R.r ?_;refine zy gg a (λc x k p a n=>?_) (λa=>?_)
 ·refine R.r ?_;refine ix (zC p) (R.r ?_);refine zc rfl (zr (es:=([c.text]:List ze).map zd) rfl el24 ze9 rfl rfl (zf gg zk) (.cons (zb rfl) .nil) rfl rfl rfl) ss ?_;refine xi a (λd a=>zc rfl (e_appR (i:=1) (j:=0) (B':=[.cells (GLeaf.row f),.row (h.toks.length+0) 1 ((b++([c.text]:List ze)).map zd),.cells (GItem.row c)]) (T':=[((b++([c.text]:List ze))).length]) rfl rfl rfl rfl el24 el24 gg gg rfl (zb rfl) wn d rfl rfl rfl rfl rfl) ss ?_);refine R.r ?_;cases a;exact ⟨(b++([c.text]:List ze)),k,n,wk.trans (wk.le (by exact (.drop (.drop (.cons (leV.of_eq rfl) (.drop (.drop (.drop (.eq (.eq (.cons (leV.of_eq (y8 (by omega) (by omega))) (.d4 (.d4 (.drop (.drop leL.nil))))))))))))))) (xj (by simp [zJ,AV.low]) rfl rfl (by simp [Blk.low,zJ,AV.low]))⟩
 ·refine R.r ?_;cases a;refine fr rfl (fin_row1 (wZ (j:=1) (i:=0) rfl (by simp)) ?_);exact ⟨by simp only [List.length_map];try rfl,by simp only [List.length_map];try rfl⟩
def sortS33TryzRen:Go.Shelf.Ren :=
  { f:=λx=>match x with
      | 54=>33
      | 61=>65
      | 64=>51
      | 65=>50
      | 69=>87
      | 78=>68
      | 79=>69
      | 80=>59
      | 81=>60
      | 82=>61
      | 83=>62
      | 84=>63
      | 85=>64
      | 86=>66
      | 87=>67
      | 89=>83
      | 90=>84
      | 93=>82
      | 94=>85
      | 95=>86
      | 97=>97
      | n=>n
    t:=λx=>match x with
      | 0=>0
      | 3=>3
      | 4=>4
      | 5=>5
      | 9=>9
      | 25=>24
      | 26=>9
      | 44=>96
      | 51=>83
      | 60=>90
      | 61=>91
      | 67=>42
      | 69=>41
      | 75=>108
      | 79=>112
      | 83=>121
      | 84=>122
      | n=>n
    g:=λn=>n }
theorem sortS33TryzLays:Go.Proofs.SlLaysN.n54 Tryz.prog sortS33TryzRen where
  mixed:=mixed
  f54:=⟨Tryz.f33.name,by kernel_rfl,Tryz.func33.trans (by kernel_rfl)⟩
  f61:=⟨Tryz.f65.name,by kernel_rfl,Tryz.func65.trans (by kernel_rfl)⟩
  f64:=Tryz.func51.trans (by kernel_rfl)
  f65:=⟨Tryz.f50.name,by kernel_rfl,Tryz.func50.trans (by kernel_rfl)⟩
  f69:=⟨Tryz.f87.name,by kernel_rfl,Tryz.func87.trans (by kernel_rfl)⟩
  f78:=Tryz.func68.trans (by kernel_rfl)
  f79:=Tryz.func69.trans (by kernel_rfl)
  f80:=⟨Tryz.f59.name,by kernel_rfl,Tryz.func59.trans (by kernel_rfl)⟩
  f81:=⟨Tryz.f60.name,by kernel_rfl,Tryz.func60.trans (by kernel_rfl)⟩
  f82:=⟨Tryz.f61.name,by kernel_rfl,Tryz.func61.trans (by kernel_rfl)⟩
  f83:=⟨Tryz.f62.name,by kernel_rfl,Tryz.func62.trans (by kernel_rfl)⟩
  f84:=⟨Tryz.f63.name,by kernel_rfl,Tryz.func63.trans (by kernel_rfl)⟩
  f85:=⟨Tryz.f64.name,by kernel_rfl,Tryz.func64.trans (by kernel_rfl)⟩
  f86:=⟨Tryz.f66.name,by kernel_rfl,Tryz.func66.trans (by kernel_rfl)⟩
  f87:=⟨Tryz.f67.name,by kernel_rfl,Tryz.func67.trans (by kernel_rfl)⟩
  f89:=Tryz.func83.trans (by kernel_rfl)
  f90:=Tryz.func84.trans (by kernel_rfl)
  f93:=⟨Tryz.f82.name,by kernel_rfl,Tryz.func82.trans (by kernel_rfl)⟩
  f94:=⟨Tryz.f85.name,by kernel_rfl,Tryz.func85.trans (by kernel_rfl)⟩
  f95:=⟨Tryz.f86.name,by kernel_rfl,Tryz.func86.trans (by kernel_rfl)⟩
  f97:=⟨Tryz.f97.name,by kernel_rfl,Tryz.func97.trans (by kernel_rfl)⟩
  t0:=Tryz.underlying0
  a0:=Tryz.isAgg0
  z0:=Tryz.sizeOf0
  v0:=Tryz.zeroValue0
  t3:=Tryz.underlying3
  a3:=Tryz.isAgg3
  z3:=Tryz.sizeOf3
  v3:=Tryz.zeroValue3
  t4:=Tryz.underlying4
  a4:=Tryz.isAgg4
  z4:=Tryz.sizeOf4
  v4:=Tryz.zeroValue4
  t5:=Tryz.underlying5
  a5:=Tryz.isAgg5
  z5:=Tryz.sizeOf5
  v5:=Tryz.zeroValue5
  t9:=Tryz.underlying9
  a9:=Tryz.isAgg9
  z9:=Tryz.sizeOf9
  v9:=Tryz.zeroValue9
  t25:=Tryz.underlying24
  a25:=Tryz.isAgg24
  z25:=Tryz.sizeOf24
  v25:=Tryz.zeroValue24
  t26:=Tryz.underlying9
  a26:=Tryz.isAgg9
  z26:=Tryz.sizeOf9
  v26:=Tryz.zeroValue9
  t44:=Tryz.underlying96
  a44:=Tryz.isAgg96
  z44:=Tryz.sizeOf96
  v44:=Tryz.zeroValue96
  t51:=Tryz.underlying83
  a51:=Tryz.isAgg83
  z51:=Tryz.sizeOf83
  v51:=Tryz.zeroValue83
  t60:=Tryz.underlying90
  a60:=Tryz.isAgg90
  z60:=Tryz.sizeOf90
  v60:=Tryz.zeroValue90
  t61:=Tryz.underlying91
  a61:=Tryz.isAgg91
  z61:=Tryz.sizeOf91
  v61:=Tryz.zeroValue91
  t67:=Tryz.underlying42
  a67:=Tryz.isAgg42
  z67:=Tryz.sizeOf42
  v67:=Tryz.zeroValue42
  t69:=Tryz.underlying41
  a69:=Tryz.isAgg41
  z69:=Tryz.sizeOf41
  v69:=Tryz.zeroValue41
  t75:=Tryz.underlying108
  a75:=Tryz.isAgg108
  z75:=Tryz.sizeOf108
  v75:=Tryz.zeroValue108
  t79:=Tryz.underlying112
  a79:=Tryz.isAgg112
  z79:=Tryz.sizeOf112
  v79:=Tryz.zeroValue112
  t83:=Tryz.underlying121
  a83:=Tryz.isAgg121
  z83:=Tryz.sizeOf121
  v83:=Tryz.zeroValue121
  t84:=Tryz.underlying122
  a84:=Tryz.isAgg122
  z84:=Tryz.sizeOf122
  v84:=Tryz.zeroValue122
theorem okR34 {J I:Nat} {l:(List ze)} {res:(List ze)} {h:AH} (N:h.blks.length=J) (M:h.toks.length=I) (a:yB l=some res):Spec Tryz.prog 34 [.rsl J I 1 l.length] (h.ext [.row I 1 (l.map zd)] [l.length]) (TurnK h J I 1 res.length (res.map zd)):=by
 unfold yB at a;subst N M;refine spec_of_body_R Tryz.func34 rfl (by kernel_rfl) (xh 61 rfl) (R.r ?_);refine ln λG=>?_;replace G:=ya G;refine R.r ?_;refine zg gg a (λK a=>?_) (λK a=>?_)
 ·refine R.r ?_;cases a;refine fr rfl (fin_turn0 (row:=zd) ?_);exact ⟨rfl,_,rfl⟩
 ·refine R.r ?_;refine vC (λ(n:Int)=>zz [1,2,4,5,6,7,8,9,10,11,12,13,14,15,16,17,18,19,20,21,22,23,24,25,26,27,28,29,30,31,32,33,34,35,36,37,38,39,40,41,42,43,44,45,46,47,48,49,50,51,52,53,54,55,56,57,58,59,60] [(3,.int .i64 n)]) (λn=>h.ext [.row (h.toks.length+0) 1 (l.map zd)] [l.length]) a (λ_=>by simp only [zz,wQ,List.set_cons_succ,List.set_cons_zero];try rfl) (wk.le LEL.o) ?_;intro X n W a y;refine R.r ?_;refine ln λs=>?_;replace s:=ya s;refine R.r ?_;refine zg gg a (λE a=>?_) (λE a=>?_)
  ·refine R.r ?_;refine zI [] [] trivial mixed (by kernel_rfl) (R.r ?_);refine zo a (λT p a=>zD rfl rfl (e_idxR rfl el24 gg gg (idxRn p rfl)) ss ?_);refine zD rfl rfl (e_ldR (off:=0) (i:=0) (q:=h.toks.length+0) (z:=n.toNat) (row:=zd) (λ_=>rfl) rfl ty9 (by decide) gg rfl rfl (idxR p).2.2 (xk rfl) (zb rfl)) ss (R.r ?_);refine zo a (λQ u a=>zD rfl rfl (e_idxR rfl el24 gg gg (idxRn u rfl)) ss ?_);refine zD rfl rfl (e_ldR (off:=0) (i:=0) (q:=h.toks.length+0) (z:=(IntKind.wrap .i64 (n - (1:Int))).toNat) (row:=zd) (λ_=>rfl) rfl ty9 (by decide) gg rfl rfl (idxR u).2.2 (xk rfl) (zb rfl)) ss (R.r ?_);refine zg gg a (λF a=>?_) (λF a=>?_)
   ·refine R.r ?_;refine xi a (λA a=>ops_b rfl (e_sufR rfl el24 gg gg A) ss ?_);refine R.r ?_;refine vC (λ(b:Int×Int×(List ze))=>zz [1,2,6,7,8,9,10,11,12,13,14,15,16,17,18,19,20,21,22,23,24,25,26,27,28,29,30,31,32,33,34,35,36,37,38,39,40,41,42,43,44,45,46,47,48,49,50,51,52,53,54,55,56,57,58,59,60] [(3,.int .i64 b.1),(5,.int .i64 b.2.1)]) (λb=>h.ext [.row (h.toks.length+0) 1 (b.2.2.map zd)] [l.length]) a (λ_=>by simp only [zz,wQ,List.set_cons_succ,List.set_cons_zero];try rfl) (wk.le LEL.o) ?_;intro n2 b V a x;refine xi a (λc a=>R.r ?_);refine ln λO=>R.r ?_;refine zg gg a (λC a=>?_) (λC a=>?_)
    ·refine R.r ?_;refine zI [] [] trivial mixed (by kernel_rfl) (R.r ?_);refine zo a (λP f a=>?_);replace f:=idxS f;refine zD rfl rfl (e_idxS rfl el24 gg gg ⟨f.1,by have:=f.2.1;have:=c;omega⟩) ss ?_;refine zD rfl rfl (e_ldR (off:=0) (i:=0) (q:=h.toks.length+0) (z:=(n.toNat+b.2.1.toNat)) (row:=zd) (λ_=>rfl) rfl ty9 (by decide) gg rfl c f.2.2 (xk rfl) (zb rfl)) ss (R.r ?_);refine zo a (λS e a=>?_);replace e:=idxS e;refine zD rfl rfl (e_idxS rfl el24 gg gg ⟨e.1,by have:=e.2.1;have:=c;omega⟩) ss ?_;refine zD rfl rfl (e_ldR (off:=0) (i:=0) (q:=h.toks.length+0) (z:=(n.toNat+(IntKind.wrap .i64 (b.2.1 - (1:Int))).toNat)) (row:=zd) (λ_=>rfl) rfl ty9 (by decide) gg rfl c e.2.2 (xk rfl) (zb rfl)) ss (R.r ?_);refine zg gg a (λB a=>?_) (λB a=>?_)
     ·refine R.r ?_;refine zo a (λm g a=>?_);replace g:=idxS g;refine zc rfl (e_idxS rfl el24 gg gg ⟨g.1,by have:=g.2.1;have:=c;omega⟩) ss ?_;refine zc rfl (e_ldR (off:=0) (i:=0) (q:=h.toks.length+0) (z:=(n.toNat+b.2.1.toNat)) (row:=zd) (λ_=>rfl) rfl ty9 (by decide) gg rfl c g.2.2 (xk rfl) (zb rfl)) ss ?_;refine zo a (λU w a=>zc rfl (e_idxR rfl el24 gg gg (idxRn w c)) ss ?_);refine zc rfl (e_stR (off:=0) (i:=0) (q:=h.toks.length+0) (z:=b.1.toNat) (row:=zd) (y':=m) (us:=[.str m]) (B':=[.row (h.toks.length+0) 1 ((b.2.2.set b.1.toNat m).map zd)]) (λ_=>rfl) rfl ty9 gg gg (zb rfl) rfl rfl rfl rfl c (idxR w).2.2 (by decide) rfl rfl) rfl (R.r ?_);cases a;exact ⟨((IntKind.wrap .i64 (b.1+(1:Int))),(IntKind.wrap .i64 (b.2.1+(1:Int))),(b.2.2.set b.1.toNat m)),x,wk.le LEL.o⟩
     ·refine R.r ?_;cases a;exact ⟨(b.1,(IntKind.wrap .i64 (b.2.1+(1:Int))),b.2.2),x,wk.le LEL.o⟩
    ·refine R.r ?_;cases a;replace a:=x;refine R.r ?_;refine xi a (λk a=>ops_b rfl (e_sufR rfl el24 gg gg k) ss ?_);refine ops_b rfl (e_clrR (i:=0) (q:=h.toks.length+0) (L:=b.2.2) (row:=zd) (d:=([]:ze)) (B':=[.row (h.toks.length+0) 1 ((b.2.2.take b.1.toNat++List.replicate (l.length - b.1.toNat) ([]:ze)).map zd)]) (λ_=>rfl) rfl rfl rfl rfl el24 ze9 rfl gg rfl c (Int.toNat_le.2 k.2) rfl) rfl (R.r ?_);refine zo a (λH D a=>ops_b rfl (e_cutR (i:=0) (j:=0) (L:=(b.2.2.take b.1.toNat++List.replicate (l.length - b.1.toNat) ([]:ze))) (row:=zd) (B':=[.dead,.row (h.toks.length+1) 1 (H.map zd)]) (T':=[l.length+1,(H).length]) rfl el24 gg gg rfl (clr_len c (Int.toNat_le.2 k.2)) D rfl rfl rfl rfl) ss ?_);refine R.r ?_;cases a;replace a:=y;refine R.r ?_;cases a;refine fr rfl (fin_at ?_);exact ⟨rfl,_,rfl⟩
   ·refine R.r ?_;cases a;exact ⟨(IntKind.wrap .i64 (n+(1:Int))),y,wk.le LEL.o⟩
  ·refine R.r ?_;cases a;replace a:=y;refine R.r ?_;cases a;refine fr rfl (fin_turn0 (row:=zd) ?_);exact ⟨rfl,_,rfl⟩
theorem okR19 {b:GQueryAsked} {u f:Nat} {res:GAnswer} {h:AH} (e:h.blks.length=u) (g:h.toks.length=f) (a:xL b=some res):Spec Tryz.prog 19 [.agg (GQueryAsked.row b)] h (yR (.agg [.bool res.is,.int .i64 res.n,.rsl u f 1 (res.l).length]) (h.ext [.row f 1 (res.l.map zd)] [(res.l).length])):=by
 unfold xL at a;subst e g;refine za Tryz.func19 rfl (by kernel_rfl) (xh 22 rfl) (R.r ?_);refine zo a (λd m a=>cp (ok31 m) ?_);refine R.r ?_;refine zo a (λk p a=>yx rfl (sc rfl) (xn (v':=.rsl (h.blks.length+3) (h.toks.length+0) 1 ((k).length)) (B':=[.cells (GQueryAsked.row b),.cells [.bool false,.int .i64 (0:Int),.osl none 1 (([]:List ze).map zd)],.cells (GLeaf.row d.1),.row (h.toks.length+0) 1 (k.map zd)]) (T':=[(k).length]) (okR32 (by rw [vp];rfl) (by rw [vn];rfl) p) rfl rfl rfl) ss ?_);refine R.r ?_;refine zo a (λv3 c a=>yx rfl (sc rfl) (spec_sortS sortS33TryzLays c (i:=3) (B':=[.cells (GQueryAsked.row b),.cells [.bool false,.int .i64 (0:Int),.osl none 1 (([]:List ze).map zd)],.cells (GLeaf.row d.1),.row (h.toks.length+0) 1 (v3.map zd)]) rfl rfl) ss ?_);refine R.r ?_;refine ops_swk (swk_move (j:=3) (i:=0) (n2:=(v3).length) (B':=[.cells (GQueryAsked.row b),.cells [.bool false,.int .i64 (0:Int),.osl none 1 (([]:List ze).map zd)],.cells (GLeaf.row d.1),.dead,.row (h.toks.length+1) 1 (v3.map zd)]) (T':=[(v3).length+1,(v3).length]) gt19 rfl (by rw [List.length_map];exact sortS_len c) (Eq.symm (sortS_len c)) rfl rfl st19 rfl rfl) ?_;refine zo a (λv4 o a=>ops_turn (B1:=[.cells (GQueryAsked.row b),.cells [.bool false,.int .i64 (0:Int),.osl none 1 (([]:List ze).map zd)],.cells (GLeaf.row d.1),.dead]) (T1:=[(v3).length+1]) (j:=4) (i:=1) (B':=[.cells (GQueryAsked.row b),.cells [.bool false,.int .i64 (0:Int),.osl none 1 (([]:List ze).map zd)],.cells (GLeaf.row d.1),.dead,.dead,.row (h.toks.length+2) 1 (v4.map zd)]) rfl (xD rfl rfl rfl (yz gg yr) (.cons (zb rfl) .nil)) (okR34 (by simp [AH.ext]) (by simp [AH.ext]) o) rfl rfl ss rfl (λs=>?_));refine zc rfl (zG (cs':=[.bool d.2,.int .i64 (0:Int),.rsl (h.blks.length+5) (h.toks.length+2) 1 ((v4).length)]) rfl su32 ze32 pl32 (zf gg (zf gg zk)) (.cons (zb rfl) (.cons (zb rfl) .nil)) rfl rfl) ss (R.r ?_);cases a;refine fr rfl (vl (ps:=[.bool d.2,.int .i64 (0:Int)]) (wZ (j:=5) (i:=2) rfl (by simp)) rfl rfl ?_);exact ⟨by simp only [List.length_map];try rfl,by simp only [List.length_map];try rfl⟩
theorem okR20 {d:GQueryAsked} {o e:Nat} {res:GAnswer} {h:AH} (c:h.blks.length=o) (g:h.toks.length=e) (a:xM d=some res):Spec Tryz.prog 20 [.agg (GQueryAsked.row d)] h (yR (.agg [.bool res.is,.int .i64 res.n,.rsl o e 1 (res.l).length]) (h.ext [.row e 1 (res.l.map zd)] [(res.l).length])):=by
 unfold xM at a;subst c g;refine za Tryz.func20 rfl (by kernel_rfl) (xh 17 rfl) (R.r ?_);refine zo a (λf k a=>cp (ok31 k) ?_);refine R.r ?_;refine zo a (λb m a=>yx rfl (sc rfl) (xn (v':=.rsl (h.blks.length+3) (h.toks.length+0) 1 ((b).length)) (B':=[.cells (GQueryAsked.row d),.cells [.bool false,.int .i64 (0:Int),.osl none 1 (([]:List ze).map zd)],.cells (GLeaf.row f.1),.row (h.toks.length+0) 1 (b.map zd)]) (T':=[(b).length]) (okR32 (by rw [vp];rfl) (by rw [vn];rfl) m) rfl rfl rfl) ss ?_);refine zc rfl (zG (cs':=[.bool f.2,.int .i64 (0:Int),.rsl (h.blks.length+3) (h.toks.length+0) 1 ((b).length)]) rfl su32 ze32 pl32 (zf gg (zf gg zk)) (.cons (zb rfl) (.cons (zb rfl) .nil)) rfl rfl) ss (R.r ?_);cases a;refine fr rfl (vl (ps:=[.bool f.2,.int .i64 (0:Int)]) (wZ (j:=3) (i:=0) rfl (by simp)) rfl rfl ?_);exact ⟨by simp only [List.length_map];try rfl,by simp only [List.length_map];try rfl⟩
theorem okR35 {t0:(List GNode)} {b:(List ze)} {C u:Nat} {res:(List ze)} {h:AH} (y:h.blks.length=C) (x:h.toks.length=u) (a:treeNames t0 b=some res):Spec Tryz.prog 35 [.sl 3 (t0.map GNode.row),.sl 1 (b.map zd)] h (yR (.rsl C u 1 (res).length) (h.ext [.row u 1 (res.map zd)] [(res).length])):=by
 unfold treeNames at a;subst y x;refine za Tryz.func35 rfl (by kernel_rfl) (xh 41 rfl) (R.r ?_);refine ln λk=>?_;replace k:=ya k;refine R.r ?_;refine zq (λ(D:Nat) (A:(List GNode))=>zz [1,2,3,5,6,7,8,9,10,14,15,16,17,18,19,20,21,22,23,24,25,26,27,28,29,30,31,32,33,34,35,36,37,38,39,40] [(0,.sl 3 (A.map GNode.row)),(13,.int .i64 (D:Int))]) (λA=>h.ext [] []) a (λ_ _=>by simp only [zz,wQ,List.set_cons_succ,List.set_cons_zero];try rfl) (wk.le LEL.o) ?_;intro D A F a;refine R.r ?_;refine zy gg a (λJ I w B a z=>?_) (λa=>?_)
 ·refine R.r ?_;refine ix (zC B) (R.r ?_);refine zo a (λE l a=>cp (ok44 l) ?_);refine R.r ?_;cases a;exact ⟨E.1.subs,w,z,wk.trans (wk.le (by exact (.cons (leV.of_eq rfl) (.drop (.drop (.drop (.eq (.d4 (.drop (.drop (.eq (.eq (.cons (leV.of_eq (y8 (by omega) (by omega))) (.d16 (.d4 (.d4 (.drop (.drop (.drop leL.nil))))))))))))))))))) (xj (by simp [zJ,AV.low]) rfl rfl (by simp [Blk.low,zJ,AV.low]))⟩
 ·refine R.r ?_;refine ln λg=>?_;replace g:=ya g;refine R.r ?_;refine zq (λ(n2:Nat) (d:(List ze))=>zz [0,1,2,3,5,6,7,8,9,10,11,12,13,14,15,16,17,18,19,20,21,22,23,24,25,29,30,31,32,33,34,35,36,37,38,39,40] [(4,.rsl (h.blks.length+0) (h.toks.length+0) 1 ((d).length)),(28,.int .i64 (n2:Int))]) (λd=>h.ext [.row (h.toks.length+0) 1 (d.map zd)] [(d).length]) a (λ_ _=>by simp only [zz,wQ,List.set_cons_succ,List.set_cons_zero];try rfl) (wk.trans ((swk_thaw gt4 rfl rfl st4 rfl rfl).wk) (wk.le LEL.o)) ?_;intro n2 d G a;refine R.r ?_;refine zy gg a (λe H n m a s=>?_) (λa=>?_)
  ·refine R.r ?_;refine zc rfl (zX rfl el23 gg gg isl (zC m) (GNode.row_eq _)) ss (R.r ?_);refine zc rfl (zr (es:=([e.name]:List ze).map zd) rfl el24 ze9 rfl rfl (zf gg zk) (.cons (zb rfl) .nil) rfl rfl rfl) ss ?_;refine xi a (λf a=>zc rfl (e_appR (i:=0) (j:=0) (B':=[.row (h.toks.length+0) 1 ((d++([e.name]:List ze)).map zd),.cells [.str e.name,.sl 9 (e.leaves.map GLeaf.row),.sl 3 (e.subs.map GNode.row)]]) (T':=[((d++([e.name]:List ze))).length]) rfl rfl rfl rfl el24 el24 gg gg rfl (zb rfl) wn f rfl rfl rfl rfl rfl) ss ?_);refine R.r ?_;cases a;exact ⟨(d++([e.name]:List ze)),n,s,wk.trans (wk.le (by exact (.d4 (.cons (leV.of_eq rfl) (.d16 (.d4 (.drop (.eq (.eq (.cons (leV.of_eq (y8 (by omega) (by omega))) (.d4 (.d4 (.d4 leL.nil))))))))))))) (xj (by simp [zJ,AV.low]) rfl rfl (by simp [Blk.low,zJ,AV.low]))⟩
  ·refine R.r ?_;refine zo a (λp c a=>yx rfl (sc rfl) (spec_sortS sortS33TryzLays c (i:=0) (B':=[.row (h.toks.length+0) 1 (p.map zd)]) rfl rfl) ss ?_);refine R.r ?_;cases a;refine fr rfl (fin_row1 (wZ (j:=0) (i:=0) rfl (by rw [List.length_map];exact sortS_len c)) ?_);exact ⟨by simp only [List.length_map];try rfl,by simp only [List.length_map];try rfl⟩
theorem okR21 {d:GQueryAsked} {k e:Nat} {res:GAnswer} {h:AH} (c:h.blks.length=k) (f:h.toks.length=e) (b:xf d=some res):Spec Tryz.prog 21 [.agg (GQueryAsked.row d)] h (yR (.agg [.bool res.is,.int .i64 res.n,.rsl k e 1 (res.l).length]) (h.ext [.row e 1 (res.l.map zd)] [(res.l).length])):=by
 unfold xf at b;subst c f;refine za Tryz.func21 rfl (by kernel_rfl) (xh 14 rfl) (R.r ?_);refine zo b (λa g b=>yx rfl (sc rfl) (xn (v':=.rsl (h.blks.length+2) (h.toks.length+0) 1 ((a).length)) (B':=[.cells (GQueryAsked.row d),.cells [.bool false,.int .i64 (0:Int),.osl none 1 (([]:List ze).map zd)],.row (h.toks.length+0) 1 (a.map zd)]) (T':=[(a).length]) (okR35 (by rw [vp];rfl) (by rw [vn];rfl) g) rfl rfl rfl) ss ?_);refine R.r ?_;refine ln λm=>R.r ?_;refine zc rfl (zG (cs':=[.bool (decide ((((a).length:Nat):Int) > (0:Int))),.int .i64 (0:Int),.rsl (h.blks.length+2) (h.toks.length+0) 1 ((a).length)]) rfl su32 ze32 pl32 (zf gg (zf gg zk)) (.cons (zb rfl) (.cons (zb rfl) .nil)) rfl rfl) ss (R.r ?_);cases b;refine fr rfl (vl (ps:=[.bool (decide ((((a).length:Nat):Int) > (0:Int))),.int .i64 (0:Int)]) (wZ (j:=2) (i:=0) rfl (by simp)) rfl rfl ?_);exact ⟨by simp only [List.length_map];try rfl,by simp only [List.length_map];try rfl⟩
theorem ok70 {b:Int} {res:Bool} {h:AH}  (a:vG b=some res):Spec Tryz.prog 70 [.int .u64 b] h (yR (.bool res) h):=by
 unfold vG at a;refine za Tryz.func70 rfl (by kernel_rfl) (xh 9 rfl) (R.r ?_);cases a;exact fz rfl rfl
theorem ok88 {a0:GActor} {res:Bool} {h:AH}  (a:dotMayActor a0=some res):Spec Tryz.prog 88 [.agg (GActor.row a0)] h (yR (.bool res) h):=by
 unfold dotMayActor at a;refine za Tryz.func88 rfl (by kernel_rfl) (xh 16 rfl) (R.r ?_);cases a;exact fz rfl rfl
theorem ok71 {c:GDot} {res:Bool} {h:AH}  (a:dotMay c=some res):Spec Tryz.prog 71 [.agg (GDot.row c)] h (yR (.bool res) h):=by
 unfold dotMay at a;refine za Tryz.func71 rfl (by kernel_rfl) (xh 16 rfl) (R.r ?_);refine zo a (λd b a=>cp (ok88 b) ?_);refine R.r ?_;cases a;exact fz rfl rfl
theorem ok72 {c:ze} {res:Bool} {h:AH}  (b:wK c=some res):Spec Tryz.prog 72 [.str c] h (yR (.bool res) h):=by
 unfold wK at b;refine za Tryz.func72 rfl (by kernel_rfl) (xh 6 rfl) (R.r ?_);refine ln λa=>?_;replace a:=ya a;refine R.r ?_;cases b;exact fz rfl rfl
end Go.Vv
