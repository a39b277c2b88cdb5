/- Each function that the law reaches computes what its reading says; printed by a program. -/
import Derived.Test.YtlkpeiojgenhaaaDoorVvZ
import Derived.Test.YtlkpeiojgenhaaaDoorVvLb
import Derived.Test.YtlkpeiojgenhaaaDoorVvMr
import Derived.Test.YtlkpeiojgenhaaaDoorVvIt
import Derived.Test.YtlkpeiojgenhaaaDoorVvRd
import Derived.Test.YtlkpeiojgenhaaaDoorD
import Derived.Test.YtlkpeiojgenhaaaDoorProg
namespace Go.Vv
open Go Go.Proofs
set_option maxRecDepth 100000
set_option maxHeartbeats 1000000
set_option linter.unusedSimpArgs false
set_option linter.unusedVariables false
section
variable {v a0 a1 a2 a3 a4 a5 a6 a7 a8 a9 a10 a11 a12 a13 a14 a15 a16 a17 a18 a19 a20 a21 a22 a23 a24 a25 a26 a27 a28 a29 a30 a31 a32 a33 a34 a35 a36 a37 a38 a39 : AV} {r q : List AV} {t : Nat}
theorem gt0 : evo (a0::r) (.tmp 0) = some a0 := rfl
theorem st0 : dso (some 0) (a0::r) v = some (v::r) := rfl
theorem gt1 : evo (a0::a1::r) (.tmp 1) = some a1 := rfl
theorem st1 : dso (some 1) (a0::a1::r) v = some (a0::v::r) := rfl
theorem gt2 : evo (a0::a1::a2::r) (.tmp 2) = some a2 := rfl
theorem st2 : dso (some 2) (a0::a1::a2::r) v = some (a0::a1::v::r) := rfl
theorem gt3 : evo (a0::a1::a2::a3::r) (.tmp 3) = some a3 := rfl
theorem st3 : dso (some 3) (a0::a1::a2::a3::r) v = some (a0::a1::a2::v::r) := rfl
theorem gt4 : evo (a0::a1::a2::a3::a4::r) (.tmp 4) = some a4 := rfl
theorem st4 : dso (some 4) (a0::a1::a2::a3::a4::r) v = some (a0::a1::a2::a3::v::r) := rfl
theorem gt5 : evo (a0::a1::a2::a3::a4::a5::r) (.tmp 5) = some a5 := rfl
theorem st5 : dso (some 5) (a0::a1::a2::a3::a4::a5::r) v = some (a0::a1::a2::a3::a4::v::r) := rfl
theorem gt6 : evo (a0::a1::a2::a3::a4::a5::a6::r) (.tmp 6) = some a6 := rfl
theorem st6 : dso (some 6) (a0::a1::a2::a3::a4::a5::a6::r) v = some (a0::a1::a2::a3::a4::a5::v::r) := rfl
theorem gt7 : evo (a0::a1::a2::a3::a4::a5::a6::a7::r) (.tmp 7) = some a7 := rfl
theorem st7 : dso (some 7) (a0::a1::a2::a3::a4::a5::a6::a7::r) v = some (a0::a1::a2::a3::a4::a5::a6::v::r) := rfl
theorem gt8 : evo (a0::a1::a2::a3::a4::a5::a6::a7::a8::r) (.tmp 8) = some a8 := rfl
theorem st8 : dso (some 8) (a0::a1::a2::a3::a4::a5::a6::a7::a8::r) v = some (a0::a1::a2::a3::a4::a5::a6::a7::v::r) := rfl
theorem gt9 : evo (a0::a1::a2::a3::a4::a5::a6::a7::a8::a9::r) (.tmp 9) = some a9 := rfl
theorem st9 : dso (some 9) (a0::a1::a2::a3::a4::a5::a6::a7::a8::a9::r) v = some (a0::a1::a2::a3::a4::a5::a6::a7::a8::v::r) := rfl
theorem gt10 : evo (a0::a1::a2::a3::a4::a5::a6::a7::a8::a9::a10::r) (.tmp 10) = some a10 := rfl
theorem st10 : dso (some 10) (a0::a1::a2::a3::a4::a5::a6::a7::a8::a9::a10::r) v = some (a0::a1::a2::a3::a4::a5::a6::a7::a8::a9::v::r) := rfl
theorem gt11 : evo (a0::a1::a2::a3::a4::a5::a6::a7::a8::a9::a10::a11::r) (.tmp 11) = some a11 := rfl
theorem st11 : dso (some 11) (a0::a1::a2::a3::a4::a5::a6::a7::a8::a9::a10::a11::r) v = some (a0::a1::a2::a3::a4::a5::a6::a7::a8::a9::a10::v::r) := rfl
theorem gt12 : evo (a0::a1::a2::a3::a4::a5::a6::a7::a8::a9::a10::a11::a12::r) (.tmp 12) = some a12 := rfl
theorem st12 : dso (some 12) (a0::a1::a2::a3::a4::a5::a6::a7::a8::a9::a10::a11::a12::r) v = some (a0::a1::a2::a3::a4::a5::a6::a7::a8::a9::a10::a11::v::r) := rfl
theorem gt13 : evo (a0::a1::a2::a3::a4::a5::a6::a7::a8::a9::a10::a11::a12::a13::r) (.tmp 13) = some a13 := rfl
theorem st13 : dso (some 13) (a0::a1::a2::a3::a4::a5::a6::a7::a8::a9::a10::a11::a12::a13::r) v = some (a0::a1::a2::a3::a4::a5::a6::a7::a8::a9::a10::a11::a12::v::r) := rfl
theorem gt14 : evo (a0::a1::a2::a3::a4::a5::a6::a7::a8::a9::a10::a11::a12::a13::a14::r) (.tmp 14) = some a14 := rfl
theorem st14 : dso (some 14) (a0::a1::a2::a3::a4::a5::a6::a7::a8::a9::a10::a11::a12::a13::a14::r) v = some (a0::a1::a2::a3::a4::a5::a6::a7::a8::a9::a10::a11::a12::a13::v::r) := rfl
theorem gt15 : evo (a0::a1::a2::a3::a4::a5::a6::a7::a8::a9::a10::a11::a12::a13::a14::a15::r) (.tmp 15) = some a15 := rfl
theorem st15 : dso (some 15) (a0::a1::a2::a3::a4::a5::a6::a7::a8::a9::a10::a11::a12::a13::a14::a15::r) v = some (a0::a1::a2::a3::a4::a5::a6::a7::a8::a9::a10::a11::a12::a13::a14::v::r) := rfl
theorem gt16 : evo (a0::a1::a2::a3::a4::a5::a6::a7::a8::a9::a10::a11::a12::a13::a14::a15::a16::r) (.tmp 16) = some a16 := rfl
theorem st16 : dso (some 16) (a0::a1::a2::a3::a4::a5::a6::a7::a8::a9::a10::a11::a12::a13::a14::a15::a16::r) v = some (a0::a1::a2::a3::a4::a5::a6::a7::a8::a9::a10::a11::a12::a13::a14::a15::v::r) := rfl
theorem gt17 : evo (a0::a1::a2::a3::a4::a5::a6::a7::a8::a9::a10::a11::a12::a13::a14::a15::a16::a17::r) (.tmp 17) = some a17 := rfl
theorem st17 : dso (some 17) (a0::a1::a2::a3::a4::a5::a6::a7::a8::a9::a10::a11::a12::a13::a14::a15::a16::a17::r) v = some (a0::a1::a2::a3::a4::a5::a6::a7::a8::a9::a10::a11::a12::a13::a14::a15::a16::v::r) := rfl
theorem gt18 : evo (a0::a1::a2::a3::a4::a5::a6::a7::a8::a9::a10::a11::a12::a13::a14::a15::a16::a17::a18::r) (.tmp 18) = some a18 := rfl
theorem st18 : dso (some 18) (a0::a1::a2::a3::a4::a5::a6::a7::a8::a9::a10::a11::a12::a13::a14::a15::a16::a17::a18::r) v = some (a0::a1::a2::a3::a4::a5::a6::a7::a8::a9::a10::a11::a12::a13::a14::a15::a16::a17::v::r) := rfl
theorem gt19 : evo (a0::a1::a2::a3::a4::a5::a6::a7::a8::a9::a10::a11::a12::a13::a14::a15::a16::a17::a18::a19::r) (.tmp 19) = some a19 := rfl
theorem st19 : dso (some 19) (a0::a1::a2::a3::a4::a5::a6::a7::a8::a9::a10::a11::a12::a13::a14::a15::a16::a17::a18::a19::r) v = some (a0::a1::a2::a3::a4::a5::a6::a7::a8::a9::a10::a11::a12::a13::a14::a15::a16::a17::a18::v::r) := rfl
theorem gt20 : evo (a0::a1::a2::a3::a4::a5::a6::a7::a8::a9::a10::a11::a12::a13::a14::a15::a16::a17::a18::a19::a20::r) (.tmp 20) = some a20 := rfl
theorem st20 : dso (some 20) (a0::a1::a2::a3::a4::a5::a6::a7::a8::a9::a10::a11::a12::a13::a14::a15::a16::a17::a18::a19::a20::r) v = some (a0::a1::a2::a3::a4::a5::a6::a7::a8::a9::a10::a11::a12::a13::a14::a15::a16::a17::a18::a19::v::r) := rfl
theorem gt21 : evo (a0::a1::a2::a3::a4::a5::a6::a7::a8::a9::a10::a11::a12::a13::a14::a15::a16::a17::a18::a19::a20::a21::r) (.tmp 21) = some a21 := rfl
theorem st21 : dso (some 21) (a0::a1::a2::a3::a4::a5::a6::a7::a8::a9::a10::a11::a12::a13::a14::a15::a16::a17::a18::a19::a20::a21::r) v = some (a0::a1::a2::a3::a4::a5::a6::a7::a8::a9::a10::a11::a12::a13::a14::a15::a16::a17::a18::a19::a20::v::r) := rfl
theorem gt22 : evo (a0::a1::a2::a3::a4::a5::a6::a7::a8::a9::a10::a11::a12::a13::a14::a15::a16::a17::a18::a19::a20::a21::a22::r) (.tmp 22) = some a22 := rfl
theorem st22 : dso (some 22) (a0::a1::a2::a3::a4::a5::a6::a7::a8::a9::a10::a11::a12::a13::a14::a15::a16::a17::a18::a19::a20::a21::a22::r) v = some (a0::a1::a2::a3::a4::a5::a6::a7::a8::a9::a10::a11::a12::a13::a14::a15::a16::a17::a18::a19::a20::a21::v::r) := rfl
theorem gt23 : evo (a0::a1::a2::a3::a4::a5::a6::a7::a8::a9::a10::a11::a12::a13::a14::a15::a16::a17::a18::a19::a20::a21::a22::a23::r) (.tmp 23) = some a23 := rfl
theorem st23 : dso (some 23) (a0::a1::a2::a3::a4::a5::a6::a7::a8::a9::a10::a11::a12::a13::a14::a15::a16::a17::a18::a19::a20::a21::a22::a23::r) v = some (a0::a1::a2::a3::a4::a5::a6::a7::a8::a9::a10::a11::a12::a13::a14::a15::a16::a17::a18::a19::a20::a21::a22::v::r) := rfl
theorem gt24 : evo (a0::a1::a2::a3::a4::a5::a6::a7::a8::a9::a10::a11::a12::a13::a14::a15::a16::a17::a18::a19::a20::a21::a22::a23::a24::r) (.tmp 24) = some a24 := rfl
theorem st24 : dso (some 24) (a0::a1::a2::a3::a4::a5::a6::a7::a8::a9::a10::a11::a12::a13::a14::a15::a16::a17::a18::a19::a20::a21::a22::a23::a24::r) v = some (a0::a1::a2::a3::a4::a5::a6::a7::a8::a9::a10::a11::a12::a13::a14::a15::a16::a17::a18::a19::a20::a21::a22::a23::v::r) := rfl
theorem gt25 : evo (a0::a1::a2::a3::a4::a5::a6::a7::a8::a9::a10::a11::a12::a13::a14::a15::a16::a17::a18::a19::a20::a21::a22::a23::a24::a25::r) (.tmp 25) = some a25 := rfl
theorem st25 : dso (some 25) (a0::a1::a2::a3::a4::a5::a6::a7::a8::a9::a10::a11::a12::a13::a14::a15::a16::a17::a18::a19::a20::a21::a22::a23::a24::a25::r) v = some (a0::a1::a2::a3::a4::a5::a6::a7::a8::a9::a10::a11::a12::a13::a14::a15::a16::a17::a18::a19::a20::a21::a22::a23::a24::v::r) := rfl
theorem gt26 : evo (a0::a1::a2::a3::a4::a5::a6::a7::a8::a9::a10::a11::a12::a13::a14::a15::a16::a17::a18::a19::a20::a21::a22::a23::a24::a25::a26::r) (.tmp 26) = some a26 := rfl
theorem st26 : dso (some 26) (a0::a1::a2::a3::a4::a5::a6::a7::a8::a9::a10::a11::a12::a13::a14::a15::a16::a17::a18::a19::a20::a21::a22::a23::a24::a25::a26::r) v = some (a0::a1::a2::a3::a4::a5::a6::a7::a8::a9::a10::a11::a12::a13::a14::a15::a16::a17::a18::a19::a20::a21::a22::a23::a24::a25::v::r) := rfl
theorem gt27 : evo (a0::a1::a2::a3::a4::a5::a6::a7::a8::a9::a10::a11::a12::a13::a14::a15::a16::a17::a18::a19::a20::a21::a22::a23::a24::a25::a26::a27::r) (.tmp 27) = some a27 := rfl
theorem st27 : dso (some 27) (a0::a1::a2::a3::a4::a5::a6::a7::a8::a9::a10::a11::a12::a13::a14::a15::a16::a17::a18::a19::a20::a21::a22::a23::a24::a25::a26::a27::r) v = some (a0::a1::a2::a3::a4::a5::a6::a7::a8::a9::a10::a11::a12::a13::a14::a15::a16::a17::a18::a19::a20::a21::a22::a23::a24::a25::a26::v::r) := rfl
theorem gt28 : evo (a0::a1::a2::a3::a4::a5::a6::a7::a8::a9::a10::a11::a12::a13::a14::a15::a16::a17::a18::a19::a20::a21::a22::a23::a24::a25::a26::a27::a28::r) (.tmp 28) = some a28 := rfl
theorem st28 : dso (some 28) (a0::a1::a2::a3::a4::a5::a6::a7::a8::a9::a10::a11::a12::a13::a14::a15::a16::a17::a18::a19::a20::a21::a22::a23::a24::a25::a26::a27::a28::r) v = some (a0::a1::a2::a3::a4::a5::a6::a7::a8::a9::a10::a11::a12::a13::a14::a15::a16::a17::a18::a19::a20::a21::a22::a23::a24::a25::a26::a27::v::r) := rfl
theorem gt29 : evo (a0::a1::a2::a3::a4::a5::a6::a7::a8::a9::a10::a11::a12::a13::a14::a15::a16::a17::a18::a19::a20::a21::a22::a23::a24::a25::a26::a27::a28::a29::r) (.tmp 29) = some a29 := rfl
theorem st29 : dso (some 29) (a0::a1::a2::a3::a4::a5::a6::a7::a8::a9::a10::a11::a12::a13::a14::a15::a16::a17::a18::a19::a20::a21::a22::a23::a24::a25::a26::a27::a28::a29::r) v = some (a0::a1::a2::a3::a4::a5::a6::a7::a8::a9::a10::a11::a12::a13::a14::a15::a16::a17::a18::a19::a20::a21::a22::a23::a24::a25::a26::a27::a28::v::r) := rfl
theorem gt30 : evo (a0::a1::a2::a3::a4::a5::a6::a7::a8::a9::a10::a11::a12::a13::a14::a15::a16::a17::a18::a19::a20::a21::a22::a23::a24::a25::a26::a27::a28::a29::a30::r) (.tmp 30) = some a30 := rfl
theorem st30 : dso (some 30) (a0::a1::a2::a3::a4::a5::a6::a7::a8::a9::a10::a11::a12::a13::a14::a15::a16::a17::a18::a19::a20::a21::a22::a23::a24::a25::a26::a27::a28::a29::a30::r) v = some (a0::a1::a2::a3::a4::a5::a6::a7::a8::a9::a10::a11::a12::a13::a14::a15::a16::a17::a18::a19::a20::a21::a22::a23::a24::a25::a26::a27::a28::a29::v::r) := rfl
theorem gt31 : evo (a0::a1::a2::a3::a4::a5::a6::a7::a8::a9::a10::a11::a12::a13::a14::a15::a16::a17::a18::a19::a20::a21::a22::a23::a24::a25::a26::a27::a28::a29::a30::a31::r) (.tmp 31) = some a31 := rfl
theorem st31 : dso (some 31) (a0::a1::a2::a3::a4::a5::a6::a7::a8::a9::a10::a11::a12::a13::a14::a15::a16::a17::a18::a19::a20::a21::a22::a23::a24::a25::a26::a27::a28::a29::a30::a31::r) v = some (a0::a1::a2::a3::a4::a5::a6::a7::a8::a9::a10::a11::a12::a13::a14::a15::a16::a17::a18::a19::a20::a21::a22::a23::a24::a25::a26::a27::a28::a29::a30::v::r) := rfl
theorem gt32 : evo (a0::a1::a2::a3::a4::a5::a6::a7::a8::a9::a10::a11::a12::a13::a14::a15::a16::a17::a18::a19::a20::a21::a22::a23::a24::a25::a26::a27::a28::a29::a30::a31::a32::r) (.tmp 32) = some a32 := rfl
theorem st32 : dso (some 32) (a0::a1::a2::a3::a4::a5::a6::a7::a8::a9::a10::a11::a12::a13::a14::a15::a16::a17::a18::a19::a20::a21::a22::a23::a24::a25::a26::a27::a28::a29::a30::a31::a32::r) v = some (a0::a1::a2::a3::a4::a5::a6::a7::a8::a9::a10::a11::a12::a13::a14::a15::a16::a17::a18::a19::a20::a21::a22::a23::a24::a25::a26::a27::a28::a29::a30::a31::v::r) := rfl
theorem gt33 : evo (a0::a1::a2::a3::a4::a5::a6::a7::a8::a9::a10::a11::a12::a13::a14::a15::a16::a17::a18::a19::a20::a21::a22::a23::a24::a25::a26::a27::a28::a29::a30::a31::a32::a33::r) (.tmp 33) = some a33 := rfl
theorem st33 : dso (some 33) (a0::a1::a2::a3::a4::a5::a6::a7::a8::a9::a10::a11::a12::a13::a14::a15::a16::a17::a18::a19::a20::a21::a22::a23::a24::a25::a26::a27::a28::a29::a30::a31::a32::a33::r) v = some (a0::a1::a2::a3::a4::a5::a6::a7::a8::a9::a10::a11::a12::a13::a14::a15::a16::a17::a18::a19::a20::a21::a22::a23::a24::a25::a26::a27::a28::a29::a30::a31::a32::v::r) := rfl
theorem gt34 : evo (a0::a1::a2::a3::a4::a5::a6::a7::a8::a9::a10::a11::a12::a13::a14::a15::a16::a17::a18::a19::a20::a21::a22::a23::a24::a25::a26::a27::a28::a29::a30::a31::a32::a33::a34::r) (.tmp 34) = some a34 := rfl
theorem st34 : dso (some 34) (a0::a1::a2::a3::a4::a5::a6::a7::a8::a9::a10::a11::a12::a13::a14::a15::a16::a17::a18::a19::a20::a21::a22::a23::a24::a25::a26::a27::a28::a29::a30::a31::a32::a33::a34::r) v = some (a0::a1::a2::a3::a4::a5::a6::a7::a8::a9::a10::a11::a12::a13::a14::a15::a16::a17::a18::a19::a20::a21::a22::a23::a24::a25::a26::a27::a28::a29::a30::a31::a32::a33::v::r) := rfl
theorem gt35 : evo (a0::a1::a2::a3::a4::a5::a6::a7::a8::a9::a10::a11::a12::a13::a14::a15::a16::a17::a18::a19::a20::a21::a22::a23::a24::a25::a26::a27::a28::a29::a30::a31::a32::a33::a34::a35::r) (.tmp 35) = some a35 := rfl
theorem st35 : dso (some 35) (a0::a1::a2::a3::a4::a5::a6::a7::a8::a9::a10::a11::a12::a13::a14::a15::a16::a17::a18::a19::a20::a21::a22::a23::a24::a25::a26::a27::a28::a29::a30::a31::a32::a33::a34::a35::r) v = some (a0::a1::a2::a3::a4::a5::a6::a7::a8::a9::a10::a11::a12::a13::a14::a15::a16::a17::a18::a19::a20::a21::a22::a23::a24::a25::a26::a27::a28::a29::a30::a31::a32::a33::a34::v::r) := rfl
theorem gt36 : evo (a0::a1::a2::a3::a4::a5::a6::a7::a8::a9::a10::a11::a12::a13::a14::a15::a16::a17::a18::a19::a20::a21::a22::a23::a24::a25::a26::a27::a28::a29::a30::a31::a32::a33::a34::a35::a36::r) (.tmp 36) = some a36 := rfl
theorem st36 : dso (some 36) (a0::a1::a2::a3::a4::a5::a6::a7::a8::a9::a10::a11::a12::a13::a14::a15::a16::a17::a18::a19::a20::a21::a22::a23::a24::a25::a26::a27::a28::a29::a30::a31::a32::a33::a34::a35::a36::r) v = some (a0::a1::a2::a3::a4::a5::a6::a7::a8::a9::a10::a11::a12::a13::a14::a15::a16::a17::a18::a19::a20::a21::a22::a23::a24::a25::a26::a27::a28::a29::a30::a31::a32::a33::a34::a35::v::r) := rfl
theorem gt37 : evo (a0::a1::a2::a3::a4::a5::a6::a7::a8::a9::a10::a11::a12::a13::a14::a15::a16::a17::a18::a19::a20::a21::a22::a23::a24::a25::a26::a27::a28::a29::a30::a31::a32::a33::a34::a35::a36::a37::r) (.tmp 37) = some a37 := rfl
theorem st37 : dso (some 37) (a0::a1::a2::a3::a4::a5::a6::a7::a8::a9::a10::a11::a12::a13::a14::a15::a16::a17::a18::a19::a20::a21::a22::a23::a24::a25::a26::a27::a28::a29::a30::a31::a32::a33::a34::a35::a36::a37::r) v = some (a0::a1::a2::a3::a4::a5::a6::a7::a8::a9::a10::a11::a12::a13::a14::a15::a16::a17::a18::a19::a20::a21::a22::a23::a24::a25::a26::a27::a28::a29::a30::a31::a32::a33::a34::a35::a36::v::r) := rfl
theorem gt38 : evo (a0::a1::a2::a3::a4::a5::a6::a7::a8::a9::a10::a11::a12::a13::a14::a15::a16::a17::a18::a19::a20::a21::a22::a23::a24::a25::a26::a27::a28::a29::a30::a31::a32::a33::a34::a35::a36::a37::a38::r) (.tmp 38) = some a38 := rfl
theorem st38 : dso (some 38) (a0::a1::a2::a3::a4::a5::a6::a7::a8::a9::a10::a11::a12::a13::a14::a15::a16::a17::a18::a19::a20::a21::a22::a23::a24::a25::a26::a27::a28::a29::a30::a31::a32::a33::a34::a35::a36::a37::a38::r) v = some (a0::a1::a2::a3::a4::a5::a6::a7::a8::a9::a10::a11::a12::a13::a14::a15::a16::a17::a18::a19::a20::a21::a22::a23::a24::a25::a26::a27::a28::a29::a30::a31::a32::a33::a34::a35::a36::a37::v::r) := rfl
theorem gt39 : evo (a0::a1::a2::a3::a4::a5::a6::a7::a8::a9::a10::a11::a12::a13::a14::a15::a16::a17::a18::a19::a20::a21::a22::a23::a24::a25::a26::a27::a28::a29::a30::a31::a32::a33::a34::a35::a36::a37::a38::a39::r) (.tmp 39) = some a39 := rfl
theorem st39 : dso (some 39) (a0::a1::a2::a3::a4::a5::a6::a7::a8::a9::a10::a11::a12::a13::a14::a15::a16::a17::a18::a19::a20::a21::a22::a23::a24::a25::a26::a27::a28::a29::a30::a31::a32::a33::a34::a35::a36::a37::a38::a39::r) v = some (a0::a1::a2::a3::a4::a5::a6::a7::a8::a9::a10::a11::a12::a13::a14::a15::a16::a17::a18::a19::a20::a21::a22::a23::a24::a25::a26::a27::a28::a29::a30::a31::a32::a33::a34::a35::a36::a37::a38::v::r) := rfl
theorem gk (h : evo r (.tmp t) = some v) : evo (a0::a1::a2::a3::a4::a5::a6::a7::a8::a9::a10::a11::a12::a13::a14::a15::a16::a17::a18::a19::a20::a21::a22::a23::a24::a25::a26::a27::a28::a29::a30::a31::a32::a33::a34::a35::a36::a37::a38::a39::r) (.tmp (t + 40)) = some v := h
theorem sk (h : dso (some t) r v = some q) : dso (some (t + 40)) (a0::a1::a2::a3::a4::a5::a6::a7::a8::a9::a10::a11::a12::a13::a14::a15::a16::a17::a18::a19::a20::a21::a22::a23::a24::a25::a26::a27::a28::a29::a30::a31::a32::a33::a34::a35::a36::a37::a38::a39::r) v = some (a0::a1::a2::a3::a4::a5::a6::a7::a8::a9::a10::a11::a12::a13::a14::a15::a16::a17::a18::a19::a20::a21::a22::a23::a24::a25::a26::a27::a28::a29::a30::a31::a32::a33::a34::a35::a36::a37::a38::a39::q) := congrArg (fun x => some (a0::a1::a2::a3::a4::a5::a6::a7::a8::a9::a10::a11::a12::a13::a14::a15::a16::a17::a18::a19::a20::a21::a22::a23::a24::a25::a26::a27::a28::a29::a30::a31::a32::a33::a34::a35::a36::a37::a38::a39::x)) (Option.some.inj h)
end


theorem el32 : El Tryd.prog 32 22 1 := mkEl Tryd.underlying32 (by kernel_rfl)
theorem ty22 : Ty Tryd.prog 22 (.slice 9) 1 := mkTy Tryd.underlying22 (by kernel_rfl)
theorem el22 : El Tryd.prog 22 9 1 := mkEl Tryd.underlying22 (by kernel_rfl)
theorem ty9 : Ty Tryd.prog 9 .string 1 := mkTy Tryd.underlying9 (by kernel_rfl)
theorem ty4 : Ty Tryd.prog 4 .bool 1 := mkTy Tryd.underlying4 (by kernel_rfl)
theorem mixed : Tryd.prog.follows .mixedOrders = true := by kernel_rfl
theorem ze9 : zeroC Tryd.prog 9 = some [.str []] := by kernel_rfl
theorem ze22 : zeroC Tryd.prog 22 = some [.osl none 1 []] := by kernel_rfl
/-! varve/varvelaw30.great -/
theorem ok4 {l0 : (List (List Str))} {res : Bool} {h : AH}  (hF : law30Xgreat l0 = some res) : Spec Tryd.prog 4 [.sl 1 (l0.map (fun l => [AV.sl 1 (l.map strRow)]))] h (fun rr hh => rr = .bool res ∧ hh = h) := by
  unfold law30Xgreat at hF
  refine spec_of_body_ext Tryd.func4 rfl (by kernel_rfl) (env := [.sl 1 (l0.map (fun l => [AV.sl 1 (l.map strRow)])), aundef, aundef, aundef, aundef, aundef, aundef, aundef, aundef, aundef, aundef, aundef, aundef, aundef, aundef, aundef, aundef, aundef, aundef, aundef, aundef, aundef, aundef, aundef, aundef, aundef, aundef]) (by rfl) ?_
  refine r_seq ?_
  refine r_region ?_
  refine ops_ok rfl (s_assign rfl rfl (tyo_ok rfl)) st2 ?_
  refine ops_nil ?_
  refine q_seq ?_
  refine r_seq ?_
  refine r_seq ?_
  refine r_region ?_
  refine ops_ok rfl (s_move rfl gt0 (tyo_ok rfl)) st7 ?_
  refine ops_len rfl (s_lenSl rfl rfl rfl rfl el32 gt7 lenMap) st8 fun hn1 => ?_
  replace hn1 := lenN hn1
  refine ops_ok rfl (s_move rfl rfl (tyo_ok rfl)) st9 ?_
  refine ops_nil ?_
  refine q_seq ?_
  refine r_block ?_
  refine r_loopLF (fun (n1 : Nat) (s1 : Unit) => [(0, .any), (1, .any), (2, .any), (3, .any), (4, .any), (5, .any), (6, .any), (9, .int .i64 (n1 : Int)), (10, .any), (11, .any), (12, .any), (13, .any), (14, .any), (15, .any), (16, .any), (17, .any), (18, .any), (19, .any), (20, .any), (21, .any), (22, .any), (23, .any), (24, .any), (25, .any), (26, .any)]) (fun s1 => h.ext [] []) hF (fun _ _ => by simp only [upd, List.set_cons_succ, List.set_cons_zero]; try rfl) (wk.le (by exact (.drop (.drop (.drop (.drop (.drop (.drop (.drop (.eq (.eq (.cons (leV.of_eq rfl) (.drop (.drop (.drop (.drop (.drop (.drop (.drop (.drop (.drop (.drop (.drop (.drop (.drop (.drop (.drop (.drop (.drop leL.nil))))))))))))))))))))))))))))) ?_
  intro n1 s1 hi1 hF
  refine r_seq ?_
  refine r_region ?_
  refine ops_ok rfl (s_bin rfl gt9 gt8 rfl) st10 ?_
  refine ops_nil ?_
  refine q_seq ?_
  refine r_seq ?_
  refine r_condL gt10 hF (fun x1 o1 hl1 hx1 hF hK1 => ?_) (fun hF => ?_)
  · skip
    refine r_skip ?_
    refine q_seq ?_
    refine r_seq ?_
    refine r_block ?_
    refine r_seq ?_
    refine r_region ?_
    refine ops_ok rfl (s_idxRow rfl el32 gt7 gt9 isl (idx_of hx1)) st11 ?_
    refine ops_ok rfl (f_load rfl ty22 gt11 (ldC_one rfl) (tyo_ok rfl)) st12 ?_
    refine ops_ok rfl (s_assign rfl gt12 (tyo_ok rfl)) st4 ?_
    refine ops_nil ?_
    refine q_seq ?_
    refine r_seq ?_
    refine r_seq ?_
    refine r_region ?_
    refine ops_ok rfl (s_move rfl gt4 (tyo_ok rfl)) st13 ?_
    refine ops_len rfl (s_lenSl rfl rfl rfl rfl el22 gt13 lenMap) st14 fun hn16 => ?_
    replace hn16 := lenN hn16
    refine ops_ok rfl (s_move rfl rfl (tyo_ok rfl)) st15 ?_
    refine ops_nil ?_
    refine q_seq ?_
    refine r_block ?_
    refine r_loopLF (fun (n2 : Nat) (s2 : Unit) => [(0, .any), (1, .any), (2, .any), (3, .any), (5, .any), (6, .any), (10, .any), (11, .any), (12, .any), (15, .int .i64 (n2 : Int)), (16, .any), (17, .any), (18, .any), (19, .any), (20, .any), (21, .any), (22, .any), (23, .any), (24, .any), (25, .any), (26, .any)]) (fun s2 => h.ext [] []) hF (fun _ _ => by simp only [upd, List.set_cons_succ, List.set_cons_zero]; try rfl) (wk.le (by exact (.drop (.drop (.drop (.drop (.eq (.drop (.drop (.eq (.eq (.eq (.drop (.drop (.drop (.eq (.eq (.cons (leV.of_eq rfl) (.drop (.drop (.drop (.drop (.drop (.drop (.drop (.drop (.drop (.drop (.drop leL.nil))))))))))))))))))))))))))))) ?_
    intro n2 s2 hi2 hF
    refine r_seq ?_
    refine r_region ?_
    refine ops_ok rfl (s_bin rfl gt15 gt14 rfl) st16 ?_
    refine ops_nil ?_
    refine q_seq ?_
    refine r_seq ?_
    refine r_condL gt16 hF (fun x2 o2 hl2 hx2 hF hK2 => ?_) (fun hF => ?_)
    · skip
      refine r_skip ?_
      refine q_seq ?_
      refine r_seq ?_
      refine r_block ?_
      refine r_seq ?_
      refine r_region ?_
      refine ops_ok rfl (s_idxRow rfl el22 gt13 gt15 isl (idx_of hx2)) st17 ?_
      refine ops_ok rfl (f_load rfl ty9 gt17 (ldC_one rfl) (tyo_ok rfl)) st18 ?_
      refine ops_ok rfl (s_assign rfl gt18 (tyo_ok rfl)) st6 ?_
      refine ops_nil ?_
      refine q_seq ?_
      refine r_seq ?_
      refine r_region ?_
      refine ops_ok rfl (s_move rfl gt6 (tyo_ok rfl)) st19 ?_
      refine ops_len rfl (s_lenStr rfl rfl rfl rfl ty9 gt19) st20 fun hn22 => ?_
      replace hn22 := lenN hn22
      refine ops_ok rfl (s_bin rfl gt20 rfl rfl) st21 ?_
      refine ops_nil ?_
      refine q_seq ?_
      refine r_condF gt21 hF (fun hc23 hF => ?_) (fun hc23 hF => ?_)
      · skip
        refine r_seq ?_
        refine r_region ?_
        refine ops_ok rfl (s_assign rfl rfl (tyo_ok rfl)) st2 ?_
        refine ops_nil ?_
        refine q_seq ?_
        refine r_ret ?_
        refine q_block_ret ?_
        refine q_seq_ret ?_
        refine q_loop_ret ?_
        obtain rfl := Option.some.inj hF
        replace hF := hK2
        refine q_block_ret ?_
        refine q_seq_ret ?_
        refine q_block_ret ?_
        refine q_seq_ret ?_
        refine q_loop_ret ?_
        obtain rfl := Option.some.inj hF
        replace hF := hK1
        refine q_block_ret ?_
        refine q_seq_ret ?_
        obtain rfl := Option.some.inj hF
        refine q_retL1 rfl (rl_tmp gt2 rl_nil) (fin_ext (leV.refl _) rfl ?_)
        exact ⟨rfl, rfl⟩
      · skip
        refine r_skip ?_
        refine q_block ?_
        refine q_seq ?_
        refine r_region ?_
        refine ops_ok rfl (s_bin rfl gt15 rfl rfl) st22 ?_
        refine ops_ok rfl (s_move rfl gt22 (tyo_ok rfl)) st15 ?_
        refine ops_nil ?_
        refine q_loop ?_
        obtain rfl := Option.some.inj hF
        exact ⟨(), hl2, hK2, wk.le (by exact (.drop (.drop (.drop (.drop (.eq (.drop (.drop (.eq (.eq (.eq (.drop (.drop (.drop (.eq (.eq (.cons (leV.of_eq (w64e (by omega) (by omega))) (.drop (.drop (.drop (.drop (.drop (.drop (.drop (.drop (.drop (.drop (.drop leL.nil))))))))))))))))))))))))))))⟩
    · skip
      refine r_exit ?_
      refine q_seq_exit ?_
      refine q_loop_exit ?_
      refine q_block_hit ?_
      refine q_seq ?_
      refine r_seq ?_
      refine r_region ?_
      refine ops_ok rfl (s_move rfl gt4 (tyo_ok rfl)) st23 ?_
      refine ops_len rfl (s_lenSl rfl rfl rfl rfl el22 gt23 lenMap) st24 fun hn24 => ?_
      replace hn24 := lenN hn24
      refine ops_ok rfl (s_bin rfl gt24 rfl rfl) st25 ?_
      refine ops_nil ?_
      refine q_seq ?_
      refine r_condF gt25 hF (fun hc25 hF => ?_) (fun hc25 hF => ?_)
      · skip
        refine r_seq ?_
        refine r_region ?_
        refine ops_ok rfl (s_assign rfl rfl (tyo_ok rfl)) st2 ?_
        refine ops_nil ?_
        refine q_seq ?_
        refine r_ret ?_
        refine q_block_ret ?_
        refine q_seq_ret ?_
        refine q_loop_ret ?_
        obtain rfl := Option.some.inj hF
        replace hF := hK1
        refine q_block_ret ?_
        refine q_seq_ret ?_
        obtain rfl := Option.some.inj hF
        refine q_retL1 rfl (rl_tmp gt2 rl_nil) (fin_ext (leV.refl _) rfl ?_)
        exact ⟨rfl, rfl⟩
      · skip
        refine r_skip ?_
        refine q_block ?_
        refine q_seq ?_
        refine r_region ?_
        refine ops_ok rfl (s_bin rfl gt9 rfl rfl) st26 ?_
        refine ops_ok rfl (s_move rfl gt26 (tyo_ok rfl)) st9 ?_
        refine ops_nil ?_
        refine q_loop ?_
        obtain rfl := Option.some.inj hF
        exact ⟨(), hl1, hK1, wk.le (by exact (.drop (.drop (.drop (.drop (.drop (.drop (.drop (.eq (.eq (.cons (leV.of_eq (w64e (by omega) (by omega))) (.drop (.drop (.drop (.drop (.drop (.drop (.drop (.drop (.drop (.drop (.drop (.drop (.drop (.drop (.drop (.drop (.drop leL.nil))))))))))))))))))))))))))))⟩
  · skip
    refine r_exit ?_
    refine q_seq_exit ?_
    refine q_loop_exit ?_
    refine q_block_hit ?_
    refine q_seq ?_
    refine r_seq ?_
    refine r_region ?_
    refine ops_ok rfl (s_assign rfl rfl (tyo_ok rfl)) st2 ?_
    refine ops_nil ?_
    refine q_seq ?_
    refine r_ret ?_
    obtain rfl := Option.some.inj hF
    refine q_retL1 rfl (rl_tmp gt2 rl_nil) (fin_ext (leV.refl _) rfl ?_)
    exact ⟨rfl, rfl⟩
/-! varve/paths.parts -/
theorem ok16 {p0 : (List Str)} {res : ((List Str) × Bool)} {h : AH}  (hF : pathsXparts p0 = some res) : Spec Tryd.prog 16 [.sl 1 (p0.map strRow)] h (fun rr hh => rr = .tup [.sl 1 (res.1.map strRow), .bool res.2] ∧ hh = h) := by
  unfold pathsXparts at hF
  refine spec_of_body_ext Tryd.func16 rfl (by kernel_rfl) (env := [.sl 1 (p0.map strRow), aundef, aundef, aundef, aundef, aundef, aundef, aundef, aundef, aundef, aundef, aundef, aundef, aundef, aundef, aundef, aundef, aundef, aundef, aundef, aundef, aundef]) (by rfl) ?_
  refine r_seq ?_
  refine r_region ?_
  refine ops_ok rfl (s_assign rfl rfl (ty_nil el22)) st2 ?_
  refine ops_ok rfl (s_assign rfl rfl (tyo_ok rfl)) st3 ?_
  refine ops_nil ?_
  refine q_seq ?_
  refine r_seq ?_
  refine r_seq ?_
  refine r_region ?_
  refine ops_ok rfl (s_move rfl gt0 (tyo_ok rfl)) st5 ?_
  refine ops_len rfl (s_lenSl rfl rfl rfl rfl el22 gt5 lenMap) st6 fun hn1 => ?_
  replace hn1 := lenN hn1
  refine ops_ok rfl (s_assign rfl gt6 (tyo_ok rfl)) st4 ?_
  refine ops_nil ?_
  refine q_seq ?_
  refine r_seq ?_
  refine r_region ?_
  refine ops_ok rfl (s_move rfl gt4 (tyo_ok rfl)) st7 ?_
  refine ops_ok rfl (s_bin rfl gt7 rfl rfl) st8 ?_
  refine ops_ok rfl (s_move rfl gt8 (tyo_ok rfl)) st9 ?_
  refine ops_gv rfl (fun hb => s_move rfl gt0 (tyo_ok rfl)) st10 ?_
  refine ops_gv rfl (fun hb => s_move rfl gt4 (tyo_ok rfl)) st11 ?_
  refine ops_gv rfl (fun hb => s_bin rfl (evo_gv gt11 hb) rfl rfl) st12 ?_
  refine chkF hF (fun hg2 hF => ?_)
  refine ops_gv rfl (fun hb => s_gidxRow default rfl el22 (evo_gv gt10 hb) (evo_gv gt12 hb) isl (hg2 hb)) st13 ?_
  refine ops_gv rfl (fun hb => f_load rfl ty9 (evo_gv gt13 hb) (ldC_one rfl) (tyo_ok rfl)) st14 ?_
  refine ops_gv rfl (fun hb => s_bin rfl (evo_gv gt14 hb) rfl rfl) st15 ?_
  refine ops_ok rfl (s_pick rfl gt9 gt15 rfl (pick_and (fun ht => gT ht))) st16 ?_
  refine ops_nil ?_
  refine q_seq ?_
  refine r_condF gt16 hF (fun hc3 hF => ?_) (fun hc3 hF => ?_)
  · skip
    refine r_seq ?_
    refine r_region ?_
    refine ops_ok rfl (s_move rfl gt0 (tyo_ok rfl)) st17 ?_
    refine ops_ok rfl (s_move rfl gt4 (tyo_ok rfl)) st18 ?_
    refine ops_ok rfl (s_bin rfl gt18 rfl rfl) st19 ?_
    refine bindF hF (fun m4 hm4 hF => ?_)
    refine ops_ok rfl (s_slcSl rfl el22 gt17 (.inl rfl) .none (.some gt19) hm4) st20 ?_
    refine ops_ok rfl (s_assign rfl gt20 (tyo_ok rfl)) st2 ?_
    refine ops_ok rfl (s_assign rfl rfl (tyo_ok rfl)) st3 ?_
    refine ops_nil ?_
    refine q_seq ?_
    refine r_ret ?_
    refine q_seq_ret ?_
    obtain rfl := Option.some.inj hF
    refine q_retL rfl (rl_tmp gt2 (rl_tmp gt3 rl_nil)) (fin_ext (leV.refl _) rfl ?_)
    exact ⟨rfl, rfl⟩
  · skip
    refine r_skip ?_
    refine q_seq ?_
    refine r_seq ?_
    refine r_region ?_
    refine ops_ok rfl (s_move rfl gt0 (tyo_ok rfl)) st21 ?_
    refine ops_ok rfl (s_assign rfl gt21 (tyo_ok rfl)) st2 ?_
    refine ops_ok rfl (s_assign rfl rfl (tyo_ok rfl)) st3 ?_
    refine ops_nil ?_
    refine q_seq ?_
    refine r_ret ?_
    obtain rfl := Option.some.inj hF
    refine q_retL rfl (rl_tmp gt2 (rl_tmp gt3 rl_nil)) (fin_ext (leV.refl _) rfl ?_)
    exact ⟨rfl, rfl⟩
/-! varve/op.IsName 1 -/
theorem ok26 {r0 : Int} {res : Bool} {h : AH}  (hF : opIsNameC1 r0 = some res) : Spec Tryd.prog 26 [.int .i32 r0] h (fun rr hh => rr = .bool res ∧ hh = h) := by
  unfold opIsNameC1 at hF
  refine spec_of_body_ext Tryd.func26 rfl (by kernel_rfl) (env := [.int .i32 r0, aundef, aundef, aundef, aundef, aundef, aundef, aundef, aundef, aundef, aundef, aundef, aundef, aundef, aundef, aundef, aundef, aundef, aundef, aundef, aundef, aundef, aundef, aundef, aundef]) (by rfl) ?_
  refine r_seq ?_
  refine r_region ?_
  refine ops_ok rfl (s_assign rfl rfl (tyo_ok rfl)) st2 ?_
  refine ops_nil ?_
  refine q_seq ?_
  refine r_seq ?_
  refine r_region ?_
  refine ops_ok rfl (s_move rfl gt0 (tyo_ok rfl)) st3 ?_
  refine ops_ok rfl (s_bin rfl gt3 rfl rfl) st4 ?_
  refine ops_ok rfl (s_move rfl gt4 (tyo_ok rfl)) st5 ?_
  refine ops_gv rfl (fun hb => s_move rfl gt0 (tyo_ok rfl)) st6 ?_
  refine ops_gv rfl (fun hb => s_bin rfl (evo_gv gt6 hb) rfl rfl) st7 ?_
  refine ops_ok rfl (s_pick rfl gt5 rfl gt7 (pick_or (fun ht => gF ht))) st8 ?_
  refine ops_ok rfl (s_move rfl gt8 (tyo_ok rfl)) st9 ?_
  refine ops_gv rfl (fun hb => s_move rfl gt0 (tyo_ok rfl)) st10 ?_
  refine ops_gv rfl (fun hb => s_bin rfl (evo_gv gt10 hb) rfl rfl) st11 ?_
  refine ops_gv rfl (fun hb => s_move rfl (evo_gv gt11 hb) (tyo_ok rfl)) st12 ?_
  refine ops_gv (aG_gv rfl rfl rfl) (fun hb => s_move rfl gt0 (tyo_ok rfl)) st13 ?_
  refine ops_gv (aG_gv rfl rfl rfl) (fun hb => s_bin rfl (evo_gv gt13 hb) rfl rfl) st14 ?_
  refine ops_gv rfl (fun hb => s_pick rfl (evo_gv gt12 hb) rfl gt14 (pick_or (fun ht => gF2 hb ht))) st15 ?_
  refine ops_ok rfl (s_pick rfl gt9 gt15 rfl (pick_and (fun ht => gT ht))) st16 ?_
  refine ops_ok rfl (s_move rfl gt16 (tyo_ok rfl)) st17 ?_
  refine ops_gv rfl (fun hb => s_move rfl gt0 (tyo_ok rfl)) st18 ?_
  refine ops_gv rfl (fun hb => s_bin rfl (evo_gv gt18 hb) rfl rfl) st19 ?_
  refine ops_gv rfl (fun hb => s_move rfl (evo_gv gt19 hb) (tyo_ok rfl)) st20 ?_
  refine ops_gv (aG_gv rfl rfl rfl) (fun hb => s_move rfl gt0 (tyo_ok rfl)) st21 ?_
  refine ops_gv (aG_gv rfl rfl rfl) (fun hb => s_bin rfl (evo_gv gt21 hb) rfl rfl) st22 ?_
  refine ops_gv rfl (fun hb => s_pick rfl (evo_gv gt20 hb) rfl gt22 (pick_or (fun ht => gF2 hb ht))) st23 ?_
  refine ops_ok rfl (s_pick rfl gt17 gt23 rfl (pick_and (fun ht => gT ht))) st24 ?_
  refine ops_ok rfl (s_assign rfl gt24 (tyo_ok rfl)) st2 ?_
  refine ops_nil ?_
  refine q_seq ?_
  refine r_ret ?_
  obtain rfl := Option.some.inj hF
  refine q_retL1 rfl (rl_tmp gt2 rl_nil) (fin_ext (leV.refl _) rfl ?_)
  exact ⟨rfl, rfl⟩
/-! strings.indexFunc -/
theorem ok43 {s0 : Str} {f1 : (Int → Option Bool)} {ff1 : FuncId} {af1 kf1 : List AV} {truth2 : Bool} {res : Int} {h : AH} (hf1 : ∀ x0 v (L : List Blk) (M : List Nat), f1 x0 = some v → Spec Tryd.prog ff1 (af1 ++ [.int .i32 x0] ++ kf1) (h.ext L M) (fun rr hh => rr = .bool v ∧ hh = h.ext L M)) (hF : stringsXindexFunc s0 f1 truth2 = some res) : Spec Tryd.prog 43 [.str s0, .fn (.func ff1) af1 kf1, .bool truth2] h (fun rr hh => rr = .int .i64 res ∧ hh = h) := by
  unfold stringsXindexFunc at hF
  refine spec_of_body_extC Tryd.func43 rfl (by kernel_rfl) (env := [.str s0, .fn (.func ff1) af1 kf1, .bool truth2, aundef, aundef, aundef, aundef, aundef, aundef, aundef, aundef, aundef, aundef, aundef, aundef, aundef, aundef, aundef, aundef, aundef, aundef]) (by rfl) (fun hlow hC => ?_)
  simp only [lowL, AV.low, Bool.and_eq_true, Bool.true_and, and_true] at hlow
  have hlaf1 : ∀ n m, h.blks.length ≤ n → h.toks.length ≤ m → lowL n m af1 = true := fun n m h1 h2 => lowL_up h1 h2 _ (by simp [hlow])
  have hlkf1 : ∀ n m, h.blks.length ≤ n → h.toks.length ≤ m → lowL n m kf1 = true := fun n m h1 h2 => lowL_up h1 h2 _ (by simp [hlow])
  refine r_seq ?_
  refine r_region ?_
  refine ops_ok rfl (s_assign rfl rfl (tyo_ok rfl)) st6 ?_
  refine ops_nil ?_
  refine q_seq ?_
  refine r_seq ?_
  refine r_seq ?_
  refine r_region ?_
  refine ops_ok rfl (s_move rfl gt0 (tyo_ok rfl)) st9 ?_
  refine ops_ok rfl (e_range (n := 0) rfl ty9 gt9 rfl) st10 ?_
  refine ops_nil ?_
  refine q_seq ?_
  refine r_block ?_
  refine r_loopWF (fun (s1 : Nat) => [(0, .any), (3, .any), (4, .any), (5, .any), (6, .any), (7, .any), (8, .any), (9, .any), (11, .any), (12, .any), (13, .any), (14, .any), (15, .any), (16, .any), (17, .any), (18, .any), (19, .any), (20, .any)]) (fun s1 => h.ext [.siter s0 s1] []) hF (fun _ => by simp only [upd, List.set_cons_succ, List.set_cons_zero]; try rfl) (wk.le (by exact (.drop (.eq (.eq (.drop (.drop (.drop (.drop (.drop (.drop (.drop (.eq (.drop (.drop (.drop (.drop (.drop (.drop (.drop (.drop (.drop (.drop leL.nil))))))))))))))))))))))) ?_
  intro n1 s1 o1 hF hK1
  refine r_seq ?_
  refine r_region ?_
  refine ops_nextF rfl rfl gt10 rfl st11 st11 hF (fun hp5 hF => ?_) (fun hF => ?_)
  · skip
    refine ops_ok rfl (s_extract rfl gt11 rfl (tyo_ok rfl)) st12 ?_
    refine ops_nil ?_
    refine q_seq ?_
    refine r_seq ?_
    refine r_cond gt12 (fun _ => ?_) (fun hh => by cases hh)
    refine r_skip ?_
    refine q_seq ?_
    refine r_block ?_
    refine r_seq ?_
    refine r_region ?_
    refine ops_ok rfl (s_extract rfl gt11 rfl (tyo_ok rfl)) st13 ?_
    refine ops_ok rfl (s_extract rfl gt11 rfl (tyo_ok rfl)) st14 ?_
    refine ops_ok rfl (s_assign rfl gt13 (tyo_ok rfl)) st7 ?_
    refine ops_ok rfl (s_assign rfl gt14 (tyo_ok rfl)) st8 ?_
    refine ops_nil ?_
    refine q_seq ?_
    refine r_seq ?_
    refine r_region ?_
    refine ops_ok rfl (s_move rfl gt1 (tyo_ok rfl)) st15 ?_
    refine ops_ok rfl (s_move rfl gt8 (tyo_ok rfl)) st16 ?_
    refine bindF hF (fun v6 hv6 hF => ?_)
    refine ops_callP rfl (s_callC rfl rfl gt15 (argo_cons gt16 argo_nil) (.cons (tyo_ok rfl) .nil) rfl) (hf1 _ _ _ _ hv6) st17 ?_
    refine ops_ok rfl (s_move rfl gt2 (tyo_ok rfl)) st18 ?_
    refine ops_ok rfl (s_bin rfl gt17 gt18 (bin_boolE ty4)) st19 ?_
    refine ops_nil ?_
    refine q_seq ?_
    refine r_condF gt19 hF (fun hc7 hF => ?_) (fun hc7 hF => ?_)
    · skip
      refine r_seq ?_
      refine r_region ?_
      refine ops_ok rfl (s_move rfl gt7 (tyo_ok rfl)) st20 ?_
      refine ops_ok rfl (s_assign rfl gt20 (tyo_ok rfl)) st6 ?_
      refine ops_nil ?_
      refine q_seq ?_
      refine r_ret ?_
      refine q_block_ret ?_
      refine q_loop_ret ?_
      obtain rfl := Option.some.inj hF
      replace hF := hK1
      refine q_block_ret ?_
      refine q_seq_ret ?_
      obtain rfl := Option.some.inj hF
      refine q_retL1 rfl (rl_tmp gt6 rl_nil) (fin_ext (leV.refl _) rfl ?_)
      exact ⟨rfl, rfl⟩
    · skip
      refine r_skip ?_
      refine q_block ?_
      refine q_loop ?_
      obtain rfl := Option.some.inj hF
      exact ⟨(s1 + (dec s0 s1).2), hK1, wk.le (by exact (.drop (.eq (.eq (.drop (.drop (.drop (.drop (.drop (.drop (.drop (.eq (.drop (.drop (.drop (.drop (.drop (.drop (.drop (.drop (.drop (.drop leL.nil))))))))))))))))))))))⟩
  · skip
    refine ops_ok rfl (s_extract rfl gt11 rfl (tyo_ok rfl)) st12 ?_
    refine ops_nil ?_
    refine q_seq ?_
    refine r_seq ?_
    refine r_cond gt12 (fun hh => by cases hh) (fun _ => ?_)
    refine r_exit ?_
    refine q_seq_exit ?_
    refine q_loop_exit ?_
    obtain rfl := Option.some.inj hF
    replace hF := hK1
    refine q_block_hit ?_
    refine q_seq ?_
    refine r_seq ?_
    refine r_region ?_
    refine ops_ok rfl (s_assign rfl rfl (tyo_ok rfl)) st6 ?_
    refine ops_nil ?_
    refine q_seq ?_
    refine r_ret ?_
    obtain rfl := Option.some.inj hF
    refine q_retL1 rfl (rl_tmp gt6 rl_nil) (fin_ext (leV.refl _) rfl ?_)
    exact ⟨rfl, rfl⟩
/-! strings.IndexFunc -/
theorem ok36 {s0 : Str} {f1 : (Int → Option Bool)} {ff1 : FuncId} {af1 kf1 : List AV} {res : Int} {h : AH} (hf1 : ∀ x0 v (L : List Blk) (M : List Nat), f1 x0 = some v → Spec Tryd.prog ff1 (af1 ++ [.int .i32 x0] ++ kf1) (h.ext L M) (fun rr hh => rr = .bool v ∧ hh = h.ext L M)) (hF : stringsIndexFunc s0 f1 = some res) : Spec Tryd.prog 36 [.str s0, .fn (.func ff1) af1 kf1] h (fun rr hh => rr = .int .i64 res ∧ hh = h) := by
  unfold stringsIndexFunc at hF
  refine spec_of_body_extC Tryd.func36 rfl (by kernel_rfl) (env := [.str s0, .fn (.func ff1) af1 kf1, aundef, aundef, aundef, aundef, aundef, aundef]) (by rfl) (fun hlow hC => ?_)
  simp only [lowL, AV.low, Bool.and_eq_true, Bool.true_and, and_true] at hlow
  have hlaf1 : ∀ n m, h.blks.length ≤ n → h.toks.length ≤ m → lowL n m af1 = true := fun n m h1 h2 => lowL_up h1 h2 _ (by simp [hlow])
  have hlkf1 : ∀ n m, h.blks.length ≤ n → h.toks.length ≤ m → lowL n m kf1 = true := fun n m h1 h2 => lowL_up h1 h2 _ (by simp [hlow])
  refine r_seq ?_
  refine r_region ?_
  refine ops_ok rfl (s_assign rfl rfl (tyo_ok rfl)) st4 ?_
  refine ops_nil ?_
  refine q_seq ?_
  refine r_seq ?_
  refine r_region ?_
  refine ops_ok rfl (s_move rfl gt0 (tyo_ok rfl)) st5 ?_
  refine ops_ok rfl (s_move rfl gt1 (tyo_ok rfl)) st6 ?_
  refine bindF hF (fun v1 hv1 hF => ?_)
  refine ops_callP rfl (s_call0 rfl rfl rfl (argo_cons gt5 (argo_cons gt6 (argo_cons rfl argo_nil))) (.cons (tyo_ok rfl) (.cons (tyo_ok rfl) (.cons (tyo_ok rfl) .nil)))) (ok43 (fun x0 v L M hv => by rw [ext_ext]; exact hf1 x0 v _ _ hv) hv1) st7 ?_
  refine ops_ok rfl (s_assign rfl gt7 (tyo_ok rfl)) st4 ?_
  refine ops_nil ?_
  refine q_seq ?_
  refine r_ret ?_
  obtain rfl := Option.some.inj hF
  refine q_retL1 rfl (rl_tmp gt4 rl_nil) (fin_ext (leV.refl _) rfl ?_)
  exact ⟨rfl, rfl⟩
/-! strings.ContainsFunc -/
theorem ok27 {s0 : Str} {f1 : (Int → Option Bool)} {ff1 : FuncId} {af1 kf1 : List AV} {res : Bool} {h : AH} (hf1 : ∀ x0 v (L : List Blk) (M : List Nat), f1 x0 = some v → Spec Tryd.prog ff1 (af1 ++ [.int .i32 x0] ++ kf1) (h.ext L M) (fun rr hh => rr = .bool v ∧ hh = h.ext L M)) (hF : stringsContainsFunc s0 f1 = some res) : Spec Tryd.prog 27 [.str s0, .fn (.func ff1) af1 kf1] h (fun rr hh => rr = .bool res ∧ hh = h) := by
  unfold stringsContainsFunc at hF
  refine spec_of_body_extC Tryd.func27 rfl (by kernel_rfl) (env := [.str s0, .fn (.func ff1) af1 kf1, aundef, aundef, aundef, aundef, aundef, aundef, aundef]) (by rfl) (fun hlow hC => ?_)
  simp only [lowL, AV.low, Bool.and_eq_true, Bool.true_and, and_true] at hlow
  have hlaf1 : ∀ n m, h.blks.length ≤ n → h.toks.length ≤ m → lowL n m af1 = true := fun n m h1 h2 => lowL_up h1 h2 _ (by simp [hlow])
  have hlkf1 : ∀ n m, h.blks.length ≤ n → h.toks.length ≤ m → lowL n m kf1 = true := fun n m h1 h2 => lowL_up h1 h2 _ (by simp [hlow])
  refine r_seq ?_
  refine r_region ?_
  refine ops_ok rfl (s_assign rfl rfl (tyo_ok rfl)) st4 ?_
  refine ops_nil ?_
  refine q_seq ?_
  refine r_seq ?_
  refine r_region ?_
  refine ops_ok rfl (s_move rfl gt0 (tyo_ok rfl)) st5 ?_
  refine ops_ok rfl (s_move rfl gt1 (tyo_ok rfl)) st6 ?_
  refine bindF hF (fun v1 hv1 hF => ?_)
  refine ops_callP rfl (s_call0 rfl rfl rfl (argo_cons gt5 (argo_cons gt6 argo_nil)) (.cons (tyo_ok rfl) (.cons (tyo_ok rfl) .nil))) (ok36 (fun x0 v L M hv => by rw [ext_ext]; exact hf1 x0 v _ _ hv) hv1) st7 ?_
  refine ops_ok rfl (s_bin rfl gt7 rfl rfl) st8 ?_
  refine ops_ok rfl (s_assign rfl gt8 (tyo_ok rfl)) st4 ?_
  refine ops_nil ?_
  refine q_seq ?_
  refine r_ret ?_
  obtain rfl := Option.some.inj hF
  refine q_retL1 rfl (rl_tmp gt4 rl_nil) (fin_ext (leV.refl _) rfl ?_)
  exact ⟨rfl, rfl⟩
/-! varve/op.IsName -/
theorem ok18 {s0 : Str} {res : Bool} {h : AH}  (hF : opIsName s0 = some res) : Spec Tryd.prog 18 [.str s0] h (fun rr hh => rr = .bool res ∧ hh = h) := by
  unfold opIsName at hF
  refine spec_of_body_ext Tryd.func18 rfl (by kernel_rfl) (env := [.str s0, aundef, aundef, aundef, aundef, aundef, aundef, aundef, aundef, aundef, aundef, aundef, aundef, aundef, aundef, aundef, aundef, aundef]) (by rfl) ?_
  refine r_seq ?_
  refine r_region ?_
  refine ops_ok rfl (s_assign rfl rfl (tyo_ok rfl)) st2 ?_
  refine ops_nil ?_
  refine q_seq ?_
  refine r_seq ?_
  refine r_region ?_
  refine ops_ok rfl (s_assign rfl rfl (tyo_ok rfl)) st3 ?_
  refine ops_nil ?_
  refine q_seq ?_
  refine r_seq ?_
  refine r_region ?_
  refine ops_ok rfl (s_move rfl gt0 (tyo_ok rfl)) st4 ?_
  refine ops_len rfl (s_lenStr rfl rfl rfl rfl ty9 gt4) st5 fun hn1 => ?_
  replace hn1 := lenN hn1
  refine ops_ok rfl (s_bin rfl gt5 rfl rfl) st6 ?_
  refine ops_ok rfl (s_move rfl gt6 (tyo_ok rfl)) st7 ?_
  refine ops_gv rfl (fun hb => s_move rfl gt0 (tyo_ok rfl)) st8 ?_
  refine ops_glen rfl (fun hb => s_lenStr rfl rfl rfl rfl ty9 (evo_gv gt8 hb)) st9 fun hn2 => ?_
  refine ops_gv rfl (fun hb => s_bin rfl (evo_gv gt9 hb) rfl rfl) st10 ?_
  refine ops_ok rfl (s_pick rfl gt7 gt10 rfl (pick_and (fun ht => gT ht))) st11 ?_
  refine ops_ok rfl (s_move rfl gt11 (tyo_ok rfl)) st12 ?_
  refine ops_gv rfl (fun hb => s_move rfl gt0 (tyo_ok rfl)) st13 ?_
  refine ops_gv rfl (fun hb => s_move rfl gt3 (tyo_ok rfl)) st14 ?_
  refine gbindF hF (fun v3 hv3 hF => ?_)
  refine ops_gcall rfl (fun hb => s_call0 rfl rfl rfl (argo_cons (evo_gv gt13 hb) (argo_cons (evo_gv gt14 hb) argo_nil)) (.cons (tyo_ok rfl) (.cons (tyo_ok rfl) .nil))) (fun hb => ok27 (fun _ v L M hv => ok26  hv) (hv3 hb)) st15 ?_
  refine ops_gv rfl (fun hb => s_un rfl (evo_gv gt15 hb) rfl) st16 ?_
  refine ops_ok rfl (s_pick rfl gt12 gt16 rfl (pick_and (fun ht => gT ht))) st17 ?_
  refine ops_ok rfl (s_assign rfl gt17 (tyo_ok rfl)) st2 ?_
  refine ops_nil ?_
  refine q_seq ?_
  refine r_ret ?_
  obtain rfl := Option.some.inj hF
  refine q_retL1 rfl (rl_tmp gt2 rl_nil) (fin_ext (leV.refl _) rfl ?_)
  exact ⟨rfl, rfl⟩
/-! varve/paths.MayPattern 1 -/
theorem ok17 {s0 : Str} {res : Bool} {h : AH}  (hF : pathsMayPatternC1 s0 = some res) : Spec Tryd.prog 17 [.str s0] h (fun rr hh => rr = .bool res ∧ hh = h) := by
  unfold pathsMayPatternC1 at hF
  refine spec_of_body_ext Tryd.func17 rfl (by kernel_rfl) (env := [.str s0, aundef, aundef, aundef, aundef, aundef, aundef, aundef, aundef, aundef]) (by rfl) ?_
  refine r_seq ?_
  refine r_region ?_
  refine ops_ok rfl (s_assign rfl rfl (tyo_ok rfl)) st2 ?_
  refine ops_nil ?_
  refine q_seq ?_
  refine r_seq ?_
  refine r_region ?_
  refine ops_ok rfl (s_move rfl gt0 (tyo_ok rfl)) st3 ?_
  refine ops_ok rfl (s_bin rfl gt3 rfl rfl) st4 ?_
  refine ops_ok rfl (s_move rfl gt4 (tyo_ok rfl)) st5 ?_
  refine ops_gv rfl (fun hb => s_move rfl gt0 (tyo_ok rfl)) st6 ?_
  refine gbindF hF (fun v1 hv1 hF => ?_)
  refine ops_gcall rfl (fun hb => s_call0 rfl rfl rfl (argo_cons (evo_gv gt6 hb) argo_nil) (.cons (tyo_ok rfl) .nil)) (fun hb => ok18 (hv1 hb)) st7 ?_
  refine ops_gv rfl (fun hb => s_un rfl (evo_gv gt7 hb) rfl) st8 ?_
  refine ops_ok rfl (s_pick rfl gt5 gt8 rfl (pick_and (fun ht => gT ht))) st9 ?_
  refine ops_ok rfl (s_assign rfl gt9 (tyo_ok rfl)) st2 ?_
  refine ops_nil ?_
  refine q_seq ?_
  refine r_ret ?_
  obtain rfl := Option.some.inj hF
  refine q_retL1 rfl (rl_tmp gt2 rl_nil) (fin_ext (leV.refl _) rfl ?_)
  exact ⟨rfl, rfl⟩
/-! slices.IndexFunc[[]string,string] -/
theorem ok28 {s0 : (List Str)} {f1 : (Str → Option Bool)} {ff1 : FuncId} {af1 kf1 : List AV} {res : Int} {h : AH} (hf1 : ∀ x0 v (L : List Blk) (M : List Nat), f1 x0 = some v → Spec Tryd.prog ff1 (af1 ++ [.str x0] ++ kf1) (h.ext L M) (fun rr hh => rr = .bool v ∧ hh = h.ext L M)) (hF : slicesIndexFuncString s0 f1 = some res) : Spec Tryd.prog 28 [.sl 1 (s0.map strRow), .fn (.func ff1) af1 kf1] h (fun rr hh => rr = .int .i64 res ∧ hh = h) := by
  unfold slicesIndexFuncString at hF
  refine spec_of_body_extC Tryd.func28 rfl (by kernel_rfl) (env := [.sl 1 (s0.map strRow), .fn (.func ff1) af1 kf1, aundef, aundef, aundef, aundef, aundef, aundef, aundef, aundef, aundef, aundef, aundef, aundef, aundef, aundef, aundef, aundef, aundef]) (by rfl) (fun hlow hC => ?_)
  simp only [lowL, AV.low, Bool.and_eq_true, Bool.true_and, and_true] at hlow
  have hlaf1 : ∀ n m, h.blks.length ≤ n → h.toks.length ≤ m → lowL n m af1 = true := fun n m h1 h2 => lowL_up h1 h2 _ (by simp [hlow])
  have hlkf1 : ∀ n m, h.blks.length ≤ n → h.toks.length ≤ m → lowL n m kf1 = true := fun n m h1 h2 => lowL_up h1 h2 _ (by simp [hlow])
  refine r_seq ?_
  refine r_region ?_
  refine ops_ok rfl (s_assign rfl rfl (tyo_ok rfl)) st4 ?_
  refine ops_nil ?_
  refine q_seq ?_
  refine r_seq ?_
  refine r_seq ?_
  refine r_region ?_
  refine ops_ok rfl (s_move rfl gt0 (tyo_ok rfl)) st6 ?_
  refine ops_len rfl (s_lenSl rfl rfl rfl rfl el22 gt6 lenMap) st7 fun hn1 => ?_
  replace hn1 := lenN hn1
  refine ops_ok rfl (s_move rfl rfl (tyo_ok rfl)) st8 ?_
  refine ops_nil ?_
  refine q_seq ?_
  refine r_block ?_
  refine r_loopLF (fun (n1 : Nat) (s1 : Unit) => [(2, .any), (3, .any), (4, .any), (5, .any), (6, .any), (8, .int .i64 (n1 : Int)), (9, .any), (10, .any), (11, .any), (12, .any), (13, .any), (14, .any), (15, .any), (16, .any), (17, .any), (18, .any)]) (fun s1 => h.ext [] []) hF (fun _ _ => by simp only [upd, List.set_cons_succ, List.set_cons_zero]; try rfl) (wk.le (by exact (.eq (.eq (.drop (.drop (.drop (.drop (.drop (.eq (.cons (leV.of_eq rfl) (.drop (.drop (.drop (.drop (.drop (.drop (.drop (.drop (.drop (.drop leL.nil))))))))))))))))))))) ?_
  intro n1 s1 hi1 hF
  refine r_seq ?_
  refine r_region ?_
  refine ops_ok rfl (s_bin rfl gt8 gt7 rfl) st9 ?_
  refine ops_nil ?_
  refine q_seq ?_
  refine r_seq ?_
  refine r_condL gt9 hF (fun x1 o1 hl1 hx1 hF hK1 => ?_) (fun hF => ?_)
  · skip
    refine r_skip ?_
    refine q_seq ?_
    refine r_seq ?_
    refine r_block ?_
    refine r_seq ?_
    refine r_region ?_
    refine ops_ok rfl (s_move rfl gt8 (tyo_ok rfl)) st10 ?_
    refine ops_ok rfl (s_assign rfl gt10 (tyo_ok rfl)) st5 ?_
    refine ops_nil ?_
    refine q_seq ?_
    refine r_seq ?_
    refine r_region ?_
    refine ops_ok rfl (s_move rfl gt1 (tyo_ok rfl)) st11 ?_
    refine ops_ok rfl (s_move rfl gt0 (tyo_ok rfl)) st12 ?_
    refine ops_ok rfl (s_move rfl gt5 (tyo_ok rfl)) st13 ?_
    refine ops_ok rfl (s_idxRow rfl el22 gt12 gt13 isl (idx_of hx1)) st14 ?_
    refine ops_ok rfl (f_load rfl ty9 gt14 (ldC_one rfl) (tyo_ok rfl)) st15 ?_
    refine bindF hF (fun v7 hv7 hF => ?_)
    refine ops_callP rfl (s_callC rfl rfl gt11 (argo_cons gt15 argo_nil) (.cons (tyo_ok rfl) .nil) rfl) (hf1 _ _ _ _ hv7) st16 ?_
    refine ops_nil ?_
    refine q_seq ?_
    refine r_condF gt16 hF (fun hc8 hF => ?_) (fun hc8 hF => ?_)
    · skip
      refine r_seq ?_
      refine r_region ?_
      refine ops_ok rfl (s_move rfl gt5 (tyo_ok rfl)) st17 ?_
      refine ops_ok rfl (s_assign rfl gt17 (tyo_ok rfl)) st4 ?_
      refine ops_nil ?_
      refine q_seq ?_
      refine r_ret ?_
      refine q_block_ret ?_
      refine q_seq_ret ?_
      refine q_loop_ret ?_
      obtain rfl := Option.some.inj hF
      replace hF := hK1
      refine q_block_ret ?_
      refine q_seq_ret ?_
      obtain rfl := Option.some.inj hF
      refine q_retL1 rfl (rl_tmp gt4 rl_nil) (fin_ext (leV.refl _) rfl ?_)
      exact ⟨rfl, rfl⟩
    · skip
      refine r_skip ?_
      refine q_block ?_
      refine q_seq ?_
      refine r_region ?_
      refine ops_ok rfl (s_bin rfl gt8 rfl rfl) st18 ?_
      refine ops_ok rfl (s_move rfl gt18 (tyo_ok rfl)) st8 ?_
      refine ops_nil ?_
      refine q_loop ?_
      obtain rfl := Option.some.inj hF
      exact ⟨(), hl1, hK1, wk.le (by exact (.eq (.eq (.drop (.drop (.drop (.drop (.drop (.eq (.cons (leV.of_eq (w64e (by omega) (by omega))) (.drop (.drop (.drop (.drop (.drop (.drop (.drop (.drop (.drop (.drop leL.nil))))))))))))))))))))⟩
  · skip
    refine r_exit ?_
    refine q_seq_exit ?_
    refine q_loop_exit ?_
    refine q_block_hit ?_
    refine q_seq ?_
    refine r_seq ?_
    refine r_region ?_
    refine ops_ok rfl (s_assign rfl rfl (tyo_ok rfl)) st4 ?_
    refine ops_nil ?_
    refine q_seq ?_
    refine r_ret ?_
    obtain rfl := Option.some.inj hF
    refine q_retL1 rfl (rl_tmp gt4 rl_nil) (fin_ext (leV.refl _) rfl ?_)
    exact ⟨rfl, rfl⟩
/-! slices.ContainsFunc[[]string,string] -/
theorem ok19 {s0 : (List Str)} {f1 : (Str → Option Bool)} {ff1 : FuncId} {af1 kf1 : List AV} {res : Bool} {h : AH} (hf1 : ∀ x0 v (L : List Blk) (M : List Nat), f1 x0 = some v → Spec Tryd.prog ff1 (af1 ++ [.str x0] ++ kf1) (h.ext L M) (fun rr hh => rr = .bool v ∧ hh = h.ext L M)) (hF : slicesContainsFuncString s0 f1 = some res) : Spec Tryd.prog 19 [.sl 1 (s0.map strRow), .fn (.func ff1) af1 kf1] h (fun rr hh => rr = .bool res ∧ hh = h) := by
  unfold slicesContainsFuncString at hF
  refine spec_of_body_extC Tryd.func19 rfl (by kernel_rfl) (env := [.sl 1 (s0.map strRow), .fn (.func ff1) af1 kf1, aundef, aundef, aundef, aundef, aundef, aundef, aundef]) (by rfl) (fun hlow hC => ?_)
  simp only [lowL, AV.low, Bool.and_eq_true, Bool.true_and, and_true] at hlow
  have hlaf1 : ∀ n m, h.blks.length ≤ n → h.toks.length ≤ m → lowL n m af1 = true := fun n m h1 h2 => lowL_up h1 h2 _ (by simp [hlow])
  have hlkf1 : ∀ n m, h.blks.length ≤ n → h.toks.length ≤ m → lowL n m kf1 = true := fun n m h1 h2 => lowL_up h1 h2 _ (by simp [hlow])
  refine r_seq ?_
  refine r_region ?_
  refine ops_ok rfl (s_assign rfl rfl (tyo_ok rfl)) st4 ?_
  refine ops_nil ?_
  refine q_seq ?_
  refine r_seq ?_
  refine r_region ?_
  refine ops_ok rfl (s_move rfl gt0 (tyo_ok rfl)) st5 ?_
  refine ops_ok rfl (s_move rfl gt1 (tyo_ok rfl)) st6 ?_
  refine bindF hF (fun v1 hv1 hF => ?_)
  refine ops_callP rfl (s_call0 rfl rfl rfl (argo_cons gt5 (argo_cons gt6 argo_nil)) (.cons (tyo_ok rfl) (.cons (tyo_ok rfl) .nil))) (ok28 (fun x0 v L M hv => by rw [ext_ext]; exact hf1 x0 v _ _ hv) hv1) st7 ?_
  refine ops_ok rfl (s_bin rfl gt7 rfl rfl) st8 ?_
  refine ops_ok rfl (s_assign rfl gt8 (tyo_ok rfl)) st4 ?_
  refine ops_nil ?_
  refine q_seq ?_
  refine r_ret ?_
  obtain rfl := Option.some.inj hF
  refine q_retL1 rfl (rl_tmp gt4 rl_nil) (fin_ext (leV.refl _) rfl ?_)
  exact ⟨rfl, rfl⟩
/-! varve/paths.MayPattern -/
theorem ok8 {p0 : (List Str)} {res : Bool} {h : AH}  (hF : pathsMayPattern p0 = some res) : Spec Tryd.prog 8 [.sl 1 (p0.map strRow)] h (fun rr hh => rr = .bool res ∧ hh = h) := by
  unfold pathsMayPattern at hF
  refine spec_of_body_ext Tryd.func8 rfl (by kernel_rfl) (env := [.sl 1 (p0.map strRow), aundef, aundef, aundef, aundef, aundef, aundef, aundef, aundef, aundef, aundef, aundef, aundef, aundef, aundef, aundef, aundef, aundef, aundef, aundef, aundef, aundef, aundef, aundef, aundef, aundef, aundef, aundef]) (by rfl) ?_
  refine r_seq ?_
  refine r_region ?_
  refine ops_ok rfl (s_assign rfl rfl (tyo_ok rfl)) st2 ?_
  refine ops_nil ?_
  refine q_seq ?_
  refine r_seq ?_
  refine r_region ?_
  refine ops_ok rfl (s_move rfl gt0 (tyo_ok rfl)) st7 ?_
  refine bindF hF (fun v1 hv1 hF => ?_)
  refine ops_callP rfl (s_call0 rfl rfl rfl (argo_cons gt7 argo_nil) (.cons (tyo_ok rfl) .nil)) (ok16 hv1) st8 ?_
  refine ops_ok rfl (s_move rfl gt8 (tyo_ok rfl)) st6 ?_
  refine ops_ok rfl (s_extract rfl gt6 rfl (tyo_ok rfl)) st9 ?_
  refine ops_ok rfl (s_extract rfl gt6 rfl (tyo_ok rfl)) st10 ?_
  refine ops_ok rfl (s_assign rfl gt9 (tyo_ok rfl)) st3 ?_
  refine ops_ok rfl (s_assign rfl gt10 (tyo_ok rfl)) st4 ?_
  refine ops_nil ?_
  refine q_seq ?_
  refine r_seq ?_
  refine r_region ?_
  refine ops_ok rfl (s_assign rfl rfl (tyo_ok rfl)) st5 ?_
  refine ops_nil ?_
  refine q_seq ?_
  refine r_seq ?_
  refine r_region ?_
  refine ops_ok rfl (s_move rfl gt3 (tyo_ok rfl)) st11 ?_
  refine ops_len rfl (s_lenSl rfl rfl rfl rfl el22 gt11 lenMap) st12 fun hn2 => ?_
  replace hn2 := lenN hn2
  refine ops_ok rfl (s_bin rfl gt12 rfl rfl) st13 ?_
  refine ops_ok rfl (s_move rfl gt13 (tyo_ok rfl)) st14 ?_
  refine ops_gv rfl (fun hb => s_move rfl gt4 (tyo_ok rfl)) st15 ?_
  refine ops_ok rfl (s_pick rfl gt14 rfl gt15 (pick_or (fun ht => gF ht))) st16 ?_
  refine ops_ok rfl (s_move rfl gt16 (tyo_ok rfl)) st17 ?_
  refine ops_gv rfl (fun hb => s_move rfl gt3 (tyo_ok rfl)) st18 ?_
  refine ops_glen rfl (fun hb => s_lenSl rfl rfl rfl rfl el22 (evo_gv gt18 hb) lenMap) st19 fun hn3 => ?_
  refine ops_gv rfl (fun hb => s_bin rfl (evo_gv gt19 hb) rfl rfl) st20 ?_
  refine ops_ok rfl (s_pick rfl gt17 gt20 rfl (pick_and (fun ht => gT ht))) st21 ?_
  refine ops_ok rfl (s_move rfl gt21 (tyo_ok rfl)) st22 ?_
  refine ops_gv rfl (fun hb => s_move rfl gt3 (tyo_ok rfl)) st23 ?_
  refine ops_gv rfl (fun hb => s_move rfl gt5 (tyo_ok rfl)) st24 ?_
  refine gbindF hF (fun v4 hv4 hF => ?_)
  refine ops_gcall rfl (fun hb => s_call0 rfl rfl rfl (argo_cons (evo_gv gt23 hb) (argo_cons (evo_gv gt24 hb) argo_nil)) (.cons (tyo_ok rfl) (.cons (tyo_ok rfl) .nil))) (fun hb => ok19 (fun _ v L M hv => ok17  hv) (hv4 hb)) st25 ?_
  refine ops_gv rfl (fun hb => s_un rfl (evo_gv gt25 hb) rfl) st26 ?_
  refine ops_ok rfl (s_pick rfl gt22 gt26 rfl (pick_and (fun ht => gT ht))) st27 ?_
  refine ops_ok rfl (s_assign rfl gt27 (tyo_ok rfl)) st2 ?_
  refine ops_nil ?_
  refine q_seq ?_
  refine r_ret ?_
  obtain rfl := Option.some.inj hF
  refine q_retL1 rfl (rl_tmp gt2 rl_nil) (fin_ext (leV.refl _) rfl ?_)
  exact ⟨rfl, rfl⟩
/-! varve/op.MayPath 1 -/
theorem ok29 {s0 : Str} {res : Bool} {h : AH}  (hF : opMayPathC1 s0 = some res) : Spec Tryd.prog 29 [.str s0] h (fun rr hh => rr = .bool res ∧ hh = h) := by
  unfold opMayPathC1 at hF
  refine spec_of_body_ext Tryd.func29 rfl (by kernel_rfl) (env := [.str s0, aundef, aundef, aundef, aundef, aundef]) (by rfl) ?_
  refine r_seq ?_
  refine r_region ?_
  refine ops_ok rfl (s_assign rfl rfl (tyo_ok rfl)) st2 ?_
  refine ops_nil ?_
  refine q_seq ?_
  refine r_seq ?_
  refine r_region ?_
  refine ops_ok rfl (s_move rfl gt0 (tyo_ok rfl)) st3 ?_
  refine bindF hF (fun v1 hv1 hF => ?_)
  refine ops_callP rfl (s_call0 rfl rfl rfl (argo_cons gt3 argo_nil) (.cons (tyo_ok rfl) .nil)) (ok18 hv1) st4 ?_
  refine ops_ok rfl (s_un rfl gt4 rfl) st5 ?_
  refine ops_ok rfl (s_assign rfl gt5 (tyo_ok rfl)) st2 ?_
  refine ops_nil ?_
  refine q_seq ?_
  refine r_ret ?_
  obtain rfl := Option.some.inj hF
  refine q_retL1 rfl (rl_tmp gt2 rl_nil) (fin_ext (leV.refl _) rfl ?_)
  exact ⟨rfl, rfl⟩
/-! varve/op.MayPath -/
theorem ok21 {p0 : (List Str)} {res : Bool} {h : AH}  (hF : opMayPath p0 = some res) : Spec Tryd.prog 21 [.sl 1 (p0.map strRow)] h (fun rr hh => rr = .bool res ∧ hh = h) := by
  unfold opMayPath at hF
  refine spec_of_body_ext Tryd.func21 rfl (by kernel_rfl) (env := [.sl 1 (p0.map strRow), aundef, aundef, aundef, aundef, aundef, aundef, aundef, aundef, aundef, aundef, aundef, aundef, aundef, aundef, aundef]) (by rfl) ?_
  refine r_seq ?_
  refine r_region ?_
  refine ops_ok rfl (s_assign rfl rfl (tyo_ok rfl)) st2 ?_
  refine ops_nil ?_
  refine q_seq ?_
  refine r_seq ?_
  refine r_region ?_
  refine ops_ok rfl (s_move rfl gt0 (tyo_ok rfl)) st3 ?_
  refine ops_len rfl (s_lenSl rfl rfl rfl rfl el22 gt3 lenMap) st4 fun hn1 => ?_
  replace hn1 := lenN hn1
  refine ops_ok rfl (s_bin rfl gt4 rfl rfl) st5 ?_
  refine ops_ok rfl (s_move rfl gt5 (tyo_ok rfl)) st6 ?_
  refine ops_gv rfl (fun hb => s_move rfl gt0 (tyo_ok rfl)) st7 ?_
  refine ops_glen rfl (fun hb => s_lenSl rfl rfl rfl rfl el22 (evo_gv gt7 hb) lenMap) st8 fun hn2 => ?_
  refine ops_gv rfl (fun hb => s_bin rfl (evo_gv gt8 hb) rfl rfl) st9 ?_
  refine ops_ok rfl (s_pick rfl gt6 gt9 rfl (pick_and (fun ht => gT ht))) st10 ?_
  refine ops_ok rfl (s_move rfl gt10 (tyo_ok rfl)) st11 ?_
  refine ops_gv rfl (fun hb => s_move rfl gt0 (tyo_ok rfl)) st12 ?_
  refine gbindF hF (fun v3 hv3 hF => ?_)
  refine ops_gcall rfl (fun hb => s_call0 rfl rfl rfl (argo_cons (evo_gv gt12 hb) (argo_cons rfl argo_nil)) (.cons (tyo_ok rfl) (.cons (tyo_ok rfl) .nil))) (fun hb => ok19 (fun _ v L M hv => ok29  hv) (hv3 hb)) st13 ?_
  refine ops_gv rfl (fun hb => s_un rfl (evo_gv gt13 hb) rfl) st14 ?_
  refine ops_ok rfl (s_pick rfl gt11 gt14 rfl (pick_and (fun ht => gT ht))) st15 ?_
  refine ops_ok rfl (s_assign rfl gt15 (tyo_ok rfl)) st2 ?_
  refine ops_nil ?_
  refine q_seq ?_
  refine r_ret ?_
  obtain rfl := Option.some.inj hF
  refine q_retL1 rfl (rl_tmp gt2 rl_nil) (fin_ext (leV.refl _) rfl ?_)
  exact ⟨rfl, rfl⟩
/-! varve/paths.Match -/
theorem ok10 {p0 : (List Str)} {path1 : (List Str)} {res : Bool} {h : AH}  (hF : pathsMatch p0 path1 = some res) : Spec Tryd.prog 10 [.sl 1 (p0.map strRow), .sl 1 (path1.map strRow)] h (fun rr hh => rr = .bool res ∧ hh = h) := by
  unfold pathsMatch at hF
  refine spec_of_body_ext Tryd.func10 rfl (by kernel_rfl) (env := [.sl 1 (p0.map strRow), .sl 1 (path1.map strRow), aundef, aundef, aundef, aundef, aundef, aundef, aundef, aundef, aundef, aundef, aundef, aundef, aundef, aundef, aundef, aundef, aundef, aundef, aundef, aundef, aundef, aundef, aundef, aundef, aundef, aundef, aundef, aundef, aundef, aundef, aundef, aundef, aundef, aundef, aundef, aundef, aundef, aundef, aundef, aundef, aundef, aundef, aundef, aundef, aundef, aundef, aundef, aundef, aundef, aundef, aundef, aundef, aundef, aundef, aundef, aundef]) (by rfl) ?_
  refine r_seq ?_
  refine r_region ?_
  refine ops_ok rfl (s_assign rfl rfl (tyo_ok rfl)) st4 ?_
  refine ops_nil ?_
  refine q_seq ?_
  refine r_seq ?_
  refine r_region ?_
  refine ops_ok rfl (s_move rfl gt0 (tyo_ok rfl)) st10 ?_
  refine bindF hF (fun v1 hv1 hF => ?_)
  refine ops_callP rfl (s_call0 rfl rfl rfl (argo_cons gt10 argo_nil) (.cons (tyo_ok rfl) .nil)) (ok16 hv1) st11 ?_
  refine ops_ok rfl (s_move rfl gt11 (tyo_ok rfl)) st9 ?_
  refine ops_ok rfl (s_extract rfl gt9 rfl (tyo_ok rfl)) st12 ?_
  refine ops_ok rfl (s_extract rfl gt9 rfl (tyo_ok rfl)) st13 ?_
  refine ops_ok rfl (s_assign rfl gt12 (tyo_ok rfl)) st5 ?_
  refine ops_ok rfl (s_assign rfl gt13 (tyo_ok rfl)) st6 ?_
  refine ops_nil ?_
  refine q_seq ?_
  refine r_seq ?_
  refine r_seq ?_
  refine r_region ?_
  refine ops_ok rfl (s_move rfl gt0 (tyo_ok rfl)) st14 ?_
  refine bindF hF (fun v2 hv2 hF => ?_)
  refine ops_callP rfl (s_call0 rfl rfl rfl (argo_cons gt14 argo_nil) (.cons (tyo_ok rfl) .nil)) (ok8 hv2) st15 ?_
  refine ops_ok rfl (s_un rfl gt15 rfl) st16 ?_
  refine ops_ok rfl (s_move rfl gt16 (tyo_ok rfl)) st17 ?_
  refine ops_gv rfl (fun hb => s_move rfl gt1 (tyo_ok rfl)) st18 ?_
  refine gbindF hF (fun v3 hv3 hF => ?_)
  refine ops_gcall rfl (fun hb => s_call0 rfl rfl rfl (argo_cons (evo_gv gt18 hb) argo_nil) (.cons (tyo_ok rfl) .nil)) (fun hb => ok21 (hv3 hb)) st19 ?_
  refine ops_gv rfl (fun hb => s_un rfl (evo_gv gt19 hb) rfl) st20 ?_
  refine ops_ok rfl (s_pick rfl gt17 rfl gt20 (pick_or (fun ht => gF ht))) st21 ?_
  refine ops_ok rfl (s_move rfl gt21 (tyo_ok rfl)) st22 ?_
  refine ops_gv rfl (fun hb => s_move rfl gt1 (tyo_ok rfl)) st23 ?_
  refine ops_glen rfl (fun hb => s_lenSl rfl rfl rfl rfl el22 (evo_gv gt23 hb) lenMap) st24 fun hn4 => ?_
  refine ops_gv rfl (fun hb => s_move rfl gt5 (tyo_ok rfl)) st25 ?_
  refine ops_glen rfl (fun hb => s_lenSl rfl rfl rfl rfl el22 (evo_gv gt25 hb) lenMap) st26 fun hn5 => ?_
  refine ops_gv rfl (fun hb => s_bin rfl (evo_gv gt24 hb) (evo_gv gt26 hb) rfl) st27 ?_
  refine ops_ok rfl (s_pick rfl gt22 rfl gt27 (pick_or (fun ht => gF ht))) st28 ?_
  refine ops_ok rfl (s_move rfl gt28 (tyo_ok rfl)) st29 ?_
  refine ops_gv rfl (fun hb => s_move rfl gt1 (tyo_ok rfl)) st30 ?_
  refine ops_glen rfl (fun hb => s_lenSl rfl rfl rfl rfl el22 (evo_gv gt30 hb) lenMap) st31 fun hn6 => ?_
  refine ops_gv rfl (fun hb => s_move rfl gt5 (tyo_ok rfl)) st32 ?_
  refine ops_glen rfl (fun hb => s_lenSl rfl rfl rfl rfl el22 (evo_gv gt32 hb) lenMap) st33 fun hn7 => ?_
  refine ops_gv rfl (fun hb => s_bin rfl (evo_gv gt31 hb) (evo_gv gt33 hb) rfl) st34 ?_
  refine ops_gv rfl (fun hb => s_move rfl (evo_gv gt34 hb) (tyo_ok rfl)) st35 ?_
  refine ops_gv (aG_gv rfl rfl rfl) (fun hb => s_move rfl gt6 (tyo_ok rfl)) st36 ?_
  refine ops_gv (aG_gv rfl rfl rfl) (fun hb => s_un rfl (evo_gv gt36 hb) rfl) st37 ?_
  refine ops_gv rfl (fun hb => s_pick rfl (evo_gv gt35 hb) gt37 rfl (pick_and (fun ht => gT2 hb ht))) st38 ?_
  refine ops_ok rfl (s_pick rfl gt29 rfl gt38 (pick_or (fun ht => gF ht))) st39 ?_
  refine ops_nil ?_
  refine q_seq ?_
  refine r_condF gt39 hF (fun hc8 hF => ?_) (fun hc8 hF => ?_)
  · skip
    refine r_seq ?_
    refine r_region ?_
    refine ops_ok rfl (s_assign rfl rfl (tyo_ok rfl)) st4 ?_
    refine ops_nil ?_
    refine q_seq ?_
    refine r_ret ?_
    refine q_seq_ret ?_
    obtain rfl := Option.some.inj hF
    refine q_retL1 rfl (rl_tmp gt4 rl_nil) (fin_ext (leV.refl _) rfl ?_)
    exact ⟨rfl, rfl⟩
  · skip
    refine r_skip ?_
    refine q_seq ?_
    refine r_seq ?_
    refine r_seq ?_
    refine r_region ?_
    refine ops_ok rfl (s_move rfl gt5 (tyo_ok rfl)) (sk st0) ?_
    refine ops_len rfl (s_lenSl rfl rfl rfl rfl el22 (gk gt0) lenMap) (sk st1) fun hn9 => ?_
    replace hn9 := lenN hn9
    refine ops_ok rfl (s_move rfl rfl (tyo_ok rfl)) (sk st2) ?_
    refine ops_nil ?_
    refine q_seq ?_
    refine r_block ?_
    refine r_loopLF (fun (n1 : Nat) (s1 : Unit) => [(0, .any), (2, .any), (3, .any), (4, .any), (5, .any), (6, .any), (7, .any), (8, .any), (9, .any), (10, .any), (11, .any), (12, .any), (13, .any), (14, .any), (15, .any), (16, .any), (17, .any), (18, .any), (19, .any), (20, .any), (21, .any), (22, .any), (23, .any), (24, .any), (25, .any), (26, .any), (27, .any), (28, .any), (29, .any), (30, .any), (31, .any), (32, .any), (33, .any), (34, .any), (35, .any), (36, .any), (37, .any), (38, .any), (39, .any), (42, .int .i64 (n1 : Int)), (43, .any), (44, .any), (45, .any), (46, .any), (47, .any), (48, .any), (49, .any), (50, .any), (51, .any), (52, .any), (53, .any), (54, .any), (55, .any), (56, .any), (57, .any)]) (fun s1 => h.ext [] []) hF (fun _ _ => by simp only [upd, List.set_cons_succ, List.set_cons_zero]; try rfl) (wk.le (by exact (.drop (.eq (.drop (.drop (.drop (.drop (.drop (.drop (.drop (.drop (.drop (.drop (.drop (.drop (.drop (.drop (.drop (.drop (.drop (.drop (.drop (.drop (.drop (.drop (.drop (.drop (.drop (.drop (.drop (.drop (.drop (.drop (.drop (.drop (.drop (.drop (.drop (.drop (.drop (.drop (.eq (.eq (.cons (leV.of_eq rfl) (.drop (.drop (.drop (.drop (.drop (.drop (.drop (.drop (.drop (.drop (.drop (.drop (.drop (.drop (.drop leL.nil)))))))))))))))))))))))))))))))))))))))))))))))))))))))))))) ?_
    intro n1 s1 hi1 hF
    refine r_seq ?_
    refine r_region ?_
    refine ops_ok rfl (s_bin rfl (gk gt2) (gk gt1) rfl) (sk st3) ?_
    refine ops_nil ?_
    refine q_seq ?_
    refine r_seq ?_
    refine r_condL (gk gt3) hF (fun x1 o1 hl1 hx1 hF hK1 => ?_) (fun hF => ?_)
    · skip
      refine r_skip ?_
      refine q_seq ?_
      refine r_seq ?_
      refine r_block ?_
      refine r_seq ?_
      refine r_region ?_
      refine ops_ok rfl (s_move rfl (gk gt2) (tyo_ok rfl)) (sk st4) ?_
      refine ops_ok rfl (s_idxRow rfl el22 (gk gt0) (gk gt2) isl (idx_of hx1)) (sk st5) ?_
      refine ops_ok rfl (f_load rfl ty9 (gk gt5) (ldC_one rfl) (tyo_ok rfl)) (sk st6) ?_
      refine ops_ok rfl (s_assign rfl (gk gt4) (tyo_ok rfl)) st7 ?_
      refine ops_ok rfl (s_assign rfl (gk gt6) (tyo_ok rfl)) st8 ?_
      refine ops_nil ?_
      refine q_seq ?_
      refine r_seq ?_
      refine r_region ?_
      refine ops_ok rfl (s_move rfl gt8 (tyo_ok rfl)) (sk st7) ?_
      refine ops_ok rfl (s_bin rfl (gk gt7) rfl rfl) (sk st8) ?_
      refine ops_ok rfl (s_move rfl (gk gt8) (tyo_ok rfl)) (sk st9) ?_
      refine ops_gv rfl (fun hb => s_move rfl gt8 (tyo_ok rfl)) (sk st10) ?_
      refine ops_gv rfl (fun hb => s_move rfl gt1 (tyo_ok rfl)) (sk st11) ?_
      refine ops_gv rfl (fun hb => s_move rfl gt7 (tyo_ok rfl)) (sk st12) ?_
      refine chkF hF (fun hg15 hF => ?_)
      refine ops_gv rfl (fun hb => s_gidxRow default rfl el22 (evo_gv (gk gt11) hb) (evo_gv (gk gt12) hb) isl (hg15 hb)) (sk st13) ?_
      refine ops_gv rfl (fun hb => f_load rfl ty9 (evo_gv (gk gt13) hb) (ldC_one rfl) (tyo_ok rfl)) (sk st14) ?_
      refine ops_gv rfl (fun hb => s_bin rfl (evo_gv (gk gt10) hb) (evo_gv (gk gt14) hb) rfl) (sk st15) ?_
      refine ops_ok rfl (s_pick rfl (gk gt9) (gk gt15) rfl (pick_and (fun ht => gT ht))) (sk st16) ?_
      refine ops_nil ?_
      refine q_seq ?_
      refine r_condF (gk gt16) hF (fun hc16 hF => ?_) (fun hc16 hF => ?_)
      · skip
        refine r_seq ?_
        refine r_region ?_
        refine ops_ok rfl (s_assign rfl rfl (tyo_ok rfl)) st4 ?_
        refine ops_nil ?_
        refine q_seq ?_
        refine r_ret ?_
        refine q_block_ret ?_
        refine q_seq_ret ?_
        refine q_loop_ret ?_
        obtain rfl := Option.some.inj hF
        replace hF := hK1
        refine q_block_ret ?_
        refine q_seq_ret ?_
        obtain rfl := Option.some.inj hF
        refine q_retL1 rfl (rl_tmp gt4 rl_nil) (fin_ext (leV.refl _) rfl ?_)
        exact ⟨rfl, rfl⟩
      · skip
        refine r_skip ?_
        refine q_block ?_
        refine q_seq ?_
        refine r_region ?_
        refine ops_ok rfl (s_bin rfl (gk gt2) rfl rfl) (sk st17) ?_
        refine ops_ok rfl (s_move rfl (gk gt17) (tyo_ok rfl)) (sk st2) ?_
        refine ops_nil ?_
        refine q_loop ?_
        obtain rfl := Option.some.inj hF
        exact ⟨(), hl1, hK1, wk.le (by exact (.drop (.eq (.drop (.drop (.drop (.drop (.drop (.drop (.drop (.drop (.drop (.drop (.drop (.drop (.drop (.drop (.drop (.drop (.drop (.drop (.drop (.drop (.drop (.drop (.drop (.drop (.drop (.drop (.drop (.drop (.drop (.drop (.drop (.drop (.drop (.drop (.drop (.drop (.drop (.drop (.eq (.eq (.cons (leV.of_eq (w64e (by omega) (by omega))) (.drop (.drop (.drop (.drop (.drop (.drop (.drop (.drop (.drop (.drop (.drop (.drop (.drop (.drop (.drop leL.nil)))))))))))))))))))))))))))))))))))))))))))))))))))))))))))⟩
    · skip
      refine r_exit ?_
      refine q_seq_exit ?_
      refine q_loop_exit ?_
      refine q_block_hit ?_
      refine q_seq ?_
      refine r_seq ?_
      refine r_region ?_
      refine ops_ok rfl (s_assign rfl rfl (tyo_ok rfl)) st4 ?_
      refine ops_nil ?_
      refine q_seq ?_
      refine r_ret ?_
      obtain rfl := Option.some.inj hF
      refine q_retL1 rfl (rl_tmp gt4 rl_nil) (fin_ext (leV.refl _) rfl ?_)
      exact ⟨rfl, rfl⟩
/-! strings.Join -/
def joinTrydRen : Go.Shelf.Ren :=
  { f := fun x => match x with
      | 156 => 24
      | 165 => 30
      | 166 => 31
      | 169 => 32
      | 240 => 37
      | 241 => 38
      | 276 => 44
      | 277 => 45
      | n => n
    t := fun x => match x with
      | 0 => 0
      | 3 => 3
      | 4 => 4
      | 9 => 9
      | 20 => 20
      | 31 => 22
      | 37 => 44
      | 70 => 43
      | 72 => 46
      | 75 => 49
      | 76 => 50
      | 127 => 56
      | 164 => 62
      | 5 => 5
      | 80 => 52
      | n => n
    g := fun n => n }
theorem joinTrydLays : Go.Proofs.Lays.n156 Tryd.prog joinTrydRen where
  mixed := mixed
  f156 := Tryd.func24.trans (by kernel_rfl)
  f165 := Tryd.func30.trans (by kernel_rfl)
  f166 := Tryd.func31.trans (by kernel_rfl)
  f169 := Tryd.func32.trans (by kernel_rfl)
  f240 := Tryd.func37.trans (by kernel_rfl)
  f241 := Tryd.func38.trans (by kernel_rfl)
  f276 := Tryd.func44.trans (by kernel_rfl)
  f277 := Tryd.func45.trans (by kernel_rfl)
  t0 := Tryd.underlying0
  a0 := Tryd.isAgg0
  z0 := Tryd.sizeOf0
  v0 := Tryd.zeroValue0
  t3 := Tryd.underlying3
  a3 := Tryd.isAgg3
  z3 := Tryd.sizeOf3
  v3 := Tryd.zeroValue3
  t4 := Tryd.underlying4
  a4 := Tryd.isAgg4
  z4 := Tryd.sizeOf4
  v4 := Tryd.zeroValue4
  t9 := Tryd.underlying9
  a9 := Tryd.isAgg9
  z9 := Tryd.sizeOf9
  v9 := Tryd.zeroValue9
  t20 := Tryd.underlying20
  a20 := Tryd.isAgg20
  z20 := Tryd.sizeOf20
  v20 := Tryd.zeroValue20
  t31 := Tryd.underlying22
  a31 := Tryd.isAgg22
  z31 := Tryd.sizeOf22
  v31 := Tryd.zeroValue22
  t37 := Tryd.underlying44
  a37 := Tryd.isAgg44
  z37 := Tryd.sizeOf44
  v37 := Tryd.zeroValue44
  t70 := Tryd.underlying43
  a70 := Tryd.isAgg43
  z70 := Tryd.sizeOf43
  v70 := Tryd.zeroValue43
  t72 := Tryd.underlying46
  a72 := Tryd.isAgg46
  z72 := Tryd.sizeOf46
  v72 := Tryd.zeroValue46
  t75 := Tryd.underlying49
  a75 := Tryd.isAgg49
  z75 := Tryd.sizeOf49
  v75 := Tryd.zeroValue49
  t76 := Tryd.underlying50
  a76 := Tryd.isAgg50
  z76 := Tryd.sizeOf50
  v76 := Tryd.zeroValue50
  t127 := Tryd.underlying56
  a127 := Tryd.isAgg56
  z127 := Tryd.sizeOf56
  v127 := Tryd.zeroValue56
  t164 := Tryd.underlying62
  a164 := Tryd.isAgg62
  z164 := Tryd.sizeOf62
  v164 := Tryd.zeroValue62
theorem joinTrydExtra : Go.Proofs.Builder.Extra Tryd.prog joinTrydRen where
  sizeBuilder := by kernel_rfl
  liesBuilder := by kernel_rfl
  t5 := Tryd.underlying5
  a5 := Tryd.isAgg5
  z5 := Tryd.sizeOf5
  v5 := Tryd.zeroValue5
  infoByte := by kernel_rfl
  cellsByte := by kernel_rfl
  sizeByte := by kernel_rfl
  neB5 := by decide
theorem ok24 {p0 : List Str} {p1 : Str} {res : Str} {h : AH} (hF : stringsJoin p0 p1 = some res) : Spec Tryd.prog 24 [.sl 1 (p0.map strRow), .str p1] h (fun rr hh => rr = .str res ∧ hh = h) :=
  spec_join joinTrydLays joinTrydExtra hF
/-! varve/paths.Text -/
theorem ok12 {p0 : (List Str)} {res : Str} {h : AH}  (hF : pathsText p0 = some res) : Spec Tryd.prog 12 [.sl 1 (p0.map strRow)] h (fun rr hh => rr = .str res ∧ hh = h) := by
  unfold pathsText at hF
  refine spec_of_body_ext Tryd.func12 rfl (by kernel_rfl) (env := [.sl 1 (p0.map strRow), aundef, aundef, aundef, aundef, aundef, aundef, aundef]) (by rfl) ?_
  refine r_seq ?_
  refine r_region ?_
  refine ops_ok rfl (s_assign rfl rfl (tyo_ok rfl)) st2 ?_
  refine ops_nil ?_
  refine q_seq ?_
  refine r_seq ?_
  refine r_seq ?_
  refine r_region ?_
  refine ops_ok rfl (s_move rfl gt0 (tyo_ok rfl)) st3 ?_
  refine bindF hF (fun v1 hv1 hF => ?_)
  refine ops_callP rfl (s_call0 rfl rfl rfl (argo_cons gt3 argo_nil) (.cons (tyo_ok rfl) .nil)) (ok8 hv1) st4 ?_
  refine ops_ok rfl (s_un rfl gt4 rfl) st5 ?_
  refine ops_nil ?_
  refine q_seq ?_
  refine r_condF gt5 hF (fun hc2 hF => ?_) (fun hc2 hF => ?_)
  · skip
    refine r_seq ?_
    refine r_region ?_
    refine ops_ok rfl (s_assign rfl rfl (tyo_ok rfl)) st2 ?_
    refine ops_nil ?_
    refine q_seq ?_
    refine r_ret ?_
    refine q_seq_ret ?_
    obtain rfl := Option.some.inj hF
    refine q_retL1 rfl (rl_tmp gt2 rl_nil) (fin_ext (leV.refl _) rfl ?_)
    exact ⟨rfl, rfl⟩
  · skip
    refine r_skip ?_
    refine q_seq ?_
    refine r_seq ?_
    refine r_region ?_
    refine ops_ok rfl (s_move rfl gt0 (tyo_ok rfl)) st6 ?_
    refine bindF hF (fun v3 hv3 hF => ?_)
    refine ops_callP rfl (s_call0 rfl rfl rfl (argo_cons gt6 (argo_cons rfl argo_nil)) (.cons (tyo_ok rfl) (.cons (tyo_ok rfl) .nil))) (ok24 hv3) st7 ?_
    refine ops_ok rfl (s_assign rfl gt7 (tyo_ok rfl)) st2 ?_
    refine ops_nil ?_
    refine q_seq ?_
    refine r_ret ?_
    obtain rfl := Option.some.inj hF
    refine q_retL1 rfl (rl_tmp gt2 rl_nil) (fin_ext (leV.refl _) rfl ?_)
    exact ⟨rfl, rfl⟩
/-! varve/varvelaw30.known -/
theorem ok5  {res : Bool} {h : AH}  (hF : law30Xknown  = some res) : Spec Tryd.prog 5 [] h (fun rr hh => rr = .bool res ∧ hh = h) := by
  unfold law30Xknown at hF
  refine spec_of_body_ext Tryd.func5 rfl (by kernel_rfl) (env := [aundef, aundef, aundef, aundef, aundef, aundef, aundef, aundef, aundef, aundef, aundef, aundef, aundef, aundef, aundef, aundef, aundef, aundef, aundef, aundef, aundef, aundef, aundef, aundef, aundef, aundef, aundef, aundef, aundef]) (by rfl) ?_
  refine r_seq ?_
  refine r_region ?_
  refine ops_ok rfl (s_assign rfl rfl (tyo_ok rfl)) st0 ?_
  refine ops_nil ?_
  refine q_seq ?_
  refine r_seq ?_
  refine r_region ?_
  refine ops_ok rfl (s_buildSlice (es := ([([97] : Str), ([98] : Str)] : List Str).map strRow) rfl el22 ze9 rfl rfl (parto_cons rfl (parto_cons rfl parto_nil)) (.cons (tyo_ok rfl) (.cons (tyo_ok rfl) .nil)) rfl rfl rfl) st2 ?_
  refine ops_ok rfl (s_assign rfl gt2 (tyo_ok rfl)) st1 ?_
  refine ops_nil ?_
  refine q_seq ?_
  refine r_seq ?_
  refine r_region ?_
  refine ops_ok rfl (s_buildSlice (es := ([([97] : Str), ([42] : Str)] : List Str).map strRow) rfl el22 ze9 rfl rfl (parto_cons rfl (parto_cons rfl parto_nil)) (.cons (tyo_ok rfl) (.cons (tyo_ok rfl) .nil)) rfl rfl rfl) st3 ?_
  refine ops_ok rfl (s_move rfl gt1 (tyo_ok rfl)) st4 ?_
  refine bindF hF (fun v1 hv1 hF => ?_)
  refine ops_callP rfl (s_call0 rfl rfl rfl (argo_cons gt3 (argo_cons gt4 argo_nil)) (.cons (tyo_ok rfl) (.cons (tyo_ok rfl) .nil))) ((ok10 hv1).le (.cons (leV.osl _ _ _) (.cons (leV.osl _ _ _) leL.nil))) st5 ?_
  refine ops_ok rfl (s_move rfl gt5 (tyo_ok rfl)) st6 ?_
  refine ops_gv rfl (fun hb => s_buildSlice (es := ([([97] : Str), ([42] : Str)] : List Str).map strRow) rfl el22 ze9 rfl rfl (parto_cons rfl (parto_cons rfl parto_nil)) (.cons (tyo_ok rfl) (.cons (tyo_ok rfl) .nil)) rfl rfl rfl) st7 ?_
  refine ops_gv rfl (fun hb => s_move rfl gt1 (tyo_ok rfl)) st8 ?_
  refine chkF hF (fun hg3 hF => ?_)
  refine ops_gv rfl (fun hb => s_slcSl rfl el22 (evo_gv gt8 hb) (.inr ⟨_, rfl, .inl rfl⟩) .none (.some rfl) (slc_of (hg3 hb))) st9 ?_
  refine gbindF hF (fun v4 hv4 hF => ?_)
  refine ops_gcall rfl (fun hb => s_call0 rfl rfl rfl (argo_cons (evo_gv gt7 hb) (argo_cons (evo_gv gt9 hb) argo_nil)) (.cons (tyo_ok rfl) (.cons (tyo_ok rfl) .nil))) (fun hb => (ok10 (hv4 hb)).le (.cons (leV.osl _ _ _) (.eq leL.nil))) st10 ?_
  refine ops_gv rfl (fun hb => s_un rfl (evo_gv gt10 hb) rfl) st11 ?_
  refine ops_ok rfl (s_pick rfl gt6 gt11 rfl (pick_and (fun ht => gT ht))) st12 ?_
  refine ops_ok rfl (s_move rfl gt12 (tyo_ok rfl)) st13 ?_
  refine ops_gv rfl (fun hb => s_buildSlice (es := ([([97] : Str), ([42, 42] : Str)] : List Str).map strRow) rfl el22 ze9 rfl rfl (parto_cons rfl (parto_cons rfl parto_nil)) (.cons (tyo_ok rfl) (.cons (tyo_ok rfl) .nil)) rfl rfl rfl) st14 ?_
  refine ops_gv rfl (fun hb => s_move rfl gt1 (tyo_ok rfl)) st15 ?_
  refine chkF hF (fun hg6 hF => ?_)
  refine ops_gv rfl (fun hb => s_slcSl rfl el22 (evo_gv gt15 hb) (.inr ⟨_, rfl, .inl rfl⟩) .none (.some rfl) (slc_of (hg6 hb))) st16 ?_
  refine gbindF hF (fun v7 hv7 hF => ?_)
  refine ops_gcall rfl (fun hb => s_call0 rfl rfl rfl (argo_cons (evo_gv gt14 hb) (argo_cons (evo_gv gt16 hb) argo_nil)) (.cons (tyo_ok rfl) (.cons (tyo_ok rfl) .nil))) (fun hb => (ok10 (hv7 hb)).le (.cons (leV.osl _ _ _) (.eq leL.nil))) st17 ?_
  refine ops_ok rfl (s_pick rfl gt13 gt17 rfl (pick_and (fun ht => gT ht))) st18 ?_
  refine ops_ok rfl (s_move rfl gt18 (tyo_ok rfl)) st19 ?_
  refine ops_gv rfl (fun hb => s_buildSlice (es := ([([42, 42] : Str)] : List Str).map strRow) rfl el22 ze9 rfl rfl (parto_cons rfl parto_nil) (.cons (tyo_ok rfl) .nil) rfl rfl rfl) st20 ?_
  refine ops_gv rfl (fun hb => s_move rfl gt1 (tyo_ok rfl)) st21 ?_
  refine gbindF hF (fun v8 hv8 hF => ?_)
  refine ops_gcall rfl (fun hb => s_call0 rfl rfl rfl (argo_cons (evo_gv gt20 hb) (argo_cons (evo_gv gt21 hb) argo_nil)) (.cons (tyo_ok rfl) (.cons (tyo_ok rfl) .nil))) (fun hb => (ok10 (hv8 hb)).le (.cons (leV.osl _ _ _) (.cons (leV.osl _ _ _) leL.nil))) st22 ?_
  refine ops_ok rfl (s_pick rfl gt19 gt22 rfl (pick_and (fun ht => gT ht))) st23 ?_
  refine ops_ok rfl (s_move rfl gt23 (tyo_ok rfl)) st24 ?_
  refine ops_gv rfl (fun hb => s_buildSlice (es := ([([97] : Str), ([42] : Str)] : List Str).map strRow) rfl el22 ze9 rfl rfl (parto_cons rfl (parto_cons rfl parto_nil)) (.cons (tyo_ok rfl) (.cons (tyo_ok rfl) .nil)) rfl rfl rfl) st25 ?_
  refine gbindF hF (fun v9 hv9 hF => ?_)
  refine ops_gcall rfl (fun hb => s_call0 rfl rfl rfl (argo_cons (evo_gv gt25 hb) argo_nil) (.cons (tyo_ok rfl) .nil)) (fun hb => (ok12 (hv9 hb)).le (.cons (leV.osl _ _ _) leL.nil)) st26 ?_
  refine ops_gv rfl (fun hb => s_bin rfl (evo_gv gt26 hb) rfl rfl) st27 ?_
  refine ops_ok rfl (s_pick rfl gt24 gt27 rfl (pick_and (fun ht => gT ht))) st28 ?_
  refine ops_ok rfl (s_assign rfl gt28 (tyo_ok rfl)) st0 ?_
  refine ops_nil ?_
  refine q_seq ?_
  refine r_ret ?_
  obtain rfl := Option.some.inj hF
  refine q_retL1 rfl (rl_tmp gt0 rl_nil) (fin_ext (leV.refl _) rfl ?_)
  exact ⟨rfl, rfl⟩
/-! strings.Split -/
def splitTrydRen : Go.Shelf.Ren :=
  { f := fun x => match x with
      | 146 => 15
      | 221 => 25
      | 268 => 33
      | 138 => 34
      | 143 => 35
      | 195 => 39
      | 197 => 40
      | 218 => 41
      | 219 => 42
      | 260 => 46
      | 217 => 47
      | 225 => 48
      | 224 => 49
      | 267 => 50
      | 266 => 51
      | 314 => 52
      | n => n
    t := fun x => match x with
      | 9 => 9
      | 31 => 22
      | 3 => 3
      | 4 => 4
      | 0 => 0
      | 105 => 58
      | 21 => 21
      | 5 => 5
      | 46 => 66
      | 119 => 67
      | 139 => 70
      | 138 => 69
      | 146 => 72
      | 51 => 71
      | n => n
    g := fun x => match x with
      | 1 => 0
      | 3 => 1
      | 4 => 2
      | n => n }
theorem splitTrydLays : Go.Proofs.LaysM.n146 Tryd.prog splitTrydRen where
  mixed := mixed
  f146 := Tryd.func15.trans (by kernel_rfl)
  f221 := Tryd.func25.trans (by kernel_rfl)
  f268 := Tryd.func33.trans (by kernel_rfl)
  f138 := Tryd.func34.trans (by kernel_rfl)
  f143 := Tryd.func35.trans (by kernel_rfl)
  f195 := Tryd.func39.trans (by kernel_rfl)
  f197 := Tryd.func40.trans (by kernel_rfl)
  f218 := Tryd.func41.trans (by kernel_rfl)
  f219 := Tryd.func42.trans (by kernel_rfl)
  f260 := Tryd.func46.trans (by kernel_rfl)
  f217 := Tryd.func47.trans (by kernel_rfl)
  f225 := Tryd.func48.trans (by kernel_rfl)
  f224 := Tryd.func49.trans (by kernel_rfl)
  f267 := Tryd.func50.trans (by kernel_rfl)
  f266 := Tryd.func51.trans (by kernel_rfl)
  f314 := Tryd.func52.trans (by kernel_rfl)
  t0 := Tryd.underlying0
  a0 := Tryd.isAgg0
  z0 := Tryd.sizeOf0
  v0 := Tryd.zeroValue0
  t3 := Tryd.underlying3
  a3 := Tryd.isAgg3
  z3 := Tryd.sizeOf3
  v3 := Tryd.zeroValue3
  t4 := Tryd.underlying4
  a4 := Tryd.isAgg4
  z4 := Tryd.sizeOf4
  v4 := Tryd.zeroValue4
  t5 := Tryd.underlying5
  a5 := Tryd.isAgg5
  z5 := Tryd.sizeOf5
  v5 := Tryd.zeroValue5
  t9 := Tryd.underlying9
  a9 := Tryd.isAgg9
  z9 := Tryd.sizeOf9
  v9 := Tryd.zeroValue9
  t21 := Tryd.underlying21
  a21 := Tryd.isAgg21
  z21 := Tryd.sizeOf21
  v21 := Tryd.zeroValue21
  t31 := Tryd.underlying22
  a31 := Tryd.isAgg22
  z31 := Tryd.sizeOf22
  v31 := Tryd.zeroValue22
  t46 := Tryd.underlying66
  a46 := Tryd.isAgg66
  z46 := Tryd.sizeOf66
  v46 := Tryd.zeroValue66
  t51 := Tryd.underlying71
  a51 := Tryd.isAgg71
  z51 := Tryd.sizeOf71
  v51 := Tryd.zeroValue71
  t105 := Tryd.underlying58
  a105 := Tryd.isAgg58
  z105 := Tryd.sizeOf58
  v105 := Tryd.zeroValue58
  t119 := Tryd.underlying67
  a119 := Tryd.isAgg67
  z119 := Tryd.sizeOf67
  t138 := Tryd.underlying69
  a138 := Tryd.isAgg69
  z138 := Tryd.sizeOf69
  v138 := Tryd.zeroValue69
  t139 := Tryd.underlying70
  a139 := Tryd.isAgg70
  z139 := Tryd.sizeOf70
  v139 := Tryd.zeroValue70
  t146 := Tryd.underlying72
  a146 := Tryd.isAgg72
  z146 := Tryd.sizeOf72
  v146 := Tryd.zeroValue72
  g1 := by kernel_rfl
  g3 := by kernel_rfl
  g4 := by kernel_rfl
  i0 := by kernel_rfl
  i3 := by kernel_rfl
  i4 := by kernel_rfl
  i5 := by kernel_rfl
  i9 := by kernel_rfl
  i21 := by kernel_rfl
  i31 := by kernel_rfl
  i46 := by kernel_rfl
  i51 := by kernel_rfl
  i105 := by kernel_rfl
  i138 := by kernel_rfl
  i139 := by kernel_rfl
  i146 := by kernel_rfl
  m1 := by kernel_rfl
  m3 := by kernel_rfl
  m4 := by kernel_rfl
  s1_3 := fun w h => cell_of_shapedOpen_int (P := Tryd.prog) (g := 0) (t := 3) (zero := #[.int .i64 0]) h (of_decide_eq_true (by kernel_rfl)) (by kernel_rfl) rfl (by kernel_rfl) (by kernel_rfl) Tryd.underlying3
theorem ok15 {p0 : Str} {p1 : Str} {res : List Str} {h : AH} (hF : stringsSplit p0 p1 = some res) : Spec Tryd.prog 15 [.str p0, .str p1] h (fun rr hh => rr = .sl 1 (res.map strRow) ∧ hh = h) :=
  spec_split splitTrydLays hF
/-! varve/paths.Parse -/
theorem ok6 {s0 : Str} {res : ((List Str) × Int)} {h : AH}  (hF : pathsParse s0 = some res) : Spec Tryd.prog 6 [.str s0] h (fun rr hh => rr = .tup [.sl 1 (res.1.map strRow), .int .i64 res.2] ∧ hh = h) := by
  unfold pathsParse at hF
  refine spec_of_body_ext Tryd.func6 rfl (by kernel_rfl) (env := [.str s0, aundef, aundef, aundef, aundef, aundef, aundef, aundef, aundef, aundef, aundef]) (by rfl) ?_
  refine r_seq ?_
  refine r_region ?_
  refine ops_ok rfl (s_assign rfl rfl (ty_nil el22)) st2 ?_
  refine ops_ok rfl (s_assign rfl rfl (tyo_ok rfl)) st3 ?_
  refine ops_nil ?_
  refine q_seq ?_
  refine r_seq ?_
  refine r_region ?_
  refine ops_ok rfl (s_move rfl gt0 (tyo_ok rfl)) st5 ?_
  refine bindF hF (fun v1 hv1 hF => ?_)
  refine ops_callP rfl (s_call0 rfl rfl rfl (argo_cons gt5 (argo_cons rfl argo_nil)) (.cons (tyo_ok rfl) (.cons (tyo_ok rfl) .nil))) (ok15 hv1) st6 ?_
  refine ops_ok rfl (s_assign rfl gt6 (tyo_ok rfl)) st4 ?_
  refine ops_nil ?_
  refine q_seq ?_
  refine r_seq ?_
  refine r_seq ?_
  refine r_region ?_
  refine ops_ok rfl (s_move rfl gt4 (tyo_ok rfl)) st7 ?_
  refine bindF hF (fun v2 hv2 hF => ?_)
  refine ops_callP rfl (s_call0 rfl rfl rfl (argo_cons gt7 argo_nil) (.cons (tyo_ok rfl) .nil)) (ok8 hv2) st8 ?_
  refine ops_ok rfl (s_un rfl gt8 rfl) st9 ?_
  refine ops_nil ?_
  refine q_seq ?_
  refine r_condF gt9 hF (fun hc3 hF => ?_) (fun hc3 hF => ?_)
  · skip
    refine r_seq ?_
    refine r_region ?_
    refine ops_ok rfl (s_assign rfl rfl (ty_nil el22)) st2 ?_
    refine ops_ok rfl (s_assign rfl rfl (tyo_ok rfl)) st3 ?_
    refine ops_nil ?_
    refine q_seq ?_
    refine r_ret ?_
    refine q_seq_ret ?_
    obtain rfl := Option.some.inj hF
    refine q_retL rfl (rl_tmp gt2 (rl_tmp gt3 rl_nil)) (fin_ext (leV.tup (.cons (leV.osl _ _ _) (.eq leL.nil))) rfl ?_)
    exact ⟨rfl, rfl⟩
  · skip
    refine r_skip ?_
    refine q_seq ?_
    refine r_seq ?_
    refine r_region ?_
    refine ops_ok rfl (s_move rfl gt4 (tyo_ok rfl)) st10 ?_
    refine ops_ok rfl (s_assign rfl gt10 (tyo_ok rfl)) st2 ?_
    refine ops_ok rfl (s_assign rfl rfl (tyo_ok rfl)) st3 ?_
    refine ops_nil ?_
    refine q_seq ?_
    refine r_ret ?_
    obtain rfl := Option.some.inj hF
    refine q_retL rfl (rl_tmp gt2 (rl_tmp gt3 rl_nil)) (fin_ext (leV.refl _) rfl ?_)
    exact ⟨rfl, rfl⟩
/-! varve/varveref04.IsName -/
theorem ok20 {s0 : Str} {res : Bool} {h : AH}  (hF : ref04IsName s0 = some res) : Spec Tryd.prog 20 [.str s0] h (fun rr hh => rr = .bool res ∧ hh = h) := by
  unfold ref04IsName at hF
  refine spec_of_body_ext Tryd.func20 rfl (by kernel_rfl) (env := [.str s0, aundef, aundef, aundef, aundef, aundef, aundef, aundef, aundef, aundef, aundef, aundef, aundef, aundef, aundef, aundef, aundef, aundef, aundef, aundef, aundef, aundef, aundef, aundef, aundef, aundef, aundef, aundef, aundef, aundef, aundef, aundef, aundef, aundef, aundef, aundef, aundef, aundef, aundef, aundef, aundef, aundef, aundef, aundef, aundef]) (by rfl) ?_
  refine r_seq ?_
  refine r_region ?_
  refine ops_ok rfl (s_assign rfl rfl (tyo_ok rfl)) st2 ?_
  refine ops_nil ?_
  refine q_seq ?_
  refine r_seq ?_
  refine r_seq ?_
  refine r_region ?_
  refine ops_ok rfl (s_move rfl gt0 (tyo_ok rfl)) st5 ?_
  refine ops_len rfl (s_lenStr rfl rfl rfl rfl ty9 gt5) st6 fun hn1 => ?_
  replace hn1 := lenN hn1
  refine ops_ok rfl (s_bin rfl gt6 rfl rfl) st7 ?_
  refine ops_ok rfl (s_move rfl gt7 (tyo_ok rfl)) st8 ?_
  refine ops_gv rfl (fun hb => s_move rfl gt0 (tyo_ok rfl)) st9 ?_
  refine ops_glen rfl (fun hb => s_lenStr rfl rfl rfl rfl ty9 (evo_gv gt9 hb)) st10 fun hn2 => ?_
  refine ops_gv rfl (fun hb => s_bin rfl (evo_gv gt10 hb) rfl rfl) st11 ?_
  refine ops_ok rfl (s_pick rfl gt8 rfl gt11 (pick_or (fun ht => gF ht))) st12 ?_
  refine ops_nil ?_
  refine q_seq ?_
  refine r_condF gt12 hF (fun hc3 hF => ?_) (fun hc3 hF => ?_)
  · skip
    refine r_seq ?_
    refine r_region ?_
    refine ops_ok rfl (s_assign rfl rfl (tyo_ok rfl)) st2 ?_
    refine ops_nil ?_
    refine q_seq ?_
    refine r_ret ?_
    refine q_seq_ret ?_
    obtain rfl := Option.some.inj hF
    refine q_retL1 rfl (rl_tmp gt2 rl_nil) (fin_ext (leV.refl _) rfl ?_)
    exact ⟨rfl, rfl⟩
  · skip
    refine r_skip ?_
    refine q_seq ?_
    refine r_seq ?_
    refine r_seq ?_
    refine r_region ?_
    refine ops_ok rfl (s_assign rfl rfl (tyo_ok rfl)) st3 ?_
    refine ops_nil ?_
    refine q_seq ?_
    refine r_block ?_
    refine r_loopLF (fun (n1 : Nat) (s1 : Unit) => [(1, .any), (2, .any), (3, .int .i64 (n1 : Int)), (4, .any), (5, .any), (6, .any), (7, .any), (8, .any), (9, .any), (10, .any), (11, .any), (12, .any), (13, .any), (14, .any), (15, .any), (16, .any), (17, .any), (18, .any), (19, .any), (20, .any), (21, .any), (22, .any), (23, .any), (24, .any), (25, .any), (26, .any), (27, .any), (28, .any), (29, .any), (30, .any), (31, .any), (32, .any), (33, .any), (34, .any), (35, .any), (36, .any), (37, .any), (38, .any), (39, .any), (40, .any), (41, .any), (42, .any), (43, .any), (44, .any)]) (fun s1 => h.ext [] []) hF (fun _ _ => by simp only [upd, List.set_cons_succ, List.set_cons_zero]; try rfl) (wk.le (by exact (.eq (.drop (.drop (.cons (leV.of_eq rfl) (.drop (.drop (.drop (.drop (.drop (.drop (.drop (.drop (.drop (.drop (.drop (.drop (.drop (.drop (.drop (.drop (.drop (.drop (.drop (.drop (.drop (.drop (.drop (.drop (.drop (.drop (.drop (.drop (.drop (.drop (.drop (.drop (.drop (.drop (.drop (.drop (.drop (.drop (.drop (.drop (.drop leL.nil))))))))))))))))))))))))))))))))))))))))))))))) ?_
    intro n1 s1 hi1 hF
    refine r_seq ?_
    refine r_seq ?_
    refine r_region ?_
    refine ops_ok rfl (s_move rfl gt3 (tyo_ok rfl)) st13 ?_
    refine ops_ok rfl (s_move rfl gt0 (tyo_ok rfl)) st14 ?_
    refine ops_len rfl (s_lenStr rfl rfl rfl rfl ty9 gt14) st15 fun hn10 => ?_
    replace hn10 := lenN hn10
    refine ops_ok rfl (s_bin rfl gt13 gt15 rfl) st16 ?_
    refine ops_nil ?_
    refine q_seq ?_
    refine r_condL gt16 hF (fun x1 o1 hl1 hx1 hF hK1 => ?_) (fun hF => ?_)
    · skip
      refine r_skip ?_
      refine q_seq ?_
      refine r_seq ?_
      refine r_block ?_
      refine r_seq ?_
      refine r_region ?_
      refine ops_ok rfl (s_move rfl gt0 (tyo_ok rfl)) st19 ?_
      refine ops_ok rfl (s_move rfl gt3 (tyo_ok rfl)) st20 ?_
      refine ops_ok rfl (s_idxStr rfl ty9 gt19 gt20 (idx_of hx1)) st21 ?_
      refine ops_ok rfl (s_assign rfl gt21 (tyo_ok rfl)) st4 ?_
      refine ops_nil ?_
      refine q_seq ?_
      refine r_seq ?_
      refine r_region ?_
      refine ops_ok rfl (s_move rfl gt4 (tyo_ok rfl)) st22 ?_
      refine ops_ok rfl (s_bin rfl gt22 rfl rfl) st23 ?_
      refine ops_ok rfl (s_move rfl gt23 (tyo_ok rfl)) st24 ?_
      refine ops_gv rfl (fun hb => s_move rfl gt4 (tyo_ok rfl)) st25 ?_
      refine ops_gv rfl (fun hb => s_bin rfl (evo_gv gt25 hb) rfl rfl) st26 ?_
      refine ops_ok rfl (s_pick rfl gt24 gt26 rfl (pick_and (fun ht => gT ht))) st27 ?_
      refine ops_ok rfl (s_move rfl gt27 (tyo_ok rfl)) st28 ?_
      refine ops_gv rfl (fun hb => s_move rfl gt4 (tyo_ok rfl)) st29 ?_
      refine ops_gv rfl (fun hb => s_bin rfl (evo_gv gt29 hb) rfl rfl) st30 ?_
      refine ops_gv rfl (fun hb => s_move rfl (evo_gv gt30 hb) (tyo_ok rfl)) st31 ?_
      refine ops_gv (aG_gv rfl rfl rfl) (fun hb => s_move rfl gt4 (tyo_ok rfl)) st32 ?_
      refine ops_gv (aG_gv rfl rfl rfl) (fun hb => s_bin rfl (evo_gv gt32 hb) rfl rfl) st33 ?_
      refine ops_gv rfl (fun hb => s_pick rfl (evo_gv gt31 hb) gt33 rfl (pick_and (fun ht => gT2 hb ht))) st34 ?_
      refine ops_ok rfl (s_pick rfl gt28 rfl gt34 (pick_or (fun ht => gF ht))) st35 ?_
      refine ops_ok rfl (s_move rfl gt35 (tyo_ok rfl)) st36 ?_
      refine ops_gv rfl (fun hb => s_move rfl gt4 (tyo_ok rfl)) st37 ?_
      refine ops_gv rfl (fun hb => s_bin rfl (evo_gv gt37 hb) rfl rfl) st38 ?_
      refine ops_gv rfl (fun hb => s_move rfl (evo_gv gt38 hb) (tyo_ok rfl)) st39 ?_
      refine ops_gv (aG_gv rfl rfl rfl) (fun hb => s_move rfl gt4 (tyo_ok rfl)) (sk st0) ?_
      refine ops_gv (aG_gv rfl rfl rfl) (fun hb => s_bin rfl (evo_gv (gk gt0) hb) rfl rfl) (sk st1) ?_
      refine ops_gv rfl (fun hb => s_pick rfl (evo_gv gt39 hb) (gk gt1) rfl (pick_and (fun ht => gT2 hb ht))) (sk st2) ?_
      refine ops_ok rfl (s_pick rfl gt36 rfl (gk gt2) (pick_or (fun ht => gF ht))) (sk st3) ?_
      refine ops_ok rfl (s_un rfl (gk gt3) rfl) (sk st4) ?_
      refine ops_nil ?_
      refine q_seq ?_
      refine r_condF (gk gt4) hF (fun hc11 hF => ?_) (fun hc11 hF => ?_)
      · skip
        refine r_seq ?_
        refine r_region ?_
        refine ops_ok rfl (s_assign rfl rfl (tyo_ok rfl)) st2 ?_
        refine ops_nil ?_
        refine q_seq ?_
        refine r_ret ?_
        refine q_block_ret ?_
        refine q_seq_ret ?_
        refine q_loop_ret ?_
        obtain rfl := Option.some.inj hF
        replace hF := hK1
        refine q_block_ret ?_
        refine q_seq_ret ?_
        obtain rfl := Option.some.inj hF
        refine q_retL1 rfl (rl_tmp gt2 rl_nil) (fin_ext (leV.refl _) rfl ?_)
        exact ⟨rfl, rfl⟩
      · skip
        refine r_skip ?_
        refine q_block ?_
        refine q_seq ?_
        refine r_region ?_
        refine ops_ok rfl (s_move rfl gt3 (tyo_ok rfl)) st17 ?_
        refine ops_ok rfl (s_bin rfl gt17 rfl rfl) st18 ?_
        refine ops_ok rfl (s_assign rfl gt18 (tyo_ok rfl)) st3 ?_
        refine ops_nil ?_
        refine q_loop ?_
        obtain rfl := Option.some.inj hF
        exact ⟨(), hl1, hK1, wk.le (by exact (.eq (.drop (.drop (.cons (leV.of_eq (w64e (by omega) (by omega))) (.drop (.drop (.drop (.drop (.drop (.drop (.drop (.drop (.drop (.drop (.drop (.drop (.drop (.drop (.drop (.drop (.drop (.drop (.drop (.drop (.drop (.drop (.drop (.drop (.drop (.drop (.drop (.drop (.drop (.drop (.drop (.drop (.drop (.drop (.drop (.drop (.drop (.drop (.drop (.drop (.drop leL.nil))))))))))))))))))))))))))))))))))))))))))))))⟩
    · skip
      refine r_exit ?_
      refine q_seq_exit ?_
      refine q_loop_exit ?_
      refine q_block_hit ?_
      refine q_seq ?_
      refine r_seq ?_
      refine r_region ?_
      refine ops_ok rfl (s_assign rfl rfl (tyo_ok rfl)) st2 ?_
      refine ops_nil ?_
      refine q_seq ?_
      refine r_ret ?_
      obtain rfl := Option.some.inj hF
      refine q_retL1 rfl (rl_tmp gt2 rl_nil) (fin_ext (leV.refl _) rfl ?_)
      exact ⟨rfl, rfl⟩
/-! varve/varveref30.MayPattern -/
theorem ok9 {p0 : (List Str)} {res : Bool} {h : AH}  (hF : ref30MayPattern p0 = some res) : Spec Tryd.prog 9 [.sl 1 (p0.map strRow)] h (fun rr hh => rr = .bool res ∧ hh = h) := by
  unfold ref30MayPattern at hF
  refine spec_of_body_ext Tryd.func9 rfl (by kernel_rfl) (env := [.sl 1 (p0.map strRow), aundef, aundef, aundef, aundef, aundef, aundef, aundef, aundef, aundef, aundef, aundef, aundef, aundef, aundef, aundef, aundef, aundef, aundef, aundef, aundef, aundef, aundef, aundef, aundef, aundef, aundef, aundef, aundef, aundef, aundef, aundef, aundef, aundef, aundef, aundef, aundef, aundef, aundef, aundef, aundef, aundef, aundef, aundef, aundef]) (by rfl) ?_
  refine r_seq ?_
  refine r_region ?_
  refine ops_ok rfl (s_assign rfl rfl (tyo_ok rfl)) st2 ?_
  refine ops_nil ?_
  refine q_seq ?_
  refine r_seq ?_
  refine r_region ?_
  refine ops_ok rfl (s_move rfl gt0 (tyo_ok rfl)) st5 ?_
  refine ops_len rfl (s_lenSl rfl rfl rfl rfl el22 gt5 lenMap) st6 fun hn1 => ?_
  replace hn1 := lenN hn1
  refine ops_ok rfl (s_assign rfl gt6 (tyo_ok rfl)) st3 ?_
  refine ops_nil ?_
  refine q_seq ?_
  refine r_seq ?_
  refine r_seq ?_
  refine r_region ?_
  refine ops_ok rfl (s_move rfl gt3 (tyo_ok rfl)) st7 ?_
  refine ops_ok rfl (s_bin rfl gt7 rfl rfl) st8 ?_
  refine ops_ok rfl (s_move rfl gt8 (tyo_ok rfl)) st9 ?_
  refine ops_gv rfl (fun hb => s_move rfl gt0 (tyo_ok rfl)) st10 ?_
  refine ops_gv rfl (fun hb => s_move rfl gt3 (tyo_ok rfl)) st11 ?_
  refine ops_gv rfl (fun hb => s_bin rfl (evo_gv gt11 hb) rfl rfl) st12 ?_
  refine chkF hF (fun hg2 hF => ?_)
  refine ops_gv rfl (fun hb => s_gidxRow default rfl el22 (evo_gv gt10 hb) (evo_gv gt12 hb) isl (hg2 hb)) st13 ?_
  refine ops_gv rfl (fun hb => f_load rfl ty9 (evo_gv gt13 hb) (ldC_one rfl) (tyo_ok rfl)) st14 ?_
  refine ops_gv rfl (fun hb => s_bin rfl (evo_gv gt14 hb) rfl rfl) st15 ?_
  refine ops_ok rfl (s_pick rfl gt9 gt15 rfl (pick_and (fun ht => gT ht))) st16 ?_
  refine ops_nil ?_
  refine q_seq ?_
  refine r_condF gt16 hF (fun hc3 hF => ?_) (fun hc3 hF => ?_)
  · skip
    refine r_seq ?_
    refine r_region ?_
    refine ops_ok rfl (s_move rfl gt3 (tyo_ok rfl)) st17 ?_
    refine ops_ok rfl (s_bin rfl gt17 rfl rfl) st18 ?_
    refine ops_ok rfl (s_assign rfl gt18 (tyo_ok rfl)) st3 ?_
    refine ops_nil ?_
    refine q_seq ?_
    refine r_seq ?_
    refine r_region ?_
    refine ops_ok rfl (s_move rfl gt3 (tyo_ok rfl)) st19 ?_
    refine ops_ok rfl (s_bin rfl gt19 rfl rfl) st20 ?_
    refine ops_nil ?_
    refine q_seq ?_
    refine r_condF gt20 hF (fun hc4 hF => ?_) (fun hc4 hF => ?_)
    · skip
      refine r_seq ?_
      refine r_region ?_
      refine ops_ok rfl (s_assign rfl rfl (tyo_ok rfl)) st2 ?_
      refine ops_nil ?_
      refine q_seq ?_
      refine r_ret ?_
      refine q_seq_ret ?_
      obtain rfl := Option.some.inj hF
      refine q_retL1 rfl (rl_tmp gt2 rl_nil) (fin_ext (leV.refl _) rfl ?_)
      exact ⟨rfl, rfl⟩
    · skip
      refine r_skip ?_
      refine q_seq ?_
      refine r_seq ?_
      refine r_seq ?_
      refine r_region ?_
      refine ops_ok rfl (s_move rfl gt3 (tyo_ok rfl)) st21 ?_
      refine ops_ok rfl (s_bin rfl gt21 rfl rfl) st22 ?_
      refine ops_ok rfl (s_move rfl gt22 (tyo_ok rfl)) st23 ?_
      refine ops_gv rfl (fun hb => s_move rfl gt3 (tyo_ok rfl)) st24 ?_
      refine ops_gv rfl (fun hb => s_bin rfl (evo_gv gt24 hb) rfl rfl) st25 ?_
      refine ops_ok rfl (s_pick rfl gt23 rfl gt25 (pick_or (fun ht => gF ht))) st26 ?_
      refine ops_nil ?_
      refine q_seq ?_
      refine r_condF gt26 hF (fun hc5 hF => ?_) (fun hc5 hF => ?_)
      · skip
        refine r_seq ?_
        refine r_region ?_
        refine ops_ok rfl (s_assign rfl rfl (tyo_ok rfl)) st2 ?_
        refine ops_nil ?_
        refine q_seq ?_
        refine r_ret ?_
        refine q_seq_ret ?_
        obtain rfl := Option.some.inj hF
        refine q_retL1 rfl (rl_tmp gt2 rl_nil) (fin_ext (leV.refl _) rfl ?_)
        exact ⟨rfl, rfl⟩
      · skip
        refine r_skip ?_
        refine q_seq ?_
        refine r_seq ?_
        refine r_seq ?_
        refine r_region ?_
        refine ops_ok rfl (s_assign rfl rfl (tyo_ok rfl)) st4 ?_
        refine ops_nil ?_
        refine q_seq ?_
        refine r_block ?_
        refine chkF hF (fun hR1 hF => ?_)
        refine r_loopLF (fun (n1 : Nat) (s1 : Unit) => [(1, .any), (2, .any), (4, .int .i64 (n1 : Int)), (5, .any), (6, .any), (7, .any), (8, .any), (9, .any), (10, .any), (11, .any), (12, .any), (13, .any), (14, .any), (15, .any), (16, .any), (17, .any), (18, .any), (19, .any), (20, .any), (21, .any), (22, .any), (23, .any), (24, .any), (25, .any), (26, .any), (27, .any), (28, .any), (29, .any), (30, .any), (31, .any), (32, .any), (33, .any), (34, .any), (35, .any), (36, .any), (37, .any), (38, .any), (39, .any), (40, .any), (41, .any), (42, .any), (43, .any), (44, .any)]) (fun s1 => h.ext [] []) hF (fun _ _ => by simp only [upd, List.set_cons_succ, List.set_cons_zero]; try rfl) (wk.le (by exact (.eq (.drop (.drop (.eq (.cons (leV.of_eq rfl) (.drop (.drop (.drop (.drop (.drop (.drop (.drop (.drop (.drop (.drop (.drop (.drop (.drop (.drop (.drop (.drop (.drop (.drop (.drop (.drop (.drop (.drop (.drop (.drop (.drop (.drop (.drop (.drop (.drop (.drop (.drop (.drop (.drop (.drop (.drop (.drop (.drop (.drop (.drop (.drop leL.nil))))))))))))))))))))))))))))))))))))))))))))))) ?_
        intro n1 s1 hi1 hF
        refine r_seq ?_
        refine r_seq ?_
        refine r_region ?_
        refine ops_ok rfl (s_move rfl gt4 (tyo_ok rfl)) st27 ?_
        refine ops_ok rfl (s_move rfl gt3 (tyo_ok rfl)) st28 ?_
        refine ops_ok rfl (s_bin rfl gt27 gt28 rfl) st29 ?_
        refine ops_nil ?_
        refine q_seq ?_
        refine r_condR gt29 hF (fun x1 o1 hl1 hm1 hx1 hF hK1 => ?_) (fun hF => ?_)
        · skip
          refine r_skip ?_
          refine q_seq ?_
          refine r_seq ?_
          refine r_block ?_
          refine r_seq ?_
          refine r_region ?_
          refine ops_ok rfl (s_move rfl gt0 (tyo_ok rfl)) st32 ?_
          refine ops_ok rfl (s_move rfl gt4 (tyo_ok rfl)) st33 ?_
          refine bindF hF (fun y12 hy12 hF => ?_)
          refine ops_ok rfl (s_idxRow rfl el22 gt32 gt33 isl hy12) st34 ?_
          refine ops_ok rfl (f_load rfl ty9 gt34 (ldC_one rfl) (tyo_ok rfl)) st35 ?_
          refine ops_ok rfl (s_bin rfl gt35 rfl rfl) st36 ?_
          refine ops_ok rfl (s_move rfl gt36 (tyo_ok rfl)) st37 ?_
          refine ops_gv rfl (fun hb => s_move rfl gt0 (tyo_ok rfl)) st38 ?_
          refine ops_gv rfl (fun hb => s_move rfl gt4 (tyo_ok rfl)) st39 ?_
          refine chkF hF (fun hg13 hF => ?_)
          refine ops_gv rfl (fun hb => s_gidxRow default rfl el22 (evo_gv gt38 hb) (evo_gv gt39 hb) isl (hg13 hb)) (sk st0) ?_
          refine ops_gv rfl (fun hb => f_load rfl ty9 (evo_gv (gk gt0) hb) (ldC_one rfl) (tyo_ok rfl)) (sk st1) ?_
          refine gbindF hF (fun v14 hv14 hF => ?_)
          refine ops_gcall rfl (fun hb => s_call0 rfl rfl rfl (argo_cons (evo_gv (gk gt1) hb) argo_nil) (.cons (tyo_ok rfl) .nil)) (fun hb => ok20 (hv14 hb)) (sk st2) ?_
          refine ops_gv rfl (fun hb => s_un rfl (evo_gv (gk gt2) hb) rfl) (sk st3) ?_
          refine ops_ok rfl (s_pick rfl gt37 (gk gt3) rfl (pick_and (fun ht => gT ht))) (sk st4) ?_
          refine ops_nil ?_
          refine q_seq ?_
          refine r_condF (gk gt4) hF (fun hc15 hF => ?_) (fun hc15 hF => ?_)
          · skip
            refine r_seq ?_
            refine r_region ?_
            refine ops_ok rfl (s_assign rfl rfl (tyo_ok rfl)) st2 ?_
            refine ops_nil ?_
            refine q_seq ?_
            refine r_ret ?_
            refine q_block_ret ?_
            refine q_seq_ret ?_
            refine q_loop_ret ?_
            obtain rfl := Option.some.inj hF
            replace hF := hK1
            refine q_block_ret ?_
            refine q_seq_ret ?_
            obtain rfl := Option.some.inj hF
            refine q_retL1 rfl (rl_tmp gt2 rl_nil) (fin_ext (leV.refl _) rfl ?_)
            exact ⟨rfl, rfl⟩
          · skip
            refine r_skip ?_
            refine q_block ?_
            refine q_seq ?_
            refine r_region ?_
            refine ops_ok rfl (s_move rfl gt4 (tyo_ok rfl)) st30 ?_
            refine ops_ok rfl (s_bin rfl gt30 rfl rfl) st31 ?_
            refine ops_ok rfl (s_assign rfl gt31 (tyo_ok rfl)) st4 ?_
            refine ops_nil ?_
            refine q_loop ?_
            obtain rfl := Option.some.inj hF
            exact ⟨(), hl1, hK1, wk.le (by exact (.eq (.drop (.drop (.eq (.cons (leV.of_eq (w64e (by omega) (by omega))) (.drop (.drop (.drop (.drop (.drop (.drop (.drop (.drop (.drop (.drop (.drop (.drop (.drop (.drop (.drop (.drop (.drop (.drop (.drop (.drop (.drop (.drop (.drop (.drop (.drop (.drop (.drop (.drop (.drop (.drop (.drop (.drop (.drop (.drop (.drop (.drop (.drop (.drop (.drop (.drop leL.nil))))))))))))))))))))))))))))))))))))))))))))))⟩
        · skip
          refine r_exit ?_
          refine q_seq_exit ?_
          refine q_loop_exit ?_
          refine q_block_hit ?_
          refine q_seq ?_
          refine r_seq ?_
          refine r_region ?_
          refine ops_ok rfl (s_assign rfl rfl (tyo_ok rfl)) st2 ?_
          refine ops_nil ?_
          refine q_seq ?_
          refine r_ret ?_
          obtain rfl := Option.some.inj hF
          refine q_retL1 rfl (rl_tmp gt2 rl_nil) (fin_ext (leV.refl _) rfl ?_)
          exact ⟨rfl, rfl⟩
  · skip
    refine r_skip ?_
    refine q_seq ?_
    refine r_seq ?_
    refine r_seq ?_
    refine r_region ?_
    refine ops_ok rfl (s_move rfl gt3 (tyo_ok rfl)) st21 ?_
    refine ops_ok rfl (s_bin rfl gt21 rfl rfl) st22 ?_
    refine ops_ok rfl (s_move rfl gt22 (tyo_ok rfl)) st23 ?_
    refine ops_gv rfl (fun hb => s_move rfl gt3 (tyo_ok rfl)) st24 ?_
    refine ops_gv rfl (fun hb => s_bin rfl (evo_gv gt24 hb) rfl rfl) st25 ?_
    refine ops_ok rfl (s_pick rfl gt23 rfl gt25 (pick_or (fun ht => gF ht))) st26 ?_
    refine ops_nil ?_
    refine q_seq ?_
    refine r_condF gt26 hF (fun hc16 hF => ?_) (fun hc16 hF => ?_)
    · skip
      refine r_seq ?_
      refine r_region ?_
      refine ops_ok rfl (s_assign rfl rfl (tyo_ok rfl)) st2 ?_
      refine ops_nil ?_
      refine q_seq ?_
      refine r_ret ?_
      refine q_seq_ret ?_
      obtain rfl := Option.some.inj hF
      refine q_retL1 rfl (rl_tmp gt2 rl_nil) (fin_ext (leV.refl _) rfl ?_)
      exact ⟨rfl, rfl⟩
    · skip
      refine r_skip ?_
      refine q_seq ?_
      refine r_seq ?_
      refine r_seq ?_
      refine r_region ?_
      refine ops_ok rfl (s_assign rfl rfl (tyo_ok rfl)) st4 ?_
      refine ops_nil ?_
      refine q_seq ?_
      refine r_block ?_
      refine r_loopLF (fun (n1 : Nat) (s1 : Unit) => [(1, .any), (2, .any), (4, .int .i64 (n1 : Int)), (5, .any), (6, .any), (7, .any), (8, .any), (9, .any), (10, .any), (11, .any), (12, .any), (13, .any), (14, .any), (15, .any), (16, .any), (17, .any), (18, .any), (19, .any), (20, .any), (21, .any), (22, .any), (23, .any), (24, .any), (25, .any), (26, .any), (27, .any), (28, .any), (29, .any), (30, .any), (31, .any), (32, .any), (33, .any), (34, .any), (35, .any), (36, .any), (37, .any), (38, .any), (39, .any), (40, .any), (41, .any), (42, .any), (43, .any), (44, .any)]) (fun s1 => h.ext [] []) hF (fun _ _ => by simp only [upd, List.set_cons_succ, List.set_cons_zero]; try rfl) (wk.le (by exact (.eq (.drop (.drop (.eq (.cons (leV.of_eq rfl) (.drop (.drop (.drop (.drop (.drop (.drop (.drop (.drop (.drop (.drop (.drop (.drop (.drop (.drop (.drop (.drop (.drop (.drop (.drop (.drop (.drop (.drop (.drop (.drop (.drop (.drop (.drop (.drop (.drop (.drop (.drop (.drop (.drop (.drop (.drop (.drop (.drop (.drop (.drop (.drop leL.nil))))))))))))))))))))))))))))))))))))))))))))))) ?_
      intro n1 s1 hi1 hF
      refine r_seq ?_
      refine r_seq ?_
      refine r_region ?_
      refine ops_ok rfl (s_move rfl gt4 (tyo_ok rfl)) st27 ?_
      refine ops_ok rfl (s_move rfl gt3 (tyo_ok rfl)) st28 ?_
      refine ops_ok rfl (s_bin rfl gt27 gt28 rfl) st29 ?_
      refine ops_nil ?_
      refine q_seq ?_
      refine r_condL gt29 hF (fun x1 o1 hl1 hx1 hF hK1 => ?_) (fun hF => ?_)
      · skip
        refine r_skip ?_
        refine q_seq ?_
        refine r_seq ?_
        refine r_block ?_
        refine r_seq ?_
        refine r_region ?_
        refine ops_ok rfl (s_move rfl gt0 (tyo_ok rfl)) st32 ?_
        refine ops_ok rfl (s_move rfl gt4 (tyo_ok rfl)) st33 ?_
        refine ops_ok rfl (s_idxRow rfl el22 gt32 gt33 isl (idx_of hx1)) st34 ?_
        refine ops_ok rfl (f_load rfl ty9 gt34 (ldC_one rfl) (tyo_ok rfl)) st35 ?_
        refine ops_ok rfl (s_bin rfl gt35 rfl rfl) st36 ?_
        refine ops_ok rfl (s_move rfl gt36 (tyo_ok rfl)) st37 ?_
        refine ops_gv rfl (fun hb => s_move rfl gt0 (tyo_ok rfl)) st38 ?_
        refine ops_gv rfl (fun hb => s_move rfl gt4 (tyo_ok rfl)) st39 ?_
        refine chkF hF (fun hg23 hF => ?_)
        refine ops_gv rfl (fun hb => s_gidxRow default rfl el22 (evo_gv gt38 hb) (evo_gv gt39 hb) isl (hg23 hb)) (sk st0) ?_
        refine ops_gv rfl (fun hb => f_load rfl ty9 (evo_gv (gk gt0) hb) (ldC_one rfl) (tyo_ok rfl)) (sk st1) ?_
        refine gbindF hF (fun v24 hv24 hF => ?_)
        refine ops_gcall rfl (fun hb => s_call0 rfl rfl rfl (argo_cons (evo_gv (gk gt1) hb) argo_nil) (.cons (tyo_ok rfl) .nil)) (fun hb => ok20 (hv24 hb)) (sk st2) ?_
        refine ops_gv rfl (fun hb => s_un rfl (evo_gv (gk gt2) hb) rfl) (sk st3) ?_
        refine ops_ok rfl (s_pick rfl gt37 (gk gt3) rfl (pick_and (fun ht => gT ht))) (sk st4) ?_
        refine ops_nil ?_
        refine q_seq ?_
        refine r_condF (gk gt4) hF (fun hc25 hF => ?_) (fun hc25 hF => ?_)
        · skip
          refine r_seq ?_
          refine r_region ?_
          refine ops_ok rfl (s_assign rfl rfl (tyo_ok rfl)) st2 ?_
          refine ops_nil ?_
          refine q_seq ?_
          refine r_ret ?_
          refine q_block_ret ?_
          refine q_seq_ret ?_
          refine q_loop_ret ?_
          obtain rfl := Option.some.inj hF
          replace hF := hK1
          refine q_block_ret ?_
          refine q_seq_ret ?_
          obtain rfl := Option.some.inj hF
          refine q_retL1 rfl (rl_tmp gt2 rl_nil) (fin_ext (leV.refl _) rfl ?_)
          exact ⟨rfl, rfl⟩
        · skip
          refine r_skip ?_
          refine q_block ?_
          refine q_seq ?_
          refine r_region ?_
          refine ops_ok rfl (s_move rfl gt4 (tyo_ok rfl)) st30 ?_
          refine ops_ok rfl (s_bin rfl gt30 rfl rfl) st31 ?_
          refine ops_ok rfl (s_assign rfl gt31 (tyo_ok rfl)) st4 ?_
          refine ops_nil ?_
          refine q_loop ?_
          obtain rfl := Option.some.inj hF
          exact ⟨(), hl1, hK1, wk.le (by exact (.eq (.drop (.drop (.eq (.cons (leV.of_eq (w64e (by omega) (by omega))) (.drop (.drop (.drop (.drop (.drop (.drop (.drop (.drop (.drop (.drop (.drop (.drop (.drop (.drop (.drop (.drop (.drop (.drop (.drop (.drop (.drop (.drop (.drop (.drop (.drop (.drop (.drop (.drop (.drop (.drop (.drop (.drop (.drop (.drop (.drop (.drop (.drop (.drop (.drop (.drop leL.nil))))))))))))))))))))))))))))))))))))))))))))))⟩
      · skip
        refine r_exit ?_
        refine q_seq_exit ?_
        refine q_loop_exit ?_
        refine q_block_hit ?_
        refine q_seq ?_
        refine r_seq ?_
        refine r_region ?_
        refine ops_ok rfl (s_assign rfl rfl (tyo_ok rfl)) st2 ?_
        refine ops_nil ?_
        refine q_seq ?_
        refine r_ret ?_
        obtain rfl := Option.some.inj hF
        refine q_retL1 rfl (rl_tmp gt2 rl_nil) (fin_ext (leV.refl _) rfl ?_)
        exact ⟨rfl, rfl⟩
/-! varve/varveref30.Parse -/
theorem ok7 {s0 : Str} {res : ((List Str) × Int)} {h : AH}  (hF : ref30Parse s0 = some res) : Spec Tryd.prog 7 [.str s0] h (fun rr hh => rr = .tup [.sl 1 (res.1.map strRow), .int .i64 res.2] ∧ hh = h) := by
  unfold ref30Parse at hF
  refine spec_of_body_ext Tryd.func7 rfl (by kernel_rfl) (env := [.str s0, aundef, aundef, aundef, aundef, aundef, aundef, aundef, aundef, aundef, aundef, aundef, aundef, aundef, aundef, aundef, aundef, aundef, aundef, aundef, aundef, aundef, aundef, aundef, aundef, aundef, aundef, aundef, aundef, aundef, aundef, aundef, aundef, aundef, aundef, aundef]) (by rfl) ?_
  refine r_seq ?_
  refine r_region ?_
  refine ops_ok rfl (s_assign rfl rfl (ty_nil el22)) st2 ?_
  refine ops_ok rfl (s_assign rfl rfl (tyo_ok rfl)) st3 ?_
  refine ops_nil ?_
  refine q_seq ?_
  refine r_seq ?_
  refine r_region ?_
  refine ops_ok rfl (s_assign rfl rfl (ty_nil el22)) st4 ?_
  refine ops_nil ?_
  refine q_seq ?_
  refine r_seq ?_
  refine r_region ?_
  refine ops_ok rfl (s_assign rfl rfl (tyo_ok rfl)) st5 ?_
  refine ops_nil ?_
  refine q_seq ?_
  refine r_seq ?_
  refine r_seq ?_
  refine r_region ?_
  refine ops_ok rfl (s_assign rfl rfl (tyo_ok rfl)) st6 ?_
  refine ops_nil ?_
  refine q_seq ?_
  refine r_block ?_
  refine r_loopLF (fun (n1 : Nat) (s1 : (List Str) × Str) => [(1, .any), (2, .any), (3, .any), (4, .osl (some (h.toks.length + 0)) 1 (s1.1.map strRow)), (5, .str s1.2), (6, .int .i64 (n1 : Int)), (7, .any), (8, .any), (9, .any), (10, .any), (11, .any), (12, .any), (13, .any), (14, .any), (15, .any), (16, .any), (17, .any), (18, .any), (19, .any), (20, .any), (21, .any), (22, .any), (23, .any), (24, .any), (25, .any), (26, .any), (27, .any), (28, .any), (29, .any), (30, .any), (31, .any), (32, .any), (33, .any), (34, .any), (35, .any)]) (fun s1 => h.ext [] [(s1.1).length]) hF (fun _ _ => by simp only [upd, List.set_cons_succ, List.set_cons_zero]; try rfl) (wk.trans (wk_tok gt4 rfl st4 rfl) (wk.le (by exact (.eq (.drop (.drop (.drop (.cons (leV.of_eq rfl) (.cons (leV.of_eq rfl) (.cons (leV.of_eq rfl) (.drop (.drop (.drop (.drop (.drop (.drop (.drop (.drop (.drop (.drop (.drop (.drop (.drop (.drop (.drop (.drop (.drop (.drop (.drop (.drop (.drop (.drop (.drop (.drop (.drop (.drop (.drop (.drop (.drop leL.nil))))))))))))))))))))))))))))))))))))))) ?_
  intro n1 s1 hi1 hF
  refine r_seq ?_
  refine r_seq ?_
  refine r_region ?_
  refine ops_ok rfl (s_move rfl gt6 (tyo_ok rfl)) st7 ?_
  refine ops_ok rfl (s_move rfl gt0 (tyo_ok rfl)) st8 ?_
  refine ops_len rfl (s_lenStr rfl rfl rfl rfl ty9 gt8) st9 fun hn12 => ?_
  replace hn12 := lenN hn12
  refine ops_ok rfl (s_bin rfl gt7 gt9 rfl) st10 ?_
  refine ops_nil ?_
  refine q_seq ?_
  refine r_condL gt10 hF (fun x1 o1 hl1 hx1 hF hK1 => ?_) (fun hF => ?_)
  · skip
    refine r_skip ?_
    refine q_seq ?_
    refine r_seq ?_
    refine r_block ?_
    refine r_seq ?_
    refine r_region ?_
    refine ops_ok rfl (s_move rfl gt0 (tyo_ok rfl)) st13 ?_
    refine ops_ok rfl (s_move rfl gt6 (tyo_ok rfl)) st14 ?_
    refine ops_ok rfl (s_idxStr rfl ty9 gt13 gt14 (idx_of hx1)) st15 ?_
    refine ops_ok rfl (s_bin rfl gt15 rfl rfl) st16 ?_
    refine ops_nil ?_
    refine q_seq ?_
    refine r_condF gt16 hF (fun hc13 hF => ?_) (fun hc13 hF => ?_)
    · skip
      refine r_seq ?_
      refine r_region ?_
      refine ops_ok rfl (s_move rfl gt4 (tyo_ok rfl)) st17 ?_
      refine ops_ok rfl (s_move rfl gt5 (tyo_ok rfl)) st18 ?_
      refine ops_ok rfl (s_buildSlice (es := ([s1.2] : List Str).map strRow) rfl el22 ze9 rfl rfl (parto_cons gt18 parto_nil) (.cons (tyo_ok rfl) .nil) rfl rfl rfl) st19 ?_
      refine chkF hF (fun hm14 hF => ?_)
      refine ops_ok rfl (e_appT (j := 0) (T' := [((s1.1 ++ ([s1.2] : List Str))).length]) rfl rfl rfl rfl el22 el22 gt17 gt19 (tyo_ok rfl) (tyo_ok rfl) news_osl hm14 rfl rfl) st20 ?_
      refine ops_ok rfl (s_assign rfl gt20 (tyo_ok rfl)) st4 ?_
      refine ops_nil ?_
      refine q_seq ?_
      refine r_region ?_
      refine ops_ok rfl (s_assign rfl rfl (tyo_ok rfl)) st5 ?_
      refine ops_nil ?_
      refine q_block ?_
      refine q_seq ?_
      refine r_region ?_
      refine ops_ok rfl (s_move rfl gt6 (tyo_ok rfl)) st11 ?_
      refine ops_ok rfl (s_bin rfl gt11 rfl rfl) st12 ?_
      refine ops_ok rfl (s_assign rfl gt12 (tyo_ok rfl)) st6 ?_
      refine ops_nil ?_
      refine q_loop ?_
      obtain rfl := Option.some.inj hF
      exact ⟨((s1.1 ++ ([s1.2] : List Str)), ([] : Str)), hl1, hK1, wk.le (by exact (.eq (.drop (.drop (.drop (.cons (leV.of_eq rfl) (.cons (leV.of_eq rfl) (.cons (leV.of_eq (w64e (by omega) (by omega))) (.drop (.drop (.drop (.drop (.drop (.drop (.drop (.drop (.drop (.drop (.drop (.drop (.drop (.drop (.drop (.drop (.drop (.drop (.drop (.drop (.drop (.drop (.drop (.drop (.drop (.drop (.drop (.drop (.drop leL.nil)))))))))))))))))))))))))))))))))))))⟩
    · skip
      refine r_region ?_
      refine ops_ok rfl (s_move rfl gt5 (tyo_ok rfl)) st21 ?_
      refine ops_ok rfl (s_move rfl gt0 (tyo_ok rfl)) st22 ?_
      refine ops_ok rfl (s_move rfl gt6 (tyo_ok rfl)) st23 ?_
      refine ops_ok rfl (s_move rfl gt6 (tyo_ok rfl)) st24 ?_
      refine ops_ok rfl (s_bin rfl gt24 rfl rfl) st25 ?_
      refine bindF hF (fun m15 hm15 hF => ?_)
      refine ops_ok rfl (s_slcStr rfl ty9 gt22 (.some gt23) (.some gt25) hm15) st26 ?_
      refine chkF hF (fun hm16 hF => ?_)
      refine ops_ok rfl (s_bin rfl gt21 gt26 (if_pos hm16)) st27 ?_
      refine ops_ok rfl (s_assign rfl gt27 (tyo_ok rfl)) st5 ?_
      refine ops_nil ?_
      refine q_block ?_
      refine q_seq ?_
      refine r_region ?_
      refine ops_ok rfl (s_move rfl gt6 (tyo_ok rfl)) st11 ?_
      refine ops_ok rfl (s_bin rfl gt11 rfl rfl) st12 ?_
      refine ops_ok rfl (s_assign rfl gt12 (tyo_ok rfl)) st6 ?_
      refine ops_nil ?_
      refine q_loop ?_
      obtain rfl := Option.some.inj hF
      exact ⟨(s1.1, (s1.2 ++ m15)), hl1, hK1, wk.le (by exact (.eq (.drop (.drop (.drop (.cons (leV.of_eq rfl) (.cons (leV.of_eq rfl) (.cons (leV.of_eq (w64e (by omega) (by omega))) (.drop (.drop (.drop (.drop (.drop (.drop (.drop (.drop (.drop (.drop (.drop (.drop (.drop (.drop (.drop (.drop (.drop (.drop (.drop (.drop (.drop (.drop (.drop (.drop (.drop (.drop (.drop (.drop (.drop leL.nil)))))))))))))))))))))))))))))))))))))⟩
  · skip
    refine r_exit ?_
    refine q_seq_exit ?_
    refine q_loop_exit ?_
    refine q_block_hit ?_
    refine q_seq ?_
    refine r_seq ?_
    refine r_region ?_
    refine ops_ok rfl (s_move rfl gt4 (tyo_ok rfl)) st28 ?_
    refine ops_ok rfl (s_move rfl gt5 (tyo_ok rfl)) st29 ?_
    refine ops_ok rfl (s_buildSlice (es := ([s1.2] : List Str).map strRow) rfl el22 ze9 rfl rfl (parto_cons gt29 parto_nil) (.cons (tyo_ok rfl) .nil) rfl rfl rfl) st30 ?_
    refine chkF hF (fun hm17 hF => ?_)
    refine ops_ok rfl (e_appT (j := 0) (T' := [((s1.1 ++ ([s1.2] : List Str))).length]) rfl rfl rfl rfl el22 el22 gt28 gt30 (tyo_ok rfl) (tyo_ok rfl) news_osl hm17 rfl rfl) st31 ?_
    refine ops_ok rfl (s_assign rfl gt31 (tyo_ok rfl)) st4 ?_
    refine ops_nil ?_
    refine q_seq ?_
    refine r_seq ?_
    refine r_seq ?_
    refine r_region ?_
    refine ops_ok rfl (s_move rfl gt4 (tyo_ok rfl)) st32 ?_
    refine bindF hF (fun v18 hv18 hF => ?_)
    refine ops_callP rfl (s_call0 rfl rfl rfl (argo_cons gt32 argo_nil) (.cons (tyo_ok rfl) .nil)) ((ok9 hv18).le (.cons (leV.osl _ _ _) leL.nil)) st33 ?_
    refine ops_ok rfl (s_un rfl gt33 rfl) st34 ?_
    refine ops_nil ?_
    refine q_seq ?_
    refine r_condF gt34 hF (fun hc19 hF => ?_) (fun hc19 hF => ?_)
    · skip
      refine r_seq ?_
      refine r_region ?_
      refine ops_ok rfl (s_assign rfl rfl (ty_nil el22)) st2 ?_
      refine ops_ok rfl (s_assign rfl rfl (tyo_ok rfl)) st3 ?_
      refine ops_nil ?_
      refine q_seq ?_
      refine r_ret ?_
      refine q_seq_ret ?_
      obtain rfl := Option.some.inj hF
      refine q_retL rfl (rl_tmp gt2 (rl_tmp gt3 rl_nil)) (fin_ext (leV.tup (.cons (leV.osl _ _ _) (.eq leL.nil))) rfl ?_)
      exact ⟨rfl, rfl⟩
    · skip
      refine r_skip ?_
      refine q_seq ?_
      refine r_seq ?_
      refine r_region ?_
      refine ops_ok rfl (s_move rfl gt4 (tyo_ok rfl)) st35 ?_
      refine ops_ok rfl (s_assign rfl gt35 (tyo_ok rfl)) st2 ?_
      refine ops_ok rfl (s_assign rfl rfl (tyo_ok rfl)) st3 ?_
      refine ops_nil ?_
      refine q_seq ?_
      refine r_ret ?_
      obtain rfl := Option.some.inj hF
      refine q_retL rfl (rl_tmp gt2 (rl_tmp gt3 rl_nil)) (fin_ext (leV.tup (.cons (leV.osl _ _ _) (.eq leL.nil))) rfl ?_)
      exact ⟨rfl, rfl⟩
/-! varve/varveref04.MayPath -/
theorem ok22 {p0 : (List Str)} {res : Bool} {h : AH}  (hF : ref04MayPath p0 = some res) : Spec Tryd.prog 22 [.sl 1 (p0.map strRow)] h (fun rr hh => rr = .bool res ∧ hh = h) := by
  unfold ref04MayPath at hF
  refine spec_of_body_ext Tryd.func22 rfl (by kernel_rfl) (env := [.sl 1 (p0.map strRow), aundef, aundef, aundef, aundef, aundef, aundef, aundef, aundef, aundef, aundef, aundef, aundef, aundef, aundef, aundef, aundef, aundef, aundef, aundef, aundef, aundef, aundef, aundef]) (by rfl) ?_
  refine r_seq ?_
  refine r_region ?_
  refine ops_ok rfl (s_assign rfl rfl (tyo_ok rfl)) st2 ?_
  refine ops_nil ?_
  refine q_seq ?_
  refine r_seq ?_
  refine r_seq ?_
  refine r_region ?_
  refine ops_ok rfl (s_assign rfl rfl (tyo_ok rfl)) st3 ?_
  refine ops_nil ?_
  refine q_seq ?_
  refine r_block ?_
  refine r_loopLF (fun (n1 : Nat) (s1 : Unit) => [(1, .any), (2, .any), (3, .int .i64 (n1 : Int)), (4, .any), (5, .any), (6, .any), (7, .any), (8, .any), (9, .any), (10, .any), (11, .any), (12, .any), (13, .any), (14, .any), (15, .any), (16, .any), (17, .any), (18, .any), (19, .any), (20, .any), (21, .any), (22, .any), (23, .any)]) (fun s1 => h.ext [] []) hF (fun _ _ => by simp only [upd, List.set_cons_succ, List.set_cons_zero]; try rfl) (wk.le (by exact (.eq (.drop (.drop (.cons (leV.of_eq rfl) (.drop (.drop (.drop (.drop (.drop (.drop (.drop (.drop (.drop (.drop (.drop (.drop (.drop (.drop (.drop (.drop (.drop (.drop (.drop (.drop leL.nil)))))))))))))))))))))))))) ?_
  intro n1 s1 hi1 hF
  refine r_seq ?_
  refine r_seq ?_
  refine r_region ?_
  refine ops_ok rfl (s_move rfl gt3 (tyo_ok rfl)) st4 ?_
  refine ops_ok rfl (s_move rfl gt0 (tyo_ok rfl)) st5 ?_
  refine ops_len rfl (s_lenSl rfl rfl rfl rfl el22 gt5 lenMap) st6 fun hn8 => ?_
  replace hn8 := lenN hn8
  refine ops_ok rfl (s_bin rfl gt4 gt6 rfl) st7 ?_
  refine ops_nil ?_
  refine q_seq ?_
  refine r_condL gt7 hF (fun x1 o1 hl1 hx1 hF hK1 => ?_) (fun hF => ?_)
  · skip
    refine r_skip ?_
    refine q_seq ?_
    refine r_seq ?_
    refine r_block ?_
    refine r_seq ?_
    refine r_region ?_
    refine ops_ok rfl (s_move rfl gt0 (tyo_ok rfl)) st10 ?_
    refine ops_ok rfl (s_move rfl gt3 (tyo_ok rfl)) st11 ?_
    refine ops_ok rfl (s_idxRow rfl el22 gt10 gt11 isl (idx_of hx1)) st12 ?_
    refine ops_ok rfl (f_load rfl ty9 gt12 (ldC_one rfl) (tyo_ok rfl)) st13 ?_
    refine bindF hF (fun v9 hv9 hF => ?_)
    refine ops_callP rfl (s_call0 rfl rfl rfl (argo_cons gt13 argo_nil) (.cons (tyo_ok rfl) .nil)) (ok20 hv9) st14 ?_
    refine ops_ok rfl (s_un rfl gt14 rfl) st15 ?_
    refine ops_nil ?_
    refine q_seq ?_
    refine r_condF gt15 hF (fun hc10 hF => ?_) (fun hc10 hF => ?_)
    · skip
      refine r_seq ?_
      refine r_region ?_
      refine ops_ok rfl (s_assign rfl rfl (tyo_ok rfl)) st2 ?_
      refine ops_nil ?_
      refine q_seq ?_
      refine r_ret ?_
      refine q_block_ret ?_
      refine q_seq_ret ?_
      refine q_loop_ret ?_
      obtain rfl := Option.some.inj hF
      replace hF := hK1
      refine q_block_ret ?_
      refine q_seq_ret ?_
      obtain rfl := Option.some.inj hF
      refine q_retL1 rfl (rl_tmp gt2 rl_nil) (fin_ext (leV.refl _) rfl ?_)
      exact ⟨rfl, rfl⟩
    · skip
      refine r_skip ?_
      refine q_block ?_
      refine q_seq ?_
      refine r_region ?_
      refine ops_ok rfl (s_move rfl gt3 (tyo_ok rfl)) st8 ?_
      refine ops_ok rfl (s_bin rfl gt8 rfl rfl) st9 ?_
      refine ops_ok rfl (s_assign rfl gt9 (tyo_ok rfl)) st3 ?_
      refine ops_nil ?_
      refine q_loop ?_
      obtain rfl := Option.some.inj hF
      exact ⟨(), hl1, hK1, wk.le (by exact (.eq (.drop (.drop (.cons (leV.of_eq (w64e (by omega) (by omega))) (.drop (.drop (.drop (.drop (.drop (.drop (.drop (.drop (.drop (.drop (.drop (.drop (.drop (.drop (.drop (.drop (.drop (.drop (.drop (.drop leL.nil)))))))))))))))))))))))))⟩
  · skip
    refine r_exit ?_
    refine q_seq_exit ?_
    refine q_loop_exit ?_
    refine q_block_hit ?_
    refine q_seq ?_
    refine r_seq ?_
    refine r_region ?_
    refine ops_ok rfl (s_move rfl gt0 (tyo_ok rfl)) st16 ?_
    refine ops_len rfl (s_lenSl rfl rfl rfl rfl el22 gt16 lenMap) st17 fun hn11 => ?_
    replace hn11 := lenN hn11
    refine ops_ok rfl (s_bin rfl gt17 rfl rfl) st18 ?_
    refine ops_ok rfl (s_move rfl gt18 (tyo_ok rfl)) st19 ?_
    refine ops_gv rfl (fun hb => s_move rfl gt0 (tyo_ok rfl)) st20 ?_
    refine ops_glen rfl (fun hb => s_lenSl rfl rfl rfl rfl el22 (evo_gv gt20 hb) lenMap) st21 fun hn12 => ?_
    refine ops_gv rfl (fun hb => s_bin rfl (evo_gv gt21 hb) rfl rfl) st22 ?_
    refine ops_ok rfl (s_pick rfl gt19 gt22 rfl (pick_and (fun ht => gT ht))) st23 ?_
    refine ops_ok rfl (s_assign rfl gt23 (tyo_ok rfl)) st2 ?_
    refine ops_nil ?_
    refine q_seq ?_
    refine r_ret ?_
    obtain rfl := Option.some.inj hF
    refine q_retL1 rfl (rl_tmp gt2 rl_nil) (fin_ext (leV.refl _) rfl ?_)
    exact ⟨rfl, rfl⟩
/-! varve/varveref30.matches -/
theorem ok23N (n : Nat) : ∀ {p0 : (List Str)} {path1 : (List Str)} {res : Bool} {h : AH} , ref30XmatchesN n p0 path1 = some res → Spec Tryd.prog 23 [.sl 1 (p0.map strRow), .sl 1 (path1.map strRow)] h (fun rr hh => rr = .bool res ∧ hh = h) := by
  induction n with
  | zero => intro p0 path1 res h  hF; simp [ref30XmatchesN] at hF
  | succ n ih =>
    intro p0 path1 res h  hF
    unfold ref30XmatchesN at hF
    refine spec_of_body_ext Tryd.func23 rfl (by kernel_rfl) (env := [.sl 1 (p0.map strRow), .sl 1 (path1.map strRow), aundef, aundef, aundef, aundef, aundef, aundef, aundef, aundef, aundef, aundef, aundef, aundef, aundef, aundef, aundef, aundef, aundef, aundef, aundef, aundef, aundef, aundef, aundef, aundef, aundef, aundef, aundef, aundef, aundef, aundef, aundef, aundef, aundef, aundef, aundef, aundef, aundef, aundef]) (by rfl) ?_
    refine r_seq ?_
    refine r_region ?_
    refine ops_ok rfl (s_assign rfl rfl (tyo_ok rfl)) st4 ?_
    refine ops_nil ?_
    refine q_seq ?_
    refine r_seq ?_
    refine r_seq ?_
    refine r_region ?_
    refine ops_ok rfl (s_move rfl gt0 (tyo_ok rfl)) st5 ?_
    refine ops_len rfl (s_lenSl rfl rfl rfl rfl el22 gt5 lenMap) st6 fun hn1 => ?_
    replace hn1 := lenN hn1
    refine ops_ok rfl (s_bin rfl gt6 rfl rfl) st7 ?_
    refine ops_nil ?_
    refine q_seq ?_
    refine r_condF gt7 hF (fun hc2 hF => ?_) (fun hc2 hF => ?_)
    · skip
      refine r_seq ?_
      refine r_region ?_
      refine ops_ok rfl (s_move rfl gt1 (tyo_ok rfl)) st8 ?_
      refine ops_len rfl (s_lenSl rfl rfl rfl rfl el22 gt8 lenMap) st9 fun hn3 => ?_
      replace hn3 := lenN hn3
      refine ops_ok rfl (s_bin rfl gt9 rfl rfl) st10 ?_
      refine ops_ok rfl (s_assign rfl gt10 (tyo_ok rfl)) st4 ?_
      refine ops_nil ?_
      refine q_seq ?_
      refine r_ret ?_
      refine q_seq_ret ?_
      obtain rfl := Option.some.inj hF
      refine q_retL1 rfl (rl_tmp gt4 rl_nil) (fin_ext (leV.refl _) rfl ?_)
      exact ⟨rfl, rfl⟩
    · skip
      refine r_skip ?_
      refine q_seq ?_
      refine r_seq ?_
      refine r_seq ?_
      refine r_region ?_
      refine ops_ok rfl (s_move rfl gt0 (tyo_ok rfl)) st11 ?_
      refine bindF hF (fun y4 hy4 hF => ?_)
      refine ops_ok rfl (s_idxRow rfl el22 gt11 rfl isl hy4) st12 ?_
      refine ops_ok rfl (f_load rfl ty9 gt12 (ldC_one rfl) (tyo_ok rfl)) st13 ?_
      refine ops_ok rfl (s_bin rfl gt13 rfl rfl) st14 ?_
      refine ops_nil ?_
      refine q_seq ?_
      refine r_condF gt14 hF (fun hc5 hF => ?_) (fun hc5 hF => ?_)
      · skip
        refine r_seq ?_
        refine r_region ?_
        refine ops_ok rfl (s_assign rfl rfl (tyo_ok rfl)) st4 ?_
        refine ops_nil ?_
        refine q_seq ?_
        refine r_ret ?_
        refine q_seq_ret ?_
        obtain rfl := Option.some.inj hF
        refine q_retL1 rfl (rl_tmp gt4 rl_nil) (fin_ext (leV.refl _) rfl ?_)
        exact ⟨rfl, rfl⟩
      · skip
        refine r_skip ?_
        refine q_seq ?_
        refine r_seq ?_
        refine r_drawn [] [] trivial mixed (by kernel_rfl) ?_
        refine draw_ok rfl rfl (s_move rfl gt1 (tyo_ok rfl)) st15 ?_
        refine draw_len rfl rfl (s_lenSl rfl rfl rfl rfl el22 gt15 lenMap) st16 ?_
        refine draw_ok rfl rfl (s_bin rfl gt16 rfl rfl) st17 ?_
        refine draw_ok rfl rfl (s_move rfl gt17 (tyo_ok rfl)) st18 ?_
        refine draw_gv rfl rfl (fun hb => s_move rfl gt0 (tyo_ok rfl)) st19 ?_
        refine chkF hF (fun hg7 hF => ?_)
        refine draw_gv rfl rfl (fun hb => s_gidxRow default rfl el22 (evo_gv gt19 hb) rfl isl (hg7 hb)) st20 ?_
        refine draw_gv rfl rfl (fun hb => f_load rfl ty9 (evo_gv gt20 hb) (ldC_one rfl) (tyo_ok rfl)) st21 ?_
        refine draw_gv rfl rfl (fun hb => s_bin rfl (evo_gv gt21 hb) rfl rfl) st22 ?_
        refine draw_gv rfl rfl (fun hb => s_move rfl (evo_gv gt22 hb) (tyo_ok rfl)) st23 ?_
        refine draw_gv rfl (aG_gv rfl rfl rfl) (fun hb => s_move rfl gt0 (tyo_ok rfl)) st24 ?_
        refine chkF hF (fun hg8 hF => ?_)
        refine draw_gv rfl (aG_gv rfl rfl rfl) (fun hb => s_gidxRow default rfl el22 (evo_gv gt24 hb) rfl isl (hg8 hb)) st25 ?_
        refine draw_gv rfl (aG_gv rfl rfl rfl) (fun hb => f_load rfl ty9 (evo_gv gt25 hb) (ldC_one rfl) (tyo_ok rfl)) st26 ?_
        refine draw_gv rfl (aG_gv rfl rfl rfl) (fun hb => s_move rfl gt1 (tyo_ok rfl)) st27 ?_
        refine chkF hF (fun hg9 hF => ?_)
        refine draw_gv rfl (aG_gv rfl rfl rfl) (fun hb => s_gidxRow default rfl el22 (evo_gv gt27 hb) rfl isl (hg9 hb)) st28 ?_
        refine draw_gv rfl (aG_gv rfl rfl rfl) (fun hb => f_load rfl ty9 (evo_gv gt28 hb) (ldC_one rfl) (tyo_ok rfl)) st29 ?_
        refine draw_gv rfl (aG_gv rfl rfl rfl) (fun hb => s_bin rfl (evo_gv gt26 hb) (evo_gv gt29 hb) rfl) st30 ?_
        refine draw_gv rfl rfl (fun hb => s_pick rfl (evo_gv gt23 hb) rfl gt30 (pick_or (fun ht => gF2 hb ht))) st31 ?_
        refine draw_ok rfl rfl (s_pick rfl gt18 gt31 rfl (pick_and (fun ht => gT ht))) st32 ?_
        refine draw_ok rfl rfl (s_move rfl gt32 (tyo_ok rfl)) st33 ?_
        refine draw_gv rfl rfl (fun hb => s_move rfl gt0 (tyo_ok rfl)) st34 ?_
        refine chkF hF (fun hg11 hF => ?_)
        refine draw_gv rfl rfl (fun hb => s_slcSl rfl el22 (evo_gv gt34 hb) (.inl rfl) (.some rfl) .none (slc_of (hg11 hb))) st35 ?_
        refine draw_gv rfl rfl (fun hb => s_move rfl gt1 (tyo_ok rfl)) st36 ?_
        refine chkF hF (fun hg13 hF => ?_)
        refine draw_gv rfl rfl (fun hb => s_slcSl rfl el22 (evo_gv gt36 hb) (.inl rfl) (.some rfl) .none (slc_of (hg13 hb))) st37 ?_
        refine gbindF hF (fun v14 hv14 hF => ?_)
        refine draw_gcall rfl rfl (fun hb => s_call0 rfl rfl rfl (argo_cons (evo_gv gt35 hb) (argo_cons (evo_gv gt37 hb) argo_nil)) (.cons (tyo_ok rfl) (.cons (tyo_ok rfl) .nil))) (fun hb => ih (hv14 hb)) st38 ?_
        refine draw_ok rfl rfl (s_pick rfl gt33 gt38 rfl (pick_and (fun ht => gT ht))) st39 ?_
        refine draw_ok rfl rfl (s_assign rfl gt39 (tyo_ok rfl)) st4 ?_
        refine draw_nil ?_
        refine q_seq ?_
        refine r_ret ?_
        obtain rfl := Option.some.inj hF
        refine q_retL1 rfl (rl_tmp gt4 rl_nil) (fin_ext (leV.refl _) rfl ?_)
        exact ⟨rfl, rfl⟩
theorem ok23 {p0 : (List Str)} {path1 : (List Str)} {res : Bool} {h : AH}  (hF : ref30Xmatches p0 path1 = some res) : Spec Tryd.prog 23 [.sl 1 (p0.map strRow), .sl 1 (path1.map strRow)] h (fun rr hh => rr = .bool res ∧ hh = h) := by
  obtain ⟨n, hn⟩ := anyN_is hF
  exact ok23N n  hn
/-! varve/varveref30.Match -/
theorem ok11 {p0 : (List Str)} {path1 : (List Str)} {res : Bool} {h : AH}  (hF : ref30Match p0 path1 = some res) : Spec Tryd.prog 11 [.sl 1 (p0.map strRow), .sl 1 (path1.map strRow)] h (fun rr hh => rr = .bool res ∧ hh = h) := by
  unfold ref30Match at hF
  refine spec_of_body_ext Tryd.func11 rfl (by kernel_rfl) (env := [.sl 1 (p0.map strRow), .sl 1 (path1.map strRow), aundef, aundef, aundef, aundef, aundef, aundef, aundef, aundef, aundef, aundef, aundef, aundef, aundef, aundef]) (by rfl) ?_
  refine r_seq ?_
  refine r_region ?_
  refine ops_ok rfl (s_assign rfl rfl (tyo_ok rfl)) st4 ?_
  refine ops_nil ?_
  refine q_seq ?_
  refine r_seq ?_
  refine r_region ?_
  refine ops_ok rfl (s_move rfl gt0 (tyo_ok rfl)) st5 ?_
  refine bindF hF (fun v1 hv1 hF => ?_)
  refine ops_callP rfl (s_call0 rfl rfl rfl (argo_cons gt5 argo_nil) (.cons (tyo_ok rfl) .nil)) (ok9 hv1) st6 ?_
  refine ops_ok rfl (s_move rfl gt6 (tyo_ok rfl)) st7 ?_
  refine ops_gv rfl (fun hb => s_move rfl gt1 (tyo_ok rfl)) st8 ?_
  refine gbindF hF (fun v2 hv2 hF => ?_)
  refine ops_gcall rfl (fun hb => s_call0 rfl rfl rfl (argo_cons (evo_gv gt8 hb) argo_nil) (.cons (tyo_ok rfl) .nil)) (fun hb => ok22 (hv2 hb)) st9 ?_
  refine ops_ok rfl (s_pick rfl gt7 gt9 rfl (pick_and (fun ht => gT ht))) st10 ?_
  refine ops_ok rfl (s_move rfl gt10 (tyo_ok rfl)) st11 ?_
  refine ops_gv rfl (fun hb => s_move rfl gt0 (tyo_ok rfl)) st12 ?_
  refine ops_gv rfl (fun hb => s_move rfl gt1 (tyo_ok rfl)) st13 ?_
  refine gbindF hF (fun v3 hv3 hF => ?_)
  refine ops_gcall rfl (fun hb => s_call0 rfl rfl rfl (argo_cons (evo_gv gt12 hb) (argo_cons (evo_gv gt13 hb) argo_nil)) (.cons (tyo_ok rfl) (.cons (tyo_ok rfl) .nil))) (fun hb => ok23 (hv3 hb)) st14 ?_
  refine ops_ok rfl (s_pick rfl gt11 gt14 rfl (pick_and (fun ht => gT ht))) st15 ?_
  refine ops_ok rfl (s_assign rfl gt15 (tyo_ok rfl)) st4 ?_
  refine ops_nil ?_
  refine q_seq ?_
  refine r_ret ?_
  obtain rfl := Option.some.inj hF
  refine q_retL1 rfl (rl_tmp gt4 rl_nil) (fin_ext (leV.refl _) rfl ?_)
  exact ⟨rfl, rfl⟩
/-! varve/varveref30.Text -/
theorem ok13 {p0 : (List Str)} {res : Str} {h : AH}  (hF : ref30Text p0 = some res) : Spec Tryd.prog 13 [.sl 1 (p0.map strRow)] h (fun rr hh => rr = .str res ∧ hh = h) := by
  unfold ref30Text at hF
  refine spec_of_body_ext Tryd.func13 rfl (by kernel_rfl) (env := [.sl 1 (p0.map strRow), aundef, aundef, aundef, aundef, aundef, aundef, aundef, aundef, aundef, aundef, aundef, aundef, aundef, aundef, aundef, aundef, aundef, aundef, aundef, aundef, aundef, aundef, aundef, aundef]) (by rfl) ?_
  refine r_seq ?_
  refine r_region ?_
  refine ops_ok rfl (s_assign rfl rfl (tyo_ok rfl)) st2 ?_
  refine ops_nil ?_
  refine q_seq ?_
  refine r_seq ?_
  refine r_seq ?_
  refine r_region ?_
  refine ops_ok rfl (s_move rfl gt0 (tyo_ok rfl)) st5 ?_
  refine bindF hF (fun v1 hv1 hF => ?_)
  refine ops_callP rfl (s_call0 rfl rfl rfl (argo_cons gt5 argo_nil) (.cons (tyo_ok rfl) .nil)) (ok9 hv1) st6 ?_
  refine ops_ok rfl (s_un rfl gt6 rfl) st7 ?_
  refine ops_nil ?_
  refine q_seq ?_
  refine r_condF gt7 hF (fun hc2 hF => ?_) (fun hc2 hF => ?_)
  · skip
    refine r_seq ?_
    refine r_region ?_
    refine ops_ok rfl (s_assign rfl rfl (tyo_ok rfl)) st2 ?_
    refine ops_nil ?_
    refine q_seq ?_
    refine r_ret ?_
    refine q_seq_ret ?_
    obtain rfl := Option.some.inj hF
    refine q_retL1 rfl (rl_tmp gt2 rl_nil) (fin_ext (leV.refl _) rfl ?_)
    exact ⟨rfl, rfl⟩
  · skip
    refine r_skip ?_
    refine q_seq ?_
    refine r_seq ?_
    refine r_region ?_
    refine ops_ok rfl (s_move rfl gt0 (tyo_ok rfl)) st8 ?_
    refine bindF hF (fun y3 hy3 hF => ?_)
    refine ops_ok rfl (s_idxRow rfl el22 gt8 rfl isl hy3) st9 ?_
    refine ops_ok rfl (f_load rfl ty9 gt9 (ldC_one rfl) (tyo_ok rfl)) st10 ?_
    refine ops_ok rfl (s_assign rfl gt10 (tyo_ok rfl)) st3 ?_
    refine ops_nil ?_
    refine q_seq ?_
    refine r_seq ?_
    refine r_seq ?_
    refine r_region ?_
    refine ops_ok rfl (s_assign rfl rfl (tyo_ok rfl)) st4 ?_
    refine ops_nil ?_
    refine q_seq ?_
    refine r_block ?_
    refine r_loopWF (fun (s1 : Str × Int) => [(1, .any), (2, .any), (3, .str s1.1), (4, .int .i64 s1.2), (5, .any), (6, .any), (7, .any), (8, .any), (9, .any), (10, .any), (11, .any), (12, .any), (13, .any), (14, .any), (15, .any), (16, .any), (17, .any), (18, .any), (19, .any), (20, .any), (21, .any), (22, .any), (23, .any), (24, .any)]) (fun s1 => h.ext [] []) hF (fun _ => by simp only [upd, List.set_cons_succ, List.set_cons_zero]; try rfl) (wk.le (by exact (.eq (.drop (.drop (.cons (leV.of_eq rfl) (.cons (leV.of_eq rfl) (.drop (.drop (.drop (.drop (.drop (.drop (.drop (.drop (.drop (.drop (.drop (.drop (.drop (.drop (.drop (.drop (.drop (.drop (.drop (.drop leL.nil))))))))))))))))))))))))))) ?_
    intro n1 s1 o1 hF hK1
    refine r_seq ?_
    refine r_seq ?_
    refine r_region ?_
    refine ops_ok rfl (s_move rfl gt4 (tyo_ok rfl)) st11 ?_
    refine ops_ok rfl (s_move rfl gt0 (tyo_ok rfl)) st12 ?_
    refine ops_len rfl (s_lenSl rfl rfl rfl rfl el22 gt12 lenMap) st13 fun hn11 => ?_
    replace hn11 := lenN hn11
    refine ops_ok rfl (s_bin rfl gt11 gt13 rfl) st14 ?_
    refine ops_nil ?_
    refine q_seq ?_
    refine r_condF gt14 hF (fun hc12 hF => ?_) (fun hc12 hF => ?_)
    · skip
      refine r_skip ?_
      refine q_seq ?_
      refine r_seq ?_
      refine r_block ?_
      refine r_region ?_
      refine ops_ok rfl (s_move rfl gt3 (tyo_ok rfl)) st17 ?_
      refine chkF hF (fun hm13 hF => ?_)
      refine ops_ok rfl (s_bin rfl gt17 rfl (if_pos hm13)) st18 ?_
      refine ops_ok rfl (s_move rfl gt0 (tyo_ok rfl)) st19 ?_
      refine ops_ok rfl (s_move rfl gt4 (tyo_ok rfl)) st20 ?_
      refine bindF hF (fun y14 hy14 hF => ?_)
      refine ops_ok rfl (s_idxRow rfl el22 gt19 gt20 isl hy14) st21 ?_
      refine ops_ok rfl (f_load rfl ty9 gt21 (ldC_one rfl) (tyo_ok rfl)) st22 ?_
      refine chkF hF (fun hm15 hF => ?_)
      refine ops_ok rfl (s_bin rfl gt18 gt22 (if_pos hm15)) st23 ?_
      refine ops_ok rfl (s_assign rfl gt23 (tyo_ok rfl)) st3 ?_
      refine ops_nil ?_
      refine q_block ?_
      refine q_seq ?_
      refine r_region ?_
      refine ops_ok rfl (s_move rfl gt4 (tyo_ok rfl)) st15 ?_
      refine ops_ok rfl (s_bin rfl gt15 rfl rfl) st16 ?_
      refine ops_ok rfl (s_assign rfl gt16 (tyo_ok rfl)) st4 ?_
      refine ops_nil ?_
      refine q_loop ?_
      obtain rfl := Option.some.inj hF
      exact ⟨(((s1.1 ++ ([47] : Str)) ++ y14), (IntKind.wrap .i64 (s1.2 + (1 : Int)))), hK1, wk.le (by exact (.eq (.drop (.drop (.cons (leV.of_eq rfl) (.cons (leV.of_eq rfl) (.drop (.drop (.drop (.drop (.drop (.drop (.drop (.drop (.drop (.drop (.drop (.drop (.drop (.drop (.drop (.drop (.drop (.drop (.drop (.drop leL.nil))))))))))))))))))))))))))⟩
    · skip
      refine r_exit ?_
      refine q_seq_exit ?_
      refine q_loop_exit ?_
      obtain rfl := Option.some.inj hF
      replace hF := hK1
      refine q_block_hit ?_
      refine q_seq ?_
      refine r_seq ?_
      refine r_region ?_
      refine ops_ok rfl (s_move rfl gt3 (tyo_ok rfl)) st24 ?_
      refine ops_ok rfl (s_assign rfl gt24 (tyo_ok rfl)) st2 ?_
      refine ops_nil ?_
      refine q_seq ?_
      refine r_ret ?_
      obtain rfl := Option.some.inj hF
      refine q_retL1 rfl (rl_tmp gt2 rl_nil) (fin_ext (leV.refl _) rfl ?_)
      exact ⟨rfl, rfl⟩
/-! varve/varveref30.SamePath -/
theorem ok14 {a0 : (List Str)} {b1 : (List Str)} {res : Bool} {h : AH}  (hF : ref30SamePath a0 b1 = some res) : Spec Tryd.prog 14 [.sl 1 (a0.map strRow), .sl 1 (b1.map strRow)] h (fun rr hh => rr = .bool res ∧ hh = h) := by
  unfold ref30SamePath at hF
  refine spec_of_body_ext Tryd.func14 rfl (by kernel_rfl) (env := [.sl 1 (a0.map strRow), .sl 1 (b1.map strRow), aundef, aundef, aundef, aundef, aundef, aundef, aundef, aundef, aundef, aundef, aundef, aundef, aundef, aundef, aundef, aundef, aundef, aundef, aundef, aundef, aundef, aundef, aundef, aundef]) (by rfl) ?_
  refine r_seq ?_
  refine r_region ?_
  refine ops_ok rfl (s_assign rfl rfl (tyo_ok rfl)) st4 ?_
  refine ops_nil ?_
  refine q_seq ?_
  refine r_seq ?_
  refine r_seq ?_
  refine r_region ?_
  refine ops_ok rfl (s_move rfl gt0 (tyo_ok rfl)) st6 ?_
  refine ops_len rfl (s_lenSl rfl rfl rfl rfl el22 gt6 lenMap) st7 fun hn1 => ?_
  replace hn1 := lenN hn1
  refine ops_ok rfl (s_move rfl gt1 (tyo_ok rfl)) st8 ?_
  refine ops_len rfl (s_lenSl rfl rfl rfl rfl el22 gt8 lenMap) st9 fun hn2 => ?_
  replace hn2 := lenN hn2
  refine ops_ok rfl (s_bin rfl gt7 gt9 rfl) st10 ?_
  refine ops_nil ?_
  refine q_seq ?_
  refine r_condF gt10 hF (fun hc3 hF => ?_) (fun hc3 hF => ?_)
  · skip
    refine r_seq ?_
    refine r_region ?_
    refine ops_ok rfl (s_assign rfl rfl (tyo_ok rfl)) st4 ?_
    refine ops_nil ?_
    refine q_seq ?_
    refine r_ret ?_
    refine q_seq_ret ?_
    obtain rfl := Option.some.inj hF
    refine q_retL1 rfl (rl_tmp gt4 rl_nil) (fin_ext (leV.refl _) rfl ?_)
    exact ⟨rfl, rfl⟩
  · skip
    refine r_skip ?_
    refine q_seq ?_
    refine r_seq ?_
    refine r_seq ?_
    refine r_region ?_
    refine ops_ok rfl (s_assign rfl rfl (tyo_ok rfl)) st5 ?_
    refine ops_nil ?_
    refine q_seq ?_
    refine r_block ?_
    refine r_loopLF (fun (n1 : Nat) (s1 : Unit) => [(2, .any), (3, .any), (4, .any), (5, .int .i64 (n1 : Int)), (6, .any), (7, .any), (8, .any), (9, .any), (10, .any), (11, .any), (12, .any), (13, .any), (14, .any), (15, .any), (16, .any), (17, .any), (18, .any), (19, .any), (20, .any), (21, .any), (22, .any), (23, .any), (24, .any), (25, .any)]) (fun s1 => h.ext [] []) hF (fun _ _ => by simp only [upd, List.set_cons_succ, List.set_cons_zero]; try rfl) (wk.le (by exact (.eq (.eq (.drop (.drop (.drop (.cons (leV.of_eq rfl) (.drop (.drop (.drop (.drop (.drop (.drop (.drop (.drop (.drop (.drop (.drop (.drop (.drop (.drop (.drop (.drop (.drop (.drop (.drop (.drop leL.nil)))))))))))))))))))))))))))) ?_
    intro n1 s1 hi1 hF
    refine r_seq ?_
    refine r_seq ?_
    refine r_region ?_
    refine ops_ok rfl (s_move rfl gt5 (tyo_ok rfl)) st11 ?_
    refine ops_ok rfl (s_move rfl gt0 (tyo_ok rfl)) st12 ?_
    refine ops_len rfl (s_lenSl rfl rfl rfl rfl el22 gt12 lenMap) st13 fun hn11 => ?_
    replace hn11 := lenN hn11
    refine ops_ok rfl (s_bin rfl gt11 gt13 rfl) st14 ?_
    refine ops_nil ?_
    refine q_seq ?_
    refine r_condL gt14 hF (fun x1 o1 hl1 hx1 hF hK1 => ?_) (fun hF => ?_)
    · skip
      refine r_skip ?_
      refine q_seq ?_
      refine r_seq ?_
      refine r_block ?_
      refine r_seq ?_
      refine r_drawn [] [] trivial mixed (by kernel_rfl) ?_
      refine draw_ok rfl rfl (s_move rfl gt0 (tyo_ok rfl)) st17 ?_
      refine draw_ok rfl rfl (s_move rfl gt5 (tyo_ok rfl)) st18 ?_
      refine draw_ok rfl rfl (s_idxRow rfl el22 gt17 gt18 isl (idx_of hx1)) st19 ?_
      refine draw_ok rfl rfl (f_load rfl ty9 gt19 (ldC_one rfl) (tyo_ok rfl)) st20 ?_
      refine draw_ok rfl rfl (s_move rfl gt1 (tyo_ok rfl)) st21 ?_
      refine draw_ok rfl rfl (s_move rfl gt5 (tyo_ok rfl)) st22 ?_
      refine bindF hF (fun y12 hy12 hF => ?_)
      refine draw_ok rfl rfl (s_idxRow rfl el22 gt21 gt22 isl hy12) st23 ?_
      refine draw_ok rfl rfl (f_load rfl ty9 gt23 (ldC_one rfl) (tyo_ok rfl)) st24 ?_
      refine draw_ok rfl rfl (s_bin rfl gt20 gt24 rfl) st25 ?_
      refine draw_nil ?_
      refine q_seq ?_
      refine r_condF gt25 hF (fun hc13 hF => ?_) (fun hc13 hF => ?_)
      · skip
        refine r_seq ?_
        refine r_region ?_
        refine ops_ok rfl (s_assign rfl rfl (tyo_ok rfl)) st4 ?_
        refine ops_nil ?_
        refine q_seq ?_
        refine r_ret ?_
        refine q_block_ret ?_
        refine q_seq_ret ?_
        refine q_loop_ret ?_
        obtain rfl := Option.some.inj hF
        replace hF := hK1
        refine q_block_ret ?_
        refine q_seq_ret ?_
        obtain rfl := Option.some.inj hF
        refine q_retL1 rfl (rl_tmp gt4 rl_nil) (fin_ext (leV.refl _) rfl ?_)
        exact ⟨rfl, rfl⟩
      · skip
        refine r_skip ?_
        refine q_block ?_
        refine q_seq ?_
        refine r_region ?_
        refine ops_ok rfl (s_move rfl gt5 (tyo_ok rfl)) st15 ?_
        refine ops_ok rfl (s_bin rfl gt15 rfl rfl) st16 ?_
        refine ops_ok rfl (s_assign rfl gt16 (tyo_ok rfl)) st5 ?_
        refine ops_nil ?_
        refine q_loop ?_
        obtain rfl := Option.some.inj hF
        exact ⟨(), hl1, hK1, wk.le (by exact (.eq (.eq (.drop (.drop (.drop (.cons (leV.of_eq (w64e (by omega) (by omega))) (.drop (.drop (.drop (.drop (.drop (.drop (.drop (.drop (.drop (.drop (.drop (.drop (.drop (.drop (.drop (.drop (.drop (.drop (.drop (.drop leL.nil)))))))))))))))))))))))))))⟩
    · skip
      refine r_exit ?_
      refine q_seq_exit ?_
      refine q_loop_exit ?_
      refine q_block_hit ?_
      refine q_seq ?_
      refine r_seq ?_
      refine r_region ?_
      refine ops_ok rfl (s_assign rfl rfl (tyo_ok rfl)) st4 ?_
      refine ops_nil ?_
      refine q_seq ?_
      refine r_ret ?_
      obtain rfl := Option.some.inj hF
      refine q_retL1 rfl (rl_tmp gt4 rl_nil) (fin_ext (leV.refl _) rfl ?_)
      exact ⟨rfl, rfl⟩
/-! varve/varvelaw30.PathsMatch -/
theorem ok3 {p0 : (List Str)} {path1 : (List Str)} {s2 : Str} {res : Bool} {h : AH}  (hF : law30PathsMatch p0 path1 s2 = some res) : Spec Tryd.prog 3 [.sl 1 (p0.map strRow), .sl 1 (path1.map strRow), .str s2] h (fun rr hh => rr = .bool res ∧ hh = h) := by
  unfold law30PathsMatch at hF
  refine spec_of_body_ext Tryd.func3 rfl (by kernel_rfl) (env := [.sl 1 (p0.map strRow), .sl 1 (path1.map strRow), .str s2, aundef, aundef, aundef, aundef, aundef, aundef, aundef, aundef, aundef, aundef, aundef, aundef, aundef, aundef, aundef, aundef, aundef, aundef, aundef, aundef, aundef, aundef, aundef, aundef, aundef, aundef, aundef, aundef, aundef, aundef, aundef, aundef, aundef, aundef, aundef, aundef, aundef, aundef, aundef, aundef, aundef, aundef, aundef, aundef, aundef, aundef, aundef, aundef, aundef, aundef, aundef, aundef, aundef, aundef, aundef, aundef, aundef, aundef, aundef, aundef, aundef, aundef, aundef, aundef, aundef, aundef, aundef, aundef, aundef, aundef, aundef, aundef, aundef, aundef, aundef, aundef, aundef, aundef, aundef, aundef, aundef, aundef, aundef]) (by rfl) ?_
  refine r_seq ?_
  refine r_region ?_
  refine ops_ok rfl (s_assign rfl rfl (tyo_ok rfl)) st6 ?_
  refine ops_nil ?_
  refine q_seq ?_
  refine r_seq ?_
  refine r_seq ?_
  refine r_region ?_
  refine ops_ok rfl (s_move rfl gt0 (tyo_ok rfl)) st13 ?_
  refine ops_ok rfl (s_move rfl gt1 (tyo_ok rfl)) st14 ?_
  refine ops_ok rfl (s_buildSlice (es := ([p0, path1] : List (List Str)).map (fun l => [AV.sl 1 (l.map strRow)])) rfl el32 ze22 rfl rfl (parto_cons gt13 (parto_cons gt14 parto_nil)) (.cons (tyo_ok rfl) (.cons (tyo_ok rfl) .nil)) rfl rfl rfl) st15 ?_
  refine bindF hF (fun v1 hv1 hF => ?_)
  refine ops_callP rfl (s_call0 rfl rfl rfl (argo_cons gt15 argo_nil) (.cons (tyo_ok rfl) .nil)) ((ok4 hv1).le (.cons (leV.osl _ _ _) leL.nil)) st16 ?_
  refine ops_ok rfl (s_move rfl gt16 (tyo_ok rfl)) st17 ?_
  refine ops_gv rfl (fun hb => s_move rfl gt2 (tyo_ok rfl)) st18 ?_
  refine ops_glen rfl (fun hb => s_lenStr rfl rfl rfl rfl ty9 (evo_gv gt18 hb)) st19 fun hn2 => ?_
  refine ops_gv rfl (fun hb => s_bin rfl (evo_gv gt19 hb) rfl rfl) st20 ?_
  refine ops_ok rfl (s_pick rfl gt17 rfl gt20 (pick_or (fun ht => gF ht))) st21 ?_
  refine ops_nil ?_
  refine q_seq ?_
  refine r_condF gt21 hF (fun hc3 hF => ?_) (fun hc3 hF => ?_)
  · skip
    refine r_seq ?_
    refine r_region ?_
    refine bindF hF (fun v4 hv4 hF => ?_)
    refine ops_callP rfl (s_call0 rfl rfl rfl argo_nil .nil) (ok5 hv4) st22 ?_
    refine ops_ok rfl (s_assign rfl gt22 (tyo_ok rfl)) st6 ?_
    refine ops_nil ?_
    refine q_seq ?_
    refine r_ret ?_
    refine q_seq_ret ?_
    obtain rfl := Option.some.inj hF
    refine q_retL1 rfl (rl_tmp gt6 rl_nil) (fin_ext (leV.refl _) rfl ?_)
    exact ⟨rfl, rfl⟩
  · skip
    refine r_skip ?_
    refine q_seq ?_
    refine r_seq ?_
    refine r_region ?_
    refine ops_ok rfl (s_move rfl gt2 (tyo_ok rfl)) st24 ?_
    refine bindF hF (fun v5 hv5 hF => ?_)
    refine ops_callP rfl (s_call0 rfl rfl rfl (argo_cons gt24 argo_nil) (.cons (tyo_ok rfl) .nil)) (ok6 hv5) st25 ?_
    refine ops_ok rfl (s_move rfl gt25 (tyo_ok rfl)) st23 ?_
    refine ops_ok rfl (s_extract rfl gt23 rfl (tyo_ok rfl)) st26 ?_
    refine ops_ok rfl (s_extract rfl gt23 rfl (tyo_ok rfl)) st27 ?_
    refine ops_ok rfl (s_assign rfl gt26 (tyo_ok rfl)) st7 ?_
    refine ops_ok rfl (s_assign rfl gt27 (tyo_ok rfl)) st8 ?_
    refine ops_nil ?_
    refine q_seq ?_
    refine r_seq ?_
    refine r_region ?_
    refine ops_ok rfl (s_move rfl gt2 (tyo_ok rfl)) st29 ?_
    refine bindF hF (fun v6 hv6 hF => ?_)
    refine ops_callP rfl (s_call0 rfl rfl rfl (argo_cons gt29 argo_nil) (.cons (tyo_ok rfl) .nil)) (ok7 hv6) st30 ?_
    refine ops_ok rfl (s_move rfl gt30 (tyo_ok rfl)) st28 ?_
    refine ops_ok rfl (s_extract rfl gt28 rfl (tyo_ok rfl)) st31 ?_
    refine ops_ok rfl (s_extract rfl gt28 rfl (tyo_ok rfl)) st32 ?_
    refine ops_ok rfl (s_assign rfl gt31 (tyo_ok rfl)) st9 ?_
    refine ops_ok rfl (s_assign rfl gt32 (tyo_ok rfl)) st10 ?_
    refine ops_nil ?_
    refine q_seq ?_
    refine r_seq ?_
    refine r_seq ?_
    refine r_region ?_
    refine ops_ok rfl (s_move rfl gt0 (tyo_ok rfl)) st33 ?_
    refine bindF hF (fun v7 hv7 hF => ?_)
    refine ops_callP rfl (s_call0 rfl rfl rfl (argo_cons gt33 argo_nil) (.cons (tyo_ok rfl) .nil)) (ok8 hv7) st34 ?_
    refine ops_ok rfl (s_move rfl gt0 (tyo_ok rfl)) st35 ?_
    refine bindF hF (fun v8 hv8 hF => ?_)
    refine ops_callP rfl (s_call0 rfl rfl rfl (argo_cons gt35 argo_nil) (.cons (tyo_ok rfl) .nil)) (ok9 hv8) st36 ?_
    refine ops_ok rfl (s_bin rfl gt34 gt36 (bin_boolN ty4)) st37 ?_
    refine ops_ok rfl (s_move rfl gt37 (tyo_ok rfl)) st38 ?_
    refine ops_gv rfl (fun hb => s_move rfl gt0 (tyo_ok rfl)) st39 ?_
    refine ops_gv rfl (fun hb => s_move rfl gt1 (tyo_ok rfl)) (sk st0) ?_
    refine gbindF hF (fun v9 hv9 hF => ?_)
    refine ops_gcall rfl (fun hb => s_call0 rfl rfl rfl (argo_cons (evo_gv gt39 hb) (argo_cons (evo_gv (gk gt0) hb) argo_nil)) (.cons (tyo_ok rfl) (.cons (tyo_ok rfl) .nil))) (fun hb => ok10 (hv9 hb)) (sk st1) ?_
    refine ops_gv rfl (fun hb => s_move rfl gt0 (tyo_ok rfl)) (sk st2) ?_
    refine ops_gv rfl (fun hb => s_move rfl gt1 (tyo_ok rfl)) (sk st3) ?_
    refine gbindF hF (fun v10 hv10 hF => ?_)
    refine ops_gcall rfl (fun hb => s_call0 rfl rfl rfl (argo_cons (evo_gv (gk gt2) hb) (argo_cons (evo_gv (gk gt3) hb) argo_nil)) (.cons (tyo_ok rfl) (.cons (tyo_ok rfl) .nil))) (fun hb => ok11 (hv10 hb)) (sk st4) ?_
    refine ops_gv rfl (fun hb => s_bin rfl (evo_gv (gk gt1) hb) (evo_gv (gk gt4) hb) (bin_boolN ty4)) (sk st5) ?_
    refine ops_ok rfl (s_pick rfl gt38 rfl (gk gt5) (pick_or (fun ht => gF ht))) (sk st6) ?_
    refine ops_ok rfl (s_move rfl (gk gt6) (tyo_ok rfl)) (sk st7) ?_
    refine ops_gv rfl (fun hb => s_move rfl gt0 (tyo_ok rfl)) (sk st8) ?_
    refine gbindF hF (fun v11 hv11 hF => ?_)
    refine ops_gcall rfl (fun hb => s_call0 rfl rfl rfl (argo_cons (evo_gv (gk gt8) hb) argo_nil) (.cons (tyo_ok rfl) .nil)) (fun hb => ok12 (hv11 hb)) (sk st9) ?_
    refine ops_gv rfl (fun hb => s_move rfl gt0 (tyo_ok rfl)) (sk st10) ?_
    refine gbindF hF (fun v12 hv12 hF => ?_)
    refine ops_gcall rfl (fun hb => s_call0 rfl rfl rfl (argo_cons (evo_gv (gk gt10) hb) argo_nil) (.cons (tyo_ok rfl) .nil)) (fun hb => ok13 (hv12 hb)) (sk st11) ?_
    refine ops_gv rfl (fun hb => s_bin rfl (evo_gv (gk gt9) hb) (evo_gv (gk gt11) hb) rfl) (sk st12) ?_
    refine ops_ok rfl (s_pick rfl (gk gt7) rfl (gk gt12) (pick_or (fun ht => gF ht))) (sk st13) ?_
    refine ops_ok rfl (s_move rfl (gk gt13) (tyo_ok rfl)) (sk st14) ?_
    refine ops_gv rfl (fun hb => s_move rfl gt7 (tyo_ok rfl)) (sk st15) ?_
    refine ops_gv rfl (fun hb => s_move rfl gt9 (tyo_ok rfl)) (sk st16) ?_
    refine gbindF hF (fun v13 hv13 hF => ?_)
    refine ops_gcall rfl (fun hb => s_call0 rfl rfl rfl (argo_cons (evo_gv (gk gt15) hb) (argo_cons (evo_gv (gk gt16) hb) argo_nil)) (.cons (tyo_ok rfl) (.cons (tyo_ok rfl) .nil))) (fun hb => ok14 (hv13 hb)) (sk st17) ?_
    refine ops_gv rfl (fun hb => s_un rfl (evo_gv (gk gt17) hb) rfl) (sk st18) ?_
    refine ops_ok rfl (s_pick rfl (gk gt14) rfl (gk gt18) (pick_or (fun ht => gF ht))) (sk st19) ?_
    refine ops_ok rfl (s_move rfl (gk gt19) (tyo_ok rfl)) (sk st20) ?_
    refine ops_gv rfl (fun hb => s_move rfl gt8 (tyo_ok rfl)) (sk st21) ?_
    refine ops_gv rfl (fun hb => s_move rfl gt10 (tyo_ok rfl)) (sk st22) ?_
    refine ops_gv rfl (fun hb => s_bin rfl (evo_gv (gk gt21) hb) (evo_gv (gk gt22) hb) rfl) (sk st23) ?_
    refine ops_ok rfl (s_pick rfl (gk gt20) rfl (gk gt23) (pick_or (fun ht => gF ht))) (sk st24) ?_
    refine ops_nil ?_
    refine q_seq ?_
    refine r_condF (gk gt24) hF (fun hc14 hF => ?_) (fun hc14 hF => ?_)
    · skip
      refine r_seq ?_
      refine r_region ?_
      refine ops_ok rfl (s_assign rfl rfl (tyo_ok rfl)) st6 ?_
      refine ops_nil ?_
      refine q_seq ?_
      refine r_ret ?_
      refine q_seq_ret ?_
      obtain rfl := Option.some.inj hF
      refine q_retL1 rfl (rl_tmp gt6 rl_nil) (fin_ext (leV.refl _) rfl ?_)
      exact ⟨rfl, rfl⟩
    · skip
      refine r_skip ?_
      refine q_seq ?_
      refine r_seq ?_
      refine r_region ?_
      refine ops_ok rfl (s_move rfl gt0 (tyo_ok rfl)) (sk st26) ?_
      refine bindF hF (fun v15 hv15 hF => ?_)
      refine ops_callP rfl (s_call0 rfl rfl rfl (argo_cons (gk gt26) argo_nil) (.cons (tyo_ok rfl) .nil)) (ok12 hv15) (sk st27) ?_
      refine bindF hF (fun v16 hv16 hF => ?_)
      refine ops_callP rfl (s_call0 rfl rfl rfl (argo_cons (gk gt27) argo_nil) (.cons (tyo_ok rfl) .nil)) (ok6 hv16) (sk st28) ?_
      refine ops_ok rfl (s_move rfl (gk gt28) (tyo_ok rfl)) (sk st25) ?_
      refine ops_ok rfl (s_extract rfl (gk gt25) rfl (tyo_ok rfl)) (sk st29) ?_
      refine ops_ok rfl (s_extract rfl (gk gt25) rfl (tyo_ok rfl)) (sk st30) ?_
      refine ops_ok rfl (s_assign rfl (gk gt29) (tyo_ok rfl)) st11 ?_
      refine ops_ok rfl (s_assign rfl (gk gt30) (tyo_ok rfl)) st12 ?_
      refine ops_nil ?_
      refine q_seq ?_
      refine r_seq ?_
      refine r_region ?_
      refine ops_ok rfl (s_move rfl gt0 (tyo_ok rfl)) (sk st31) ?_
      refine bindF hF (fun v17 hv17 hF => ?_)
      refine ops_callP rfl (s_call0 rfl rfl rfl (argo_cons (gk gt31) argo_nil) (.cons (tyo_ok rfl) .nil)) (ok8 hv17) (sk st32) ?_
      refine ops_ok rfl (s_un rfl (gk gt32) rfl) (sk st33) ?_
      refine ops_ok rfl (s_move rfl (gk gt33) (tyo_ok rfl)) (sk st34) ?_
      refine ops_gv rfl (fun hb => s_move rfl gt12 (tyo_ok rfl)) (sk st35) ?_
      refine ops_gv rfl (fun hb => s_bin rfl (evo_gv (gk gt35) hb) rfl rfl) (sk st36) ?_
      refine ops_gv rfl (fun hb => s_move rfl (evo_gv (gk gt36) hb) (tyo_ok rfl)) (sk st37) ?_
      refine ops_gv (aG_gv rfl rfl rfl) (fun hb => s_move rfl gt11 (tyo_ok rfl)) (sk st38) ?_
      refine ops_gv (aG_gv rfl rfl rfl) (fun hb => s_move rfl gt0 (tyo_ok rfl)) (sk st39) ?_
      refine gbindF hF (fun v18 hv18 hF => ?_)
      refine ops_gcall (aG_gv rfl rfl rfl) (fun hb => s_call0 rfl rfl rfl (argo_cons (evo_gv (gk gt38) hb) (argo_cons (evo_gv (gk gt39) hb) argo_nil)) (.cons (tyo_ok rfl) (.cons (tyo_ok rfl) .nil))) (fun hb => ok14 (hv18 hb)) (sk (sk st0)) ?_
      refine ops_gv rfl (fun hb => s_pick rfl (evo_gv (gk gt37) hb) (gk (gk gt0)) rfl (pick_and (fun ht => gT2 hb ht))) (sk (sk st1)) ?_
      refine ops_ok rfl (s_pick rfl (gk gt34) rfl (gk (gk gt1)) (pick_or (fun ht => gF ht))) (sk (sk st2)) ?_
      refine ops_ok rfl (s_move rfl (gk (gk gt2)) (tyo_ok rfl)) (sk (sk st3)) ?_
      refine gbindF hF (fun v19 hv19 hF => ?_)
      refine ops_gcall rfl (fun hb => s_call0 rfl rfl rfl argo_nil .nil) (fun hb => ok5 (hv19 hb)) (sk (sk st4)) ?_
      refine ops_ok rfl (s_pick rfl (gk (gk gt3)) (gk (gk gt4)) rfl (pick_and (fun ht => gT ht))) (sk (sk st5)) ?_
      refine ops_ok rfl (s_assign rfl (gk (gk gt5)) (tyo_ok rfl)) st6 ?_
      refine ops_nil ?_
      refine q_seq ?_
      refine r_ret ?_
      obtain rfl := Option.some.inj hF
      refine q_retL1 rfl (rl_tmp gt6 rl_nil) (fin_ext (leV.refl _) rfl ?_)
      exact ⟨rfl, rfl⟩
end Go.Vv
