/- Each function that the law reaches computes what its reading says; printed by a program. -/
import Derived.Test.YtlkpeiojgenhaaaVvZ
import Derived.Test.YtlkpeiojgenhaaaVvLb
import Derived.Test.YtlkpeiojgenhaaaVvMr
import Derived.Test.YtlkpeiojgenhaaaVvIt
import Derived.Test.YtlkpeiojgenhaaaVvRd
import Derived.Test.YtlkpeiojgenhaaaD
import Derived.Test.YtlkpeiojgenhaaaProg
namespace Go.Vv
open Go Go.Proofs
set_option maxRecDepth 100000
set_option maxHeartbeats 1000000
set_option linter.unusedSimpArgs false
set_option linter.unusedVariables false
section
variable {v a0 a1 a2 a3 a4 a5 a6 a7 a8 a9 a10 a11 a12 a13 a14 a15 a16 a17 a18 a19 a20 a21 a22 a23 a24 a25 a26 a27 a28 a29 a30 a31 a32 a33 a34 a35 a36 a37 a38 a39 : AV} {r q : List AV} {t : Nat}
theorem gt0 : evo (a0::r) (.tmp 0) = some a0 := rfl
theorem st0 : dso (some 0) (a0::r) v = some (v::r) := rfl
theorem gt1 : evo (a0::a1::r) (.tmp 1) = some a1 := rfl
theorem st1 : dso (some 1) (a0::a1::r) v = some (a0::v::r) := rfl
theorem gt2 : evo (a0::a1::a2::r) (.tmp 2) = some a2 := rfl
theorem st2 : dso (some 2) (a0::a1::a2::r) v = some (a0::a1::v::r) := rfl
theorem gt3 : evo (a0::a1::a2::a3::r) (.tmp 3) = some a3 := rfl
theorem st3 : dso (some 3) (a0::a1::a2::a3::r) v = some (a0::a1::a2::v::r) := rfl
theorem gt4 : evo (a0::a1::a2::a3::a4::r) (.tmp 4) = some a4 := rfl
theorem st4 : dso (some 4) (a0::a1::a2::a3::a4::r) v = some (a0::a1::a2::a3::v::r) := rfl
theorem gt5 : evo (a0::a1::a2::a3::a4::a5::r) (.tmp 5) = some a5 := rfl
theorem st5 : dso (some 5) (a0::a1::a2::a3::a4::a5::r) v = some (a0::a1::a2::a3::a4::v::r) := rfl
theorem gt6 : evo (a0::a1::a2::a3::a4::a5::a6::r) (.tmp 6) = some a6 := rfl
theorem st6 : dso (some 6) (a0::a1::a2::a3::a4::a5::a6::r) v = some (a0::a1::a2::a3::a4::a5::v::r) := rfl
theorem gt7 : evo (a0::a1::a2::a3::a4::a5::a6::a7::r) (.tmp 7) = some a7 := rfl
theorem st7 : dso (some 7) (a0::a1::a2::a3::a4::a5::a6::a7::r) v = some (a0::a1::a2::a3::a4::a5::a6::v::r) := rfl
theorem gt8 : evo (a0::a1::a2::a3::a4::a5::a6::a7::a8::r) (.tmp 8) = some a8 := rfl
theorem st8 : dso (some 8) (a0::a1::a2::a3::a4::a5::a6::a7::a8::r) v = some (a0::a1::a2::a3::a4::a5::a6::a7::v::r) := rfl
theorem gt9 : evo (a0::a1::a2::a3::a4::a5::a6::a7::a8::a9::r) (.tmp 9) = some a9 := rfl
theorem st9 : dso (some 9) (a0::a1::a2::a3::a4::a5::a6::a7::a8::a9::r) v = some (a0::a1::a2::a3::a4::a5::a6::a7::a8::v::r) := rfl
theorem gt10 : evo (a0::a1::a2::a3::a4::a5::a6::a7::a8::a9::a10::r) (.tmp 10) = some a10 := rfl
theorem st10 : dso (some 10) (a0::a1::a2::a3::a4::a5::a6::a7::a8::a9::a10::r) v = some (a0::a1::a2::a3::a4::a5::a6::a7::a8::a9::v::r) := rfl
theorem gt11 : evo (a0::a1::a2::a3::a4::a5::a6::a7::a8::a9::a10::a11::r) (.tmp 11) = some a11 := rfl
theorem st11 : dso (some 11) (a0::a1::a2::a3::a4::a5::a6::a7::a8::a9::a10::a11::r) v = some (a0::a1::a2::a3::a4::a5::a6::a7::a8::a9::a10::v::r) := rfl
theorem gt12 : evo (a0::a1::a2::a3::a4::a5::a6::a7::a8::a9::a10::a11::a12::r) (.tmp 12) = some a12 := rfl
theorem st12 : dso (some 12) (a0::a1::a2::a3::a4::a5::a6::a7::a8::a9::a10::a11::a12::r) v = some (a0::a1::a2::a3::a4::a5::a6::a7::a8::a9::a10::a11::v::r) := rfl
theorem gt13 : evo (a0::a1::a2::a3::a4::a5::a6::a7::a8::a9::a10::a11::a12::a13::r) (.tmp 13) = some a13 := rfl
theorem st13 : dso (some 13) (a0::a1::a2::a3::a4::a5::a6::a7::a8::a9::a10::a11::a12::a13::r) v = some (a0::a1::a2::a3::a4::a5::a6::a7::a8::a9::a10::a11::a12::v::r) := rfl
theorem gt14 : evo (a0::a1::a2::a3::a4::a5::a6::a7::a8::a9::a10::a11::a12::a13::a14::r) (.tmp 14) = some a14 := rfl
theorem st14 : dso (some 14) (a0::a1::a2::a3::a4::a5::a6::a7::a8::a9::a10::a11::a12::a13::a14::r) v = some (a0::a1::a2::a3::a4::a5::a6::a7::a8::a9::a10::a11::a12::a13::v::r) := rfl
theorem gt15 : evo (a0::a1::a2::a3::a4::a5::a6::a7::a8::a9::a10::a11::a12::a13::a14::a15::r) (.tmp 15) = some a15 := rfl
theorem st15 : dso (some 15) (a0::a1::a2::a3::a4::a5::a6::a7::a8::a9::a10::a11::a12::a13::a14::a15::r) v = some (a0::a1::a2::a3::a4::a5::a6::a7::a8::a9::a10::a11::a12::a13::a14::v::r) := rfl
theorem gt16 : evo (a0::a1::a2::a3::a4::a5::a6::a7::a8::a9::a10::a11::a12::a13::a14::a15::a16::r) (.tmp 16) = some a16 := rfl
theorem st16 : dso (some 16) (a0::a1::a2::a3::a4::a5::a6::a7::a8::a9::a10::a11::a12::a13::a14::a15::a16::r) v = some (a0::a1::a2::a3::a4::a5::a6::a7::a8::a9::a10::a11::a12::a13::a14::a15::v::r) := rfl
theorem gt17 : evo (a0::a1::a2::a3::a4::a5::a6::a7::a8::a9::a10::a11::a12::a13::a14::a15::a16::a17::r) (.tmp 17) = some a17 := rfl
theorem st17 : dso (some 17) (a0::a1::a2::a3::a4::a5::a6::a7::a8::a9::a10::a11::a12::a13::a14::a15::a16::a17::r) v = some (a0::a1::a2::a3::a4::a5::a6::a7::a8::a9::a10::a11::a12::a13::a14::a15::a16::v::r) := rfl
theorem gt18 : evo (a0::a1::a2::a3::a4::a5::a6::a7::a8::a9::a10::a11::a12::a13::a14::a15::a16::a17::a18::r) (.tmp 18) = some a18 := rfl
theorem st18 : dso (some 18) (a0::a1::a2::a3::a4::a5::a6::a7::a8::a9::a10::a11::a12::a13::a14::a15::a16::a17::a18::r) v = some (a0::a1::a2::a3::a4::a5::a6::a7::a8::a9::a10::a11::a12::a13::a14::a15::a16::a17::v::r) := rfl
theorem gt19 : evo (a0::a1::a2::a3::a4::a5::a6::a7::a8::a9::a10::a11::a12::a13::a14::a15::a16::a17::a18::a19::r) (.tmp 19) = some a19 := rfl
theorem st19 : dso (some 19) (a0::a1::a2::a3::a4::a5::a6::a7::a8::a9::a10::a11::a12::a13::a14::a15::a16::a17::a18::a19::r) v = some (a0::a1::a2::a3::a4::a5::a6::a7::a8::a9::a10::a11::a12::a13::a14::a15::a16::a17::a18::v::r) := rfl
theorem gt20 : evo (a0::a1::a2::a3::a4::a5::a6::a7::a8::a9::a10::a11::a12::a13::a14::a15::a16::a17::a18::a19::a20::r) (.tmp 20) = some a20 := rfl
theorem st20 : dso (some 20) (a0::a1::a2::a3::a4::a5::a6::a7::a8::a9::a10::a11::a12::a13::a14::a15::a16::a17::a18::a19::a20::r) v = some (a0::a1::a2::a3::a4::a5::a6::a7::a8::a9::a10::a11::a12::a13::a14::a15::a16::a17::a18::a19::v::r) := rfl
theorem gt21 : evo (a0::a1::a2::a3::a4::a5::a6::a7::a8::a9::a10::a11::a12::a13::a14::a15::a16::a17::a18::a19::a20::a21::r) (.tmp 21) = some a21 := rfl
theorem st21 : dso (some 21) (a0::a1::a2::a3::a4::a5::a6::a7::a8::a9::a10::a11::a12::a13::a14::a15::a16::a17::a18::a19::a20::a21::r) v = some (a0::a1::a2::a3::a4::a5::a6::a7::a8::a9::a10::a11::a12::a13::a14::a15::a16::a17::a18::a19::a20::v::r) := rfl
theorem gt22 : evo (a0::a1::a2::a3::a4::a5::a6::a7::a8::a9::a10::a11::a12::a13::a14::a15::a16::a17::a18::a19::a20::a21::a22::r) (.tmp 22) = some a22 := rfl
theorem st22 : dso (some 22) (a0::a1::a2::a3::a4::a5::a6::a7::a8::a9::a10::a11::a12::a13::a14::a15::a16::a17::a18::a19::a20::a21::a22::r) v = some (a0::a1::a2::a3::a4::a5::a6::a7::a8::a9::a10::a11::a12::a13::a14::a15::a16::a17::a18::a19::a20::a21::v::r) := rfl
theorem gt23 : evo (a0::a1::a2::a3::a4::a5::a6::a7::a8::a9::a10::a11::a12::a13::a14::a15::a16::a17::a18::a19::a20::a21::a22::a23::r) (.tmp 23) = some a23 := rfl
theorem st23 : dso (some 23) (a0::a1::a2::a3::a4::a5::a6::a7::a8::a9::a10::a11::a12::a13::a14::a15::a16::a17::a18::a19::a20::a21::a22::a23::r) v = some (a0::a1::a2::a3::a4::a5::a6::a7::a8::a9::a10::a11::a12::a13::a14::a15::a16::a17::a18::a19::a20::a21::a22::v::r) := rfl
theorem gt24 : evo (a0::a1::a2::a3::a4::a5::a6::a7::a8::a9::a10::a11::a12::a13::a14::a15::a16::a17::a18::a19::a20::a21::a22::a23::a24::r) (.tmp 24) = some a24 := rfl
theorem st24 : dso (some 24) (a0::a1::a2::a3::a4::a5::a6::a7::a8::a9::a10::a11::a12::a13::a14::a15::a16::a17::a18::a19::a20::a21::a22::a23::a24::r) v = some (a0::a1::a2::a3::a4::a5::a6::a7::a8::a9::a10::a11::a12::a13::a14::a15::a16::a17::a18::a19::a20::a21::a22::a23::v::r) := rfl
theorem gt25 : evo (a0::a1::a2::a3::a4::a5::a6::a7::a8::a9::a10::a11::a12::a13::a14::a15::a16::a17::a18::a19::a20::a21::a22::a23::a24::a25::r) (.tmp 25) = some a25 := rfl
theorem st25 : dso (some 25) (a0::a1::a2::a3::a4::a5::a6::a7::a8::a9::a10::a11::a12::a13::a14::a15::a16::a17::a18::a19::a20::a21::a22::a23::a24::a25::r) v = some (a0::a1::a2::a3::a4::a5::a6::a7::a8::a9::a10::a11::a12::a13::a14::a15::a16::a17::a18::a19::a20::a21::a22::a23::a24::v::r) := rfl
theorem gt26 : evo (a0::a1::a2::a3::a4::a5::a6::a7::a8::a9::a10::a11::a12::a13::a14::a15::a16::a17::a18::a19::a20::a21::a22::a23::a24::a25::a26::r) (.tmp 26) = some a26 := rfl
theorem st26 : dso (some 26) (a0::a1::a2::a3::a4::a5::a6::a7::a8::a9::a10::a11::a12::a13::a14::a15::a16::a17::a18::a19::a20::a21::a22::a23::a24::a25::a26::r) v = some (a0::a1::a2::a3::a4::a5::a6::a7::a8::a9::a10::a11::a12::a13::a14::a15::a16::a17::a18::a19::a20::a21::a22::a23::a24::a25::v::r) := rfl
theorem gt27 : evo (a0::a1::a2::a3::a4::a5::a6::a7::a8::a9::a10::a11::a12::a13::a14::a15::a16::a17::a18::a19::a20::a21::a22::a23::a24::a25::a26::a27::r) (.tmp 27) = some a27 := rfl
theorem st27 : dso (some 27) (a0::a1::a2::a3::a4::a5::a6::a7::a8::a9::a10::a11::a12::a13::a14::a15::a16::a17::a18::a19::a20::a21::a22::a23::a24::a25::a26::a27::r) v = some (a0::a1::a2::a3::a4::a5::a6::a7::a8::a9::a10::a11::a12::a13::a14::a15::a16::a17::a18::a19::a20::a21::a22::a23::a24::a25::a26::v::r) := rfl
theorem gt28 : evo (a0::a1::a2::a3::a4::a5::a6::a7::a8::a9::a10::a11::a12::a13::a14::a15::a16::a17::a18::a19::a20::a21::a22::a23::a24::a25::a26::a27::a28::r) (.tmp 28) = some a28 := rfl
theorem st28 : dso (some 28) (a0::a1::a2::a3::a4::a5::a6::a7::a8::a9::a10::a11::a12::a13::a14::a15::a16::a17::a18::a19::a20::a21::a22::a23::a24::a25::a26::a27::a28::r) v = some (a0::a1::a2::a3::a4::a5::a6::a7::a8::a9::a10::a11::a12::a13::a14::a15::a16::a17::a18::a19::a20::a21::a22::a23::a24::a25::a26::a27::v::r) := rfl
theorem gt29 : evo (a0::a1::a2::a3::a4::a5::a6::a7::a8::a9::a10::a11::a12::a13::a14::a15::a16::a17::a18::a19::a20::a21::a22::a23::a24::a25::a26::a27::a28::a29::r) (.tmp 29) = some a29 := rfl
theorem st29 : dso (some 29) (a0::a1::a2::a3::a4::a5::a6::a7::a8::a9::a10::a11::a12::a13::a14::a15::a16::a17::a18::a19::a20::a21::a22::a23::a24::a25::a26::a27::a28::a29::r) v = some (a0::a1::a2::a3::a4::a5::a6::a7::a8::a9::a10::a11::a12::a13::a14::a15::a16::a17::a18::a19::a20::a21::a22::a23::a24::a25::a26::a27::a28::v::r) := rfl
theorem gt30 : evo (a0::a1::a2::a3::a4::a5::a6::a7::a8::a9::a10::a11::a12::a13::a14::a15::a16::a17::a18::a19::a20::a21::a22::a23::a24::a25::a26::a27::a28::a29::a30::r) (.tmp 30) = some a30 := rfl
theorem st30 : dso (some 30) (a0::a1::a2::a3::a4::a5::a6::a7::a8::a9::a10::a11::a12::a13::a14::a15::a16::a17::a18::a19::a20::a21::a22::a23::a24::a25::a26::a27::a28::a29::a30::r) v = some (a0::a1::a2::a3::a4::a5::a6::a7::a8::a9::a10::a11::a12::a13::a14::a15::a16::a17::a18::a19::a20::a21::a22::a23::a24::a25::a26::a27::a28::a29::v::r) := rfl
theorem gt31 : evo (a0::a1::a2::a3::a4::a5::a6::a7::a8::a9::a10::a11::a12::a13::a14::a15::a16::a17::a18::a19::a20::a21::a22::a23::a24::a25::a26::a27::a28::a29::a30::a31::r) (.tmp 31) = some a31 := rfl
theorem st31 : dso (some 31) (a0::a1::a2::a3::a4::a5::a6::a7::a8::a9::a10::a11::a12::a13::a14::a15::a16::a17::a18::a19::a20::a21::a22::a23::a24::a25::a26::a27::a28::a29::a30::a31::r) v = some (a0::a1::a2::a3::a4::a5::a6::a7::a8::a9::a10::a11::a12::a13::a14::a15::a16::a17::a18::a19::a20::a21::a22::a23::a24::a25::a26::a27::a28::a29::a30::v::r) := rfl
theorem gt32 : evo (a0::a1::a2::a3::a4::a5::a6::a7::a8::a9::a10::a11::a12::a13::a14::a15::a16::a17::a18::a19::a20::a21::a22::a23::a24::a25::a26::a27::a28::a29::a30::a31::a32::r) (.tmp 32) = some a32 := rfl
theorem st32 : dso (some 32) (a0::a1::a2::a3::a4::a5::a6::a7::a8::a9::a10::a11::a12::a13::a14::a15::a16::a17::a18::a19::a20::a21::a22::a23::a24::a25::a26::a27::a28::a29::a30::a31::a32::r) v = some (a0::a1::a2::a3::a4::a5::a6::a7::a8::a9::a10::a11::a12::a13::a14::a15::a16::a17::a18::a19::a20::a21::a22::a23::a24::a25::a26::a27::a28::a29::a30::a31::v::r) := rfl
theorem gt33 : evo (a0::a1::a2::a3::a4::a5::a6::a7::a8::a9::a10::a11::a12::a13::a14::a15::a16::a17::a18::a19::a20::a21::a22::a23::a24::a25::a26::a27::a28::a29::a30::a31::a32::a33::r) (.tmp 33) = some a33 := rfl
theorem st33 : dso (some 33) (a0::a1::a2::a3::a4::a5::a6::a7::a8::a9::a10::a11::a12::a13::a14::a15::a16::a17::a18::a19::a20::a21::a22::a23::a24::a25::a26::a27::a28::a29::a30::a31::a32::a33::r) v = some (a0::a1::a2::a3::a4::a5::a6::a7::a8::a9::a10::a11::a12::a13::a14::a15::a16::a17::a18::a19::a20::a21::a22::a23::a24::a25::a26::a27::a28::a29::a30::a31::a32::v::r) := rfl
theorem gt34 : evo (a0::a1::a2::a3::a4::a5::a6::a7::a8::a9::a10::a11::a12::a13::a14::a15::a16::a17::a18::a19::a20::a21::a22::a23::a24::a25::a26::a27::a28::a29::a30::a31::a32::a33::a34::r) (.tmp 34) = some a34 := rfl
theorem st34 : dso (some 34) (a0::a1::a2::a3::a4::a5::a6::a7::a8::a9::a10::a11::a12::a13::a14::a15::a16::a17::a18::a19::a20::a21::a22::a23::a24::a25::a26::a27::a28::a29::a30::a31::a32::a33::a34::r) v = some (a0::a1::a2::a3::a4::a5::a6::a7::a8::a9::a10::a11::a12::a13::a14::a15::a16::a17::a18::a19::a20::a21::a22::a23::a24::a25::a26::a27::a28::a29::a30::a31::a32::a33::v::r) := rfl
theorem gt35 : evo (a0::a1::a2::a3::a4::a5::a6::a7::a8::a9::a10::a11::a12::a13::a14::a15::a16::a17::a18::a19::a20::a21::a22::a23::a24::a25::a26::a27::a28::a29::a30::a31::a32::a33::a34::a35::r) (.tmp 35) = some a35 := rfl
theorem st35 : dso (some 35) (a0::a1::a2::a3::a4::a5::a6::a7::a8::a9::a10::a11::a12::a13::a14::a15::a16::a17::a18::a19::a20::a21::a22::a23::a24::a25::a26::a27::a28::a29::a30::a31::a32::a33::a34::a35::r) v = some (a0::a1::a2::a3::a4::a5::a6::a7::a8::a9::a10::a11::a12::a13::a14::a15::a16::a17::a18::a19::a20::a21::a22::a23::a24::a25::a26::a27::a28::a29::a30::a31::a32::a33::a34::v::r) := rfl
theorem gt36 : evo (a0::a1::a2::a3::a4::a5::a6::a7::a8::a9::a10::a11::a12::a13::a14::a15::a16::a17::a18::a19::a20::a21::a22::a23::a24::a25::a26::a27::a28::a29::a30::a31::a32::a33::a34::a35::a36::r) (.tmp 36) = some a36 := rfl
theorem st36 : dso (some 36) (a0::a1::a2::a3::a4::a5::a6::a7::a8::a9::a10::a11::a12::a13::a14::a15::a16::a17::a18::a19::a20::a21::a22::a23::a24::a25::a26::a27::a28::a29::a30::a31::a32::a33::a34::a35::a36::r) v = some (a0::a1::a2::a3::a4::a5::a6::a7::a8::a9::a10::a11::a12::a13::a14::a15::a16::a17::a18::a19::a20::a21::a22::a23::a24::a25::a26::a27::a28::a29::a30::a31::a32::a33::a34::a35::v::r) := rfl
theorem gt37 : evo (a0::a1::a2::a3::a4::a5::a6::a7::a8::a9::a10::a11::a12::a13::a14::a15::a16::a17::a18::a19::a20::a21::a22::a23::a24::a25::a26::a27::a28::a29::a30::a31::a32::a33::a34::a35::a36::a37::r) (.tmp 37) = some a37 := rfl
theorem st37 : dso (some 37) (a0::a1::a2::a3::a4::a5::a6::a7::a8::a9::a10::a11::a12::a13::a14::a15::a16::a17::a18::a19::a20::a21::a22::a23::a24::a25::a26::a27::a28::a29::a30::a31::a32::a33::a34::a35::a36::a37::r) v = some (a0::a1::a2::a3::a4::a5::a6::a7::a8::a9::a10::a11::a12::a13::a14::a15::a16::a17::a18::a19::a20::a21::a22::a23::a24::a25::a26::a27::a28::a29::a30::a31::a32::a33::a34::a35::a36::v::r) := rfl
theorem gt38 : evo (a0::a1::a2::a3::a4::a5::a6::a7::a8::a9::a10::a11::a12::a13::a14::a15::a16::a17::a18::a19::a20::a21::a22::a23::a24::a25::a26::a27::a28::a29::a30::a31::a32::a33::a34::a35::a36::a37::a38::r) (.tmp 38) = some a38 := rfl
theorem st38 : dso (some 38) (a0::a1::a2::a3::a4::a5::a6::a7::a8::a9::a10::a11::a12::a13::a14::a15::a16::a17::a18::a19::a20::a21::a22::a23::a24::a25::a26::a27::a28::a29::a30::a31::a32::a33::a34::a35::a36::a37::a38::r) v = some (a0::a1::a2::a3::a4::a5::a6::a7::a8::a9::a10::a11::a12::a13::a14::a15::a16::a17::a18::a19::a20::a21::a22::a23::a24::a25::a26::a27::a28::a29::a30::a31::a32::a33::a34::a35::a36::a37::v::r) := rfl
theorem gt39 : evo (a0::a1::a2::a3::a4::a5::a6::a7::a8::a9::a10::a11::a12::a13::a14::a15::a16::a17::a18::a19::a20::a21::a22::a23::a24::a25::a26::a27::a28::a29::a30::a31::a32::a33::a34::a35::a36::a37::a38::a39::r) (.tmp 39) = some a39 := rfl
theorem st39 : dso (some 39) (a0::a1::a2::a3::a4::a5::a6::a7::a8::a9::a10::a11::a12::a13::a14::a15::a16::a17::a18::a19::a20::a21::a22::a23::a24::a25::a26::a27::a28::a29::a30::a31::a32::a33::a34::a35::a36::a37::a38::a39::r) v = some (a0::a1::a2::a3::a4::a5::a6::a7::a8::a9::a10::a11::a12::a13::a14::a15::a16::a17::a18::a19::a20::a21::a22::a23::a24::a25::a26::a27::a28::a29::a30::a31::a32::a33::a34::a35::a36::a37::a38::v::r) := rfl
theorem gk (h : evo r (.tmp t) = some v) : evo (a0::a1::a2::a3::a4::a5::a6::a7::a8::a9::a10::a11::a12::a13::a14::a15::a16::a17::a18::a19::a20::a21::a22::a23::a24::a25::a26::a27::a28::a29::a30::a31::a32::a33::a34::a35::a36::a37::a38::a39::r) (.tmp (t + 40)) = some v := h
theorem sk (h : dso (some t) r v = some q) : dso (some (t + 40)) (a0::a1::a2::a3::a4::a5::a6::a7::a8::a9::a10::a11::a12::a13::a14::a15::a16::a17::a18::a19::a20::a21::a22::a23::a24::a25::a26::a27::a28::a29::a30::a31::a32::a33::a34::a35::a36::a37::a38::a39::r) v = some (a0::a1::a2::a3::a4::a5::a6::a7::a8::a9::a10::a11::a12::a13::a14::a15::a16::a17::a18::a19::a20::a21::a22::a23::a24::a25::a26::a27::a28::a29::a30::a31::a32::a33::a34::a35::a36::a37::a38::a39::q) := congrArg (fun x => some (a0::a1::a2::a3::a4::a5::a6::a7::a8::a9::a10::a11::a12::a13::a14::a15::a16::a17::a18::a19::a20::a21::a22::a23::a24::a25::a26::a27::a28::a29::a30::a31::a32::a33::a34::a35::a36::a37::a38::a39::x)) (Option.some.inj h)
end

def GActor.row (x : GActor) : List AV := [.int .u8 x.rep, .int .u32 x.inc]
def GDot.row (x : GDot) : List AV := [.int .u8 x.actor.rep, .int .u32 x.actor.inc, .int .u64 x.seq]
def GItem.row (x : GItem) : List AV := [.int .u64 x.time, .int .u8 x.dot.actor.rep, .int .u32 x.dot.actor.inc, .int .u64 x.dot.seq, .str x.text]
def GLeaf.row (x : GLeaf) : List AV := [.int .u8 x.typ, .int .i64 x.n, .int .u64 x.time, .int .u8 x.dot.actor.rep, .int .u32 x.dot.actor.inc, .int .u64 x.dot.seq, .str x.text, .sl 5 (x.items.map GItem.row), .sl 3 (x.tombs.map GDot.row)]
mutual
def GNode.row : GNode → List AV
  | ⟨name, leaves, subs⟩ => [.str name, .sl 9 (leaves.map GLeaf.row), .sl 3 (GNode.rows subs)]
def GNode.rows : List GNode → List (List AV)
  | [] => []
  | x :: r => x.row :: GNode.rows r
end
theorem GNode.rows_eq (l : List GNode) : GNode.rows l = l.map GNode.row := by
  induction l with
  | nil => rfl
  | cons x r ih => simp only [GNode.rows, List.map_cons, ih]
theorem GNode.row_eq (x : GNode) : x.row = [.str x.name, .sl 9 (x.leaves.map GLeaf.row), .sl 3 (x.subs.map GNode.row)] := by
  cases x; simp only [GNode.row, GNode.rows_eq]
def GRow.row (x : GRow) : List AV := [.sl 1 (x.path.map strRow), .int .u8 x.leaf.typ, .int .i64 x.leaf.n, .int .u64 x.leaf.time, .int .u8 x.leaf.dot.actor.rep, .int .u32 x.leaf.dot.actor.inc, .int .u64 x.leaf.dot.seq, .str x.leaf.text, .sl 5 (x.leaf.items.map GItem.row), .sl 3 (x.leaf.tombs.map GDot.row)]
theorem el45 : El Try.prog 45 3 1 := mkEl Try.underlying45 (by kernel_rfl)
theorem ty3 : Ty Try.prog 3 (.int .i64) 1 := mkTy Try.underlying3 (by kernel_rfl)
theorem mixed : Try.prog.follows .mixedOrders = true := by kernel_rfl
theorem fo24x0 : Fo Try.prog 24 0 0 5 1 := mkFo (by kernel_rfl) (by kernel_rfl)
theorem ty5 : Ty Try.prog 5 (.int .u8) 1 := mkTy Try.underlying5 (by kernel_rfl)
theorem fo24x1 : Fo Try.prog 24 1 1 22 1 := mkFo (by kernel_rfl) (by kernel_rfl)
theorem ty22 : Ty Try.prog 22 (.int .u32) 1 := mkTy Try.underlying22 (by kernel_rfl)
theorem ze3 : zeroC Try.prog 3 = some [.int .i64 0] := by kernel_rfl
theorem ty9 : Ty Try.prog 9 .string 1 := mkTy Try.underlying9 (by kernel_rfl)
theorem el63 : El Try.prog 63 73 5 := mkEl Try.underlying63 (by kernel_rfl)
theorem fo73x1 : Fo Try.prog 73 1 1 27 3 := mkFo (by kernel_rfl) (by kernel_rfl)
theorem ty27 : ∃ d, Ty Try.prog 27 d 3 ∧ isAggD d = true := ⟨_, mkTy Try.underlying27 (by kernel_rfl), by kernel_rfl⟩
theorem pk27 : PK Try.prog 27 [.i, .i, .i] := mkPK (by kernel_rfl) (by kernel_rfl) (by kernel_rfl)
theorem el29 : El Try.prog 29 27 3 := mkEl Try.underlying29 (by kernel_rfl)
theorem fo27x0 : Fo Try.prog 27 0 0 24 2 := mkFo (by kernel_rfl) (by kernel_rfl)
theorem fo27x1 : Fo Try.prog 27 1 2 25 1 := mkFo (by kernel_rfl) (by kernel_rfl)
theorem ty25 : Ty Try.prog 25 (.int .u64) 1 := mkTy Try.underlying25 (by kernel_rfl)
theorem ty24 : ∃ d, Ty Try.prog 24 d 2 ∧ isAggD d = true := ⟨_, mkTy Try.underlying24 (by kernel_rfl), by kernel_rfl⟩
theorem fo65x0 : Fo Try.prog 65 0 0 5 1 := mkFo (by kernel_rfl) (by kernel_rfl)
theorem fo65x1 : Fo Try.prog 65 1 1 2 1 := mkFo (by kernel_rfl) (by kernel_rfl)
theorem ty2 : Ty Try.prog 2 (.int .i64) 1 := mkTy Try.underlying2 (by kernel_rfl)
theorem fo65x5 : Fo Try.prog 65 5 7 63 1 := mkFo (by kernel_rfl) (by kernel_rfl)
theorem ty63 : Ty Try.prog 63 (.slice 73) 1 := mkTy Try.underlying63 (by kernel_rfl)
theorem fo65x6 : Fo Try.prog 65 6 8 29 1 := mkFo (by kernel_rfl) (by kernel_rfl)
theorem ty29 : Ty Try.prog 29 (.slice 27) 1 := mkTy Try.underlying29 (by kernel_rfl)
noncomputable def sf27 : Array Field := match Try.prog.underlying 27 with | some (.struct fs) => fs | _ => #[]
theorem su27 : Try.prog.underlying 27 = some (.struct sf27) := by kernel_rfl
theorem ze27 : zeroC Try.prog 27 = some [.int .u8 0, .int .u32 0, .int .u64 0] := by kernel_rfl
theorem pl27 : placesL Try.prog sf27 = some [(0, 2), (2, 1)] := by kernel_rfl
theorem fo65x2 : Fo Try.prog 65 2 2 25 1 := mkFo (by kernel_rfl) (by kernel_rfl)
theorem fo65x3 : Fo Try.prog 65 3 3 27 3 := mkFo (by kernel_rfl) (by kernel_rfl)
theorem fo65x4 : Fo Try.prog 65 4 6 9 1 := mkFo (by kernel_rfl) (by kernel_rfl)
theorem ty73 : ∃ d, Ty Try.prog 73 d 5 ∧ isAggD d = true := ⟨_, mkTy Try.underlying73 (by kernel_rfl), by kernel_rfl⟩
theorem ze73 : zeroC Try.prog 73 = some [.int .u64 0, .int .u8 0, .int .u32 0, .int .u64 0, .str []] := by kernel_rfl
theorem fo73x2 : Fo Try.prog 73 2 4 9 1 := mkFo (by kernel_rfl) (by kernel_rfl)
theorem fo73x0 : Fo Try.prog 73 0 0 25 1 := mkFo (by kernel_rfl) (by kernel_rfl)
theorem el54 : El Try.prog 54 85 3 := mkEl Try.underlying54 (by kernel_rfl)
theorem ty85 : ∃ d, Ty Try.prog 85 d 3 ∧ isAggD d = true := ⟨_, mkTy Try.underlying85 (by kernel_rfl), by kernel_rfl⟩
theorem ze85 : zeroC Try.prog 85 = some [.str [], .osl none 9 [], .osl none 3 []] := by kernel_rfl
theorem fo85x0 : Fo Try.prog 85 0 0 9 1 := mkFo (by kernel_rfl) (by kernel_rfl)
theorem fo85x1 : Fo Try.prog 85 1 1 83 1 := mkFo (by kernel_rfl) (by kernel_rfl)
theorem ty83 : Ty Try.prog 83 (.slice 65) 1 := mkTy Try.underlying83 (by kernel_rfl)
theorem el83 : El Try.prog 83 65 9 := mkEl Try.underlying83 (by kernel_rfl)
theorem fo85x2 : Fo Try.prog 85 2 2 54 1 := mkFo (by kernel_rfl) (by kernel_rfl)
theorem ty54 : Ty Try.prog 54 (.slice 85) 1 := mkTy Try.underlying54 (by kernel_rfl)
theorem ty65 : ∃ d, Ty Try.prog 65 d 9 ∧ isAggD d = true := ⟨_, mkTy Try.underlying65 (by kernel_rfl), by kernel_rfl⟩
theorem ty4 : Ty Try.prog 4 .bool 1 := mkTy Try.underlying4 (by kernel_rfl)
theorem el28 : El Try.prog 28 9 1 := mkEl Try.underlying28 (by kernel_rfl)
theorem ze9 : zeroC Try.prog 9 = some [.str []] := by kernel_rfl
theorem kq27 : KQ Try.prog 27 (fun x => AV.agg (GDot.row x)) GDot.eqb := .struct su27 pk27 (fun _ _ => rfl) (fun a => by simp [GDot.eqb])
theorem az3 : aZero Try.prog 3 = some ((AV.int .i64) (0 : Int)) := by kernel_rfl
theorem pk73 : PK Try.prog 73 [.i, .i, .i, .i, .s] := mkPK (by kernel_rfl) (by kernel_rfl) (by kernel_rfl)
noncomputable def sf65 : Array Field := match Try.prog.underlying 65 with | some (.struct fs) => fs | _ => #[]
theorem su65 : Try.prog.underlying 65 = some (.struct sf65) := by kernel_rfl
theorem ze65 : zeroC Try.prog 65 = some [.int .u8 0, .int .i64 0, .int .u64 0, .int .u8 0, .int .u32 0, .int .u64 0, .str [], .osl none 5 [], .osl none 3 []] := by kernel_rfl
theorem pl65 : placesL Try.prog sf65 = some [(0, 1), (1, 1), (2, 1), (3, 3), (6, 1), (7, 1), (8, 1)] := by kernel_rfl
noncomputable def sf85 : Array Field := match Try.prog.underlying 85 with | some (.struct fs) => fs | _ => #[]
theorem su85 : Try.prog.underlying 85 = some (.struct sf85) := by kernel_rfl
theorem pl85 : placesL Try.prog sf85 = some [(0, 1), (1, 1), (2, 1)] := by kernel_rfl
theorem ty28 : Ty Try.prog 28 (.slice 9) 1 := mkTy Try.underlying28 (by kernel_rfl)
theorem ty138 : Ty Try.prog 138 (.func #[67] #[4] false) 1 := mkTy Try.underlying138 (by kernel_rfl)
noncomputable def sf67 : Array Field := match Try.prog.underlying 67 with | some (.struct fs) => fs | _ => #[]
theorem su67 : Try.prog.underlying 67 = some (.struct sf67) := by kernel_rfl
theorem ze67 : zeroC Try.prog 67 = some [.osl none 1 [], .int .u8 0, .int .i64 0, .int .u64 0, .int .u8 0, .int .u32 0, .int .u64 0, .str [], .osl none 5 [], .osl none 3 []] := by kernel_rfl
theorem pl67 : placesL Try.prog sf67 = some [(0, 1), (1, 9)] := by kernel_rfl
theorem ty67 : ∃ d, Ty Try.prog 67 d 10 ∧ isAggD d = true := ⟨_, mkTy Try.underlying67 (by kernel_rfl), by kernel_rfl⟩
theorem el61 : El Try.prog 61 67 10 := mkEl Try.underlying61 (by kernel_rfl)
theorem ty61 : Ty Try.prog 61 (.slice 67) 1 := mkTy Try.underlying61 (by kernel_rfl)
theorem fo67x0 : Fo Try.prog 67 0 0 28 1 := mkFo (by kernel_rfl) (by kernel_rfl)
theorem fo67x1 : Fo Try.prog 67 1 1 65 9 := mkFo (by kernel_rfl) (by kernel_rfl)
theorem el104 : El Try.prog 104 28 1 := mkEl Try.underlying104 (by kernel_rfl)
theorem ze28 : zeroC Try.prog 28 = some [.osl none 1 []] := by kernel_rfl
/-! cmp.Or[int] -/
theorem ok131 {vals0 : (List Int)} {res : Int} {h : AH}  (hF : cmpOrInt vals0 = some res) : Spec Try.prog 131 [.sl 1 (vals0.map (intRow .i64))] h (fun rr hh => rr = .int .i64 res ∧ hh = h) := by
  unfold cmpOrInt at hF
  refine spec_of_body_ext Try.func131 rfl (by kernel_rfl) (env := [.sl 1 (vals0.map (intRow .i64)), aundef, aundef, aundef, aundef, aundef, aundef, aundef, aundef, aundef, aundef, aundef, aundef, aundef, aundef, aundef, aundef, aundef]) (by rfl) ?_
  refine r_seq ?_
  refine r_region ?_
  refine ops_ok rfl (s_assign rfl rfl (tyo_ok rfl)) st2 ?_
  refine ops_nil ?_
  refine q_seq ?_
  refine r_seq ?_
  refine r_region ?_
  refine ops_ok rfl (s_assign rfl rfl (tyo_ok rfl)) st3 ?_
  refine ops_nil ?_
  refine q_seq ?_
  refine r_seq ?_
  refine r_seq ?_
  refine r_region ?_
  refine ops_ok rfl (s_move rfl gt0 (tyo_ok rfl)) st6 ?_
  refine ops_len rfl (s_lenSl rfl rfl rfl rfl el45 gt6 lenMap) st7 fun hn1 => ?_
  replace hn1 := lenN hn1
  refine ops_ok rfl (s_move rfl rfl (tyo_ok rfl)) st8 ?_
  refine ops_nil ?_
  refine q_seq ?_
  refine r_block ?_
  refine r_loopLF (fun (n1 : Nat) (s1 : Unit) => [(0, .any), (1, .any), (2, .any), (4, .any), (5, .any), (8, .int .i64 (n1 : Int)), (9, .any), (10, .any), (11, .any), (12, .any), (13, .any), (14, .any), (15, .any), (16, .any), (17, .any)]) (fun s1 => h.ext [] []) hF (fun _ _ => by simp only [upd, List.set_cons_succ, List.set_cons_zero]; try rfl) (wk.le (by exact (.drop (.drop (.drop (.eq (.drop (.drop (.eq (.eq (.cons (leV.of_eq rfl) (.drop (.drop (.drop (.drop (.drop (.drop (.drop (.drop (.drop leL.nil)))))))))))))))))))) ?_
  intro n1 s1 hi1 hF
  refine r_seq ?_
  refine r_region ?_
  refine ops_ok rfl (s_bin rfl gt8 gt7 rfl) st9 ?_
  refine ops_nil ?_
  refine q_seq ?_
  refine r_seq ?_
  refine r_condL gt9 hF (fun x1 o1 hl1 hx1 hF hK1 => ?_) (fun hF => ?_)
  · skip
    refine r_skip ?_
    refine q_seq ?_
    refine r_seq ?_
    refine r_block ?_
    refine r_seq ?_
    refine r_region ?_
    refine ops_ok rfl (s_idxRow rfl el45 gt6 gt8 isl (idx_of hx1)) st10 ?_
    refine ops_ok rfl (f_load rfl ty3 gt10 (ldC_one rfl) (tyo_ok rfl)) st11 ?_
    refine ops_ok rfl (s_assign rfl gt11 (tyo_ok rfl)) st5 ?_
    refine ops_nil ?_
    refine q_seq ?_
    refine r_seq ?_
    refine r_region ?_
    refine ops_ok rfl (s_move rfl gt5 (tyo_ok rfl)) st12 ?_
    refine ops_ok rfl (s_move rfl gt3 (tyo_ok rfl)) st13 ?_
    refine ops_ok rfl (s_bin rfl gt12 gt13 rfl) st14 ?_
    refine ops_nil ?_
    refine q_seq ?_
    refine r_condF gt14 hF (fun hc6 hF => ?_) (fun hc6 hF => ?_)
    · skip
      refine r_seq ?_
      refine r_region ?_
      refine ops_ok rfl (s_move rfl gt5 (tyo_ok rfl)) st15 ?_
      refine ops_ok rfl (s_assign rfl gt15 (tyo_ok rfl)) st2 ?_
      refine ops_nil ?_
      refine q_seq ?_
      refine r_ret ?_
      refine q_block_ret ?_
      refine q_seq_ret ?_
      refine q_loop_ret ?_
      obtain rfl := Option.some.inj hF
      replace hF := hK1
      refine q_block_ret ?_
      refine q_seq_ret ?_
      obtain rfl := Option.some.inj hF
      refine q_retL1 rfl (rl_tmp gt2 rl_nil) (fin_ext (leV.refl _) rfl ?_)
      exact ⟨rfl, rfl⟩
    · skip
      refine r_skip ?_
      refine q_block ?_
      refine q_seq ?_
      refine r_region ?_
      refine ops_ok rfl (s_bin rfl gt8 rfl rfl) st16 ?_
      refine ops_ok rfl (s_move rfl gt16 (tyo_ok rfl)) st8 ?_
      refine ops_nil ?_
      refine q_loop ?_
      obtain rfl := Option.some.inj hF
      exact ⟨(), hl1, hK1, wk.le (by exact (.drop (.drop (.drop (.eq (.drop (.drop (.eq (.eq (.cons (leV.of_eq (w64e (by omega) (by omega))) (.drop (.drop (.drop (.drop (.drop (.drop (.drop (.drop (.drop leL.nil)))))))))))))))))))⟩
  · skip
    refine r_exit ?_
    refine q_seq_exit ?_
    refine q_loop_exit ?_
    refine q_block_hit ?_
    refine q_seq ?_
    refine r_seq ?_
    refine r_region ?_
    refine ops_ok rfl (s_move rfl gt3 (tyo_ok rfl)) st17 ?_
    refine ops_ok rfl (s_assign rfl gt17 (tyo_ok rfl)) st2 ?_
    refine ops_nil ?_
    refine q_seq ?_
    refine r_ret ?_
    obtain rfl := Option.some.inj hF
    refine q_retL1 rfl (rl_tmp gt2 rl_nil) (fin_ext (leV.refl _) rfl ?_)
    exact ⟨rfl, rfl⟩
/-! cmp.isNaN[uint8] -/
theorem ok155 {x0 : Int} {res : Bool} {h : AH}  (hF : cmpXisNaNUint8 x0 = some res) : Spec Try.prog 155 [.int .u8 x0] h (fun rr hh => rr = .bool res ∧ hh = h) := by
  unfold cmpXisNaNUint8 at hF
  refine spec_of_body_ext Try.func155 rfl (by kernel_rfl) (env := [.int .u8 x0, aundef, aundef, aundef, aundef, aundef]) (by rfl) ?_
  refine r_seq ?_
  refine r_region ?_
  refine ops_ok rfl (s_assign rfl rfl (tyo_ok rfl)) st2 ?_
  refine ops_nil ?_
  refine q_seq ?_
  refine r_seq ?_
  refine r_region ?_
  refine ops_ok rfl (s_move rfl gt0 (tyo_ok rfl)) st3 ?_
  refine ops_ok rfl (s_move rfl gt0 (tyo_ok rfl)) st4 ?_
  refine ops_ok rfl (s_bin rfl gt3 gt4 rfl) st5 ?_
  refine ops_ok rfl (s_assign rfl gt5 (tyo_ok rfl)) st2 ?_
  refine ops_nil ?_
  refine q_seq ?_
  refine r_ret ?_
  obtain rfl := Option.some.inj hF
  refine q_retL1 rfl (rl_tmp gt2 rl_nil) (fin_ext (leV.refl _) rfl ?_)
  exact ⟨rfl, rfl⟩
/-! cmp.Compare[uint8] -/
theorem ok144 {x0 : Int} {y1 : Int} {res : Int} {h : AH}  (hF : cmpCompareUint8 x0 y1 = some res) : Spec Try.prog 144 [.int .u8 x0, .int .u8 y1] h (fun rr hh => rr = .int .i64 res ∧ hh = h) := by
  unfold cmpCompareUint8 at hF
  refine spec_of_body_ext Try.func144 rfl (by kernel_rfl) (env := [.int .u8 x0, .int .u8 y1, aundef, aundef, aundef, aundef, aundef, aundef, aundef, aundef, aundef, aundef, aundef, aundef, aundef, aundef, aundef, aundef, aundef, aundef]) (by rfl) ?_
  refine r_seq ?_
  refine r_region ?_
  refine ops_ok rfl (s_assign rfl rfl (tyo_ok rfl)) st4 ?_
  refine ops_nil ?_
  refine q_seq ?_
  refine r_seq ?_
  refine r_region ?_
  refine ops_ok rfl (s_move rfl gt0 (tyo_ok rfl)) st7 ?_
  refine bindF hF (fun v1 hv1 hF => ?_)
  refine ops_callP rfl (s_call0 rfl rfl rfl (argo_cons gt7 argo_nil) (.cons (tyo_ok rfl) .nil)) (ok155 hv1) st8 ?_
  refine ops_ok rfl (s_assign rfl gt8 (tyo_ok rfl)) st5 ?_
  refine ops_nil ?_
  refine q_seq ?_
  refine r_seq ?_
  refine r_region ?_
  refine ops_ok rfl (s_move rfl gt1 (tyo_ok rfl)) st9 ?_
  refine bindF hF (fun v2 hv2 hF => ?_)
  refine ops_callP rfl (s_call0 rfl rfl rfl (argo_cons gt9 argo_nil) (.cons (tyo_ok rfl) .nil)) (ok155 hv2) st10 ?_
  refine ops_ok rfl (s_assign rfl gt10 (tyo_ok rfl)) st6 ?_
  refine ops_nil ?_
  refine q_seq ?_
  refine r_seq ?_
  refine r_seq ?_
  refine r_region ?_
  refine ops_ok rfl (s_move rfl gt5 (tyo_ok rfl)) st11 ?_
  refine ops_nil ?_
  refine q_seq ?_
  refine r_condF gt11 hF (fun hc3 hF => ?_) (fun hc3 hF => ?_)
  · skip
    refine r_seq ?_
    refine r_seq ?_
    refine r_region ?_
    refine ops_ok rfl (s_move rfl gt6 (tyo_ok rfl)) st12 ?_
    refine ops_nil ?_
    refine q_seq ?_
    refine r_condF gt12 hF (fun hc4 hF => ?_) (fun hc4 hF => ?_)
    · skip
      refine r_seq ?_
      refine r_region ?_
      refine ops_ok rfl (s_assign rfl rfl (tyo_ok rfl)) st4 ?_
      refine ops_nil ?_
      refine q_seq ?_
      refine r_ret ?_
      refine q_seq_ret ?_
      refine q_seq_ret ?_
      obtain rfl := Option.some.inj hF
      refine q_retL1 rfl (rl_tmp gt4 rl_nil) (fin_ext (leV.refl _) rfl ?_)
      exact ⟨rfl, rfl⟩
    · skip
      refine r_skip ?_
      refine q_seq ?_
      refine r_seq ?_
      refine r_region ?_
      refine ops_ok rfl (s_assign rfl rfl (tyo_ok rfl)) st4 ?_
      refine ops_nil ?_
      refine q_seq ?_
      refine r_ret ?_
      refine q_seq_ret ?_
      obtain rfl := Option.some.inj hF
      refine q_retL1 rfl (rl_tmp gt4 rl_nil) (fin_ext (leV.refl _) rfl ?_)
      exact ⟨rfl, rfl⟩
  · skip
    refine r_skip ?_
    refine q_seq ?_
    refine r_seq ?_
    refine r_seq ?_
    refine r_region ?_
    refine ops_ok rfl (s_move rfl gt6 (tyo_ok rfl)) st13 ?_
    refine ops_nil ?_
    refine q_seq ?_
    refine r_condF gt13 hF (fun hc5 hF => ?_) (fun hc5 hF => ?_)
    · skip
      refine r_seq ?_
      refine r_region ?_
      refine ops_ok rfl (s_assign rfl rfl (tyo_ok rfl)) st4 ?_
      refine ops_nil ?_
      refine q_seq ?_
      refine r_ret ?_
      refine q_seq_ret ?_
      obtain rfl := Option.some.inj hF
      refine q_retL1 rfl (rl_tmp gt4 rl_nil) (fin_ext (leV.refl _) rfl ?_)
      exact ⟨rfl, rfl⟩
    · skip
      refine r_skip ?_
      refine q_seq ?_
      refine r_seq ?_
      refine r_seq ?_
      refine r_region ?_
      refine ops_ok rfl (s_move rfl gt0 (tyo_ok rfl)) st14 ?_
      refine ops_ok rfl (s_move rfl gt1 (tyo_ok rfl)) st15 ?_
      refine ops_ok rfl (s_bin rfl gt14 gt15 rfl) st16 ?_
      refine ops_nil ?_
      refine q_seq ?_
      refine r_condF gt16 hF (fun hc6 hF => ?_) (fun hc6 hF => ?_)
      · skip
        refine r_seq ?_
        refine r_region ?_
        refine ops_ok rfl (s_assign rfl rfl (tyo_ok rfl)) st4 ?_
        refine ops_nil ?_
        refine q_seq ?_
        refine r_ret ?_
        refine q_seq_ret ?_
        obtain rfl := Option.some.inj hF
        refine q_retL1 rfl (rl_tmp gt4 rl_nil) (fin_ext (leV.refl _) rfl ?_)
        exact ⟨rfl, rfl⟩
      · skip
        refine r_skip ?_
        refine q_seq ?_
        refine r_seq ?_
        refine r_seq ?_
        refine r_region ?_
        refine ops_ok rfl (s_move rfl gt0 (tyo_ok rfl)) st17 ?_
        refine ops_ok rfl (s_move rfl gt1 (tyo_ok rfl)) st18 ?_
        refine ops_ok rfl (s_bin rfl gt17 gt18 rfl) st19 ?_
        refine ops_nil ?_
        refine q_seq ?_
        refine r_condF gt19 hF (fun hc7 hF => ?_) (fun hc7 hF => ?_)
        · skip
          refine r_seq ?_
          refine r_region ?_
          refine ops_ok rfl (s_assign rfl rfl (tyo_ok rfl)) st4 ?_
          refine ops_nil ?_
          refine q_seq ?_
          refine r_ret ?_
          refine q_seq_ret ?_
          obtain rfl := Option.some.inj hF
          refine q_retL1 rfl (rl_tmp gt4 rl_nil) (fin_ext (leV.refl _) rfl ?_)
          exact ⟨rfl, rfl⟩
        · skip
          refine r_skip ?_
          refine q_seq ?_
          refine r_seq ?_
          refine r_region ?_
          refine ops_ok rfl (s_assign rfl rfl (tyo_ok rfl)) st4 ?_
          refine ops_nil ?_
          refine q_seq ?_
          refine r_ret ?_
          obtain rfl := Option.some.inj hF
          refine q_retL1 rfl (rl_tmp gt4 rl_nil) (fin_ext (leV.refl _) rfl ?_)
          exact ⟨rfl, rfl⟩
/-! cmp.isNaN[uint32] -/
theorem ok156 {x0 : Int} {res : Bool} {h : AH}  (hF : cmpXisNaNUint32 x0 = some res) : Spec Try.prog 156 [.int .u32 x0] h (fun rr hh => rr = .bool res ∧ hh = h) := by
  unfold cmpXisNaNUint32 at hF
  refine spec_of_body_ext Try.func156 rfl (by kernel_rfl) (env := [.int .u32 x0, aundef, aundef, aundef, aundef, aundef]) (by rfl) ?_
  refine r_seq ?_
  refine r_region ?_
  refine ops_ok rfl (s_assign rfl rfl (tyo_ok rfl)) st2 ?_
  refine ops_nil ?_
  refine q_seq ?_
  refine r_seq ?_
  refine r_region ?_
  refine ops_ok rfl (s_move rfl gt0 (tyo_ok rfl)) st3 ?_
  refine ops_ok rfl (s_move rfl gt0 (tyo_ok rfl)) st4 ?_
  refine ops_ok rfl (s_bin rfl gt3 gt4 rfl) st5 ?_
  refine ops_ok rfl (s_assign rfl gt5 (tyo_ok rfl)) st2 ?_
  refine ops_nil ?_
  refine q_seq ?_
  refine r_ret ?_
  obtain rfl := Option.some.inj hF
  refine q_retL1 rfl (rl_tmp gt2 rl_nil) (fin_ext (leV.refl _) rfl ?_)
  exact ⟨rfl, rfl⟩
/-! cmp.Compare[uint32] -/
theorem ok145 {x0 : Int} {y1 : Int} {res : Int} {h : AH}  (hF : cmpCompareUint32 x0 y1 = some res) : Spec Try.prog 145 [.int .u32 x0, .int .u32 y1] h (fun rr hh => rr = .int .i64 res ∧ hh = h) := by
  unfold cmpCompareUint32 at hF
  refine spec_of_body_ext Try.func145 rfl (by kernel_rfl) (env := [.int .u32 x0, .int .u32 y1, aundef, aundef, aundef, aundef, aundef, aundef, aundef, aundef, aundef, aundef, aundef, aundef, aundef, aundef, aundef, aundef, aundef, aundef]) (by rfl) ?_
  refine r_seq ?_
  refine r_region ?_
  refine ops_ok rfl (s_assign rfl rfl (tyo_ok rfl)) st4 ?_
  refine ops_nil ?_
  refine q_seq ?_
  refine r_seq ?_
  refine r_region ?_
  refine ops_ok rfl (s_move rfl gt0 (tyo_ok rfl)) st7 ?_
  refine bindF hF (fun v1 hv1 hF => ?_)
  refine ops_callP rfl (s_call0 rfl rfl rfl (argo_cons gt7 argo_nil) (.cons (tyo_ok rfl) .nil)) (ok156 hv1) st8 ?_
  refine ops_ok rfl (s_assign rfl gt8 (tyo_ok rfl)) st5 ?_
  refine ops_nil ?_
  refine q_seq ?_
  refine r_seq ?_
  refine r_region ?_
  refine ops_ok rfl (s_move rfl gt1 (tyo_ok rfl)) st9 ?_
  refine bindF hF (fun v2 hv2 hF => ?_)
  refine ops_callP rfl (s_call0 rfl rfl rfl (argo_cons gt9 argo_nil) (.cons (tyo_ok rfl) .nil)) (ok156 hv2) st10 ?_
  refine ops_ok rfl (s_assign rfl gt10 (tyo_ok rfl)) st6 ?_
  refine ops_nil ?_
  refine q_seq ?_
  refine r_seq ?_
  refine r_seq ?_
  refine r_region ?_
  refine ops_ok rfl (s_move rfl gt5 (tyo_ok rfl)) st11 ?_
  refine ops_nil ?_
  refine q_seq ?_
  refine r_condF gt11 hF (fun hc3 hF => ?_) (fun hc3 hF => ?_)
  · skip
    refine r_seq ?_
    refine r_seq ?_
    refine r_region ?_
    refine ops_ok rfl (s_move rfl gt6 (tyo_ok rfl)) st12 ?_
    refine ops_nil ?_
    refine q_seq ?_
    refine r_condF gt12 hF (fun hc4 hF => ?_) (fun hc4 hF => ?_)
    · skip
      refine r_seq ?_
      refine r_region ?_
      refine ops_ok rfl (s_assign rfl rfl (tyo_ok rfl)) st4 ?_
      refine ops_nil ?_
      refine q_seq ?_
      refine r_ret ?_
      refine q_seq_ret ?_
      refine q_seq_ret ?_
      obtain rfl := Option.some.inj hF
      refine q_retL1 rfl (rl_tmp gt4 rl_nil) (fin_ext (leV.refl _) rfl ?_)
      exact ⟨rfl, rfl⟩
    · skip
      refine r_skip ?_
      refine q_seq ?_
      refine r_seq ?_
      refine r_region ?_
      refine ops_ok rfl (s_assign rfl rfl (tyo_ok rfl)) st4 ?_
      refine ops_nil ?_
      refine q_seq ?_
      refine r_ret ?_
      refine q_seq_ret ?_
      obtain rfl := Option.some.inj hF
      refine q_retL1 rfl (rl_tmp gt4 rl_nil) (fin_ext (leV.refl _) rfl ?_)
      exact ⟨rfl, rfl⟩
  · skip
    refine r_skip ?_
    refine q_seq ?_
    refine r_seq ?_
    refine r_seq ?_
    refine r_region ?_
    refine ops_ok rfl (s_move rfl gt6 (tyo_ok rfl)) st13 ?_
    refine ops_nil ?_
    refine q_seq ?_
    refine r_condF gt13 hF (fun hc5 hF => ?_) (fun hc5 hF => ?_)
    · skip
      refine r_seq ?_
      refine r_region ?_
      refine ops_ok rfl (s_assign rfl rfl (tyo_ok rfl)) st4 ?_
      refine ops_nil ?_
      refine q_seq ?_
      refine r_ret ?_
      refine q_seq_ret ?_
      obtain rfl := Option.some.inj hF
      refine q_retL1 rfl (rl_tmp gt4 rl_nil) (fin_ext (leV.refl _) rfl ?_)
      exact ⟨rfl, rfl⟩
    · skip
      refine r_skip ?_
      refine q_seq ?_
      refine r_seq ?_
      refine r_seq ?_
      refine r_region ?_
      refine ops_ok rfl (s_move rfl gt0 (tyo_ok rfl)) st14 ?_
      refine ops_ok rfl (s_move rfl gt1 (tyo_ok rfl)) st15 ?_
      refine ops_ok rfl (s_bin rfl gt14 gt15 rfl) st16 ?_
      refine ops_nil ?_
      refine q_seq ?_
      refine r_condF gt16 hF (fun hc6 hF => ?_) (fun hc6 hF => ?_)
      · skip
        refine r_seq ?_
        refine r_region ?_
        refine ops_ok rfl (s_assign rfl rfl (tyo_ok rfl)) st4 ?_
        refine ops_nil ?_
        refine q_seq ?_
        refine r_ret ?_
        refine q_seq_ret ?_
        obtain rfl := Option.some.inj hF
        refine q_retL1 rfl (rl_tmp gt4 rl_nil) (fin_ext (leV.refl _) rfl ?_)
        exact ⟨rfl, rfl⟩
      · skip
        refine r_skip ?_
        refine q_seq ?_
        refine r_seq ?_
        refine r_seq ?_
        refine r_region ?_
        refine ops_ok rfl (s_move rfl gt0 (tyo_ok rfl)) st17 ?_
        refine ops_ok rfl (s_move rfl gt1 (tyo_ok rfl)) st18 ?_
        refine ops_ok rfl (s_bin rfl gt17 gt18 rfl) st19 ?_
        refine ops_nil ?_
        refine q_seq ?_
        refine r_condF gt19 hF (fun hc7 hF => ?_) (fun hc7 hF => ?_)
        · skip
          refine r_seq ?_
          refine r_region ?_
          refine ops_ok rfl (s_assign rfl rfl (tyo_ok rfl)) st4 ?_
          refine ops_nil ?_
          refine q_seq ?_
          refine r_ret ?_
          refine q_seq_ret ?_
          obtain rfl := Option.some.inj hF
          refine q_retL1 rfl (rl_tmp gt4 rl_nil) (fin_ext (leV.refl _) rfl ?_)
          exact ⟨rfl, rfl⟩
        · skip
          refine r_skip ?_
          refine q_seq ?_
          refine r_seq ?_
          refine r_region ?_
          refine ops_ok rfl (s_assign rfl rfl (tyo_ok rfl)) st4 ?_
          refine ops_nil ?_
          refine q_seq ?_
          refine r_ret ?_
          obtain rfl := Option.some.inj hF
          refine q_retL1 rfl (rl_tmp gt4 rl_nil) (fin_ext (leV.refl _) rfl ?_)
          exact ⟨rfl, rfl⟩
/-! varve/dot.compare -/
theorem ok132 {a0 : GActor} {b1 : GActor} {res : Int} {h : AH}  (hF : dotXcompare a0 b1 = some res) : Spec Try.prog 132 [.agg [.int .u8 a0.rep, .int .u32 a0.inc], .agg [.int .u8 b1.rep, .int .u32 b1.inc]] h (fun rr hh => rr = .int .i64 res ∧ hh = h) := by
  unfold dotXcompare at hF
  refine spec_of_body_ext Try.func132 rfl (by kernel_rfl) (env := [.agg [.int .u8 a0.rep, .int .u32 a0.inc], .agg [.int .u8 b1.rep, .int .u32 b1.inc], aundef, aundef, aundef, aundef, aundef, aundef, aundef, aundef, aundef, aundef, aundef, aundef, aundef, aundef, aundef]) (by rfl) ?_
  refine r_seq ?_
  refine r_region ?_
  refine ops_ok rfl (e_box (n := 0) rfl gt0 (tyo_ok rfl) rfl rfl) st2 ?_
  refine ops_ok rfl (e_box (n := 1) rfl gt1 (tyo_ok rfl) rfl rfl) st3 ?_
  refine ops_ok rfl (s_assign rfl rfl (tyo_ok rfl)) st4 ?_
  refine ops_nil ?_
  refine q_seq ?_
  refine r_seq ?_
  refine r_drawn [4, 9, 11] [] trivial mixed (by kernel_rfl) ?_
  refine draw_ok rfl rfl (s_fieldAddr rfl fo24x0 gt2 rfl) st5 ?_
  refine draw_ok rfl rfl (e_load rfl ty5 gt5 rfl (ldC_one rfl) (tyo_ok rfl)) st6 ?_
  refine draw_ok rfl rfl (s_fieldAddr rfl fo24x0 gt3 rfl) st7 ?_
  refine draw_ok rfl rfl (e_load rfl ty5 gt7 rfl (ldC_one rfl) (tyo_ok rfl)) st8 ?_
  refine bindF hF (fun v1 hv1 hF => ?_)
  refine draw_callN rfl rfl (fun _ => s_call0 rfl rfl rfl (argo_cons gt6 (argo_cons gt8 argo_nil)) (.cons (tyo_ok rfl) (.cons (tyo_ok rfl) .nil))) (by rintro _ ⟨B2, T2, rfl, hk2⟩; exact ok144 hv1) st9 ?_
  refine draw_ok rfl rfl (s_fieldAddr rfl fo24x1 gt2 rfl) st10 ?_
  refine draw_ok rfl rfl (e_load rfl ty22 gt10 rfl (ldC_one rfl) (tyo_ok rfl)) st11 ?_
  refine draw_ok rfl rfl (s_fieldAddr rfl fo24x1 gt3 rfl) st12 ?_
  refine draw_ok rfl rfl (e_load rfl ty22 gt12 rfl (ldC_one rfl) (tyo_ok rfl)) st13 ?_
  refine bindF hF (fun v2 hv2 hF => ?_)
  refine draw_callN rfl rfl (fun _ => s_call0 rfl rfl rfl (argo_cons gt11 (argo_cons gt13 argo_nil)) (.cons (tyo_ok rfl) (.cons (tyo_ok rfl) .nil))) (by rintro _ ⟨B2, T2, rfl, hk2⟩; exact ok145 hv2) st14 ?_
  refine draw_ok rfl rfl (s_buildSlice (es := ([v1, v2] : List Int).map (intRow .i64)) rfl el45 ze3 rfl rfl (parto_cons gt9 (parto_cons gt14 parto_nil)) (.cons (tyo_ok rfl) (.cons (tyo_ok rfl) .nil)) rfl rfl rfl) st15 ?_
  refine bindF hF (fun v3 hv3 hF => ?_)
  refine draw_callN rfl rfl (fun _ => s_call0 rfl rfl rfl (argo_cons gt15 argo_nil) (.cons (tyo_ok rfl) .nil)) (by rintro _ ⟨B2, T2, rfl, hk2⟩; exact (ok131 hv3).le (.cons (leV.osl _ _ _) leL.nil)) st16 ?_
  refine draw_ok rfl rfl (s_assign rfl gt16 (tyo_ok rfl)) st4 ?_
  refine draw_nil ?_
  refine q_seq ?_
  refine r_ret ?_
  obtain rfl := Option.some.inj hF
  refine q_retL1 rfl (rl_tmp gt4 rl_nil) (fin_ext (leV.refl _) rfl ?_)
  exact ⟨rfl, rfl⟩
/-! cmp.isNaN[uint64] -/
theorem ok146 {x0 : Int} {res : Bool} {h : AH}  (hF : cmpXisNaNUint64 x0 = some res) : Spec Try.prog 146 [.int .u64 x0] h (fun rr hh => rr = .bool res ∧ hh = h) := by
  unfold cmpXisNaNUint64 at hF
  refine spec_of_body_ext Try.func146 rfl (by kernel_rfl) (env := [.int .u64 x0, aundef, aundef, aundef, aundef, aundef]) (by rfl) ?_
  refine r_seq ?_
  refine r_region ?_
  refine ops_ok rfl (s_assign rfl rfl (tyo_ok rfl)) st2 ?_
  refine ops_nil ?_
  refine q_seq ?_
  refine r_seq ?_
  refine r_region ?_
  refine ops_ok rfl (s_move rfl gt0 (tyo_ok rfl)) st3 ?_
  refine ops_ok rfl (s_move rfl gt0 (tyo_ok rfl)) st4 ?_
  refine ops_ok rfl (s_bin rfl gt3 gt4 rfl) st5 ?_
  refine ops_ok rfl (s_assign rfl gt5 (tyo_ok rfl)) st2 ?_
  refine ops_nil ?_
  refine q_seq ?_
  refine r_ret ?_
  obtain rfl := Option.some.inj hF
  refine q_retL1 rfl (rl_tmp gt2 rl_nil) (fin_ext (leV.refl _) rfl ?_)
  exact ⟨rfl, rfl⟩
/-! cmp.Compare[uint64] -/
theorem ok133 {x0 : Int} {y1 : Int} {res : Int} {h : AH}  (hF : cmpCompareUint64 x0 y1 = some res) : Spec Try.prog 133 [.int .u64 x0, .int .u64 y1] h (fun rr hh => rr = .int .i64 res ∧ hh = h) := by
  unfold cmpCompareUint64 at hF
  refine spec_of_body_ext Try.func133 rfl (by kernel_rfl) (env := [.int .u64 x0, .int .u64 y1, aundef, aundef, aundef, aundef, aundef, aundef, aundef, aundef, aundef, aundef, aundef, aundef, aundef, aundef, aundef, aundef, aundef, aundef]) (by rfl) ?_
  refine r_seq ?_
  refine r_region ?_
  refine ops_ok rfl (s_assign rfl rfl (tyo_ok rfl)) st4 ?_
  refine ops_nil ?_
  refine q_seq ?_
  refine r_seq ?_
  refine r_region ?_
  refine ops_ok rfl (s_move rfl gt0 (tyo_ok rfl)) st7 ?_
  refine bindF hF (fun v1 hv1 hF => ?_)
  refine ops_callP rfl (s_call0 rfl rfl rfl (argo_cons gt7 argo_nil) (.cons (tyo_ok rfl) .nil)) (ok146 hv1) st8 ?_
  refine ops_ok rfl (s_assign rfl gt8 (tyo_ok rfl)) st5 ?_
  refine ops_nil ?_
  refine q_seq ?_
  refine r_seq ?_
  refine r_region ?_
  refine ops_ok rfl (s_move rfl gt1 (tyo_ok rfl)) st9 ?_
  refine bindF hF (fun v2 hv2 hF => ?_)
  refine ops_callP rfl (s_call0 rfl rfl rfl (argo_cons gt9 argo_nil) (.cons (tyo_ok rfl) .nil)) (ok146 hv2) st10 ?_
  refine ops_ok rfl (s_assign rfl gt10 (tyo_ok rfl)) st6 ?_
  refine ops_nil ?_
  refine q_seq ?_
  refine r_seq ?_
  refine r_seq ?_
  refine r_region ?_
  refine ops_ok rfl (s_move rfl gt5 (tyo_ok rfl)) st11 ?_
  refine ops_nil ?_
  refine q_seq ?_
  refine r_condF gt11 hF (fun hc3 hF => ?_) (fun hc3 hF => ?_)
  · skip
    refine r_seq ?_
    refine r_seq ?_
    refine r_region ?_
    refine ops_ok rfl (s_move rfl gt6 (tyo_ok rfl)) st12 ?_
    refine ops_nil ?_
    refine q_seq ?_
    refine r_condF gt12 hF (fun hc4 hF => ?_) (fun hc4 hF => ?_)
    · skip
      refine r_seq ?_
      refine r_region ?_
      refine ops_ok rfl (s_assign rfl rfl (tyo_ok rfl)) st4 ?_
      refine ops_nil ?_
      refine q_seq ?_
      refine r_ret ?_
      refine q_seq_ret ?_
      refine q_seq_ret ?_
      obtain rfl := Option.some.inj hF
      refine q_retL1 rfl (rl_tmp gt4 rl_nil) (fin_ext (leV.refl _) rfl ?_)
      exact ⟨rfl, rfl⟩
    · skip
      refine r_skip ?_
      refine q_seq ?_
      refine r_seq ?_
      refine r_region ?_
      refine ops_ok rfl (s_assign rfl rfl (tyo_ok rfl)) st4 ?_
      refine ops_nil ?_
      refine q_seq ?_
      refine r_ret ?_
      refine q_seq_ret ?_
      obtain rfl := Option.some.inj hF
      refine q_retL1 rfl (rl_tmp gt4 rl_nil) (fin_ext (leV.refl _) rfl ?_)
      exact ⟨rfl, rfl⟩
  · skip
    refine r_skip ?_
    refine q_seq ?_
    refine r_seq ?_
    refine r_seq ?_
    refine r_region ?_
    refine ops_ok rfl (s_move rfl gt6 (tyo_ok rfl)) st13 ?_
    refine ops_nil ?_
    refine q_seq ?_
    refine r_condF gt13 hF (fun hc5 hF => ?_) (fun hc5 hF => ?_)
    · skip
      refine r_seq ?_
      refine r_region ?_
      refine ops_ok rfl (s_assign rfl rfl (tyo_ok rfl)) st4 ?_
      refine ops_nil ?_
      refine q_seq ?_
      refine r_ret ?_
      refine q_seq_ret ?_
      obtain rfl := Option.some.inj hF
      refine q_retL1 rfl (rl_tmp gt4 rl_nil) (fin_ext (leV.refl _) rfl ?_)
      exact ⟨rfl, rfl⟩
    · skip
      refine r_skip ?_
      refine q_seq ?_
      refine r_seq ?_
      refine r_seq ?_
      refine r_region ?_
      refine ops_ok rfl (s_move rfl gt0 (tyo_ok rfl)) st14 ?_
      refine ops_ok rfl (s_move rfl gt1 (tyo_ok rfl)) st15 ?_
      refine ops_ok rfl (s_bin rfl gt14 gt15 rfl) st16 ?_
      refine ops_nil ?_
      refine q_seq ?_
      refine r_condF gt16 hF (fun hc6 hF => ?_) (fun hc6 hF => ?_)
      · skip
        refine r_seq ?_
        refine r_region ?_
        refine ops_ok rfl (s_assign rfl rfl (tyo_ok rfl)) st4 ?_
        refine ops_nil ?_
        refine q_seq ?_
        refine r_ret ?_
        refine q_seq_ret ?_
        obtain rfl := Option.some.inj hF
        refine q_retL1 rfl (rl_tmp gt4 rl_nil) (fin_ext (leV.refl _) rfl ?_)
        exact ⟨rfl, rfl⟩
      · skip
        refine r_skip ?_
        refine q_seq ?_
        refine r_seq ?_
        refine r_seq ?_
        refine r_region ?_
        refine ops_ok rfl (s_move rfl gt0 (tyo_ok rfl)) st17 ?_
        refine ops_ok rfl (s_move rfl gt1 (tyo_ok rfl)) st18 ?_
        refine ops_ok rfl (s_bin rfl gt17 gt18 rfl) st19 ?_
        refine ops_nil ?_
        refine q_seq ?_
        refine r_condF gt19 hF (fun hc7 hF => ?_) (fun hc7 hF => ?_)
        · skip
          refine r_seq ?_
          refine r_region ?_
          refine ops_ok rfl (s_assign rfl rfl (tyo_ok rfl)) st4 ?_
          refine ops_nil ?_
          refine q_seq ?_
          refine r_ret ?_
          refine q_seq_ret ?_
          obtain rfl := Option.some.inj hF
          refine q_retL1 rfl (rl_tmp gt4 rl_nil) (fin_ext (leV.refl _) rfl ?_)
          exact ⟨rfl, rfl⟩
        · skip
          refine r_skip ?_
          refine q_seq ?_
          refine r_seq ?_
          refine r_region ?_
          refine ops_ok rfl (s_assign rfl rfl (tyo_ok rfl)) st4 ?_
          refine ops_nil ?_
          refine q_seq ?_
          refine r_ret ?_
          obtain rfl := Option.some.inj hF
          refine q_retL1 rfl (rl_tmp gt4 rl_nil) (fin_ext (leV.refl _) rfl ?_)
          exact ⟨rfl, rfl⟩
/-! varve/varveref04.IsName -/
theorem ok12 {s0 : Str} {res : Bool} {h : AH}  (hF : ref04IsName s0 = some res) : Spec Try.prog 12 [.str s0] h (fun rr hh => rr = .bool res ∧ hh = h) := by
  unfold ref04IsName at hF
  refine spec_of_body_ext Try.func12 rfl (by kernel_rfl) (env := [.str s0, aundef, aundef, aundef, aundef, aundef, aundef, aundef, aundef, aundef, aundef, aundef, aundef, aundef, aundef, aundef, aundef, aundef, aundef, aundef, aundef, aundef, aundef, aundef, aundef, aundef, aundef, aundef, aundef, aundef, aundef, aundef, aundef, aundef, aundef, aundef, aundef, aundef, aundef, aundef, aundef, aundef, aundef, aundef, aundef]) (by rfl) ?_
  refine r_seq ?_
  refine r_region ?_
  refine ops_ok rfl (s_assign rfl rfl (tyo_ok rfl)) st2 ?_
  refine ops_nil ?_
  refine q_seq ?_
  refine r_seq ?_
  refine r_seq ?_
  refine r_region ?_
  refine ops_ok rfl (s_move rfl gt0 (tyo_ok rfl)) st5 ?_
  refine ops_len rfl (s_lenStr rfl rfl rfl rfl ty9 gt5) st6 fun hn1 => ?_
  replace hn1 := lenN hn1
  refine ops_ok rfl (s_bin rfl gt6 rfl rfl) st7 ?_
  refine ops_ok rfl (s_move rfl gt7 (tyo_ok rfl)) st8 ?_
  refine ops_gv rfl (fun hb => s_move rfl gt0 (tyo_ok rfl)) st9 ?_
  refine ops_glen rfl (fun hb => s_lenStr rfl rfl rfl rfl ty9 (evo_gv gt9 hb)) st10 fun hn2 => ?_
  refine ops_gv rfl (fun hb => s_bin rfl (evo_gv gt10 hb) rfl rfl) st11 ?_
  refine ops_ok rfl (s_pick rfl gt8 rfl gt11 (pick_or (fun ht => gF ht))) st12 ?_
  refine ops_nil ?_
  refine q_seq ?_
  refine r_condF gt12 hF (fun hc3 hF => ?_) (fun hc3 hF => ?_)
  · skip
    refine r_seq ?_
    refine r_region ?_
    refine ops_ok rfl (s_assign rfl rfl (tyo_ok rfl)) st2 ?_
    refine ops_nil ?_
    refine q_seq ?_
    refine r_ret ?_
    refine q_seq_ret ?_
    obtain rfl := Option.some.inj hF
    refine q_retL1 rfl (rl_tmp gt2 rl_nil) (fin_ext (leV.refl _) rfl ?_)
    exact ⟨rfl, rfl⟩
  · skip
    refine r_skip ?_
    refine q_seq ?_
    refine r_seq ?_
    refine r_seq ?_
    refine r_region ?_
    refine ops_ok rfl (s_assign rfl rfl (tyo_ok rfl)) st3 ?_
    refine ops_nil ?_
    refine q_seq ?_
    refine r_block ?_
    refine r_loopLF (fun (n1 : Nat) (s1 : Unit) => [(1, .any), (2, .any), (3, .int .i64 (n1 : Int)), (4, .any), (5, .any), (6, .any), (7, .any), (8, .any), (9, .any), (10, .any), (11, .any), (12, .any), (13, .any), (14, .any), (15, .any), (16, .any), (17, .any), (18, .any), (19, .any), (20, .any), (21, .any), (22, .any), (23, .any), (24, .any), (25, .any), (26, .any), (27, .any), (28, .any), (29, .any), (30, .any), (31, .any), (32, .any), (33, .any), (34, .any), (35, .any), (36, .any), (37, .any), (38, .any), (39, .any), (40, .any), (41, .any), (42, .any), (43, .any), (44, .any)]) (fun s1 => h.ext [] []) hF (fun _ _ => by simp only [upd, List.set_cons_succ, List.set_cons_zero]; try rfl) (wk.le (by exact (.eq (.drop (.drop (.cons (leV.of_eq rfl) (.drop (.drop (.drop (.drop (.drop (.drop (.drop (.drop (.drop (.drop (.drop (.drop (.drop (.drop (.drop (.drop (.drop (.drop (.drop (.drop (.drop (.drop (.drop (.drop (.drop (.drop (.drop (.drop (.drop (.drop (.drop (.drop (.drop (.drop (.drop (.drop (.drop (.drop (.drop (.drop (.drop leL.nil))))))))))))))))))))))))))))))))))))))))))))))) ?_
    intro n1 s1 hi1 hF
    refine r_seq ?_
    refine r_seq ?_
    refine r_region ?_
    refine ops_ok rfl (s_move rfl gt3 (tyo_ok rfl)) st13 ?_
    refine ops_ok rfl (s_move rfl gt0 (tyo_ok rfl)) st14 ?_
    refine ops_len rfl (s_lenStr rfl rfl rfl rfl ty9 gt14) st15 fun hn10 => ?_
    replace hn10 := lenN hn10
    refine ops_ok rfl (s_bin rfl gt13 gt15 rfl) st16 ?_
    refine ops_nil ?_
    refine q_seq ?_
    refine r_condL gt16 hF (fun x1 o1 hl1 hx1 hF hK1 => ?_) (fun hF => ?_)
    · skip
      refine r_skip ?_
      refine q_seq ?_
      refine r_seq ?_
      refine r_block ?_
      refine r_seq ?_
      refine r_region ?_
      refine ops_ok rfl (s_move rfl gt0 (tyo_ok rfl)) st19 ?_
      refine ops_ok rfl (s_move rfl gt3 (tyo_ok rfl)) st20 ?_
      refine ops_ok rfl (s_idxStr rfl ty9 gt19 gt20 (idx_of hx1)) st21 ?_
      refine ops_ok rfl (s_assign rfl gt21 (tyo_ok rfl)) st4 ?_
      refine ops_nil ?_
      refine q_seq ?_
      refine r_seq ?_
      refine r_region ?_
      refine ops_ok rfl (s_move rfl gt4 (tyo_ok rfl)) st22 ?_
      refine ops_ok rfl (s_bin rfl gt22 rfl rfl) st23 ?_
      refine ops_ok rfl (s_move rfl gt23 (tyo_ok rfl)) st24 ?_
      refine ops_gv rfl (fun hb => s_move rfl gt4 (tyo_ok rfl)) st25 ?_
      refine ops_gv rfl (fun hb => s_bin rfl (evo_gv gt25 hb) rfl rfl) st26 ?_
      refine ops_ok rfl (s_pick rfl gt24 gt26 rfl (pick_and (fun ht => gT ht))) st27 ?_
      refine ops_ok rfl (s_move rfl gt27 (tyo_ok rfl)) st28 ?_
      refine ops_gv rfl (fun hb => s_move rfl gt4 (tyo_ok rfl)) st29 ?_
      refine ops_gv rfl (fun hb => s_bin rfl (evo_gv gt29 hb) rfl rfl) st30 ?_
      refine ops_gv rfl (fun hb => s_move rfl (evo_gv gt30 hb) (tyo_ok rfl)) st31 ?_
      refine ops_gv (aG_gv rfl rfl rfl) (fun hb => s_move rfl gt4 (tyo_ok rfl)) st32 ?_
      refine ops_gv (aG_gv rfl rfl rfl) (fun hb => s_bin rfl (evo_gv gt32 hb) rfl rfl) st33 ?_
      refine ops_gv rfl (fun hb => s_pick rfl (evo_gv gt31 hb) gt33 rfl (pick_and (fun ht => gT2 hb ht))) st34 ?_
      refine ops_ok rfl (s_pick rfl gt28 rfl gt34 (pick_or (fun ht => gF ht))) st35 ?_
      refine ops_ok rfl (s_move rfl gt35 (tyo_ok rfl)) st36 ?_
      refine ops_gv rfl (fun hb => s_move rfl gt4 (tyo_ok rfl)) st37 ?_
      refine ops_gv rfl (fun hb => s_bin rfl (evo_gv gt37 hb) rfl rfl) st38 ?_
      refine ops_gv rfl (fun hb => s_move rfl (evo_gv gt38 hb) (tyo_ok rfl)) st39 ?_
      refine ops_gv (aG_gv rfl rfl rfl) (fun hb => s_move rfl gt4 (tyo_ok rfl)) (sk st0) ?_
      refine ops_gv (aG_gv rfl rfl rfl) (fun hb => s_bin rfl (evo_gv (gk gt0) hb) rfl rfl) (sk st1) ?_
      refine ops_gv rfl (fun hb => s_pick rfl (evo_gv gt39 hb) (gk gt1) rfl (pick_and (fun ht => gT2 hb ht))) (sk st2) ?_
      refine ops_ok rfl (s_pick rfl gt36 rfl (gk gt2) (pick_or (fun ht => gF ht))) (sk st3) ?_
      refine ops_ok rfl (s_un rfl (gk gt3) rfl) (sk st4) ?_
      refine ops_nil ?_
      refine q_seq ?_
      refine r_condF (gk gt4) hF (fun hc11 hF => ?_) (fun hc11 hF => ?_)
      · skip
        refine r_seq ?_
        refine r_region ?_
        refine ops_ok rfl (s_assign rfl rfl (tyo_ok rfl)) st2 ?_
        refine ops_nil ?_
        refine q_seq ?_
        refine r_ret ?_
        refine q_block_ret ?_
        refine q_seq_ret ?_
        refine q_loop_ret ?_
        obtain rfl := Option.some.inj hF
        replace hF := hK1
        refine q_block_ret ?_
        refine q_seq_ret ?_
        obtain rfl := Option.some.inj hF
        refine q_retL1 rfl (rl_tmp gt2 rl_nil) (fin_ext (leV.refl _) rfl ?_)
        exact ⟨rfl, rfl⟩
      · skip
        refine r_skip ?_
        refine q_block ?_
        refine q_seq ?_
        refine r_region ?_
        refine ops_ok rfl (s_move rfl gt3 (tyo_ok rfl)) st17 ?_
        refine ops_ok rfl (s_bin rfl gt17 rfl rfl) st18 ?_
        refine ops_ok rfl (s_assign rfl gt18 (tyo_ok rfl)) st3 ?_
        refine ops_nil ?_
        refine q_loop ?_
        obtain rfl := Option.some.inj hF
        exact ⟨(), hl1, hK1, wk.le (by exact (.eq (.drop (.drop (.cons (leV.of_eq (w64e (by omega) (by omega))) (.drop (.drop (.drop (.drop (.drop (.drop (.drop (.drop (.drop (.drop (.drop (.drop (.drop (.drop (.drop (.drop (.drop (.drop (.drop (.drop (.drop (.drop (.drop (.drop (.drop (.drop (.drop (.drop (.drop (.drop (.drop (.drop (.drop (.drop (.drop (.drop (.drop (.drop (.drop (.drop (.drop leL.nil))))))))))))))))))))))))))))))))))))))))))))))⟩
    · skip
      refine r_exit ?_
      refine q_seq_exit ?_
      refine q_loop_exit ?_
      refine q_block_hit ?_
      refine q_seq ?_
      refine r_seq ?_
      refine r_region ?_
      refine ops_ok rfl (s_assign rfl rfl (tyo_ok rfl)) st2 ?_
      refine ops_nil ?_
      refine q_seq ?_
      refine r_ret ?_
      obtain rfl := Option.some.inj hF
      refine q_retL1 rfl (rl_tmp gt2 rl_nil) (fin_ext (leV.refl _) rfl ?_)
      exact ⟨rfl, rfl⟩
/-! varve/varveref05.Item -/
theorem ok117 {l0 : (List GItem)} {d1 : GDot} {res : Int} {h : AH}  (hF : ref05Item l0 d1 = some res) : Spec Try.prog 117 [.sl 5 (l0.map GItem.row), .agg [.int .u8 d1.actor.rep, .int .u32 d1.actor.inc, .int .u64 d1.seq]] h (fun rr hh => rr = .int .i64 res ∧ hh = h) := by
  unfold ref05Item at hF
  refine spec_of_body_ext Try.func117 rfl (by kernel_rfl) (env := [.sl 5 (l0.map GItem.row), .agg [.int .u8 d1.actor.rep, .int .u32 d1.actor.inc, .int .u64 d1.seq], aundef, aundef, aundef, aundef, aundef, aundef, aundef, aundef, aundef, aundef, aundef, aundef, aundef, aundef, aundef, aundef, aundef, aundef]) (by rfl) ?_
  refine r_seq ?_
  refine r_region ?_
  refine ops_ok rfl (e_box (n := 0) rfl gt1 (tyo_ok rfl) rfl rfl) st3 ?_
  refine ops_ok rfl (s_assign rfl rfl (tyo_ok rfl)) st4 ?_
  refine ops_nil ?_
  refine q_seq ?_
  refine r_seq ?_
  refine r_seq ?_
  refine r_region ?_
  refine ops_ok rfl (s_assign rfl rfl (tyo_ok rfl)) st5 ?_
  refine ops_nil ?_
  refine q_seq ?_
  refine r_block ?_
  refine r_loopLF (fun (n1 : Nat) (s1 : Unit) => [(1, .any), (2, .any), (4, .any), (5, .int .i64 (n1 : Int)), (6, .any), (7, .any), (8, .any), (9, .any), (10, .any), (11, .any), (12, .any), (13, .any), (14, .any), (15, .any), (16, .any), (17, .any), (18, .any), (19, .any)]) (fun s1 => h.ext [.cells [.int .u8 d1.actor.rep, .int .u32 d1.actor.inc, .int .u64 d1.seq]] []) hF (fun _ _ => by simp only [upd, List.set_cons_succ, List.set_cons_zero]; try rfl) (wk.le (by exact (.eq (.drop (.drop (.eq (.drop (.cons (leV.of_eq rfl) (.drop (.drop (.drop (.drop (.drop (.drop (.drop (.drop (.drop (.drop (.drop (.drop (.drop (.drop leL.nil)))))))))))))))))))))) ?_
  intro n1 s1 hi1 hF
  refine r_seq ?_
  refine r_seq ?_
  refine r_region ?_
  refine ops_ok rfl (s_move rfl gt5 (tyo_ok rfl)) st6 ?_
  refine ops_ok rfl (s_move rfl gt0 (tyo_ok rfl)) st7 ?_
  refine ops_len rfl (s_lenSl rfl rfl rfl rfl el63 gt7 lenMap) st8 fun hn10 => ?_
  replace hn10 := lenN hn10
  refine ops_ok rfl (s_bin rfl gt6 gt8 rfl) st9 ?_
  refine ops_nil ?_
  refine q_seq ?_
  refine r_condL gt9 hF (fun x1 o1 hl1 hx1 hF hK1 => ?_) (fun hF => ?_)
  · skip
    refine r_skip ?_
    refine q_seq ?_
    refine r_seq ?_
    refine r_block ?_
    refine r_seq ?_
    refine r_drawn [] [] trivial mixed (by kernel_rfl) ?_
    refine draw_ok rfl rfl (s_move rfl gt0 (tyo_ok rfl)) st12 ?_
    refine draw_ok rfl rfl (s_move rfl gt5 (tyo_ok rfl)) st13 ?_
    refine draw_ok rfl rfl (s_idxRow rfl el63 gt12 gt13 isl (idx_of hx1)) st14 ?_
    refine draw_ok rfl rfl (s_fieldAddr rfl fo73x1 gt14 rfl) st15 ?_
    refine draw_ok rfl rfl (f_load rfl ty27.choose_spec.1 gt15 (ldC_agX (cs' := [.int .u8 x1.dot.actor.rep, .int .u32 x1.dot.actor.inc, .int .u64 x1.dot.seq]) ty27.choose_spec.2 rfl rfl) (tyo_ok rfl)) st16 ?_
    refine draw_ok rfl rfl (e_load rfl ty27.choose_spec.1 gt3 rfl (ldC_agX (cs' := [.int .u8 d1.actor.rep, .int .u32 d1.actor.inc, .int .u64 d1.seq]) ty27.choose_spec.2 rfl rfl) (tyo_ok rfl)) st17 ?_
    refine draw_ok rfl rfl (s_bin rfl gt16 gt17 (bin_eq pk27 rfl)) st18 ?_
    refine draw_nil ?_
    refine q_seq ?_
    refine r_condF gt18 hF (fun hc11 hF => ?_) (fun hc11 hF => ?_)
    · skip
      refine r_seq ?_
      refine r_region ?_
      refine ops_ok rfl (s_move rfl gt5 (tyo_ok rfl)) st19 ?_
      refine ops_ok rfl (s_assign rfl gt19 (tyo_ok rfl)) st4 ?_
      refine ops_nil ?_
      refine q_seq ?_
      refine r_ret ?_
      refine q_block_ret ?_
      refine q_seq_ret ?_
      refine q_loop_ret ?_
      obtain rfl := Option.some.inj hF
      replace hF := hK1
      refine q_block_ret ?_
      refine q_seq_ret ?_
      obtain rfl := Option.some.inj hF
      refine q_retL1 rfl (rl_tmp gt4 rl_nil) (fin_ext (leV.refl _) rfl ?_)
      exact ⟨rfl, rfl⟩
    · skip
      refine r_skip ?_
      refine q_block ?_
      refine q_seq ?_
      refine r_region ?_
      refine ops_ok rfl (s_move rfl gt5 (tyo_ok rfl)) st10 ?_
      refine ops_ok rfl (s_bin rfl gt10 rfl rfl) st11 ?_
      refine ops_ok rfl (s_assign rfl gt11 (tyo_ok rfl)) st5 ?_
      refine ops_nil ?_
      refine q_loop ?_
      obtain rfl := Option.some.inj hF
      exact ⟨(), hl1, hK1, wk.le (by exact (.eq (.drop (.drop (.eq (.drop (.cons (leV.of_eq (w64e (by omega) (by omega))) (.drop (.drop (.drop (.drop (.drop (.drop (.drop (.drop (.drop (.drop (.drop (.drop (.drop (.drop leL.nil)))))))))))))))))))))⟩
  · skip
    refine r_exit ?_
    refine q_seq_exit ?_
    refine q_loop_exit ?_
    refine q_block_hit ?_
    refine q_seq ?_
    refine r_seq ?_
    refine r_region ?_
    refine ops_ok rfl (s_assign rfl rfl (tyo_ok rfl)) st4 ?_
    refine ops_nil ?_
    refine q_seq ?_
    refine r_ret ?_
    obtain rfl := Option.some.inj hF
    refine q_retL1 rfl (rl_tmp gt4 rl_nil) (fin_ext (leV.refl _) rfl ?_)
    exact ⟨rfl, rfl⟩
/-! varve/varveref05.Tomb -/
theorem ok118 {l0 : (List GDot)} {d1 : GDot} {res : Bool} {h : AH}  (hF : ref05Tomb l0 d1 = some res) : Spec Try.prog 118 [.sl 3 (l0.map GDot.row), .agg [.int .u8 d1.actor.rep, .int .u32 d1.actor.inc, .int .u64 d1.seq]] h (fun rr hh => rr = .bool res ∧ hh = h) := by
  unfold ref05Tomb at hF
  refine spec_of_body_ext Try.func118 rfl (by kernel_rfl) (env := [.sl 3 (l0.map GDot.row), .agg [.int .u8 d1.actor.rep, .int .u32 d1.actor.inc, .int .u64 d1.seq], aundef, aundef, aundef, aundef, aundef, aundef, aundef, aundef, aundef, aundef, aundef, aundef, aundef, aundef, aundef, aundef]) (by rfl) ?_
  refine r_seq ?_
  refine r_region ?_
  refine ops_ok rfl (e_box (n := 0) rfl gt1 (tyo_ok rfl) rfl rfl) st3 ?_
  refine ops_ok rfl (s_assign rfl rfl (tyo_ok rfl)) st4 ?_
  refine ops_nil ?_
  refine q_seq ?_
  refine r_seq ?_
  refine r_seq ?_
  refine r_region ?_
  refine ops_ok rfl (s_assign rfl rfl (tyo_ok rfl)) st5 ?_
  refine ops_nil ?_
  refine q_seq ?_
  refine r_block ?_
  refine r_loopLF (fun (n1 : Nat) (s1 : Unit) => [(1, .any), (2, .any), (4, .any), (5, .int .i64 (n1 : Int)), (6, .any), (7, .any), (8, .any), (9, .any), (10, .any), (11, .any), (12, .any), (13, .any), (14, .any), (15, .any), (16, .any), (17, .any)]) (fun s1 => h.ext [.cells [.int .u8 d1.actor.rep, .int .u32 d1.actor.inc, .int .u64 d1.seq]] []) hF (fun _ _ => by simp only [upd, List.set_cons_succ, List.set_cons_zero]; try rfl) (wk.le (by exact (.eq (.drop (.drop (.eq (.drop (.cons (leV.of_eq rfl) (.drop (.drop (.drop (.drop (.drop (.drop (.drop (.drop (.drop (.drop (.drop (.drop leL.nil)))))))))))))))))))) ?_
  intro n1 s1 hi1 hF
  refine r_seq ?_
  refine r_seq ?_
  refine r_region ?_
  refine ops_ok rfl (s_move rfl gt5 (tyo_ok rfl)) st6 ?_
  refine ops_ok rfl (s_move rfl gt0 (tyo_ok rfl)) st7 ?_
  refine ops_len rfl (s_lenSl rfl rfl rfl rfl el29 gt7 lenMap) st8 fun hn10 => ?_
  replace hn10 := lenN hn10
  refine ops_ok rfl (s_bin rfl gt6 gt8 rfl) st9 ?_
  refine ops_nil ?_
  refine q_seq ?_
  refine r_condL gt9 hF (fun x1 o1 hl1 hx1 hF hK1 => ?_) (fun hF => ?_)
  · skip
    refine r_skip ?_
    refine q_seq ?_
    refine r_seq ?_
    refine r_block ?_
    refine r_seq ?_
    refine r_drawn [] [] trivial mixed (by kernel_rfl) ?_
    refine draw_ok rfl rfl (s_move rfl gt0 (tyo_ok rfl)) st12 ?_
    refine draw_ok rfl rfl (s_move rfl gt5 (tyo_ok rfl)) st13 ?_
    refine draw_ok rfl rfl (s_idxRow rfl el29 gt12 gt13 isl (idx_of hx1)) st14 ?_
    refine draw_ok rfl rfl (f_load rfl ty27.choose_spec.1 gt14 (ldC_agX (cs' := [.int .u8 x1.actor.rep, .int .u32 x1.actor.inc, .int .u64 x1.seq]) ty27.choose_spec.2 rfl rfl) (tyo_ok rfl)) st15 ?_
    refine draw_ok rfl rfl (e_load rfl ty27.choose_spec.1 gt3 rfl (ldC_agX (cs' := [.int .u8 d1.actor.rep, .int .u32 d1.actor.inc, .int .u64 d1.seq]) ty27.choose_spec.2 rfl rfl) (tyo_ok rfl)) st16 ?_
    refine draw_ok rfl rfl (s_bin rfl gt15 gt16 (bin_eq pk27 rfl)) st17 ?_
    refine draw_nil ?_
    refine q_seq ?_
    refine r_condF gt17 hF (fun hc11 hF => ?_) (fun hc11 hF => ?_)
    · skip
      refine r_seq ?_
      refine r_region ?_
      refine ops_ok rfl (s_assign rfl rfl (tyo_ok rfl)) st4 ?_
      refine ops_nil ?_
      refine q_seq ?_
      refine r_ret ?_
      refine q_block_ret ?_
      refine q_seq_ret ?_
      refine q_loop_ret ?_
      obtain rfl := Option.some.inj hF
      replace hF := hK1
      refine q_block_ret ?_
      refine q_seq_ret ?_
      obtain rfl := Option.some.inj hF
      refine q_retL1 rfl (rl_tmp gt4 rl_nil) (fin_ext (leV.refl _) rfl ?_)
      exact ⟨rfl, rfl⟩
    · skip
      refine r_skip ?_
      refine q_block ?_
      refine q_seq ?_
      refine r_region ?_
      refine ops_ok rfl (s_move rfl gt5 (tyo_ok rfl)) st10 ?_
      refine ops_ok rfl (s_bin rfl gt10 rfl rfl) st11 ?_
      refine ops_ok rfl (s_assign rfl gt11 (tyo_ok rfl)) st5 ?_
      refine ops_nil ?_
      refine q_loop ?_
      obtain rfl := Option.some.inj hF
      exact ⟨(), hl1, hK1, wk.le (by exact (.eq (.drop (.drop (.eq (.drop (.cons (leV.of_eq (w64e (by omega) (by omega))) (.drop (.drop (.drop (.drop (.drop (.drop (.drop (.drop (.drop (.drop (.drop (.drop leL.nil)))))))))))))))))))⟩
  · skip
    refine r_exit ?_
    refine q_seq_exit ?_
    refine q_loop_exit ?_
    refine q_block_hit ?_
    refine q_seq ?_
    refine r_seq ?_
    refine r_region ?_
    refine ops_ok rfl (s_assign rfl rfl (tyo_ok rfl)) st4 ?_
    refine ops_nil ?_
    refine q_seq ?_
    refine r_ret ?_
    obtain rfl := Option.some.inj hF
    refine q_retL1 rfl (rl_tmp gt4 rl_nil) (fin_ext (leV.refl _) rfl ?_)
    exact ⟨rfl, rfl⟩
/-! varve/varveref03.Less -/
theorem ok56 {a0 : GDot} {b1 : GDot} {res : Bool} {h : AH}  (hF : ref03Less a0 b1 = some res) : Spec Try.prog 56 [.agg [.int .u8 a0.actor.rep, .int .u32 a0.actor.inc, .int .u64 a0.seq], .agg [.int .u8 b1.actor.rep, .int .u32 b1.actor.inc, .int .u64 b1.seq]] h (fun rr hh => rr = .bool res ∧ hh = h) := by
  unfold ref03Less at hF
  refine spec_of_body_ext Try.func56 rfl (by kernel_rfl) (env := [.agg [.int .u8 a0.actor.rep, .int .u32 a0.actor.inc, .int .u64 a0.seq], .agg [.int .u8 b1.actor.rep, .int .u32 b1.actor.inc, .int .u64 b1.seq], aundef, aundef, aundef, aundef, aundef, aundef, aundef, aundef, aundef, aundef, aundef, aundef, aundef, aundef, aundef, aundef, aundef, aundef, aundef, aundef, aundef, aundef, aundef, aundef, aundef, aundef, aundef, aundef, aundef, aundef, aundef, aundef, aundef, aundef, aundef, aundef]) (by rfl) ?_
  refine r_seq ?_
  refine r_region ?_
  refine ops_ok rfl (e_box (n := 0) rfl gt0 (tyo_ok rfl) rfl rfl) st2 ?_
  refine ops_ok rfl (e_box (n := 1) rfl gt1 (tyo_ok rfl) rfl rfl) st3 ?_
  refine ops_ok rfl (s_assign rfl rfl (tyo_ok rfl)) st4 ?_
  refine ops_nil ?_
  refine q_seq ?_
  refine r_seq ?_
  refine r_seq ?_
  refine r_region ?_
  refine ops_ok rfl (s_fieldAddr rfl fo27x0 gt2 rfl) st5 ?_
  refine ops_ok rfl (s_fieldAddr rfl fo24x0 gt5 rfl) st6 ?_
  refine ops_ok rfl (e_load rfl ty5 gt6 rfl (ldC_one rfl) (tyo_ok rfl)) st7 ?_
  refine ops_ok rfl (s_fieldAddr rfl fo27x0 gt3 rfl) st8 ?_
  refine ops_ok rfl (s_fieldAddr rfl fo24x0 gt8 rfl) st9 ?_
  refine ops_ok rfl (e_load rfl ty5 gt9 rfl (ldC_one rfl) (tyo_ok rfl)) st10 ?_
  refine ops_ok rfl (s_bin rfl gt7 gt10 rfl) st11 ?_
  refine ops_nil ?_
  refine q_seq ?_
  refine r_condF gt11 hF (fun hc1 hF => ?_) (fun hc1 hF => ?_)
  · skip
    refine r_seq ?_
    refine r_region ?_
    refine ops_ok rfl (s_fieldAddr rfl fo27x0 gt2 rfl) st12 ?_
    refine ops_ok rfl (s_fieldAddr rfl fo24x0 gt12 rfl) st13 ?_
    refine ops_ok rfl (e_load rfl ty5 gt13 rfl (ldC_one rfl) (tyo_ok rfl)) st14 ?_
    refine ops_ok rfl (s_fieldAddr rfl fo27x0 gt3 rfl) st15 ?_
    refine ops_ok rfl (s_fieldAddr rfl fo24x0 gt15 rfl) st16 ?_
    refine ops_ok rfl (e_load rfl ty5 gt16 rfl (ldC_one rfl) (tyo_ok rfl)) st17 ?_
    refine ops_ok rfl (s_bin rfl gt14 gt17 rfl) st18 ?_
    refine ops_ok rfl (s_assign rfl gt18 (tyo_ok rfl)) st4 ?_
    refine ops_nil ?_
    refine q_seq ?_
    refine r_ret ?_
    refine q_seq_ret ?_
    obtain rfl := Option.some.inj hF
    refine q_retL1 rfl (rl_tmp gt4 rl_nil) (fin_ext (leV.refl _) rfl ?_)
    exact ⟨rfl, rfl⟩
  · skip
    refine r_skip ?_
    refine q_seq ?_
    refine r_seq ?_
    refine r_seq ?_
    refine r_region ?_
    refine ops_ok rfl (s_fieldAddr rfl fo27x0 gt2 rfl) st19 ?_
    refine ops_ok rfl (s_fieldAddr rfl fo24x1 gt19 rfl) st20 ?_
    refine ops_ok rfl (e_load rfl ty22 gt20 rfl (ldC_one rfl) (tyo_ok rfl)) st21 ?_
    refine ops_ok rfl (s_fieldAddr rfl fo27x0 gt3 rfl) st22 ?_
    refine ops_ok rfl (s_fieldAddr rfl fo24x1 gt22 rfl) st23 ?_
    refine ops_ok rfl (e_load rfl ty22 gt23 rfl (ldC_one rfl) (tyo_ok rfl)) st24 ?_
    refine ops_ok rfl (s_bin rfl gt21 gt24 rfl) st25 ?_
    refine ops_nil ?_
    refine q_seq ?_
    refine r_condF gt25 hF (fun hc2 hF => ?_) (fun hc2 hF => ?_)
    · skip
      refine r_seq ?_
      refine r_region ?_
      refine ops_ok rfl (s_fieldAddr rfl fo27x0 gt2 rfl) st26 ?_
      refine ops_ok rfl (s_fieldAddr rfl fo24x1 gt26 rfl) st27 ?_
      refine ops_ok rfl (e_load rfl ty22 gt27 rfl (ldC_one rfl) (tyo_ok rfl)) st28 ?_
      refine ops_ok rfl (s_fieldAddr rfl fo27x0 gt3 rfl) st29 ?_
      refine ops_ok rfl (s_fieldAddr rfl fo24x1 gt29 rfl) st30 ?_
      refine ops_ok rfl (e_load rfl ty22 gt30 rfl (ldC_one rfl) (tyo_ok rfl)) st31 ?_
      refine ops_ok rfl (s_bin rfl gt28 gt31 rfl) st32 ?_
      refine ops_ok rfl (s_assign rfl gt32 (tyo_ok rfl)) st4 ?_
      refine ops_nil ?_
      refine q_seq ?_
      refine r_ret ?_
      refine q_seq_ret ?_
      obtain rfl := Option.some.inj hF
      refine q_retL1 rfl (rl_tmp gt4 rl_nil) (fin_ext (leV.refl _) rfl ?_)
      exact ⟨rfl, rfl⟩
    · skip
      refine r_skip ?_
      refine q_seq ?_
      refine r_seq ?_
      refine r_region ?_
      refine ops_ok rfl (s_fieldAddr rfl fo27x1 gt2 rfl) st33 ?_
      refine ops_ok rfl (e_load rfl ty25 gt33 rfl (ldC_one rfl) (tyo_ok rfl)) st34 ?_
      refine ops_ok rfl (s_fieldAddr rfl fo27x1 gt3 rfl) st35 ?_
      refine ops_ok rfl (e_load rfl ty25 gt35 rfl (ldC_one rfl) (tyo_ok rfl)) st36 ?_
      refine ops_ok rfl (s_bin rfl gt34 gt36 rfl) st37 ?_
      refine ops_ok rfl (s_assign rfl gt37 (tyo_ok rfl)) st4 ?_
      refine ops_nil ?_
      refine q_seq ?_
      refine r_ret ?_
      obtain rfl := Option.some.inj hF
      refine q_retL1 rfl (rl_tmp gt4 rl_nil) (fin_ext (leV.refl _) rfl ?_)
      exact ⟨rfl, rfl⟩
/-! varve/varveref05.Ahead -/
theorem ok119 {time0 : Int} {d1 : GDot} {other2 : Int} {o3 : GDot} {res : Bool} {h : AH}  (hF : ref05Ahead time0 d1 other2 o3 = some res) : Spec Try.prog 119 [.int .u64 time0, .agg [.int .u8 d1.actor.rep, .int .u32 d1.actor.inc, .int .u64 d1.seq], .int .u64 other2, .agg [.int .u8 o3.actor.rep, .int .u32 o3.actor.inc, .int .u64 o3.seq]] h (fun rr hh => rr = .bool res ∧ hh = h) := by
  unfold ref05Ahead at hF
  refine spec_of_body_ext Try.func119 rfl (by kernel_rfl) (env := [.int .u64 time0, .agg [.int .u8 d1.actor.rep, .int .u32 d1.actor.inc, .int .u64 d1.seq], .int .u64 other2, .agg [.int .u8 o3.actor.rep, .int .u32 o3.actor.inc, .int .u64 o3.seq], aundef, aundef, aundef, aundef, aundef, aundef, aundef, aundef, aundef, aundef, aundef, aundef, aundef, aundef]) (by rfl) ?_
  refine r_seq ?_
  refine r_region ?_
  refine ops_ok rfl (e_box (n := 0) rfl gt1 (tyo_ok rfl) rfl rfl) st5 ?_
  refine ops_ok rfl (e_box (n := 1) rfl gt3 (tyo_ok rfl) rfl rfl) st7 ?_
  refine ops_ok rfl (s_assign rfl rfl (tyo_ok rfl)) st8 ?_
  refine ops_nil ?_
  refine q_seq ?_
  refine r_seq ?_
  refine r_seq ?_
  refine r_region ?_
  refine ops_ok rfl (s_move rfl gt0 (tyo_ok rfl)) st9 ?_
  refine ops_ok rfl (s_move rfl gt2 (tyo_ok rfl)) st10 ?_
  refine ops_ok rfl (s_bin rfl gt9 gt10 rfl) st11 ?_
  refine ops_nil ?_
  refine q_seq ?_
  refine r_condF gt11 hF (fun hc1 hF => ?_) (fun hc1 hF => ?_)
  · skip
    refine r_seq ?_
    refine r_region ?_
    refine ops_ok rfl (s_move rfl gt0 (tyo_ok rfl)) st12 ?_
    refine ops_ok rfl (s_move rfl gt2 (tyo_ok rfl)) st13 ?_
    refine ops_ok rfl (s_bin rfl gt12 gt13 rfl) st14 ?_
    refine ops_ok rfl (s_assign rfl gt14 (tyo_ok rfl)) st8 ?_
    refine ops_nil ?_
    refine q_seq ?_
    refine r_ret ?_
    refine q_seq_ret ?_
    obtain rfl := Option.some.inj hF
    refine q_retL1 rfl (rl_tmp gt8 rl_nil) (fin_ext (leV.refl _) rfl ?_)
    exact ⟨rfl, rfl⟩
  · skip
    refine r_skip ?_
    refine q_seq ?_
    refine r_seq ?_
    refine r_region ?_
    refine ops_ok rfl (e_load rfl ty27.choose_spec.1 gt5 rfl (ldC_agX (cs' := [.int .u8 d1.actor.rep, .int .u32 d1.actor.inc, .int .u64 d1.seq]) ty27.choose_spec.2 rfl rfl) (tyo_ok rfl)) st15 ?_
    refine ops_ok rfl (e_load rfl ty27.choose_spec.1 gt7 rfl (ldC_agX (cs' := [.int .u8 o3.actor.rep, .int .u32 o3.actor.inc, .int .u64 o3.seq]) ty27.choose_spec.2 rfl rfl) (tyo_ok rfl)) st16 ?_
    refine bindF hF (fun v2 hv2 hF => ?_)
    refine ops_callP rfl (s_call0 rfl rfl rfl (argo_cons gt15 (argo_cons gt16 argo_nil)) (.cons (tyo_ok rfl) (.cons (tyo_ok rfl) .nil))) (ok56 hv2) st17 ?_
    refine ops_ok rfl (s_assign rfl gt17 (tyo_ok rfl)) st8 ?_
    refine ops_nil ?_
    refine q_seq ?_
    refine r_ret ?_
    obtain rfl := Option.some.inj hF
    refine q_retL1 rfl (rl_tmp gt8 rl_nil) (fin_ext (leV.refl _) rfl ?_)
    exact ⟨rfl, rfl⟩
/-! varve/varveref03.MayActor -/
theorem ok98 {a0 : GActor} {res : Bool} {h : AH}  (hF : ref03MayActor a0 = some res) : Spec Try.prog 98 [.agg [.int .u8 a0.rep, .int .u32 a0.inc]] h (fun rr hh => rr = .bool res ∧ hh = h) := by
  unfold ref03MayActor at hF
  refine spec_of_body_ext Try.func98 rfl (by kernel_rfl) (env := [.agg [.int .u8 a0.rep, .int .u32 a0.inc], aundef, aundef, aundef, aundef, aundef, aundef, aundef, aundef, aundef, aundef, aundef, aundef, aundef, aundef, aundef]) (by rfl) ?_
  refine r_seq ?_
  refine r_region ?_
  refine ops_ok rfl (e_box (n := 0) rfl gt0 (tyo_ok rfl) rfl rfl) st1 ?_
  refine ops_ok rfl (s_assign rfl rfl (tyo_ok rfl)) st2 ?_
  refine ops_nil ?_
  refine q_seq ?_
  refine r_seq ?_
  refine r_region ?_
  refine ops_ok rfl (s_fieldAddr rfl fo24x0 gt1 rfl) st3 ?_
  refine ops_ok rfl (e_load rfl ty5 gt3 rfl (ldC_one rfl) (tyo_ok rfl)) st4 ?_
  refine ops_ok rfl (s_bin rfl gt4 rfl rfl) st5 ?_
  refine ops_ok rfl (s_move rfl gt5 (tyo_ok rfl)) st6 ?_
  refine ops_gv rfl (fun hb => s_fieldAddr rfl fo24x1 gt1 rfl) st7 ?_
  refine ops_gv rfl (fun hb => e_load rfl ty22 (evo_gv gt7 hb) rfl (ldC_one rfl) (tyo_ok rfl)) st8 ?_
  refine ops_gv rfl (fun hb => s_bin rfl (evo_gv gt8 hb) rfl rfl) st9 ?_
  refine ops_ok rfl (s_pick rfl gt6 gt9 rfl (pick_and (fun ht => gT ht))) st10 ?_
  refine ops_ok rfl (s_move rfl gt10 (tyo_ok rfl)) st11 ?_
  refine ops_gv rfl (fun hb => s_fieldAddr rfl fo24x1 gt1 rfl) st12 ?_
  refine ops_gv rfl (fun hb => e_load rfl ty22 (evo_gv gt12 hb) rfl (ldC_one rfl) (tyo_ok rfl)) st13 ?_
  refine ops_gv rfl (fun hb => s_bin rfl (evo_gv gt13 hb) rfl rfl) st14 ?_
  refine ops_ok rfl (s_pick rfl gt11 gt14 rfl (pick_and (fun ht => gT ht))) st15 ?_
  refine ops_ok rfl (s_assign rfl gt15 (tyo_ok rfl)) st2 ?_
  refine ops_nil ?_
  refine q_seq ?_
  refine r_ret ?_
  obtain rfl := Option.some.inj hF
  refine q_retL1 rfl (rl_tmp gt2 rl_nil) (fin_ext (leV.refl _) rfl ?_)
  exact ⟨rfl, rfl⟩
/-! varve/varveref03.May -/
theorem ok55 {d0 : GDot} {res : Bool} {h : AH}  (hF : ref03May d0 = some res) : Spec Try.prog 55 [.agg [.int .u8 d0.actor.rep, .int .u32 d0.actor.inc, .int .u64 d0.seq]] h (fun rr hh => rr = .bool res ∧ hh = h) := by
  unfold ref03May at hF
  refine spec_of_body_ext Try.func55 rfl (by kernel_rfl) (env := [.agg [.int .u8 d0.actor.rep, .int .u32 d0.actor.inc, .int .u64 d0.seq], aundef, aundef, aundef, aundef, aundef, aundef, aundef, aundef, aundef, aundef, aundef, aundef, aundef, aundef, aundef]) (by rfl) ?_
  refine r_seq ?_
  refine r_region ?_
  refine ops_ok rfl (e_box (n := 0) rfl gt0 (tyo_ok rfl) rfl rfl) st1 ?_
  refine ops_ok rfl (s_assign rfl rfl (tyo_ok rfl)) st2 ?_
  refine ops_nil ?_
  refine q_seq ?_
  refine r_seq ?_
  refine r_region ?_
  refine ops_ok rfl (s_fieldAddr rfl fo27x0 gt1 rfl) st3 ?_
  refine ops_ok rfl (e_load rfl ty24.choose_spec.1 gt3 rfl (ldC_agX (cs' := [.int .u8 d0.actor.rep, .int .u32 d0.actor.inc]) ty24.choose_spec.2 rfl rfl) (tyo_ok rfl)) st4 ?_
  refine bindF hF (fun v1 hv1 hF => ?_)
  refine ops_callP rfl (s_call0 rfl rfl rfl (argo_cons gt4 argo_nil) (.cons (tyo_ok rfl) .nil)) (ok98 hv1) st5 ?_
  refine ops_ok rfl (s_move rfl gt5 (tyo_ok rfl)) st6 ?_
  refine ops_gv rfl (fun hb => s_fieldAddr rfl fo27x1 gt1 rfl) st7 ?_
  refine ops_gv rfl (fun hb => e_load rfl ty25 (evo_gv gt7 hb) rfl (ldC_one rfl) (tyo_ok rfl)) st8 ?_
  refine ops_gv rfl (fun hb => s_bin rfl (evo_gv gt8 hb) rfl rfl) st9 ?_
  refine ops_ok rfl (s_pick rfl gt6 gt9 rfl (pick_and (fun ht => gT ht))) st10 ?_
  refine ops_ok rfl (s_move rfl gt10 (tyo_ok rfl)) st11 ?_
  refine ops_gv rfl (fun hb => s_fieldAddr rfl fo27x1 gt1 rfl) st12 ?_
  refine ops_gv rfl (fun hb => e_load rfl ty25 (evo_gv gt12 hb) rfl (ldC_one rfl) (tyo_ok rfl)) st13 ?_
  refine ops_gv rfl (fun hb => s_bin rfl (evo_gv gt13 hb) rfl rfl) st14 ?_
  refine ops_ok rfl (s_pick rfl gt11 gt14 rfl (pick_and (fun ht => gT ht))) st15 ?_
  refine ops_ok rfl (s_assign rfl gt15 (tyo_ok rfl)) st2 ?_
  refine ops_nil ?_
  refine q_seq ?_
  refine r_ret ?_
  obtain rfl := Option.some.inj hF
  refine q_retL1 rfl (rl_tmp gt2 rl_nil) (fin_ext (leV.refl _) rfl ?_)
  exact ⟨rfl, rfl⟩
/-! varve/varveref05.May -/
theorem ok103 {l0 : GLeaf} {res : Bool} {h : AH}  (hF : ref05May l0 = some res) : Spec Try.prog 103 [.agg [.int .u8 l0.typ, .int .i64 l0.n, .int .u64 l0.time, .int .u8 l0.dot.actor.rep, .int .u32 l0.dot.actor.inc, .int .u64 l0.dot.seq, .str l0.text, .sl 5 (l0.items.map GItem.row), .sl 3 (l0.tombs.map GDot.row)]] h (fun rr hh => rr = .bool res ∧ hh = h) := by
  unfold ref05May at hF
  refine spec_of_body_ext Try.func103 rfl (by kernel_rfl) (env := [.agg [.int .u8 l0.typ, .int .i64 l0.n, .int .u64 l0.time, .int .u8 l0.dot.actor.rep, .int .u32 l0.dot.actor.inc, .int .u64 l0.dot.seq, .str l0.text, .sl 5 (l0.items.map GItem.row), .sl 3 (l0.tombs.map GDot.row)], aundef, aundef, aundef, aundef, aundef, aundef, aundef, aundef, aundef, aundef, aundef, aundef, aundef, aundef, aundef, aundef, aundef, aundef, aundef, aundef, aundef, aundef, aundef, aundef, aundef, aundef, aundef, aundef, aundef, aundef, aundef, aundef, aundef, aundef, aundef, aundef, aundef, aundef, aundef, aundef, aundef, aundef, aundef, aundef, aundef, aundef, aundef, aundef, aundef, aundef, aundef, aundef, aundef, aundef, aundef, aundef, aundef, aundef, aundef, aundef, aundef, aundef, aundef, aundef, aundef, aundef, aundef, aundef, aundef, aundef, aundef, aundef, aundef, aundef, aundef, aundef, aundef, aundef, aundef, aundef, aundef, aundef, aundef, aundef, aundef, aundef, aundef, aundef, aundef, aundef, aundef, aundef, aundef, aundef, aundef, aundef, aundef, aundef, aundef, aundef, aundef, aundef, aundef, aundef, aundef, aundef, aundef, aundef, aundef, aundef, aundef, aundef, aundef, aundef, aundef, aundef, aundef, aundef, aundef, aundef, aundef, aundef, aundef, aundef, aundef, aundef, aundef, aundef, aundef, aundef, aundef, aundef, aundef, aundef, aundef, aundef, aundef, aundef, aundef, aundef, aundef, aundef, aundef, aundef, aundef, aundef, aundef, aundef, aundef, aundef, aundef, aundef, aundef, aundef, aundef, aundef, aundef, aundef, aundef, aundef, aundef, aundef, aundef, aundef, aundef, aundef, aundef, aundef, aundef, aundef, aundef, aundef, aundef, aundef, aundef, aundef, aundef, aundef, aundef, aundef, aundef, aundef, aundef, aundef, aundef, aundef, aundef, aundef, aundef, aundef, aundef, aundef, aundef, aundef, aundef, aundef, aundef, aundef, aundef, aundef, aundef, aundef, aundef, aundef]) (by rfl) ?_
  refine r_seq ?_
  refine r_region ?_
  refine ops_ok rfl (e_box (n := 0) rfl gt0 (tyo_ok rfl) rfl rfl) st1 ?_
  refine ops_ok rfl (s_assign rfl rfl (tyo_ok rfl)) st2 ?_
  refine ops_nil ?_
  refine q_seq ?_
  refine r_seq ?_
  refine r_seq ?_
  refine r_region ?_
  refine ops_ok rfl (s_fieldAddr rfl fo65x0 gt1 rfl) st7 ?_
  refine ops_ok rfl (e_load rfl ty5 gt7 rfl (ldC_one rfl) (tyo_ok rfl)) st8 ?_
  refine ops_ok rfl (s_bin rfl gt8 rfl rfl) st9 ?_
  refine ops_ok rfl (s_move rfl gt9 (tyo_ok rfl)) st10 ?_
  refine ops_gv rfl (fun hb => s_fieldAddr rfl fo65x0 gt1 rfl) st11 ?_
  refine ops_gv rfl (fun hb => e_load rfl ty5 (evo_gv gt11 hb) rfl (ldC_one rfl) (tyo_ok rfl)) st12 ?_
  refine ops_gv rfl (fun hb => s_bin rfl (evo_gv gt12 hb) rfl rfl) st13 ?_
  refine ops_ok rfl (s_pick rfl gt10 rfl gt13 (pick_or (fun ht => gF ht))) st14 ?_
  refine ops_ok rfl (s_move rfl gt14 (tyo_ok rfl)) st15 ?_
  refine ops_gv rfl (fun hb => s_fieldAddr rfl fo65x0 gt1 rfl) st16 ?_
  refine ops_gv rfl (fun hb => e_load rfl ty5 (evo_gv gt16 hb) rfl (ldC_one rfl) (tyo_ok rfl)) st17 ?_
  refine ops_gv rfl (fun hb => s_bin rfl (evo_gv gt17 hb) rfl rfl) st18 ?_
  refine ops_gv rfl (fun hb => s_move rfl (evo_gv gt18 hb) (tyo_ok rfl)) st19 ?_
  refine ops_gv (aG_gv rfl rfl rfl) (fun hb => s_fieldAddr rfl fo65x1 gt1 rfl) st20 ?_
  refine ops_gv (aG_gv rfl rfl rfl) (fun hb => e_load rfl ty2 (evo_gv gt20 hb) rfl (ldC_one rfl) (tyo_ok rfl)) st21 ?_
  refine ops_gv (aG_gv rfl rfl rfl) (fun hb => s_bin rfl (evo_gv gt21 hb) rfl rfl) st22 ?_
  refine ops_gv rfl (fun hb => s_pick rfl (evo_gv gt19 hb) gt22 rfl (pick_and (fun ht => gT2 hb ht))) st23 ?_
  refine ops_ok rfl (s_pick rfl gt15 rfl gt23 (pick_or (fun ht => gF ht))) st24 ?_
  refine ops_ok rfl (s_move rfl gt24 (tyo_ok rfl)) st25 ?_
  refine ops_gv rfl (fun hb => s_fieldAddr rfl fo65x0 gt1 rfl) st26 ?_
  refine ops_gv rfl (fun hb => e_load rfl ty5 (evo_gv gt26 hb) rfl (ldC_one rfl) (tyo_ok rfl)) st27 ?_
  refine ops_gv rfl (fun hb => s_bin rfl (evo_gv gt27 hb) rfl rfl) st28 ?_
  refine ops_gv rfl (fun hb => s_move rfl (evo_gv gt28 hb) (tyo_ok rfl)) st29 ?_
  refine ops_gv (aG_gv rfl rfl rfl) (fun hb => s_fieldAddr rfl fo65x5 gt1 rfl) st30 ?_
  refine ops_gv (aG_gv rfl rfl rfl) (fun hb => e_load rfl ty63 (evo_gv gt30 hb) rfl (ldC_one rfl) (tyo_ok rfl)) st31 ?_
  refine ops_glen (aG_gv rfl rfl rfl) (fun hb => s_lenSl rfl rfl rfl rfl el63 (evo_gv gt31 hb) lenMap) st32 fun hn1 => ?_
  refine ops_gv (aG_gv rfl rfl rfl) (fun hb => s_bin rfl (evo_gv gt32 hb) rfl rfl) st33 ?_
  refine ops_gv rfl (fun hb => s_pick rfl (evo_gv gt29 hb) gt33 rfl (pick_and (fun ht => gT2 hb ht))) st34 ?_
  refine ops_ok rfl (s_pick rfl gt25 rfl gt34 (pick_or (fun ht => gF ht))) st35 ?_
  refine ops_ok rfl (s_move rfl gt35 (tyo_ok rfl)) st36 ?_
  refine ops_gv rfl (fun hb => s_fieldAddr rfl fo65x0 gt1 rfl) st37 ?_
  refine ops_gv rfl (fun hb => e_load rfl ty5 (evo_gv gt37 hb) rfl (ldC_one rfl) (tyo_ok rfl)) st38 ?_
  refine ops_gv rfl (fun hb => s_bin rfl (evo_gv gt38 hb) rfl rfl) st39 ?_
  refine ops_gv rfl (fun hb => s_move rfl (evo_gv gt39 hb) (tyo_ok rfl)) (sk st0) ?_
  refine ops_gv (aG_gv rfl rfl rfl) (fun hb => s_fieldAddr rfl fo65x6 gt1 rfl) (sk st1) ?_
  refine ops_gv (aG_gv rfl rfl rfl) (fun hb => e_load rfl ty29 (evo_gv (gk gt1) hb) rfl (ldC_one rfl) (tyo_ok rfl)) (sk st2) ?_
  refine ops_glen (aG_gv rfl rfl rfl) (fun hb => s_lenSl rfl rfl rfl rfl el29 (evo_gv (gk gt2) hb) lenMap) (sk st3) fun hn2 => ?_
  refine ops_gv (aG_gv rfl rfl rfl) (fun hb => s_bin rfl (evo_gv (gk gt3) hb) rfl rfl) (sk st4) ?_
  refine ops_gv rfl (fun hb => s_pick rfl (evo_gv (gk gt0) hb) (gk gt4) rfl (pick_and (fun ht => gT2 hb ht))) (sk st5) ?_
  refine ops_ok rfl (s_pick rfl gt36 rfl (gk gt5) (pick_or (fun ht => gF ht))) (sk st6) ?_
  refine ops_nil ?_
  refine q_seq ?_
  refine r_condF (gk gt6) hF (fun hc3 hF => ?_) (fun hc3 hF => ?_)
  · skip
    refine r_seq ?_
    refine r_region ?_
    refine ops_ok rfl (s_assign rfl rfl (tyo_ok rfl)) st2 ?_
    refine ops_nil ?_
    refine q_seq ?_
    refine r_ret ?_
    refine q_seq_ret ?_
    obtain rfl := Option.some.inj hF
    refine q_retL1 rfl (rl_tmp gt2 rl_nil) (fin_ext (leV.refl _) rfl ?_)
    exact ⟨rfl, rfl⟩
  · skip
    refine r_skip ?_
    refine q_seq ?_
    refine r_seq ?_
    refine r_region ?_
    refine ops_ok rfl (s_build (cs' := [.int .u8 (0 : Int), .int .u32 (0 : Int), .int .u64 (0 : Int)]) rfl su27 ze27 pl27 parto_nil .nil rfl rfl) (sk st7) ?_
    refine ops_ok rfl (e_alloc (n := 1) rfl ze27 rfl) st3 ?_
    refine ops_ok rfl (e_store (cs' := [.int .u8 (0 : Int), .int .u32 (0 : Int), .int .u64 (0 : Int)]) rfl ty27.choose_spec.1 gt3 (gk gt7) (tyo_ok rfl) rfl rfl rfl rfl rfl) rfl ?_
    refine ops_nil ?_
    refine q_seq ?_
    refine r_join (fun (s1 : Unit) => [(0, .any), (2, .any), (3, .any), (4, .any), (5, .any), (6, .any), (7, .any), (8, .any), (9, .any), (10, .any), (11, .any), (12, .any), (13, .any), (14, .any), (15, .any), (16, .any), (17, .any), (18, .any), (19, .any), (20, .any), (21, .any), (22, .any), (23, .any), (24, .any), (25, .any), (26, .any), (27, .any), (28, .any), (29, .any), (30, .any), (31, .any), (32, .any), (33, .any), (34, .any), (35, .any), (36, .any), (37, .any), (38, .any), (39, .any), (40, .any), (41, .any), (42, .any), (43, .any), (44, .any), (45, .any), (46, .any), (47, .any), (48, .any), (49, .any), (50, .any), (51, .any), (52, .any), (53, .any), (54, .any), (55, .any), (56, .any), (57, .any), (58, .any), (59, .any), (60, .any), (61, .any), (62, .any), (63, .any), (64, .any), (65, .any), (66, .any), (67, .any), (68, .any), (69, .any), (70, .any), (71, .any), (72, .any), (73, .any), (74, .any), (75, .any), (76, .any), (77, .any), (78, .any), (79, .any), (80, .any), (81, .any), (82, .any), (83, .any), (84, .any), (85, .any), (86, .any), (87, .any), (88, .any), (89, .any), (90, .any), (91, .any), (92, .any), (93, .any), (94, .any), (95, .any), (96, .any), (97, .any), (98, .any), (99, .any), (100, .any), (101, .any), (102, .any), (103, .any), (104, .any), (105, .any), (106, .any), (107, .any), (108, .any), (109, .any), (110, .any), (111, .any), (112, .any), (113, .any), (114, .any), (115, .any), (116, .any), (117, .any), (118, .any), (119, .any), (120, .any), (121, .any), (122, .any), (123, .any), (124, .any), (125, .any), (126, .any), (127, .any), (128, .any), (129, .any), (130, .any), (131, .any), (132, .any), (133, .any), (134, .any), (135, .any), (136, .any), (137, .any), (138, .any), (139, .any), (140, .any), (141, .any), (142, .any), (143, .any), (144, .any), (145, .any), (146, .any), (147, .any), (148, .any), (149, .any), (150, .any), (151, .any), (152, .any), (153, .any), (154, .any), (155, .any), (156, .any), (157, .any), (158, .any), (159, .any), (160, .any), (161, .any), (162, .any), (163, .any), (164, .any), (165, .any), (166, .any), (167, .any), (168, .any), (169, .any), (170, .any), (171, .any), (172, .any), (173, .any), (174, .any), (175, .any), (176, .any), (177, .any), (178, .any), (179, .any), (180, .any), (181, .any), (182, .any), (183, .any), (184, .any), (185, .any), (186, .any), (187, .any), (188, .any), (189, .any), (190, .any), (191, .any), (192, .any), (193, .any), (194, .any), (195, .any), (196, .any), (197, .any), (198, .any), (199, .any), (200, .any), (201, .any), (202, .any), (203, .any), (204, .any)]) (fun s1 => h.ext [.cells [.int .u8 l0.typ, .int .i64 l0.n, .int .u64 l0.time, .int .u8 l0.dot.actor.rep, .int .u32 l0.dot.actor.inc, .int .u64 l0.dot.seq, .str l0.text, .sl 5 (l0.items.map GItem.row), .sl 3 (l0.tombs.map GDot.row)], .cells [.int .u8 (0 : Int), .int .u32 (0 : Int), .int .u64 (0 : Int)]] []) hF (fun _ => by simp only [upd, List.set_cons_succ, List.set_cons_zero]; try rfl) (fun o1 hF hK1 => ?_) (fun s1 hF => ?_)
    · skip
      refine r_seq ?_
      refine r_region ?_
      refine ops_ok rfl (s_fieldAddr rfl fo65x0 gt1 rfl) (sk st8) ?_
      refine ops_ok rfl (e_load rfl ty5 (gk gt8) rfl (ldC_one rfl) (tyo_ok rfl)) (sk st9) ?_
      refine ops_ok rfl (s_bin rfl (gk gt9) rfl rfl) (sk st10) ?_
      refine ops_ok rfl (s_move rfl (gk gt10) (tyo_ok rfl)) (sk st11) ?_
      refine ops_gv rfl (fun hb => s_fieldAddr rfl fo65x2 gt1 rfl) (sk st12) ?_
      refine ops_gv rfl (fun hb => e_load rfl ty25 (evo_gv (gk gt12) hb) rfl (ldC_one rfl) (tyo_ok rfl)) (sk st13) ?_
      refine ops_gv rfl (fun hb => s_bin rfl (evo_gv (gk gt13) hb) rfl rfl) (sk st14) ?_
      refine ops_ok rfl (s_pick rfl (gk gt11) rfl (gk gt14) (pick_or (fun ht => gF ht))) (sk st15) ?_
      refine ops_nil ?_
      refine q_seq ?_
      refine r_condF (gk gt15) hF (fun hc9 hF => ?_) (fun hc9 hF => ?_)
      · skip
        refine r_seq ?_
        refine r_region ?_
        refine ops_ok rfl (s_fieldAddr rfl fo65x2 gt1 rfl) (sk st16) ?_
        refine ops_ok rfl (e_load rfl ty25 (gk gt16) rfl (ldC_one rfl) (tyo_ok rfl)) (sk st17) ?_
        refine ops_ok rfl (s_bin rfl (gk gt17) rfl rfl) (sk st18) ?_
        refine ops_ok rfl (s_move rfl (gk gt18) (tyo_ok rfl)) (sk st19) ?_
        refine ops_gv rfl (fun hb => s_fieldAddr rfl fo65x3 gt1 rfl) (sk st20) ?_
        refine ops_gv rfl (fun hb => e_load rfl ty27.choose_spec.1 (evo_gv (gk gt20) hb) rfl (ldC_agX (cs' := [.int .u8 l0.dot.actor.rep, .int .u32 l0.dot.actor.inc, .int .u64 l0.dot.seq]) ty27.choose_spec.2 rfl rfl) (tyo_ok rfl)) (sk st21) ?_
        refine ops_gv rfl (fun hb => e_load rfl ty27.choose_spec.1 gt3 rfl (ldC_agX (cs' := [.int .u8 (0 : Int), .int .u32 (0 : Int), .int .u64 (0 : Int)]) ty27.choose_spec.2 rfl rfl) (tyo_ok rfl)) (sk st22) ?_
        refine ops_gv rfl (fun hb => s_bin rfl (evo_gv (gk gt21) hb) (evo_gv (gk gt22) hb) (bin_ne pk27 rfl)) (sk st23) ?_
        refine ops_ok rfl (s_pick rfl (gk gt19) rfl (gk gt23) (pick_or (fun ht => gF ht))) (sk st24) ?_
        refine ops_ok rfl (s_move rfl (gk gt24) (tyo_ok rfl)) (sk st25) ?_
        refine ops_gv rfl (fun hb => s_fieldAddr rfl fo65x4 gt1 rfl) (sk st26) ?_
        refine ops_gv rfl (fun hb => e_load rfl ty9 (evo_gv (gk gt26) hb) rfl (ldC_one rfl) (tyo_ok rfl)) (sk st27) ?_
        refine ops_gv rfl (fun hb => s_bin rfl (evo_gv (gk gt27) hb) rfl rfl) (sk st28) ?_
        refine ops_ok rfl (s_pick rfl (gk gt25) rfl (gk gt28) (pick_or (fun ht => gF ht))) (sk st29) ?_
        refine ops_nil ?_
        refine q_seq ?_
        refine r_condF (gk gt29) hF (fun hc10 hF => ?_) (fun hc10 hF => ?_)
        · skip
          refine r_seq ?_
          refine r_region ?_
          refine ops_ok rfl (s_assign rfl rfl (tyo_ok rfl)) st2 ?_
          refine ops_nil ?_
          refine q_seq ?_
          refine r_ret ?_
          refine q_join_ret ?_
          obtain rfl := Option.some.inj hF
          replace hF := hK1
          obtain rfl := Option.some.inj hF
          refine q_retL1 rfl (rl_tmp gt2 rl_nil) (fin_ext (leV.refl _) rfl ?_)
          exact ⟨rfl, rfl⟩
        · skip
          refine r_skip ?_
          refine q_join ?_
          obtain rfl := Option.some.inj hF
          exact ⟨(), hK1, wk.le (by exact (.drop (.eq (.drop (.drop (.drop (.drop (.drop (.drop (.drop (.drop (.drop (.drop (.drop (.drop (.drop (.drop (.drop (.drop (.drop (.drop (.drop (.drop (.drop (.drop (.drop (.drop (.drop (.drop (.drop (.drop (.drop (.drop (.drop (.drop (.drop (.drop (.drop (.drop (.drop (.drop (.drop (.drop (.drop (.drop (.drop (.drop (.drop (.drop (.drop (.drop (.drop (.drop (.drop (.drop (.drop (.drop (.drop (.drop (.drop (.drop (.drop (.drop (.drop (.drop (.drop (.drop (.drop (.drop (.drop (.drop (.drop (.drop (.drop (.drop (.drop (.drop (.drop (.drop (.drop (.drop (.drop (.drop (.drop (.drop (.drop (.drop (.drop (.drop (.drop (.drop (.drop (.drop (.drop (.drop (.drop (.drop (.drop (.drop (.drop (.drop (.drop (.drop (.drop (.drop (.drop (.drop (.drop (.drop (.drop (.drop (.drop (.drop (.drop (.drop (.drop (.drop (.drop (.drop (.drop (.drop (.drop (.drop (.drop (.drop (.drop (.drop (.drop (.drop (.drop (.drop (.drop (.drop (.drop (.drop (.drop (.drop (.drop (.drop (.drop (.drop (.drop (.drop (.drop (.drop (.drop (.drop (.drop (.drop (.drop (.drop (.drop (.drop (.drop (.drop (.drop (.drop (.drop (.drop (.drop (.drop (.drop (.drop (.drop (.drop (.drop (.drop (.drop (.drop (.drop (.drop (.drop (.drop (.drop (.drop (.drop (.drop (.drop (.drop (.drop (.drop (.drop (.drop (.drop (.drop (.drop (.drop (.drop (.drop (.drop (.drop (.drop (.drop (.drop (.drop (.drop (.drop (.drop (.drop (.drop (.drop (.drop (.drop (.drop (.drop (.drop leL.nil))))))))))))))))))))))))))))))))))))))))))))))))))))))))))))))))))))))))))))))))))))))))))))))))))))))))))))))))))))))))))))))))))))))))))))))))))))))))))))))))))))))))))))))))))))))))))))))))))))))))))))))⟩
      · skip
        refine r_seq ?_
        refine r_region ?_
        refine ops_ok rfl (s_fieldAddr rfl fo65x2 gt1 rfl) (sk st30) ?_
        refine ops_ok rfl (e_load rfl ty25 (gk gt30) rfl (ldC_one rfl) (tyo_ok rfl)) (sk st31) ?_
        refine ops_ok rfl (s_bin rfl (gk gt31) rfl rfl) (sk st32) ?_
        refine ops_ok rfl (s_move rfl (gk gt32) (tyo_ok rfl)) (sk st33) ?_
        refine ops_gv rfl (fun hb => s_fieldAddr rfl fo65x3 gt1 rfl) (sk st34) ?_
        refine ops_gv rfl (fun hb => e_load rfl ty27.choose_spec.1 (evo_gv (gk gt34) hb) rfl (ldC_agX (cs' := [.int .u8 l0.dot.actor.rep, .int .u32 l0.dot.actor.inc, .int .u64 l0.dot.seq]) ty27.choose_spec.2 rfl rfl) (tyo_ok rfl)) (sk st35) ?_
        refine gbindF hF (fun v11 hv11 hF => ?_)
        refine ops_gcall rfl (fun hb => s_call0 rfl rfl rfl (argo_cons (evo_gv (gk gt35) hb) argo_nil) (.cons (tyo_ok rfl) .nil)) (fun hb => ok55 (hv11 hb)) (sk st36) ?_
        refine ops_gv rfl (fun hb => s_un rfl (evo_gv (gk gt36) hb) rfl) (sk st37) ?_
        refine ops_ok rfl (s_pick rfl (gk gt33) rfl (gk gt37) (pick_or (fun ht => gF ht))) (sk st38) ?_
        refine ops_ok rfl (s_move rfl (gk gt38) (tyo_ok rfl)) (sk st39) ?_
        refine ops_gv rfl (fun hb => s_fieldAddr rfl fo65x4 gt1 rfl) (sk (sk st0)) ?_
        refine ops_gv rfl (fun hb => e_load rfl ty9 (evo_gv (gk (gk gt0)) hb) rfl (ldC_one rfl) (tyo_ok rfl)) (sk (sk st1)) ?_
        refine ops_glen rfl (fun hb => s_lenStr rfl rfl rfl rfl ty9 (evo_gv (gk (gk gt1)) hb)) (sk (sk st2)) fun hn12 => ?_
        refine ops_gv rfl (fun hb => s_bin rfl (evo_gv (gk (gk gt2)) hb) rfl rfl) (sk (sk st3)) ?_
        refine ops_ok rfl (s_pick rfl (gk gt39) rfl (gk (gk gt3)) (pick_or (fun ht => gF ht))) (sk (sk st4)) ?_
        refine ops_nil ?_
        refine q_seq ?_
        refine r_condF (gk (gk gt4)) hF (fun hc13 hF => ?_) (fun hc13 hF => ?_)
        · skip
          refine r_seq ?_
          refine r_region ?_
          refine ops_ok rfl (s_assign rfl rfl (tyo_ok rfl)) st2 ?_
          refine ops_nil ?_
          refine q_seq ?_
          refine r_ret ?_
          refine q_join_ret ?_
          obtain rfl := Option.some.inj hF
          replace hF := hK1
          obtain rfl := Option.some.inj hF
          refine q_retL1 rfl (rl_tmp gt2 rl_nil) (fin_ext (leV.refl _) rfl ?_)
          exact ⟨rfl, rfl⟩
        · skip
          refine r_skip ?_
          refine q_join ?_
          obtain rfl := Option.some.inj hF
          exact ⟨(), hK1, wk.le (by exact (.drop (.eq (.drop (.drop (.drop (.drop (.drop (.drop (.drop (.drop (.drop (.drop (.drop (.drop (.drop (.drop (.drop (.drop (.drop (.drop (.drop (.drop (.drop (.drop (.drop (.drop (.drop (.drop (.drop (.drop (.drop (.drop (.drop (.drop (.drop (.drop (.drop (.drop (.drop (.drop (.drop (.drop (.drop (.drop (.drop (.drop (.drop (.drop (.drop (.drop (.drop (.drop (.drop (.drop (.drop (.drop (.drop (.drop (.drop (.drop (.drop (.drop (.drop (.drop (.drop (.drop (.drop (.drop (.drop (.drop (.drop (.drop (.drop (.drop (.drop (.drop (.drop (.drop (.drop (.drop (.drop (.drop (.drop (.drop (.drop (.drop (.drop (.drop (.drop (.drop (.drop (.drop (.drop (.drop (.drop (.drop (.drop (.drop (.drop (.drop (.drop (.drop (.drop (.drop (.drop (.drop (.drop (.drop (.drop (.drop (.drop (.drop (.drop (.drop (.drop (.drop (.drop (.drop (.drop (.drop (.drop (.drop (.drop (.drop (.drop (.drop (.drop (.drop (.drop (.drop (.drop (.drop (.drop (.drop (.drop (.drop (.drop (.drop (.drop (.drop (.drop (.drop (.drop (.drop (.drop (.drop (.drop (.drop (.drop (.drop (.drop (.drop (.drop (.drop (.drop (.drop (.drop (.drop (.drop (.drop (.drop (.drop (.drop (.drop (.drop (.drop (.drop (.drop (.drop (.drop (.drop (.drop (.drop (.drop (.drop (.drop (.drop (.drop (.drop (.drop (.drop (.drop (.drop (.drop (.drop (.drop (.drop (.drop (.drop (.drop (.drop (.drop (.drop (.drop (.drop (.drop (.drop (.drop (.drop (.drop (.drop (.drop (.drop (.drop (.drop leL.nil))))))))))))))))))))))))))))))))))))))))))))))))))))))))))))))))))))))))))))))))))))))))))))))))))))))))))))))))))))))))))))))))))))))))))))))))))))))))))))))))))))))))))))))))))))))))))))))))))))))))))))))⟩
    · skip
      refine r_seq ?_
      refine r_seq ?_
      refine r_region ?_
      refine ops_ok rfl (s_assign rfl rfl (tyo_ok rfl)) st4 ?_
      refine ops_nil ?_
      refine q_seq ?_
      refine r_block ?_
      refine r_loopLF (fun (n2 : Nat) (s2 : Unit) => [(0, .any), (2, .any), (3, .any), (4, .int .i64 (n2 : Int)), (5, .any), (6, .any), (7, .any), (8, .any), (9, .any), (10, .any), (11, .any), (12, .any), (13, .any), (14, .any), (15, .any), (16, .any), (17, .any), (18, .any), (19, .any), (20, .any), (21, .any), (22, .any), (23, .any), (24, .any), (25, .any), (26, .any), (27, .any), (28, .any), (29, .any), (30, .any), (31, .any), (32, .any), (33, .any), (34, .any), (35, .any), (36, .any), (37, .any), (38, .any), (39, .any), (40, .any), (41, .any), (42, .any), (43, .any), (44, .any), (45, .any), (46, .any), (47, .any), (48, .any), (49, .any), (50, .any), (51, .any), (52, .any), (53, .any), (54, .any), (55, .any), (56, .any), (57, .any), (58, .any), (59, .any), (60, .any), (61, .any), (62, .any), (63, .any), (64, .any), (65, .any), (66, .any), (67, .any), (68, .any), (69, .any), (70, .any), (71, .any), (72, .any), (73, .any), (74, .any), (75, .any), (76, .any), (77, .any), (78, .any), (79, .any), (80, .any), (81, .any), (82, .any), (83, .any), (84, .any), (85, .any), (86, .any), (87, .any), (88, .any), (89, .any), (90, .any), (91, .any), (92, .any), (93, .any), (94, .any), (95, .any), (96, .any), (97, .any), (98, .any), (99, .any), (100, .any), (101, .any), (102, .any), (103, .any), (104, .any), (105, .any), (106, .any), (107, .any), (108, .any), (109, .any), (110, .any), (111, .any), (112, .any), (113, .any), (114, .any), (115, .any), (116, .any), (117, .any), (118, .any), (119, .any), (120, .any), (121, .any), (122, .any), (123, .any), (124, .any), (125, .any), (126, .any), (127, .any), (128, .any), (129, .any), (130, .any), (131, .any), (132, .any), (133, .any), (134, .any), (135, .any), (136, .any), (137, .any), (138, .any), (139, .any), (140, .any), (141, .any), (142, .any), (143, .any), (144, .any), (145, .any), (146, .any), (147, .any), (148, .any), (149, .any), (150, .any), (151, .any), (152, .any), (153, .any), (154, .any), (155, .any), (156, .any), (157, .any), (158, .any), (159, .any), (160, .any), (161, .any), (162, .any), (163, .any), (164, .any), (165, .any), (166, .any), (167, .any), (168, .any), (169, .any), (170, .any), (171, .any), (172, .any), (173, .any), (174, .any), (175, .any), (176, .any), (177, .any), (178, .any), (179, .any), (180, .any), (181, .any), (182, .any), (183, .any), (184, .any), (185, .any), (186, .any), (187, .any), (188, .any), (189, .any), (190, .any), (191, .any), (192, .any), (193, .any), (194, .any), (195, .any), (196, .any), (197, .any), (198, .any), (199, .any), (200, .any), (201, .any), (202, .any), (203, .any), (204, .any)]) (fun s2 => h.ext [.cells [.int .u8 l0.typ, .int .i64 l0.n, .int .u64 l0.time, .int .u8 l0.dot.actor.rep, .int .u32 l0.dot.actor.inc, .int .u64 l0.dot.seq, .str l0.text, .sl 5 (l0.items.map GItem.row), .sl 3 (l0.tombs.map GDot.row)], .cells [.int .u8 (0 : Int), .int .u32 (0 : Int), .int .u64 (0 : Int)]] []) hF (fun _ _ => by simp only [upd, List.set_cons_succ, List.set_cons_zero]; try rfl) (wk.le (by exact (.drop (.eq (.drop (.drop (.cons (leV.of_eq rfl) (.drop (.drop (.drop (.drop (.drop (.drop (.drop (.drop (.drop (.drop (.drop (.drop (.drop (.drop (.drop (.drop (.drop (.drop (.drop (.drop (.drop (.drop (.drop (.drop (.drop (.drop (.drop (.drop (.drop (.drop (.drop (.drop (.drop (.drop (.drop (.drop (.drop (.drop (.drop (.drop (.drop (.drop (.drop (.drop (.drop (.drop (.drop (.drop (.drop (.drop (.drop (.drop (.drop (.drop (.drop (.drop (.drop (.drop (.drop (.drop (.drop (.drop (.drop (.drop (.drop (.drop (.drop (.drop (.drop (.drop (.drop (.drop (.drop (.drop (.drop (.drop (.drop (.drop (.drop (.drop (.drop (.drop (.drop (.drop (.drop (.drop (.drop (.drop (.drop (.drop (.drop (.drop (.drop (.drop (.drop (.drop (.drop (.drop (.drop (.drop (.drop (.drop (.drop (.drop (.drop (.drop (.drop (.drop (.drop (.drop (.drop (.drop (.drop (.drop (.drop (.drop (.drop (.drop (.drop (.drop (.drop (.drop (.drop (.drop (.drop (.drop (.drop (.drop (.drop (.drop (.drop (.drop (.drop (.drop (.drop (.drop (.drop (.drop (.drop (.drop (.drop (.drop (.drop (.drop (.drop (.drop (.drop (.drop (.drop (.drop (.drop (.drop (.drop (.drop (.drop (.drop (.drop (.drop (.drop (.drop (.drop (.drop (.drop (.drop (.drop (.drop (.drop (.drop (.drop (.drop (.drop (.drop (.drop (.drop (.drop (.drop (.drop (.drop (.drop (.drop (.drop (.drop (.drop (.drop (.drop (.drop (.drop (.drop (.drop (.drop (.drop (.drop (.drop (.drop (.drop (.drop (.drop (.drop (.drop (.drop leL.nil))))))))))))))))))))))))))))))))))))))))))))))))))))))))))))))))))))))))))))))))))))))))))))))))))))))))))))))))))))))))))))))))))))))))))))))))))))))))))))))))))))))))))))))))))))))))))))))))))))))))))))))) ?_
      intro n2 s2 hi2 hF
      refine r_seq ?_
      refine r_seq ?_
      refine r_region ?_
      refine ops_ok rfl (s_move rfl gt4 (tyo_ok rfl)) (sk (sk st5)) ?_
      refine ops_ok rfl (s_fieldAddr rfl fo65x5 gt1 rfl) (sk (sk st6)) ?_
      refine ops_ok rfl (e_load rfl ty63 (gk (gk gt6)) rfl (ldC_one rfl) (tyo_ok rfl)) (sk (sk st7)) ?_
      refine ops_len rfl (s_lenSl rfl rfl rfl rfl el63 (gk (gk gt7)) lenMap) (sk (sk st8)) fun hn40 => ?_
      replace hn40 := lenN hn40
      refine ops_ok rfl (s_bin rfl (gk (gk gt5)) (gk (gk gt8)) rfl) (sk (sk st9)) ?_
      refine ops_nil ?_
      refine q_seq ?_
      refine r_condL (gk (gk gt9)) hF (fun x2 o2 hl2 hx2 hF hK2 => ?_) (fun hF => ?_)
      · skip
        refine r_skip ?_
        refine q_seq ?_
        refine r_seq ?_
        refine r_block ?_
        refine r_seq ?_
        refine r_region ?_
        refine ops_ok rfl (s_fieldAddr rfl fo65x5 gt1 rfl) (sk (sk st12)) ?_
        refine ops_ok rfl (e_load rfl ty63 (gk (gk gt12)) rfl (ldC_one rfl) (tyo_ok rfl)) (sk (sk st13)) ?_
        refine ops_ok rfl (s_move rfl gt4 (tyo_ok rfl)) (sk (sk st14)) ?_
        refine ops_ok rfl (s_idxRow rfl el63 (gk (gk gt13)) (gk (gk gt14)) isl (idx_of hx2)) (sk (sk st15)) ?_
        refine ops_ok rfl (f_load rfl ty73.choose_spec.1 (gk (gk gt15)) (ldC_agX (cs' := [.int .u64 x2.time, .int .u8 x2.dot.actor.rep, .int .u32 x2.dot.actor.inc, .int .u64 x2.dot.seq, .str x2.text]) ty73.choose_spec.2 rfl rfl) (tyo_ok rfl)) (sk (sk st16)) ?_
        refine ops_ok rfl (e_alloc (n := 2) rfl ze73 rfl) st5 ?_
        refine ops_ok rfl (e_store (cs' := [.int .u64 x2.time, .int .u8 x2.dot.actor.rep, .int .u32 x2.dot.actor.inc, .int .u64 x2.dot.seq, .str x2.text]) rfl ty73.choose_spec.1 gt5 (gk (gk gt16)) (tyo_ok rfl) rfl rfl rfl rfl rfl) rfl ?_
        refine ops_nil ?_
        refine q_seq ?_
        refine r_seq ?_
        refine r_seq ?_
        refine r_region ?_
        refine ops_ok rfl (s_fieldAddr rfl fo73x1 gt5 rfl) (sk (sk st17)) ?_
        refine ops_ok rfl (e_load rfl ty27.choose_spec.1 (gk (gk gt17)) rfl (ldC_agX (cs' := [.int .u8 x2.dot.actor.rep, .int .u32 x2.dot.actor.inc, .int .u64 x2.dot.seq]) ty27.choose_spec.2 rfl rfl) (tyo_ok rfl)) (sk (sk st18)) ?_
        refine bindF hF (fun v41 hv41 hF => ?_)
        refine ops_callP rfl (s_call0 rfl rfl rfl (argo_cons (gk (gk gt18)) argo_nil) (.cons (tyo_ok rfl) .nil)) (ok55 hv41) (sk (sk st19)) ?_
        refine ops_ok rfl (s_un rfl (gk (gk gt19)) rfl) (sk (sk st20)) ?_
        refine ops_ok rfl (s_move rfl (gk (gk gt20)) (tyo_ok rfl)) (sk (sk st21)) ?_
        refine ops_gv rfl (fun hb => s_fieldAddr rfl fo73x2 gt5 rfl) (sk (sk st22)) ?_
        refine ops_gv rfl (fun hb => e_load rfl ty9 (evo_gv (gk (gk gt22)) hb) rfl (ldC_one rfl) (tyo_ok rfl)) (sk (sk st23)) ?_
        refine ops_glen rfl (fun hb => s_lenStr rfl rfl rfl rfl ty9 (evo_gv (gk (gk gt23)) hb)) (sk (sk st24)) fun hn42 => ?_
        refine ops_gv rfl (fun hb => s_bin rfl (evo_gv (gk (gk gt24)) hb) rfl rfl) (sk (sk st25)) ?_
        refine ops_ok rfl (s_pick rfl (gk (gk gt21)) rfl (gk (gk gt25)) (pick_or (fun ht => gF ht))) (sk (sk st26)) ?_
        refine ops_ok rfl (s_move rfl (gk (gk gt26)) (tyo_ok rfl)) (sk (sk st27)) ?_
        refine ops_gv rfl (fun hb => s_fieldAddr rfl fo65x0 gt1 rfl) (sk (sk st28)) ?_
        refine ops_gv rfl (fun hb => e_load rfl ty5 (evo_gv (gk (gk gt28)) hb) rfl (ldC_one rfl) (tyo_ok rfl)) (sk (sk st29)) ?_
        refine ops_gv rfl (fun hb => s_bin rfl (evo_gv (gk (gk gt29)) hb) rfl rfl) (sk (sk st30)) ?_
        refine ops_gv rfl (fun hb => s_move rfl (evo_gv (gk (gk gt30)) hb) (tyo_ok rfl)) (sk (sk st31)) ?_
        refine ops_gv (aG_gv rfl rfl rfl) (fun hb => s_fieldAddr rfl fo73x0 gt5 rfl) (sk (sk st32)) ?_
        refine ops_gv (aG_gv rfl rfl rfl) (fun hb => e_load rfl ty25 (evo_gv (gk (gk gt32)) hb) rfl (ldC_one rfl) (tyo_ok rfl)) (sk (sk st33)) ?_
        refine ops_gv (aG_gv rfl rfl rfl) (fun hb => s_bin rfl (evo_gv (gk (gk gt33)) hb) rfl rfl) (sk (sk st34)) ?_
        refine ops_gv rfl (fun hb => s_pick rfl (evo_gv (gk (gk gt31)) hb) (gk (gk gt34)) rfl (pick_and (fun ht => gT2 hb ht))) (sk (sk st35)) ?_
        refine ops_ok rfl (s_pick rfl (gk (gk gt27)) rfl (gk (gk gt35)) (pick_or (fun ht => gF ht))) (sk (sk st36)) ?_
        refine ops_ok rfl (s_move rfl (gk (gk gt36)) (tyo_ok rfl)) (sk (sk st37)) ?_
        refine ops_gv rfl (fun hb => s_fieldAddr rfl fo65x0 gt1 rfl) (sk (sk st38)) ?_
        refine ops_gv rfl (fun hb => e_load rfl ty5 (evo_gv (gk (gk gt38)) hb) rfl (ldC_one rfl) (tyo_ok rfl)) (sk (sk st39)) ?_
        refine ops_gv rfl (fun hb => s_bin rfl (evo_gv (gk (gk gt39)) hb) rfl rfl) (sk (sk (sk st0))) ?_
        refine ops_gv rfl (fun hb => s_move rfl (evo_gv (gk (gk (gk gt0))) hb) (tyo_ok rfl)) (sk (sk (sk st1))) ?_
        refine ops_gv (aG_gv rfl rfl rfl) (fun hb => s_fieldAddr rfl fo73x0 gt5 rfl) (sk (sk (sk st2))) ?_
        refine ops_gv (aG_gv rfl rfl rfl) (fun hb => e_load rfl ty25 (evo_gv (gk (gk (gk gt2))) hb) rfl (ldC_one rfl) (tyo_ok rfl)) (sk (sk (sk st3))) ?_
        refine ops_gv (aG_gv rfl rfl rfl) (fun hb => s_bin rfl (evo_gv (gk (gk (gk gt3))) hb) rfl rfl) (sk (sk (sk st4))) ?_
        refine ops_gv (aG_gv rfl rfl rfl) (fun hb => s_move rfl (evo_gv (gk (gk (gk gt4))) hb) (tyo_ok rfl)) (sk (sk (sk st5))) ?_
        refine ops_gv (aG_gv rfl rfl rfl) (fun hb => s_fieldAddr rfl fo73x0 gt5 rfl) (sk (sk (sk st6))) ?_
        refine ops_gv (aG_gv rfl rfl rfl) (fun hb => e_load rfl ty25 (evo_gv (gk (gk (gk gt6))) hb) rfl (ldC_one rfl) (tyo_ok rfl)) (sk (sk (sk st7))) ?_
        refine ops_gv (aG_gv rfl rfl rfl) (fun hb => s_bin rfl (evo_gv (gk (gk (gk gt7))) hb) rfl rfl) (sk (sk (sk st8))) ?_
        refine ops_gv (aG_gv rfl rfl rfl) (fun hb => s_pick rfl (evo_gv (gk (gk (gk gt5))) hb) rfl (gk (gk (gk gt8))) (pick_or (fun ht => gF2 hb ht))) (sk (sk (sk st9))) ?_
        refine ops_gv rfl (fun hb => s_pick rfl (evo_gv (gk (gk (gk gt1))) hb) (gk (gk (gk gt9))) rfl (pick_and (fun ht => gT2 hb ht))) (sk (sk (sk st10))) ?_
        refine ops_ok rfl (s_pick rfl (gk (gk gt37)) rfl (gk (gk (gk gt10))) (pick_or (fun ht => gF ht))) (sk (sk (sk st11))) ?_
        refine ops_ok rfl (s_move rfl (gk (gk (gk gt11))) (tyo_ok rfl)) (sk (sk (sk st12))) ?_
        refine ops_gv rfl (fun hb => s_fieldAddr rfl fo65x5 gt1 rfl) (sk (sk (sk st13))) ?_
        refine ops_gv rfl (fun hb => e_load rfl ty63 (evo_gv (gk (gk (gk gt13))) hb) rfl (ldC_one rfl) (tyo_ok rfl)) (sk (sk (sk st14))) ?_
        refine ops_gv rfl (fun hb => s_fieldAddr rfl fo73x1 gt5 rfl) (sk (sk (sk st15))) ?_
        refine ops_gv rfl (fun hb => e_load rfl ty27.choose_spec.1 (evo_gv (gk (gk (gk gt15))) hb) rfl (ldC_agX (cs' := [.int .u8 x2.dot.actor.rep, .int .u32 x2.dot.actor.inc, .int .u64 x2.dot.seq]) ty27.choose_spec.2 rfl rfl) (tyo_ok rfl)) (sk (sk (sk st16))) ?_
        refine gbindF hF (fun v43 hv43 hF => ?_)
        refine ops_gcall rfl (fun hb => s_call0 rfl rfl rfl (argo_cons (evo_gv (gk (gk (gk gt14))) hb) (argo_cons (evo_gv (gk (gk (gk gt16))) hb) argo_nil)) (.cons (tyo_ok rfl) (.cons (tyo_ok rfl) .nil))) (fun hb => ok117 (hv43 hb)) (sk (sk (sk st17))) ?_
        refine ops_gv rfl (fun hb => s_move rfl gt4 (tyo_ok rfl)) (sk (sk (sk st18))) ?_
        refine ops_gv rfl (fun hb => s_bin rfl (evo_gv (gk (gk (gk gt17))) hb) (evo_gv (gk (gk (gk gt18))) hb) rfl) (sk (sk (sk st19))) ?_
        refine ops_ok rfl (s_pick rfl (gk (gk (gk gt12))) rfl (gk (gk (gk gt19))) (pick_or (fun ht => gF ht))) (sk (sk (sk st20))) ?_
        refine ops_ok rfl (s_move rfl (gk (gk (gk gt20))) (tyo_ok rfl)) (sk (sk (sk st21))) ?_
        refine ops_gv rfl (fun hb => s_fieldAddr rfl fo65x6 gt1 rfl) (sk (sk (sk st22))) ?_
        refine ops_gv rfl (fun hb => e_load rfl ty29 (evo_gv (gk (gk (gk gt22))) hb) rfl (ldC_one rfl) (tyo_ok rfl)) (sk (sk (sk st23))) ?_
        refine ops_gv rfl (fun hb => s_fieldAddr rfl fo73x1 gt5 rfl) (sk (sk (sk st24))) ?_
        refine ops_gv rfl (fun hb => e_load rfl ty27.choose_spec.1 (evo_gv (gk (gk (gk gt24))) hb) rfl (ldC_agX (cs' := [.int .u8 x2.dot.actor.rep, .int .u32 x2.dot.actor.inc, .int .u64 x2.dot.seq]) ty27.choose_spec.2 rfl rfl) (tyo_ok rfl)) (sk (sk (sk st25))) ?_
        refine gbindF hF (fun v44 hv44 hF => ?_)
        refine ops_gcall rfl (fun hb => s_call0 rfl rfl rfl (argo_cons (evo_gv (gk (gk (gk gt23))) hb) (argo_cons (evo_gv (gk (gk (gk gt25))) hb) argo_nil)) (.cons (tyo_ok rfl) (.cons (tyo_ok rfl) .nil))) (fun hb => ok118 (hv44 hb)) (sk (sk (sk st26))) ?_
        refine ops_ok rfl (s_pick rfl (gk (gk (gk gt21))) rfl (gk (gk (gk gt26))) (pick_or (fun ht => gF ht))) (sk (sk (sk st27))) ?_
        refine ops_nil ?_
        refine q_seq ?_
        refine r_condF (gk (gk (gk gt27))) hF (fun hc45 hF => ?_) (fun hc45 hF => ?_)
        · skip
          refine r_seq ?_
          refine r_region ?_
          refine ops_ok rfl (s_assign rfl rfl (tyo_ok rfl)) st2 ?_
          refine ops_nil ?_
          refine q_seq ?_
          refine r_ret ?_
          refine q_seq_ret ?_
          refine q_block_ret ?_
          refine q_seq_ret ?_
          refine q_loop_ret ?_
          obtain rfl := Option.some.inj hF
          replace hF := hK2
          refine q_block_ret ?_
          refine q_seq_ret ?_
          obtain rfl := Option.some.inj hF
          refine q_retL1 rfl (rl_tmp gt2 rl_nil) (fin_ext (leV.refl _) rfl ?_)
          exact ⟨rfl, rfl⟩
        · skip
          refine r_skip ?_
          refine q_seq ?_
          refine r_seq ?_
          refine r_drawn [] [] trivial mixed (by kernel_rfl) ?_
          refine draw_ok rfl rfl (s_move rfl gt4 (tyo_ok rfl)) (sk (sk (sk st28))) ?_
          refine draw_ok rfl rfl (s_bin rfl (gk (gk (gk gt28))) rfl rfl) (sk (sk (sk st29))) ?_
          refine draw_ok rfl rfl (s_move rfl (gk (gk (gk gt29))) (tyo_ok rfl)) (sk (sk (sk st30))) ?_
          refine draw_gv rfl rfl (fun hb => s_fieldAddr rfl fo65x5 gt1 rfl) (sk (sk (sk st31))) ?_
          refine draw_gv rfl rfl (fun hb => e_load rfl ty63 (evo_gv (gk (gk (gk gt31))) hb) rfl (ldC_one rfl) (tyo_ok rfl)) (sk (sk (sk st32))) ?_
          refine draw_gv rfl rfl (fun hb => s_move rfl gt4 (tyo_ok rfl)) (sk (sk (sk st33))) ?_
          refine draw_gv rfl rfl (fun hb => s_bin rfl (evo_gv (gk (gk (gk gt33))) hb) rfl rfl) (sk (sk (sk st34))) ?_
          refine chkF hF (fun hg46 hF => ?_)
          refine draw_gv rfl rfl (fun hb => s_gidxRow default rfl el63 (evo_gv (gk (gk (gk gt32))) hb) (evo_gv (gk (gk (gk gt34))) hb) isl (hg46 hb)) (sk (sk (sk st35))) ?_
          refine draw_gv rfl rfl (fun hb => s_fieldAddr rfl fo73x0 (evo_gv (gk (gk (gk gt35))) hb) rfl) (sk (sk (sk st36))) ?_
          refine draw_gv rfl rfl (fun hb => f_load rfl ty25 (evo_gv (gk (gk (gk gt36))) hb) (ldC_one rfl) (tyo_ok rfl)) (sk (sk (sk st37))) ?_
          refine draw_gv rfl rfl (fun hb => s_fieldAddr rfl fo65x5 gt1 rfl) (sk (sk (sk st38))) ?_
          refine draw_gv rfl rfl (fun hb => e_load rfl ty63 (evo_gv (gk (gk (gk gt38))) hb) rfl (ldC_one rfl) (tyo_ok rfl)) (sk (sk (sk st39))) ?_
          refine draw_gv rfl rfl (fun hb => s_move rfl gt4 (tyo_ok rfl)) (sk (sk (sk (sk st0)))) ?_
          refine draw_gv rfl rfl (fun hb => s_bin rfl (evo_gv (gk (gk (gk (gk gt0)))) hb) rfl rfl) (sk (sk (sk (sk st1)))) ?_
          refine chkF hF (fun hg47 hF => ?_)
          refine draw_gv rfl rfl (fun hb => s_gidxRow default rfl el63 (evo_gv (gk (gk (gk gt39))) hb) (evo_gv (gk (gk (gk (gk gt1)))) hb) isl (hg47 hb)) (sk (sk (sk (sk st2)))) ?_
          refine draw_gv rfl rfl (fun hb => s_fieldAddr rfl fo73x1 (evo_gv (gk (gk (gk (gk gt2)))) hb) rfl) (sk (sk (sk (sk st3)))) ?_
          refine draw_gv rfl rfl (fun hb => f_load rfl ty27.choose_spec.1 (evo_gv (gk (gk (gk (gk gt3)))) hb) (ldC_agX (cs' := [.int .u8 (((l0.items).getD (IntKind.wrap .i64 ((n2 : Int) - (1 : Int))).toNat default).dot.actor.rep), .int .u32 (((l0.items).getD (IntKind.wrap .i64 ((n2 : Int) - (1 : Int))).toNat default).dot.actor.inc), .int .u64 (((l0.items).getD (IntKind.wrap .i64 ((n2 : Int) - (1 : Int))).toNat default).dot.seq)]) ty27.choose_spec.2 rfl rfl) (tyo_ok rfl)) (sk (sk (sk (sk st4)))) ?_
          refine draw_gv rfl rfl (fun hb => s_fieldAddr rfl fo73x0 gt5 rfl) (sk (sk (sk (sk st5)))) ?_
          refine draw_gv rfl rfl (fun hb => e_load rfl ty25 (evo_gv (gk (gk (gk (gk gt5)))) hb) rfl (ldC_one rfl) (tyo_ok rfl)) (sk (sk (sk (sk st6)))) ?_
          refine draw_gv rfl rfl (fun hb => s_fieldAddr rfl fo73x1 gt5 rfl) (sk (sk (sk (sk st7)))) ?_
          refine draw_gv rfl rfl (fun hb => e_load rfl ty27.choose_spec.1 (evo_gv (gk (gk (gk (gk gt7)))) hb) rfl (ldC_agX (cs' := [.int .u8 x2.dot.actor.rep, .int .u32 x2.dot.actor.inc, .int .u64 x2.dot.seq]) ty27.choose_spec.2 rfl rfl) (tyo_ok rfl)) (sk (sk (sk (sk st8)))) ?_
          refine gbindF hF (fun v48 hv48 hF => ?_)
          refine draw_gcall rfl rfl (fun hb => s_call0 rfl rfl rfl (argo_cons (evo_gv (gk (gk (gk gt37))) hb) (argo_cons (evo_gv (gk (gk (gk (gk gt4)))) hb) (argo_cons (evo_gv (gk (gk (gk (gk gt6)))) hb) (argo_cons (evo_gv (gk (gk (gk (gk gt8)))) hb) argo_nil)))) (.cons (tyo_ok rfl) (.cons (tyo_ok rfl) (.cons (tyo_ok rfl) (.cons (tyo_ok rfl) .nil))))) (fun hb => ok119 (hv48 hb)) (sk (sk (sk (sk st9)))) ?_
          refine draw_gv rfl rfl (fun hb => s_un rfl (evo_gv (gk (gk (gk (gk gt9)))) hb) rfl) (sk (sk (sk (sk st10)))) ?_
          refine draw_ok rfl rfl (s_pick rfl (gk (gk (gk gt30))) (gk (gk (gk (gk gt10)))) rfl (pick_and (fun ht => gT ht))) (sk (sk (sk (sk st11)))) ?_
          refine draw_nil ?_
          refine q_seq ?_
          refine r_condF (gk (gk (gk (gk gt11)))) hF (fun hc49 hF => ?_) (fun hc49 hF => ?_)
          · skip
            refine r_seq ?_
            refine r_region ?_
            refine ops_ok rfl (s_assign rfl rfl (tyo_ok rfl)) st2 ?_
            refine ops_nil ?_
            refine q_seq ?_
            refine r_ret ?_
            refine q_block_ret ?_
            refine q_seq_ret ?_
            refine q_loop_ret ?_
            obtain rfl := Option.some.inj hF
            replace hF := hK2
            refine q_block_ret ?_
            refine q_seq_ret ?_
            obtain rfl := Option.some.inj hF
            refine q_retL1 rfl (rl_tmp gt2 rl_nil) (fin_ext (leV.refl _) rfl ?_)
            exact ⟨rfl, rfl⟩
          · skip
            refine r_skip ?_
            refine q_block ?_
            refine q_seq ?_
            refine r_region ?_
            refine ops_ok rfl (s_move rfl gt4 (tyo_ok rfl)) (sk (sk st10)) ?_
            refine ops_ok rfl (s_bin rfl (gk (gk gt10)) rfl rfl) (sk (sk st11)) ?_
            refine ops_ok rfl (s_assign rfl (gk (gk gt11)) (tyo_ok rfl)) st4 ?_
            refine ops_nil ?_
            refine q_loop ?_
            obtain rfl := Option.some.inj hF
            exact ⟨(), hl2, hK2, wk.trans (wk.le (by exact (.drop (.eq (.drop (.drop (.cons (leV.of_eq (w64e (by omega) (by omega))) (.drop (.drop (.drop (.drop (.drop (.drop (.drop (.drop (.drop (.drop (.drop (.drop (.drop (.drop (.drop (.drop (.drop (.drop (.drop (.drop (.drop (.drop (.drop (.drop (.drop (.drop (.drop (.drop (.drop (.drop (.drop (.drop (.drop (.drop (.drop (.drop (.drop (.drop (.drop (.drop (.drop (.drop (.drop (.drop (.drop (.drop (.drop (.drop (.drop (.drop (.drop (.drop (.drop (.drop (.drop (.drop (.drop (.drop (.drop (.drop (.drop (.drop (.drop (.drop (.drop (.drop (.drop (.drop (.drop (.drop (.drop (.drop (.drop (.drop (.drop (.drop (.drop (.drop (.drop (.drop (.drop (.drop (.drop (.drop (.drop (.drop (.drop (.drop (.drop (.drop (.drop (.drop (.drop (.drop (.drop (.drop (.drop (.drop (.drop (.drop (.drop (.drop (.drop (.drop (.drop (.drop (.drop (.drop (.drop (.drop (.drop (.drop (.drop (.drop (.drop (.drop (.drop (.drop (.drop (.drop (.drop (.drop (.drop (.drop (.drop (.drop (.drop (.drop (.drop (.drop (.drop (.drop (.drop (.drop (.drop (.drop (.drop (.drop (.drop (.drop (.drop (.drop (.drop (.drop (.drop (.drop (.drop (.drop (.drop (.drop (.drop (.drop (.drop (.drop (.drop (.drop (.drop (.drop (.drop (.drop (.drop (.drop (.drop (.drop (.drop (.drop (.drop (.drop (.drop (.drop (.drop (.drop (.drop (.drop (.drop (.drop (.drop (.drop (.drop (.drop (.drop (.drop (.drop (.drop (.drop (.drop (.drop (.drop (.drop (.drop (.drop (.drop (.drop (.drop (.drop (.drop (.drop (.drop (.drop (.drop leL.nil))))))))))))))))))))))))))))))))))))))))))))))))))))))))))))))))))))))))))))))))))))))))))))))))))))))))))))))))))))))))))))))))))))))))))))))))))))))))))))))))))))))))))))))))))))))))))))))))))))))))))))))) (wk_ext3 (by simp [lowL, AV.low]) rfl rfl (by simp [Blk.low, lowL, AV.low]))⟩
      · skip
        refine r_exit ?_
        refine q_seq_exit ?_
        refine q_loop_exit ?_
        refine q_block_hit ?_
        refine q_seq ?_
        refine r_seq ?_
        refine r_seq ?_
        refine r_region ?_
        refine ops_ok rfl (s_assign rfl rfl (tyo_ok rfl)) st6 ?_
        refine ops_nil ?_
        refine q_seq ?_
        refine r_block ?_
        refine r_loopLF (fun (n3 : Nat) (s3 : Unit) => [(0, .any), (2, .any), (3, .any), (4, .any), (5, .any), (6, .int .i64 (n3 : Int)), (7, .any), (8, .any), (9, .any), (10, .any), (11, .any), (12, .any), (13, .any), (14, .any), (15, .any), (16, .any), (17, .any), (18, .any), (19, .any), (20, .any), (21, .any), (22, .any), (23, .any), (24, .any), (25, .any), (26, .any), (27, .any), (28, .any), (29, .any), (30, .any), (31, .any), (32, .any), (33, .any), (34, .any), (35, .any), (36, .any), (37, .any), (38, .any), (39, .any), (40, .any), (41, .any), (42, .any), (43, .any), (44, .any), (45, .any), (46, .any), (47, .any), (48, .any), (49, .any), (50, .any), (51, .any), (52, .any), (53, .any), (54, .any), (55, .any), (56, .any), (57, .any), (58, .any), (59, .any), (60, .any), (61, .any), (62, .any), (63, .any), (64, .any), (65, .any), (66, .any), (67, .any), (68, .any), (69, .any), (70, .any), (71, .any), (72, .any), (73, .any), (74, .any), (75, .any), (76, .any), (77, .any), (78, .any), (79, .any), (80, .any), (81, .any), (82, .any), (83, .any), (84, .any), (85, .any), (86, .any), (87, .any), (88, .any), (89, .any), (90, .any), (91, .any), (92, .any), (93, .any), (94, .any), (95, .any), (96, .any), (97, .any), (98, .any), (99, .any), (100, .any), (101, .any), (102, .any), (103, .any), (104, .any), (105, .any), (106, .any), (107, .any), (108, .any), (109, .any), (110, .any), (111, .any), (112, .any), (113, .any), (114, .any), (115, .any), (116, .any), (117, .any), (118, .any), (119, .any), (120, .any), (121, .any), (122, .any), (123, .any), (124, .any), (125, .any), (126, .any), (127, .any), (128, .any), (129, .any), (130, .any), (131, .any), (132, .any), (133, .any), (134, .any), (135, .any), (136, .any), (137, .any), (138, .any), (139, .any), (140, .any), (141, .any), (142, .any), (143, .any), (144, .any), (145, .any), (146, .any), (147, .any), (148, .any), (149, .any), (150, .any), (151, .any), (152, .any), (153, .any), (154, .any), (155, .any), (156, .any), (157, .any), (158, .any), (159, .any), (160, .any), (161, .any), (162, .any), (163, .any), (164, .any), (165, .any), (166, .any), (167, .any), (168, .any), (169, .any), (170, .any), (171, .any), (172, .any), (173, .any), (174, .any), (175, .any), (176, .any), (177, .any), (178, .any), (179, .any), (180, .any), (181, .any), (182, .any), (183, .any), (184, .any), (185, .any), (186, .any), (187, .any), (188, .any), (189, .any), (190, .any), (191, .any), (192, .any), (193, .any), (194, .any), (195, .any), (196, .any), (197, .any), (198, .any), (199, .any), (200, .any), (201, .any), (202, .any), (203, .any), (204, .any)]) (fun s3 => h.ext [.cells [.int .u8 l0.typ, .int .i64 l0.n, .int .u64 l0.time, .int .u8 l0.dot.actor.rep, .int .u32 l0.dot.actor.inc, .int .u64 l0.dot.seq, .str l0.text, .sl 5 (l0.items.map GItem.row), .sl 3 (l0.tombs.map GDot.row)], .cells [.int .u8 (0 : Int), .int .u32 (0 : Int), .int .u64 (0 : Int)]] []) hF (fun _ _ => by simp only [upd, List.set_cons_succ, List.set_cons_zero]; try rfl) (wk.le (by exact (.drop (.eq (.drop (.drop (.drop (.drop (.cons (leV.of_eq rfl) (.drop (.drop (.drop (.drop (.drop (.drop (.drop (.drop (.drop (.drop (.drop (.drop (.drop (.drop (.drop (.drop (.drop (.drop (.drop (.drop (.drop (.drop (.drop (.drop (.drop (.drop (.drop (.drop (.drop (.drop (.drop (.drop (.drop (.drop (.drop (.drop (.drop (.drop (.drop (.drop (.drop (.drop (.drop (.drop (.drop (.drop (.drop (.drop (.drop (.drop (.drop (.drop (.drop (.drop (.drop (.drop (.drop (.drop (.drop (.drop (.drop (.drop (.drop (.drop (.drop (.drop (.drop (.drop (.drop (.drop (.drop (.drop (.drop (.drop (.drop (.drop (.drop (.drop (.drop (.drop (.drop (.drop (.drop (.drop (.drop (.drop (.drop (.drop (.drop (.drop (.drop (.drop (.drop (.drop (.drop (.drop (.drop (.drop (.drop (.drop (.drop (.drop (.drop (.drop (.drop (.drop (.drop (.drop (.drop (.drop (.drop (.drop (.drop (.drop (.drop (.drop (.drop (.drop (.drop (.drop (.drop (.drop (.drop (.drop (.drop (.drop (.drop (.drop (.drop (.drop (.drop (.drop (.drop (.drop (.drop (.drop (.drop (.drop (.drop (.drop (.drop (.drop (.drop (.drop (.drop (.drop (.drop (.drop (.drop (.drop (.drop (.drop (.drop (.drop (.drop (.drop (.drop (.drop (.drop (.drop (.drop (.drop (.drop (.drop (.drop (.drop (.drop (.drop (.drop (.drop (.drop (.drop (.drop (.drop (.drop (.drop (.drop (.drop (.drop (.drop (.drop (.drop (.drop (.drop (.drop (.drop (.drop (.drop (.drop (.drop (.drop (.drop (.drop (.drop (.drop (.drop (.drop (.drop leL.nil))))))))))))))))))))))))))))))))))))))))))))))))))))))))))))))))))))))))))))))))))))))))))))))))))))))))))))))))))))))))))))))))))))))))))))))))))))))))))))))))))))))))))))))))))))))))))))))))))))))))))))))) ?_
        intro n3 s3 hi3 hF
        refine r_seq ?_
        refine r_seq ?_
        refine r_region ?_
        refine ops_ok rfl (s_move rfl gt6 (tyo_ok rfl)) (sk (sk (sk (sk st12)))) ?_
        refine ops_ok rfl (s_fieldAddr rfl fo65x6 gt1 rfl) (sk (sk (sk (sk st13)))) ?_
        refine ops_ok rfl (e_load rfl ty29 (gk (gk (gk (gk gt13)))) rfl (ldC_one rfl) (tyo_ok rfl)) (sk (sk (sk (sk st14)))) ?_
        refine ops_len rfl (s_lenSl rfl rfl rfl rfl el29 (gk (gk (gk (gk gt14)))) lenMap) (sk (sk (sk (sk st15)))) fun hn72 => ?_
        replace hn72 := lenN hn72
        refine ops_ok rfl (s_bin rfl (gk (gk (gk (gk gt12)))) (gk (gk (gk (gk gt15)))) rfl) (sk (sk (sk (sk st16)))) ?_
        refine ops_nil ?_
        refine q_seq ?_
        refine r_condL (gk (gk (gk (gk gt16)))) hF (fun x3 o3 hl3 hx3 hF hK3 => ?_) (fun hF => ?_)
        · skip
          refine r_skip ?_
          refine q_seq ?_
          refine r_seq ?_
          refine r_block ?_
          refine r_seq ?_
          refine r_drawn [5] [] trivial mixed (by kernel_rfl) ?_
          refine draw_ok rfl rfl (s_fieldAddr rfl fo65x6 gt1 rfl) (sk (sk (sk (sk st19)))) ?_
          refine draw_ok rfl rfl (e_load rfl ty29 (gk (gk (gk (gk gt19)))) rfl (ldC_one rfl) (tyo_ok rfl)) (sk (sk (sk (sk st20)))) ?_
          refine draw_ok rfl rfl (s_move rfl gt6 (tyo_ok rfl)) (sk (sk (sk (sk st21)))) ?_
          refine draw_ok rfl rfl (s_idxRow rfl el29 (gk (gk (gk (gk gt20)))) (gk (gk (gk (gk gt21)))) isl (idx_of hx3)) (sk (sk (sk (sk st22)))) ?_
          refine draw_ok rfl rfl (f_load rfl ty27.choose_spec.1 (gk (gk (gk (gk gt22)))) (ldC_agX (cs' := [.int .u8 x3.actor.rep, .int .u32 x3.actor.inc, .int .u64 x3.seq]) ty27.choose_spec.2 rfl rfl) (tyo_ok rfl)) (sk (sk (sk (sk st23)))) ?_
          refine bindF hF (fun v73 hv73 hF => ?_)
          refine draw_callN rfl rfl (fun _ => s_call0 rfl rfl rfl (argo_cons (gk (gk (gk (gk gt23)))) argo_nil) (.cons (tyo_ok rfl) .nil)) (by rintro _ ⟨B2, T2, rfl, hk2⟩; exact ok55 hv73) (sk (sk (sk (sk st24)))) ?_
          refine draw_ok rfl rfl (s_un rfl (gk (gk (gk (gk gt24)))) rfl) (sk (sk (sk (sk st25)))) ?_
          refine draw_ok rfl rfl (s_move rfl (gk (gk (gk (gk gt25)))) (tyo_ok rfl)) (sk (sk (sk (sk st26)))) ?_
          refine draw_gv rfl rfl (fun hb => s_move rfl gt6 (tyo_ok rfl)) (sk (sk (sk (sk st27)))) ?_
          refine draw_gv rfl rfl (fun hb => s_bin rfl (evo_gv (gk (gk (gk (gk gt27)))) hb) rfl rfl) (sk (sk (sk (sk st28)))) ?_
          refine draw_gv rfl rfl (fun hb => s_move rfl (evo_gv (gk (gk (gk (gk gt28)))) hb) (tyo_ok rfl)) (sk (sk (sk (sk st29)))) ?_
          refine draw_gv rfl (aG_gv rfl rfl rfl) (fun hb => s_fieldAddr rfl fo65x6 gt1 rfl) (sk (sk (sk (sk st30)))) ?_
          refine draw_gv rfl (aG_gv rfl rfl rfl) (fun hb => e_load rfl ty29 (evo_gv (gk (gk (gk (gk gt30)))) hb) rfl (ldC_one rfl) (tyo_ok rfl)) (sk (sk (sk (sk st31)))) ?_
          refine draw_gv rfl (aG_gv rfl rfl rfl) (fun hb => s_move rfl gt6 (tyo_ok rfl)) (sk (sk (sk (sk st32)))) ?_
          refine draw_gv rfl (aG_gv rfl rfl rfl) (fun hb => s_bin rfl (evo_gv (gk (gk (gk (gk gt32)))) hb) rfl rfl) (sk (sk (sk (sk st33)))) ?_
          refine chkF hF (fun hg74 hF => ?_)
          refine draw_gv rfl (aG_gv rfl rfl rfl) (fun hb => s_gidxRow default rfl el29 (evo_gv (gk (gk (gk (gk gt31)))) hb) (evo_gv (gk (gk (gk (gk gt33)))) hb) isl (hg74 hb)) (sk (sk (sk (sk st34)))) ?_
          refine draw_gv rfl (aG_gv rfl rfl rfl) (fun hb => f_load rfl ty27.choose_spec.1 (evo_gv (gk (gk (gk (gk gt34)))) hb) (ldC_agX (cs' := [.int .u8 (((l0.tombs).getD (IntKind.wrap .i64 ((n3 : Int) - (1 : Int))).toNat default).actor.rep), .int .u32 (((l0.tombs).getD (IntKind.wrap .i64 ((n3 : Int) - (1 : Int))).toNat default).actor.inc), .int .u64 (((l0.tombs).getD (IntKind.wrap .i64 ((n3 : Int) - (1 : Int))).toNat default).seq)]) ty27.choose_spec.2 rfl rfl) (tyo_ok rfl)) (sk (sk (sk (sk st35)))) ?_
          refine draw_gv rfl (aG_gv rfl rfl rfl) (fun hb => s_fieldAddr rfl fo65x6 gt1 rfl) (sk (sk (sk (sk st36)))) ?_
          refine draw_gv rfl (aG_gv rfl rfl rfl) (fun hb => e_load rfl ty29 (evo_gv (gk (gk (gk (gk gt36)))) hb) rfl (ldC_one rfl) (tyo_ok rfl)) (sk (sk (sk (sk st37)))) ?_
          refine draw_gv rfl (aG_gv rfl rfl rfl) (fun hb => s_move rfl gt6 (tyo_ok rfl)) (sk (sk (sk (sk st38)))) ?_
          refine chkF hF (fun hg75 hF => ?_)
          refine draw_gv rfl (aG_gv rfl rfl rfl) (fun hb => s_gidxRow default rfl el29 (evo_gv (gk (gk (gk (gk gt37)))) hb) (evo_gv (gk (gk (gk (gk gt38)))) hb) isl (hg75 hb)) (sk (sk (sk (sk st39)))) ?_
          refine draw_gv rfl (aG_gv rfl rfl rfl) (fun hb => f_load rfl ty27.choose_spec.1 (evo_gv (gk (gk (gk (gk gt39)))) hb) (ldC_agX (cs' := [.int .u8 (((l0.tombs).getD (n3 : Int).toNat default).actor.rep), .int .u32 (((l0.tombs).getD (n3 : Int).toNat default).actor.inc), .int .u64 (((l0.tombs).getD (n3 : Int).toNat default).seq)]) ty27.choose_spec.2 rfl rfl) (tyo_ok rfl)) (sk (sk (sk (sk (sk st0))))) ?_
          refine gbindF hF (fun v76 hv76 hF => ?_)
          refine draw_gcall rfl (aG_gv rfl rfl rfl) (fun hb => s_call0 rfl rfl rfl (argo_cons (evo_gv (gk (gk (gk (gk gt35)))) hb) (argo_cons (evo_gv (gk (gk (gk (gk (gk gt0))))) hb) argo_nil)) (.cons (tyo_ok rfl) (.cons (tyo_ok rfl) .nil))) (fun hb => ok56 (hv76 hb)) (sk (sk (sk (sk (sk st1))))) ?_
          refine draw_gv rfl (aG_gv rfl rfl rfl) (fun hb => s_un rfl (evo_gv (gk (gk (gk (gk (gk gt1))))) hb) rfl) (sk (sk (sk (sk (sk st2))))) ?_
          refine draw_gv rfl rfl (fun hb => s_pick rfl (evo_gv (gk (gk (gk (gk gt29)))) hb) (gk (gk (gk (gk (gk gt2))))) rfl (pick_and (fun ht => gT2 hb ht))) (sk (sk (sk (sk (sk st3))))) ?_
          refine draw_ok rfl rfl (s_pick rfl (gk (gk (gk (gk gt26)))) rfl (gk (gk (gk (gk (gk gt3))))) (pick_or (fun ht => gF ht))) (sk (sk (sk (sk (sk st4))))) ?_
          refine draw_nil ?_
          refine q_seq ?_
          refine r_condF (gk (gk (gk (gk (gk gt4))))) hF (fun hc77 hF => ?_) (fun hc77 hF => ?_)
          · skip
            refine r_seq ?_
            refine r_region ?_
            refine ops_ok rfl (s_assign rfl rfl (tyo_ok rfl)) st2 ?_
            refine ops_nil ?_
            refine q_seq ?_
            refine r_ret ?_
            refine q_block_ret ?_
            refine q_seq_ret ?_
            refine q_loop_ret ?_
            obtain rfl := Option.some.inj hF
            replace hF := hK3
            refine q_block_ret ?_
            refine q_seq_ret ?_
            obtain rfl := Option.some.inj hF
            refine q_retL1 rfl (rl_tmp gt2 rl_nil) (fin_ext (leV.refl _) rfl ?_)
            exact ⟨rfl, rfl⟩
          · skip
            refine r_skip ?_
            refine q_block ?_
            refine q_seq ?_
            refine r_region ?_
            refine ops_ok rfl (s_move rfl gt6 (tyo_ok rfl)) (sk (sk (sk (sk st17)))) ?_
            refine ops_ok rfl (s_bin rfl (gk (gk (gk (gk gt17)))) rfl rfl) (sk (sk (sk (sk st18)))) ?_
            refine ops_ok rfl (s_assign rfl (gk (gk (gk (gk gt18)))) (tyo_ok rfl)) st6 ?_
            refine ops_nil ?_
            refine q_loop ?_
            obtain rfl := Option.some.inj hF
            exact ⟨(), hl3, hK3, wk.le (by exact (.drop (.eq (.drop (.drop (.drop (.drop (.cons (leV.of_eq (w64e (by omega) (by omega))) (.drop (.drop (.drop (.drop (.drop (.drop (.drop (.drop (.drop (.drop (.drop (.drop (.drop (.drop (.drop (.drop (.drop (.drop (.drop (.drop (.drop (.drop (.drop (.drop (.drop (.drop (.drop (.drop (.drop (.drop (.drop (.drop (.drop (.drop (.drop (.drop (.drop (.drop (.drop (.drop (.drop (.drop (.drop (.drop (.drop (.drop (.drop (.drop (.drop (.drop (.drop (.drop (.drop (.drop (.drop (.drop (.drop (.drop (.drop (.drop (.drop (.drop (.drop (.drop (.drop (.drop (.drop (.drop (.drop (.drop (.drop (.drop (.drop (.drop (.drop (.drop (.drop (.drop (.drop (.drop (.drop (.drop (.drop (.drop (.drop (.drop (.drop (.drop (.drop (.drop (.drop (.drop (.drop (.drop (.drop (.drop (.drop (.drop (.drop (.drop (.drop (.drop (.drop (.drop (.drop (.drop (.drop (.drop (.drop (.drop (.drop (.drop (.drop (.drop (.drop (.drop (.drop (.drop (.drop (.drop (.drop (.drop (.drop (.drop (.drop (.drop (.drop (.drop (.drop (.drop (.drop (.drop (.drop (.drop (.drop (.drop (.drop (.drop (.drop (.drop (.drop (.drop (.drop (.drop (.drop (.drop (.drop (.drop (.drop (.drop (.drop (.drop (.drop (.drop (.drop (.drop (.drop (.drop (.drop (.drop (.drop (.drop (.drop (.drop (.drop (.drop (.drop (.drop (.drop (.drop (.drop (.drop (.drop (.drop (.drop (.drop (.drop (.drop (.drop (.drop (.drop (.drop (.drop (.drop (.drop (.drop (.drop (.drop (.drop (.drop (.drop (.drop (.drop (.drop (.drop (.drop (.drop (.drop leL.nil))))))))))))))))))))))))))))))))))))))))))))))))))))))))))))))))))))))))))))))))))))))))))))))))))))))))))))))))))))))))))))))))))))))))))))))))))))))))))))))))))))))))))))))))))))))))))))))))))))))))))))))⟩
        · skip
          refine r_exit ?_
          refine q_seq_exit ?_
          refine q_loop_exit ?_
          refine q_block_hit ?_
          refine q_seq ?_
          refine r_seq ?_
          refine r_region ?_
          refine ops_ok rfl (s_assign rfl rfl (tyo_ok rfl)) st2 ?_
          refine ops_nil ?_
          refine q_seq ?_
          refine r_ret ?_
          obtain rfl := Option.some.inj hF
          refine q_retL1 rfl (rl_tmp gt2 rl_nil) (fin_ext (leV.refl _) rfl ?_)
          exact ⟨rfl, rfl⟩
/-! varve/varveref07.may -/
theorem ok73N (n : Nat) : ∀ {t0 : (List GNode)} {deep1 : Int} {res : Bool} {h : AH} , ref07XmayN n t0 deep1 = some res → Spec Try.prog 73 [.sl 3 (t0.map GNode.row), .int .i64 deep1] h (fun rr hh => rr = .bool res ∧ hh = h) := by
  induction n with
  | zero => intro t0 deep1 res h  hF; simp [ref07XmayN] at hF
  | succ n ih =>
    intro t0 deep1 res h  hF
    unfold ref07XmayN at hF
    refine spec_of_body_ext Try.func73 rfl (by kernel_rfl) (env := [.sl 3 (t0.map GNode.row), .int .i64 deep1, aundef, aundef, aundef, aundef, aundef, aundef, aundef, aundef, aundef, aundef, aundef, aundef, aundef, aundef, aundef, aundef, aundef, aundef, aundef, aundef, aundef, aundef, aundef, aundef, aundef, aundef, aundef, aundef, aundef, aundef, aundef, aundef, aundef, aundef, aundef, aundef, aundef, aundef, aundef, aundef, aundef, aundef, aundef, aundef, aundef, aundef, aundef, aundef, aundef, aundef, aundef, aundef, aundef, aundef, aundef, aundef, aundef, aundef, aundef, aundef, aundef, aundef, aundef, aundef, aundef, aundef, aundef, aundef, aundef, aundef, aundef, aundef, aundef, aundef, aundef, aundef, aundef, aundef, aundef, aundef, aundef, aundef, aundef, aundef, aundef, aundef, aundef, aundef, aundef, aundef, aundef, aundef, aundef]) (by rfl) ?_
    refine r_seq ?_
    refine r_region ?_
    refine ops_ok rfl (s_assign rfl rfl (tyo_ok rfl)) st4 ?_
    refine ops_nil ?_
    refine q_seq ?_
    refine r_seq ?_
    refine r_seq ?_
    refine r_region ?_
    refine ops_ok rfl (s_assign rfl rfl (tyo_ok rfl)) st5 ?_
    refine ops_nil ?_
    refine q_seq ?_
    refine r_block ?_
    refine r_loopLF (fun (n1 : Nat) (s1 : Unit) => [(2, .any), (3, .any), (4, .any), (5, .int .i64 (n1 : Int)), (6, .any), (7, .any), (8, .any), (9, .any), (10, .any), (11, .any), (12, .any), (13, .any), (14, .any), (15, .any), (16, .any), (17, .any), (18, .any), (19, .any), (20, .any), (21, .any), (22, .any), (23, .any), (24, .any), (25, .any), (26, .any), (27, .any), (28, .any), (29, .any), (30, .any), (31, .any), (32, .any), (33, .any), (34, .any), (35, .any), (36, .any), (37, .any), (38, .any), (39, .any), (40, .any), (41, .any), (42, .any), (43, .any), (44, .any), (45, .any), (46, .any), (47, .any), (48, .any), (49, .any), (50, .any), (51, .any), (52, .any), (53, .any), (54, .any), (55, .any), (56, .any), (57, .any), (58, .any), (59, .any), (60, .any), (61, .any), (62, .any), (63, .any), (64, .any), (65, .any), (66, .any), (67, .any), (68, .any), (69, .any), (70, .any), (71, .any), (72, .any), (73, .any), (74, .any), (75, .any), (76, .any), (77, .any), (78, .any), (79, .any), (80, .any), (81, .any), (82, .any), (83, .any), (84, .any), (85, .any), (86, .any), (87, .any), (88, .any), (89, .any), (90, .any), (91, .any), (92, .any), (93, .any), (94, .any)]) (fun s1 => h.ext [] []) hF (fun _ _ => by simp only [upd, List.set_cons_succ, List.set_cons_zero]; try rfl) (wk.le (by exact (.eq (.eq (.drop (.drop (.drop (.cons (leV.of_eq rfl) (.drop (.drop (.drop (.drop (.drop (.drop (.drop (.drop (.drop (.drop (.drop (.drop (.drop (.drop (.drop (.drop (.drop (.drop (.drop (.drop (.drop (.drop (.drop (.drop (.drop (.drop (.drop (.drop (.drop (.drop (.drop (.drop (.drop (.drop (.drop (.drop (.drop (.drop (.drop (.drop (.drop (.drop (.drop (.drop (.drop (.drop (.drop (.drop (.drop (.drop (.drop (.drop (.drop (.drop (.drop (.drop (.drop (.drop (.drop (.drop (.drop (.drop (.drop (.drop (.drop (.drop (.drop (.drop (.drop (.drop (.drop (.drop (.drop (.drop (.drop (.drop (.drop (.drop (.drop (.drop (.drop (.drop (.drop (.drop (.drop (.drop (.drop (.drop (.drop leL.nil))))))))))))))))))))))))))))))))))))))))))))))))))))))))))))))))))))))))))))))))))))))))))))))))) ?_
    intro n1 s1 hi1 hF
    refine r_seq ?_
    refine r_seq ?_
    refine r_region ?_
    refine ops_ok rfl (s_move rfl gt5 (tyo_ok rfl)) st8 ?_
    refine ops_ok rfl (s_move rfl gt0 (tyo_ok rfl)) st9 ?_
    refine ops_len rfl (s_lenSl rfl rfl rfl rfl el54 gt9 lenMap) st10 fun hn30 => ?_
    replace hn30 := lenN hn30
    refine ops_ok rfl (s_bin rfl gt8 gt10 rfl) st11 ?_
    refine ops_nil ?_
    refine q_seq ?_
    refine r_condL gt11 hF (fun x1 o1 hl1 hx1 hF hK1 => ?_) (fun hF => ?_)
    · skip
      refine r_skip ?_
      refine q_seq ?_
      refine r_seq ?_
      refine r_block ?_
      refine r_seq ?_
      refine r_region ?_
      refine ops_ok rfl (s_move rfl gt0 (tyo_ok rfl)) st14 ?_
      refine ops_ok rfl (s_move rfl gt5 (tyo_ok rfl)) st15 ?_
      refine ops_ok rfl (s_idxRowE rfl el54 gt14 gt15 isl (idx_of hx1) (GNode.row_eq _)) st16 ?_
      refine ops_ok rfl (f_load rfl ty85.choose_spec.1 gt16 (ldC_agX (cs' := [.str x1.name, .sl 9 (x1.leaves.map GLeaf.row), .sl 3 (x1.subs.map GNode.row)]) ty85.choose_spec.2 rfl rfl) (tyo_ok rfl)) st17 ?_
      refine ops_ok rfl (e_alloc (n := 0) rfl ze85 rfl) st6 ?_
      refine ops_ok rfl (e_store (cs' := [.str x1.name, .sl 9 (x1.leaves.map GLeaf.row), .sl 3 (x1.subs.map GNode.row)]) rfl ty85.choose_spec.1 gt6 gt17 (tyo_ok rfl) rfl rfl rfl rfl rfl) rfl ?_
      refine ops_nil ?_
      refine q_seq ?_
      refine r_seq ?_
      refine r_seq ?_
      refine r_drawn [] [] trivial mixed (by kernel_rfl) ?_
      refine draw_ok rfl rfl (s_move rfl gt1 (tyo_ok rfl)) st18 ?_
      refine draw_ok rfl rfl (s_bin rfl gt18 rfl rfl) st19 ?_
      refine draw_ok rfl rfl (s_move rfl gt19 (tyo_ok rfl)) st20 ?_
      refine draw_gv rfl rfl (fun hb => s_fieldAddr rfl fo85x0 gt6 rfl) st21 ?_
      refine draw_gv rfl rfl (fun hb => e_load rfl ty9 (evo_gv gt21 hb) rfl (ldC_one rfl) (tyo_ok rfl)) st22 ?_
      refine gbindF hF (fun v31 hv31 hF => ?_)
      refine draw_gcall rfl rfl (fun hb => s_call0 rfl rfl rfl (argo_cons (evo_gv gt22 hb) argo_nil) (.cons (tyo_ok rfl) .nil)) (fun hb => ok12 (hv31 hb)) st23 ?_
      refine draw_gv rfl rfl (fun hb => s_un rfl (evo_gv gt23 hb) rfl) st24 ?_
      refine draw_ok rfl rfl (s_pick rfl gt20 rfl gt24 (pick_or (fun ht => gF ht))) st25 ?_
      refine draw_ok rfl rfl (s_move rfl gt25 (tyo_ok rfl)) st26 ?_
      refine draw_gv rfl rfl (fun hb => s_move rfl gt5 (tyo_ok rfl)) st27 ?_
      refine draw_gv rfl rfl (fun hb => s_bin rfl (evo_gv gt27 hb) rfl rfl) st28 ?_
      refine draw_gv rfl rfl (fun hb => s_move rfl (evo_gv gt28 hb) (tyo_ok rfl)) st29 ?_
      refine draw_gv rfl (aG_gv rfl rfl rfl) (fun hb => s_move rfl gt0 (tyo_ok rfl)) st30 ?_
      refine draw_gv rfl (aG_gv rfl rfl rfl) (fun hb => s_move rfl gt5 (tyo_ok rfl)) st31 ?_
      refine draw_gv rfl (aG_gv rfl rfl rfl) (fun hb => s_bin rfl (evo_gv gt31 hb) rfl rfl) st32 ?_
      refine chkF hF (fun hg32 hF => ?_)
      refine draw_gv rfl (aG_gv rfl rfl rfl) (fun hb => s_gidxRowE default rfl el54 (evo_gv gt30 hb) (evo_gv gt32 hb) isl (hg32 hb) (GNode.row_eq _)) st33 ?_
      refine draw_gv rfl (aG_gv rfl rfl rfl) (fun hb => s_fieldAddr rfl fo85x0 (evo_gv gt33 hb) rfl) st34 ?_
      refine draw_gv rfl (aG_gv rfl rfl rfl) (fun hb => f_load rfl ty9 (evo_gv gt34 hb) (ldC_one rfl) (tyo_ok rfl)) st35 ?_
      refine draw_gv rfl (aG_gv rfl rfl rfl) (fun hb => s_fieldAddr rfl fo85x0 gt6 rfl) st36 ?_
      refine draw_gv rfl (aG_gv rfl rfl rfl) (fun hb => e_load rfl ty9 (evo_gv gt36 hb) rfl (ldC_one rfl) (tyo_ok rfl)) st37 ?_
      refine draw_gv rfl (aG_gv rfl rfl rfl) (fun hb => s_bin rfl (evo_gv gt35 hb) (evo_gv gt37 hb) rfl) st38 ?_
      refine draw_gv rfl rfl (fun hb => s_pick rfl (evo_gv gt29 hb) gt38 rfl (pick_and (fun ht => gT2 hb ht))) st39 ?_
      refine draw_ok rfl rfl (s_pick rfl gt26 rfl gt39 (pick_or (fun ht => gF ht))) (sk st0) ?_
      refine draw_ok rfl rfl (s_move rfl (gk gt0) (tyo_ok rfl)) (sk st1) ?_
      refine draw_gv rfl rfl (fun hb => s_fieldAddr rfl fo85x1 gt6 rfl) (sk st2) ?_
      refine draw_gv rfl rfl (fun hb => e_load rfl ty83 (evo_gv (gk gt2) hb) rfl (ldC_one rfl) (tyo_ok rfl)) (sk st3) ?_
      refine draw_glen rfl rfl (fun hb => s_lenSl rfl rfl rfl rfl el83 (evo_gv (gk gt3) hb) lenMap) (sk st4) ?_
      refine draw_gv rfl rfl (fun hb => s_bin rfl (evo_gv (gk gt4) hb) rfl rfl) (sk st5) ?_
      refine draw_gv rfl rfl (fun hb => s_move rfl (evo_gv (gk gt5) hb) (tyo_ok rfl)) (sk st6) ?_
      refine draw_gv rfl (aG_gv rfl rfl rfl) (fun hb => s_fieldAddr rfl fo85x2 gt6 rfl) (sk st7) ?_
      refine draw_gv rfl (aG_gv rfl rfl rfl) (fun hb => e_load rfl ty54 (evo_gv (gk gt7) hb) rfl (ldC_one rfl) (tyo_ok rfl)) (sk st8) ?_
      refine draw_glen rfl (aG_gv rfl rfl rfl) (fun hb => s_lenSl rfl rfl rfl rfl el54 (evo_gv (gk gt8) hb) lenMap) (sk st9) ?_
      refine draw_gv rfl (aG_gv rfl rfl rfl) (fun hb => s_bin rfl (evo_gv (gk gt9) hb) rfl rfl) (sk st10) ?_
      refine draw_gv rfl rfl (fun hb => s_pick rfl (evo_gv (gk gt6) hb) (gk gt10) rfl (pick_and (fun ht => gT2 hb ht))) (sk st11) ?_
      refine draw_ok rfl rfl (s_pick rfl (gk gt1) rfl (gk gt11) (pick_or (fun ht => gF ht))) (sk st12) ?_
      refine draw_ok rfl rfl (s_move rfl (gk gt12) (tyo_ok rfl)) (sk st13) ?_
      refine draw_gv rfl rfl (fun hb => s_fieldAddr rfl fo85x2 gt6 rfl) (sk st14) ?_
      refine draw_gv rfl rfl (fun hb => e_load rfl ty54 (evo_gv (gk gt14) hb) rfl (ldC_one rfl) (tyo_ok rfl)) (sk st15) ?_
      refine draw_gv rfl rfl (fun hb => s_move rfl gt1 (tyo_ok rfl)) (sk st16) ?_
      refine draw_gv rfl rfl (fun hb => s_bin rfl (evo_gv (gk gt16) hb) rfl rfl) (sk st17) ?_
      refine gbindF hF (fun v35 hv35 hF => ?_)
      refine draw_gcall rfl rfl (fun hb => s_call0 rfl rfl rfl (argo_cons (evo_gv (gk gt15) hb) (argo_cons (evo_gv (gk gt17) hb) argo_nil)) (.cons (tyo_ok rfl) (.cons (tyo_ok rfl) .nil))) (fun hb => ih (hv35 hb)) (sk st18) ?_
      refine draw_gv rfl rfl (fun hb => s_un rfl (evo_gv (gk gt18) hb) rfl) (sk st19) ?_
      refine draw_ok rfl rfl (s_pick rfl (gk gt13) rfl (gk gt19) (pick_or (fun ht => gF ht))) (sk st20) ?_
      refine draw_nil ?_
      refine q_seq ?_
      refine r_condF (gk gt20) hF (fun hc36 hF => ?_) (fun hc36 hF => ?_)
      · skip
        refine r_seq ?_
        refine r_region ?_
        refine ops_ok rfl (s_assign rfl rfl (tyo_ok rfl)) st4 ?_
        refine ops_nil ?_
        refine q_seq ?_
        refine r_ret ?_
        refine q_seq_ret ?_
        refine q_block_ret ?_
        refine q_seq_ret ?_
        refine q_loop_ret ?_
        obtain rfl := Option.some.inj hF
        replace hF := hK1
        refine q_block_ret ?_
        refine q_seq_ret ?_
        obtain rfl := Option.some.inj hF
        refine q_retL1 rfl (rl_tmp gt4 rl_nil) (fin_ext (leV.refl _) rfl ?_)
        exact ⟨rfl, rfl⟩
      · skip
        refine r_skip ?_
        refine q_seq ?_
        refine r_seq ?_
        refine r_region ?_
        refine ops_ok rfl (s_assign rfl rfl (tyo_ok rfl)) st7 ?_
        refine ops_nil ?_
        refine q_seq ?_
        refine r_block ?_
        refine r_loopLF (fun (n2 : Nat) (s2 : Unit) => [(2, .any), (3, .any), (4, .any), (7, .int .i64 (n2 : Int)), (8, .any), (9, .any), (10, .any), (11, .any), (12, .any), (13, .any), (14, .any), (15, .any), (16, .any), (17, .any), (18, .any), (19, .any), (20, .any), (21, .any), (22, .any), (23, .any), (24, .any), (25, .any), (26, .any), (27, .any), (28, .any), (29, .any), (30, .any), (31, .any), (32, .any), (33, .any), (34, .any), (35, .any), (36, .any), (37, .any), (38, .any), (39, .any), (40, .any), (41, .any), (42, .any), (43, .any), (44, .any), (45, .any), (46, .any), (47, .any), (48, .any), (49, .any), (50, .any), (51, .any), (52, .any), (53, .any), (54, .any), (55, .any), (56, .any), (57, .any), (58, .any), (59, .any), (60, .any), (61, .any), (62, .any), (63, .any), (64, .any), (65, .any), (66, .any), (67, .any), (68, .any), (69, .any), (70, .any), (71, .any), (72, .any), (73, .any), (74, .any), (75, .any), (76, .any), (77, .any), (78, .any), (79, .any), (80, .any), (81, .any), (82, .any), (83, .any), (84, .any), (85, .any), (86, .any), (87, .any), (88, .any), (89, .any), (90, .any), (91, .any), (92, .any), (93, .any), (94, .any)]) (fun s2 => h.ext [.cells [.str x1.name, .sl 9 (x1.leaves.map GLeaf.row), .sl 3 (x1.subs.map GNode.row)]] []) hF (fun _ _ => by simp only [upd, List.set_cons_succ, List.set_cons_zero]; try rfl) (wk.le (by exact (.eq (.eq (.drop (.drop (.drop (.eq (.eq (.cons (leV.of_eq rfl) (.drop (.drop (.drop (.drop (.drop (.drop (.drop (.drop (.drop (.drop (.drop (.drop (.drop (.drop (.drop (.drop (.drop (.drop (.drop (.drop (.drop (.drop (.drop (.drop (.drop (.drop (.drop (.drop (.drop (.drop (.drop (.drop (.drop (.drop (.drop (.drop (.drop (.drop (.drop (.drop (.drop (.drop (.drop (.drop (.drop (.drop (.drop (.drop (.drop (.drop (.drop (.drop (.drop (.drop (.drop (.drop (.drop (.drop (.drop (.drop (.drop (.drop (.drop (.drop (.drop (.drop (.drop (.drop (.drop (.drop (.drop (.drop (.drop (.drop (.drop (.drop (.drop (.drop (.drop (.drop (.drop (.drop (.drop (.drop (.drop (.drop (.drop leL.nil))))))))))))))))))))))))))))))))))))))))))))))))))))))))))))))))))))))))))))))))))))))))))))))))) ?_
        intro n2 s2 hi2 hF
        refine r_seq ?_
        refine r_seq ?_
        refine r_region ?_
        refine ops_ok rfl (s_move rfl gt7 (tyo_ok rfl)) (sk st21) ?_
        refine ops_ok rfl (s_fieldAddr rfl fo85x1 gt6 rfl) (sk st22) ?_
        refine ops_ok rfl (e_load rfl ty83 (gk gt22) rfl (ldC_one rfl) (tyo_ok rfl)) (sk st23) ?_
        refine ops_len rfl (s_lenSl rfl rfl rfl rfl el83 (gk gt23) lenMap) (sk st24) fun hn49 => ?_
        replace hn49 := lenN hn49
        refine ops_ok rfl (s_bin rfl (gk gt21) (gk gt24) rfl) (sk st25) ?_
        refine ops_nil ?_
        refine q_seq ?_
        refine r_condL (gk gt25) hF (fun x2 o2 hl2 hx2 hF hK2 => ?_) (fun hF => ?_)
        · skip
          refine r_skip ?_
          refine q_seq ?_
          refine r_seq ?_
          refine r_block ?_
          refine r_seq ?_
          refine r_drawn [5] [] trivial mixed (by kernel_rfl) ?_
          refine draw_ok rfl rfl (s_fieldAddr rfl fo85x1 gt6 rfl) (sk st28) ?_
          refine draw_ok rfl rfl (e_load rfl ty83 (gk gt28) rfl (ldC_one rfl) (tyo_ok rfl)) (sk st29) ?_
          refine draw_ok rfl rfl (s_move rfl gt7 (tyo_ok rfl)) (sk st30) ?_
          refine draw_ok rfl rfl (s_idxRow rfl el83 (gk gt29) (gk gt30) isl (idx_of hx2)) (sk st31) ?_
          refine draw_ok rfl rfl (f_load rfl ty65.choose_spec.1 (gk gt31) (ldC_agX (cs' := [.int .u8 x2.typ, .int .i64 x2.n, .int .u64 x2.time, .int .u8 x2.dot.actor.rep, .int .u32 x2.dot.actor.inc, .int .u64 x2.dot.seq, .str x2.text, .sl 5 (x2.items.map GItem.row), .sl 3 (x2.tombs.map GDot.row)]) ty65.choose_spec.2 rfl rfl) (tyo_ok rfl)) (sk st32) ?_
          refine bindF hF (fun v50 hv50 hF => ?_)
          refine draw_callN rfl rfl (fun _ => s_call0 rfl rfl rfl (argo_cons (gk gt32) argo_nil) (.cons (tyo_ok rfl) .nil)) (by rintro _ ⟨B2, T2, rfl, hk2⟩; exact ok103 hv50) (sk st33) ?_
          refine draw_ok rfl rfl (s_un rfl (gk gt33) rfl) (sk st34) ?_
          refine draw_ok rfl rfl (s_move rfl (gk gt34) (tyo_ok rfl)) (sk st35) ?_
          refine draw_gv rfl rfl (fun hb => s_move rfl gt7 (tyo_ok rfl)) (sk st36) ?_
          refine draw_gv rfl rfl (fun hb => s_bin rfl (evo_gv (gk gt36) hb) rfl rfl) (sk st37) ?_
          refine draw_gv rfl rfl (fun hb => s_move rfl (evo_gv (gk gt37) hb) (tyo_ok rfl)) (sk st38) ?_
          refine draw_gv rfl (aG_gv rfl rfl rfl) (fun hb => s_fieldAddr rfl fo85x1 gt6 rfl) (sk st39) ?_
          refine draw_gv rfl (aG_gv rfl rfl rfl) (fun hb => e_load rfl ty83 (evo_gv (gk gt39) hb) rfl (ldC_one rfl) (tyo_ok rfl)) (sk (sk st0)) ?_
          refine draw_gv rfl (aG_gv rfl rfl rfl) (fun hb => s_move rfl gt7 (tyo_ok rfl)) (sk (sk st1)) ?_
          refine draw_gv rfl (aG_gv rfl rfl rfl) (fun hb => s_bin rfl (evo_gv (gk (gk gt1)) hb) rfl rfl) (sk (sk st2)) ?_
          refine chkF hF (fun hg51 hF => ?_)
          refine draw_gv rfl (aG_gv rfl rfl rfl) (fun hb => s_gidxRow default rfl el83 (evo_gv (gk (gk gt0)) hb) (evo_gv (gk (gk gt2)) hb) isl (hg51 hb)) (sk (sk st3)) ?_
          refine draw_gv rfl (aG_gv rfl rfl rfl) (fun hb => s_fieldAddr rfl fo65x0 (evo_gv (gk (gk gt3)) hb) rfl) (sk (sk st4)) ?_
          refine draw_gv rfl (aG_gv rfl rfl rfl) (fun hb => f_load rfl ty5 (evo_gv (gk (gk gt4)) hb) (ldC_one rfl) (tyo_ok rfl)) (sk (sk st5)) ?_
          refine draw_gv rfl (aG_gv rfl rfl rfl) (fun hb => s_fieldAddr rfl fo85x1 gt6 rfl) (sk (sk st6)) ?_
          refine draw_gv rfl (aG_gv rfl rfl rfl) (fun hb => e_load rfl ty83 (evo_gv (gk (gk gt6)) hb) rfl (ldC_one rfl) (tyo_ok rfl)) (sk (sk st7)) ?_
          refine draw_gv rfl (aG_gv rfl rfl rfl) (fun hb => s_move rfl gt7 (tyo_ok rfl)) (sk (sk st8)) ?_
          refine chkF hF (fun hg52 hF => ?_)
          refine draw_gv rfl (aG_gv rfl rfl rfl) (fun hb => s_gidxRow default rfl el83 (evo_gv (gk (gk gt7)) hb) (evo_gv (gk (gk gt8)) hb) isl (hg52 hb)) (sk (sk st9)) ?_
          refine draw_gv rfl (aG_gv rfl rfl rfl) (fun hb => s_fieldAddr rfl fo65x0 (evo_gv (gk (gk gt9)) hb) rfl) (sk (sk st10)) ?_
          refine draw_gv rfl (aG_gv rfl rfl rfl) (fun hb => f_load rfl ty5 (evo_gv (gk (gk gt10)) hb) (ldC_one rfl) (tyo_ok rfl)) (sk (sk st11)) ?_
          refine draw_gv rfl (aG_gv rfl rfl rfl) (fun hb => s_bin rfl (evo_gv (gk (gk gt5)) hb) (evo_gv (gk (gk gt11)) hb) rfl) (sk (sk st12)) ?_
          refine draw_gv rfl rfl (fun hb => s_pick rfl (evo_gv (gk gt38) hb) (gk (gk gt12)) rfl (pick_and (fun ht => gT2 hb ht))) (sk (sk st13)) ?_
          refine draw_ok rfl rfl (s_pick rfl (gk gt35) rfl (gk (gk gt13)) (pick_or (fun ht => gF ht))) (sk (sk st14)) ?_
          refine draw_nil ?_
          refine q_seq ?_
          refine r_condF (gk (gk gt14)) hF (fun hc53 hF => ?_) (fun hc53 hF => ?_)
          · skip
            refine r_seq ?_
            refine r_region ?_
            refine ops_ok rfl (s_assign rfl rfl (tyo_ok rfl)) st4 ?_
            refine ops_nil ?_
            refine q_seq ?_
            refine r_ret ?_
            refine q_block_ret ?_
            refine q_seq_ret ?_
            refine q_loop_ret ?_
            obtain rfl := Option.some.inj hF
            replace hF := hK2
            refine q_block_ret ?_
            refine q_block_ret ?_
            refine q_seq_ret ?_
            refine q_loop_ret ?_
            obtain rfl := Option.some.inj hF
            replace hF := hK1
            refine q_block_ret ?_
            refine q_seq_ret ?_
            obtain rfl := Option.some.inj hF
            refine q_retL1 rfl (rl_tmp gt4 rl_nil) (fin_ext (leV.refl _) rfl ?_)
            exact ⟨rfl, rfl⟩
          · skip
            refine r_skip ?_
            refine q_block ?_
            refine q_seq ?_
            refine r_region ?_
            refine ops_ok rfl (s_move rfl gt7 (tyo_ok rfl)) (sk st26) ?_
            refine ops_ok rfl (s_bin rfl (gk gt26) rfl rfl) (sk st27) ?_
            refine ops_ok rfl (s_assign rfl (gk gt27) (tyo_ok rfl)) st7 ?_
            refine ops_nil ?_
            refine q_loop ?_
            obtain rfl := Option.some.inj hF
            exact ⟨(), hl2, hK2, wk.le (by exact (.eq (.eq (.drop (.drop (.drop (.eq (.eq (.cons (leV.of_eq (w64e (by omega) (by omega))) (.drop (.drop (.drop (.drop (.drop (.drop (.drop (.drop (.drop (.drop (.drop (.drop (.drop (.drop (.drop (.drop (.drop (.drop (.drop (.drop (.drop (.drop (.drop (.drop (.drop (.drop (.drop (.drop (.drop (.drop (.drop (.drop (.drop (.drop (.drop (.drop (.drop (.drop (.drop (.drop (.drop (.drop (.drop (.drop (.drop (.drop (.drop (.drop (.drop (.drop (.drop (.drop (.drop (.drop (.drop (.drop (.drop (.drop (.drop (.drop (.drop (.drop (.drop (.drop (.drop (.drop (.drop (.drop (.drop (.drop (.drop (.drop (.drop (.drop (.drop (.drop (.drop (.drop (.drop (.drop (.drop (.drop (.drop (.drop (.drop (.drop (.drop leL.nil))))))))))))))))))))))))))))))))))))))))))))))))))))))))))))))))))))))))))))))))))))))))))))))))⟩
        · skip
          refine r_exit ?_
          refine q_seq_exit ?_
          refine q_loop_exit ?_
          refine q_block_hit ?_
          refine q_block ?_
          refine q_seq ?_
          refine r_region ?_
          refine ops_ok rfl (s_move rfl gt5 (tyo_ok rfl)) st12 ?_
          refine ops_ok rfl (s_bin rfl gt12 rfl rfl) st13 ?_
          refine ops_ok rfl (s_assign rfl gt13 (tyo_ok rfl)) st5 ?_
          refine ops_nil ?_
          refine q_loop ?_
          obtain rfl := Option.some.inj hF
          exact ⟨(), hl1, hK1, wk.trans (wk.le (by exact (.eq (.eq (.drop (.drop (.drop (.cons (leV.of_eq (w64e (by omega) (by omega))) (.drop (.drop (.drop (.drop (.drop (.drop (.drop (.drop (.drop (.drop (.drop (.drop (.drop (.drop (.drop (.drop (.drop (.drop (.drop (.drop (.drop (.drop (.drop (.drop (.drop (.drop (.drop (.drop (.drop (.drop (.drop (.drop (.drop (.drop (.drop (.drop (.drop (.drop (.drop (.drop (.drop (.drop (.drop (.drop (.drop (.drop (.drop (.drop (.drop (.drop (.drop (.drop (.drop (.drop (.drop (.drop (.drop (.drop (.drop (.drop (.drop (.drop (.drop (.drop (.drop (.drop (.drop (.drop (.drop (.drop (.drop (.drop (.drop (.drop (.drop (.drop (.drop (.drop (.drop (.drop (.drop (.drop (.drop (.drop (.drop (.drop (.drop (.drop (.drop leL.nil))))))))))))))))))))))))))))))))))))))))))))))))))))))))))))))))))))))))))))))))))))))))))))))))) (wk_ext3 (by simp [lowL, AV.low]) rfl rfl (by simp [Blk.low, lowL, AV.low]))⟩
    · skip
      refine r_exit ?_
      refine q_seq_exit ?_
      refine q_loop_exit ?_
      refine q_block_hit ?_
      refine q_seq ?_
      refine r_seq ?_
      refine r_region ?_
      refine ops_ok rfl (s_assign rfl rfl (tyo_ok rfl)) st4 ?_
      refine ops_nil ?_
      refine q_seq ?_
      refine r_ret ?_
      obtain rfl := Option.some.inj hF
      refine q_retL1 rfl (rl_tmp gt4 rl_nil) (fin_ext (leV.refl _) rfl ?_)
      exact ⟨rfl, rfl⟩
theorem ok73 {t0 : (List GNode)} {deep1 : Int} {res : Bool} {h : AH}  (hF : ref07Xmay t0 deep1 = some res) : Spec Try.prog 73 [.sl 3 (t0.map GNode.row), .int .i64 deep1] h (fun rr hh => rr = .bool res ∧ hh = h) := by
  obtain ⟨n, hn⟩ := anyN_is hF
  exact ok73N n  hn
/-! varve/varveref07.May -/
theorem ok33 {t0 : (List GNode)} {res : Bool} {h : AH}  (hF : ref07May t0 = some res) : Spec Try.prog 33 [.sl 3 (t0.map GNode.row)] h (fun rr hh => rr = .bool res ∧ hh = h) := by
  unfold ref07May at hF
  refine spec_of_body_ext Try.func33 rfl (by kernel_rfl) (env := [.sl 3 (t0.map GNode.row), aundef, aundef, aundef, aundef]) (by rfl) ?_
  refine r_seq ?_
  refine r_region ?_
  refine ops_ok rfl (s_assign rfl rfl (tyo_ok rfl)) st2 ?_
  refine ops_nil ?_
  refine q_seq ?_
  refine r_seq ?_
  refine r_region ?_
  refine ops_ok rfl (s_move rfl gt0 (tyo_ok rfl)) st3 ?_
  refine bindF hF (fun v1 hv1 hF => ?_)
  refine ops_callP rfl (s_call0 rfl rfl rfl (argo_cons gt3 (argo_cons rfl argo_nil)) (.cons (tyo_ok rfl) (.cons (tyo_ok rfl) .nil))) (ok73 hv1) st4 ?_
  refine ops_ok rfl (s_assign rfl gt4 (tyo_ok rfl)) st2 ?_
  refine ops_nil ?_
  refine q_seq ?_
  refine r_ret ?_
  obtain rfl := Option.some.inj hF
  refine q_retL1 rfl (rl_tmp gt2 rl_nil) (fin_ext (leV.refl _) rfl ?_)
  exact ⟨rfl, rfl⟩
/-! varve/op.IsName 1 -/
theorem ok50 {r0 : Int} {res : Bool} {h : AH}  (hF : opIsNameC1 r0 = some res) : Spec Try.prog 50 [.int .i32 r0] h (fun rr hh => rr = .bool res ∧ hh = h) := by
  unfold opIsNameC1 at hF
  refine spec_of_body_ext Try.func50 rfl (by kernel_rfl) (env := [.int .i32 r0, aundef, aundef, aundef, aundef, aundef, aundef, aundef, aundef, aundef, aundef, aundef, aundef, aundef, aundef, aundef, aundef, aundef, aundef, aundef, aundef, aundef, aundef, aundef, aundef]) (by rfl) ?_
  refine r_seq ?_
  refine r_region ?_
  refine ops_ok rfl (s_assign rfl rfl (tyo_ok rfl)) st2 ?_
  refine ops_nil ?_
  refine q_seq ?_
  refine r_seq ?_
  refine r_region ?_
  refine ops_ok rfl (s_move rfl gt0 (tyo_ok rfl)) st3 ?_
  refine ops_ok rfl (s_bin rfl gt3 rfl rfl) st4 ?_
  refine ops_ok rfl (s_move rfl gt4 (tyo_ok rfl)) st5 ?_
  refine ops_gv rfl (fun hb => s_move rfl gt0 (tyo_ok rfl)) st6 ?_
  refine ops_gv rfl (fun hb => s_bin rfl (evo_gv gt6 hb) rfl rfl) st7 ?_
  refine ops_ok rfl (s_pick rfl gt5 rfl gt7 (pick_or (fun ht => gF ht))) st8 ?_
  refine ops_ok rfl (s_move rfl gt8 (tyo_ok rfl)) st9 ?_
  refine ops_gv rfl (fun hb => s_move rfl gt0 (tyo_ok rfl)) st10 ?_
  refine ops_gv rfl (fun hb => s_bin rfl (evo_gv gt10 hb) rfl rfl) st11 ?_
  refine ops_gv rfl (fun hb => s_move rfl (evo_gv gt11 hb) (tyo_ok rfl)) st12 ?_
  refine ops_gv (aG_gv rfl rfl rfl) (fun hb => s_move rfl gt0 (tyo_ok rfl)) st13 ?_
  refine ops_gv (aG_gv rfl rfl rfl) (fun hb => s_bin rfl (evo_gv gt13 hb) rfl rfl) st14 ?_
  refine ops_gv rfl (fun hb => s_pick rfl (evo_gv gt12 hb) rfl gt14 (pick_or (fun ht => gF2 hb ht))) st15 ?_
  refine ops_ok rfl (s_pick rfl gt9 gt15 rfl (pick_and (fun ht => gT ht))) st16 ?_
  refine ops_ok rfl (s_move rfl gt16 (tyo_ok rfl)) st17 ?_
  refine ops_gv rfl (fun hb => s_move rfl gt0 (tyo_ok rfl)) st18 ?_
  refine ops_gv rfl (fun hb => s_bin rfl (evo_gv gt18 hb) rfl rfl) st19 ?_
  refine ops_gv rfl (fun hb => s_move rfl (evo_gv gt19 hb) (tyo_ok rfl)) st20 ?_
  refine ops_gv (aG_gv rfl rfl rfl) (fun hb => s_move rfl gt0 (tyo_ok rfl)) st21 ?_
  refine ops_gv (aG_gv rfl rfl rfl) (fun hb => s_bin rfl (evo_gv gt21 hb) rfl rfl) st22 ?_
  refine ops_gv rfl (fun hb => s_pick rfl (evo_gv gt20 hb) rfl gt22 (pick_or (fun ht => gF2 hb ht))) st23 ?_
  refine ops_ok rfl (s_pick rfl gt17 gt23 rfl (pick_and (fun ht => gT ht))) st24 ?_
  refine ops_ok rfl (s_assign rfl gt24 (tyo_ok rfl)) st2 ?_
  refine ops_nil ?_
  refine q_seq ?_
  refine r_ret ?_
  obtain rfl := Option.some.inj hF
  refine q_retL1 rfl (rl_tmp gt2 rl_nil) (fin_ext (leV.refl _) rfl ?_)
  exact ⟨rfl, rfl⟩
/-! strings.indexFunc -/
theorem ok115 {s0 : Str} {f1 : (Int → Option Bool)} {ff1 : FuncId} {af1 kf1 : List AV} {truth2 : Bool} {res : Int} {h : AH} (hf1 : ∀ x0 v (L : List Blk) (M : List Nat), f1 x0 = some v → Spec Try.prog ff1 (af1 ++ [.int .i32 x0] ++ kf1) (h.ext L M) (fun rr hh => rr = .bool v ∧ hh = h.ext L M)) (hF : stringsXindexFunc s0 f1 truth2 = some res) : Spec Try.prog 115 [.str s0, .fn (.func ff1) af1 kf1, .bool truth2] h (fun rr hh => rr = .int .i64 res ∧ hh = h) := by
  unfold stringsXindexFunc at hF
  refine spec_of_body_extC Try.func115 rfl (by kernel_rfl) (env := [.str s0, .fn (.func ff1) af1 kf1, .bool truth2, aundef, aundef, aundef, aundef, aundef, aundef, aundef, aundef, aundef, aundef, aundef, aundef, aundef, aundef, aundef, aundef, aundef, aundef]) (by rfl) (fun hlow hC => ?_)
  simp only [lowL, AV.low, Bool.and_eq_true, Bool.true_and, and_true] at hlow
  have hlaf1 : ∀ n m, h.blks.length ≤ n → h.toks.length ≤ m → lowL n m af1 = true := fun n m h1 h2 => lowL_up h1 h2 _ (by simp [hlow])
  have hlkf1 : ∀ n m, h.blks.length ≤ n → h.toks.length ≤ m → lowL n m kf1 = true := fun n m h1 h2 => lowL_up h1 h2 _ (by simp [hlow])
  refine r_seq ?_
  refine r_region ?_
  refine ops_ok rfl (s_assign rfl rfl (tyo_ok rfl)) st6 ?_
  refine ops_nil ?_
  refine q_seq ?_
  refine r_seq ?_
  refine r_seq ?_
  refine r_region ?_
  refine ops_ok rfl (s_move rfl gt0 (tyo_ok rfl)) st9 ?_
  refine ops_ok rfl (e_range (n := 0) rfl ty9 gt9 rfl) st10 ?_
  refine ops_nil ?_
  refine q_seq ?_
  refine r_block ?_
  refine r_loopWF (fun (s1 : Nat) => [(0, .any), (3, .any), (4, .any), (5, .any), (6, .any), (7, .any), (8, .any), (9, .any), (11, .any), (12, .any), (13, .any), (14, .any), (15, .any), (16, .any), (17, .any), (18, .any), (19, .any), (20, .any)]) (fun s1 => h.ext [.siter s0 s1] []) hF (fun _ => by simp only [upd, List.set_cons_succ, List.set_cons_zero]; try rfl) (wk.le (by exact (.drop (.eq (.eq (.drop (.drop (.drop (.drop (.drop (.drop (.drop (.eq (.drop (.drop (.drop (.drop (.drop (.drop (.drop (.drop (.drop (.drop leL.nil))))))))))))))))))))))) ?_
  intro n1 s1 o1 hF hK1
  refine r_seq ?_
  refine r_region ?_
  refine ops_nextF rfl rfl gt10 rfl st11 st11 hF (fun hp5 hF => ?_) (fun hF => ?_)
  · skip
    refine ops_ok rfl (s_extract rfl gt11 rfl (tyo_ok rfl)) st12 ?_
    refine ops_nil ?_
    refine q_seq ?_
    refine r_seq ?_
    refine r_cond gt12 (fun _ => ?_) (fun hh => by cases hh)
    refine r_skip ?_
    refine q_seq ?_
    refine r_block ?_
    refine r_seq ?_
    refine r_region ?_
    refine ops_ok rfl (s_extract rfl gt11 rfl (tyo_ok rfl)) st13 ?_
    refine ops_ok rfl (s_extract rfl gt11 rfl (tyo_ok rfl)) st14 ?_
    refine ops_ok rfl (s_assign rfl gt13 (tyo_ok rfl)) st7 ?_
    refine ops_ok rfl (s_assign rfl gt14 (tyo_ok rfl)) st8 ?_
    refine ops_nil ?_
    refine q_seq ?_
    refine r_seq ?_
    refine r_region ?_
    refine ops_ok rfl (s_move rfl gt1 (tyo_ok rfl)) st15 ?_
    refine ops_ok rfl (s_move rfl gt8 (tyo_ok rfl)) st16 ?_
    refine bindF hF (fun v6 hv6 hF => ?_)
    refine ops_callP rfl (s_callC rfl rfl gt15 (argo_cons gt16 argo_nil) (.cons (tyo_ok rfl) .nil) rfl) (hf1 _ _ _ _ hv6) st17 ?_
    refine ops_ok rfl (s_move rfl gt2 (tyo_ok rfl)) st18 ?_
    refine ops_ok rfl (s_bin rfl gt17 gt18 (bin_boolE ty4)) st19 ?_
    refine ops_nil ?_
    refine q_seq ?_
    refine r_condF gt19 hF (fun hc7 hF => ?_) (fun hc7 hF => ?_)
    · skip
      refine r_seq ?_
      refine r_region ?_
      refine ops_ok rfl (s_move rfl gt7 (tyo_ok rfl)) st20 ?_
      refine ops_ok rfl (s_assign rfl gt20 (tyo_ok rfl)) st6 ?_
      refine ops_nil ?_
      refine q_seq ?_
      refine r_ret ?_
      refine q_block_ret ?_
      refine q_loop_ret ?_
      obtain rfl := Option.some.inj hF
      replace hF := hK1
      refine q_block_ret ?_
      refine q_seq_ret ?_
      obtain rfl := Option.some.inj hF
      refine q_retL1 rfl (rl_tmp gt6 rl_nil) (fin_ext (leV.refl _) rfl ?_)
      exact ⟨rfl, rfl⟩
    · skip
      refine r_skip ?_
      refine q_block ?_
      refine q_loop ?_
      obtain rfl := Option.some.inj hF
      exact ⟨(s1 + (dec s0 s1).2), hK1, wk.le (by exact (.drop (.eq (.eq (.drop (.drop (.drop (.drop (.drop (.drop (.drop (.eq (.drop (.drop (.drop (.drop (.drop (.drop (.drop (.drop (.drop (.drop leL.nil))))))))))))))))))))))⟩
  · skip
    refine ops_ok rfl (s_extract rfl gt11 rfl (tyo_ok rfl)) st12 ?_
    refine ops_nil ?_
    refine q_seq ?_
    refine r_seq ?_
    refine r_cond gt12 (fun hh => by cases hh) (fun _ => ?_)
    refine r_exit ?_
    refine q_seq_exit ?_
    refine q_loop_exit ?_
    obtain rfl := Option.some.inj hF
    replace hF := hK1
    refine q_block_hit ?_
    refine q_seq ?_
    refine r_seq ?_
    refine r_region ?_
    refine ops_ok rfl (s_assign rfl rfl (tyo_ok rfl)) st6 ?_
    refine ops_nil ?_
    refine q_seq ?_
    refine r_ret ?_
    obtain rfl := Option.some.inj hF
    refine q_retL1 rfl (rl_tmp gt6 rl_nil) (fin_ext (leV.refl _) rfl ?_)
    exact ⟨rfl, rfl⟩
/-! strings.IndexFunc -/
theorem ok93 {s0 : Str} {f1 : (Int → Option Bool)} {ff1 : FuncId} {af1 kf1 : List AV} {res : Int} {h : AH} (hf1 : ∀ x0 v (L : List Blk) (M : List Nat), f1 x0 = some v → Spec Try.prog ff1 (af1 ++ [.int .i32 x0] ++ kf1) (h.ext L M) (fun rr hh => rr = .bool v ∧ hh = h.ext L M)) (hF : stringsIndexFunc s0 f1 = some res) : Spec Try.prog 93 [.str s0, .fn (.func ff1) af1 kf1] h (fun rr hh => rr = .int .i64 res ∧ hh = h) := by
  unfold stringsIndexFunc at hF
  refine spec_of_body_extC Try.func93 rfl (by kernel_rfl) (env := [.str s0, .fn (.func ff1) af1 kf1, aundef, aundef, aundef, aundef, aundef, aundef]) (by rfl) (fun hlow hC => ?_)
  simp only [lowL, AV.low, Bool.and_eq_true, Bool.true_and, and_true] at hlow
  have hlaf1 : ∀ n m, h.blks.length ≤ n → h.toks.length ≤ m → lowL n m af1 = true := fun n m h1 h2 => lowL_up h1 h2 _ (by simp [hlow])
  have hlkf1 : ∀ n m, h.blks.length ≤ n → h.toks.length ≤ m → lowL n m kf1 = true := fun n m h1 h2 => lowL_up h1 h2 _ (by simp [hlow])
  refine r_seq ?_
  refine r_region ?_
  refine ops_ok rfl (s_assign rfl rfl (tyo_ok rfl)) st4 ?_
  refine ops_nil ?_
  refine q_seq ?_
  refine r_seq ?_
  refine r_region ?_
  refine ops_ok rfl (s_move rfl gt0 (tyo_ok rfl)) st5 ?_
  refine ops_ok rfl (s_move rfl gt1 (tyo_ok rfl)) st6 ?_
  refine bindF hF (fun v1 hv1 hF => ?_)
  refine ops_callP rfl (s_call0 rfl rfl rfl (argo_cons gt5 (argo_cons gt6 (argo_cons rfl argo_nil))) (.cons (tyo_ok rfl) (.cons (tyo_ok rfl) (.cons (tyo_ok rfl) .nil)))) (ok115 (fun x0 v L M hv => by rw [ext_ext]; exact hf1 x0 v _ _ hv) hv1) st7 ?_
  refine ops_ok rfl (s_assign rfl gt7 (tyo_ok rfl)) st4 ?_
  refine ops_nil ?_
  refine q_seq ?_
  refine r_ret ?_
  obtain rfl := Option.some.inj hF
  refine q_retL1 rfl (rl_tmp gt4 rl_nil) (fin_ext (leV.refl _) rfl ?_)
  exact ⟨rfl, rfl⟩
/-! strings.ContainsFunc -/
theorem ok51 {s0 : Str} {f1 : (Int → Option Bool)} {ff1 : FuncId} {af1 kf1 : List AV} {res : Bool} {h : AH} (hf1 : ∀ x0 v (L : List Blk) (M : List Nat), f1 x0 = some v → Spec Try.prog ff1 (af1 ++ [.int .i32 x0] ++ kf1) (h.ext L M) (fun rr hh => rr = .bool v ∧ hh = h.ext L M)) (hF : stringsContainsFunc s0 f1 = some res) : Spec Try.prog 51 [.str s0, .fn (.func ff1) af1 kf1] h (fun rr hh => rr = .bool res ∧ hh = h) := by
  unfold stringsContainsFunc at hF
  refine spec_of_body_extC Try.func51 rfl (by kernel_rfl) (env := [.str s0, .fn (.func ff1) af1 kf1, aundef, aundef, aundef, aundef, aundef, aundef, aundef]) (by rfl) (fun hlow hC => ?_)
  simp only [lowL, AV.low, Bool.and_eq_true, Bool.true_and, and_true] at hlow
  have hlaf1 : ∀ n m, h.blks.length ≤ n → h.toks.length ≤ m → lowL n m af1 = true := fun n m h1 h2 => lowL_up h1 h2 _ (by simp [hlow])
  have hlkf1 : ∀ n m, h.blks.length ≤ n → h.toks.length ≤ m → lowL n m kf1 = true := fun n m h1 h2 => lowL_up h1 h2 _ (by simp [hlow])
  refine r_seq ?_
  refine r_region ?_
  refine ops_ok rfl (s_assign rfl rfl (tyo_ok rfl)) st4 ?_
  refine ops_nil ?_
  refine q_seq ?_
  refine r_seq ?_
  refine r_region ?_
  refine ops_ok rfl (s_move rfl gt0 (tyo_ok rfl)) st5 ?_
  refine ops_ok rfl (s_move rfl gt1 (tyo_ok rfl)) st6 ?_
  refine bindF hF (fun v1 hv1 hF => ?_)
  refine ops_callP rfl (s_call0 rfl rfl rfl (argo_cons gt5 (argo_cons gt6 argo_nil)) (.cons (tyo_ok rfl) (.cons (tyo_ok rfl) .nil))) (ok93 (fun x0 v L M hv => by rw [ext_ext]; exact hf1 x0 v _ _ hv) hv1) st7 ?_
  refine ops_ok rfl (s_bin rfl gt7 rfl rfl) st8 ?_
  refine ops_ok rfl (s_assign rfl gt8 (tyo_ok rfl)) st4 ?_
  refine ops_nil ?_
  refine q_seq ?_
  refine r_ret ?_
  obtain rfl := Option.some.inj hF
  refine q_retL1 rfl (rl_tmp gt4 rl_nil) (fin_ext (leV.refl _) rfl ?_)
  exact ⟨rfl, rfl⟩
/-! varve/op.IsName -/
theorem ok11 {s0 : Str} {res : Bool} {h : AH}  (hF : opIsName s0 = some res) : Spec Try.prog 11 [.str s0] h (fun rr hh => rr = .bool res ∧ hh = h) := by
  unfold opIsName at hF
  refine spec_of_body_ext Try.func11 rfl (by kernel_rfl) (env := [.str s0, aundef, aundef, aundef, aundef, aundef, aundef, aundef, aundef, aundef, aundef, aundef, aundef, aundef, aundef, aundef, aundef, aundef]) (by rfl) ?_
  refine r_seq ?_
  refine r_region ?_
  refine ops_ok rfl (s_assign rfl rfl (tyo_ok rfl)) st2 ?_
  refine ops_nil ?_
  refine q_seq ?_
  refine r_seq ?_
  refine r_region ?_
  refine ops_ok rfl (s_assign rfl rfl (tyo_ok rfl)) st3 ?_
  refine ops_nil ?_
  refine q_seq ?_
  refine r_seq ?_
  refine r_region ?_
  refine ops_ok rfl (s_move rfl gt0 (tyo_ok rfl)) st4 ?_
  refine ops_len rfl (s_lenStr rfl rfl rfl rfl ty9 gt4) st5 fun hn1 => ?_
  replace hn1 := lenN hn1
  refine ops_ok rfl (s_bin rfl gt5 rfl rfl) st6 ?_
  refine ops_ok rfl (s_move rfl gt6 (tyo_ok rfl)) st7 ?_
  refine ops_gv rfl (fun hb => s_move rfl gt0 (tyo_ok rfl)) st8 ?_
  refine ops_glen rfl (fun hb => s_lenStr rfl rfl rfl rfl ty9 (evo_gv gt8 hb)) st9 fun hn2 => ?_
  refine ops_gv rfl (fun hb => s_bin rfl (evo_gv gt9 hb) rfl rfl) st10 ?_
  refine ops_ok rfl (s_pick rfl gt7 gt10 rfl (pick_and (fun ht => gT ht))) st11 ?_
  refine ops_ok rfl (s_move rfl gt11 (tyo_ok rfl)) st12 ?_
  refine ops_gv rfl (fun hb => s_move rfl gt0 (tyo_ok rfl)) st13 ?_
  refine ops_gv rfl (fun hb => s_move rfl gt3 (tyo_ok rfl)) st14 ?_
  refine gbindF hF (fun v3 hv3 hF => ?_)
  refine ops_gcall rfl (fun hb => s_call0 rfl rfl rfl (argo_cons (evo_gv gt13 hb) (argo_cons (evo_gv gt14 hb) argo_nil)) (.cons (tyo_ok rfl) (.cons (tyo_ok rfl) .nil))) (fun hb => ok51 (fun _ v L M hv => ok50  hv) (hv3 hb)) st15 ?_
  refine ops_gv rfl (fun hb => s_un rfl (evo_gv gt15 hb) rfl) st16 ?_
  refine ops_ok rfl (s_pick rfl gt12 gt16 rfl (pick_and (fun ht => gT ht))) st17 ?_
  refine ops_ok rfl (s_assign rfl gt17 (tyo_ok rfl)) st2 ?_
  refine ops_nil ?_
  refine q_seq ?_
  refine r_ret ?_
  obtain rfl := Option.some.inj hF
  refine q_retL1 rfl (rl_tmp gt2 rl_nil) (fin_ext (leV.refl _) rfl ?_)
  exact ⟨rfl, rfl⟩
/-! varve/paths.MayPattern 1 -/
theorem ok72 {s0 : Str} {res : Bool} {h : AH}  (hF : pathsMayPatternC1 s0 = some res) : Spec Try.prog 72 [.str s0] h (fun rr hh => rr = .bool res ∧ hh = h) := by
  unfold pathsMayPatternC1 at hF
  refine spec_of_body_ext Try.func72 rfl (by kernel_rfl) (env := [.str s0, aundef, aundef, aundef, aundef, aundef, aundef, aundef, aundef, aundef]) (by rfl) ?_
  refine r_seq ?_
  refine r_region ?_
  refine ops_ok rfl (s_assign rfl rfl (tyo_ok rfl)) st2 ?_
  refine ops_nil ?_
  refine q_seq ?_
  refine r_seq ?_
  refine r_region ?_
  refine ops_ok rfl (s_move rfl gt0 (tyo_ok rfl)) st3 ?_
  refine ops_ok rfl (s_bin rfl gt3 rfl rfl) st4 ?_
  refine ops_ok rfl (s_move rfl gt4 (tyo_ok rfl)) st5 ?_
  refine ops_gv rfl (fun hb => s_move rfl gt0 (tyo_ok rfl)) st6 ?_
  refine gbindF hF (fun v1 hv1 hF => ?_)
  refine ops_gcall rfl (fun hb => s_call0 rfl rfl rfl (argo_cons (evo_gv gt6 hb) argo_nil) (.cons (tyo_ok rfl) .nil)) (fun hb => ok11 (hv1 hb)) st7 ?_
  refine ops_gv rfl (fun hb => s_un rfl (evo_gv gt7 hb) rfl) st8 ?_
  refine ops_ok rfl (s_pick rfl gt5 gt8 rfl (pick_and (fun ht => gT ht))) st9 ?_
  refine ops_ok rfl (s_assign rfl gt9 (tyo_ok rfl)) st2 ?_
  refine ops_nil ?_
  refine q_seq ?_
  refine r_ret ?_
  obtain rfl := Option.some.inj hF
  refine q_retL1 rfl (rl_tmp gt2 rl_nil) (fin_ext (leV.refl _) rfl ?_)
  exact ⟨rfl, rfl⟩
/-! slices.IndexFunc[[]string,string] -/
theorem ok94 {s0 : (List Str)} {f1 : (Str → Option Bool)} {ff1 : FuncId} {af1 kf1 : List AV} {res : Int} {h : AH} (hf1 : ∀ x0 v (L : List Blk) (M : List Nat), f1 x0 = some v → Spec Try.prog ff1 (af1 ++ [.str x0] ++ kf1) (h.ext L M) (fun rr hh => rr = .bool v ∧ hh = h.ext L M)) (hF : slicesIndexFuncString s0 f1 = some res) : Spec Try.prog 94 [.sl 1 (s0.map strRow), .fn (.func ff1) af1 kf1] h (fun rr hh => rr = .int .i64 res ∧ hh = h) := by
  unfold slicesIndexFuncString at hF
  refine spec_of_body_extC Try.func94 rfl (by kernel_rfl) (env := [.sl 1 (s0.map strRow), .fn (.func ff1) af1 kf1, aundef, aundef, aundef, aundef, aundef, aundef, aundef, aundef, aundef, aundef, aundef, aundef, aundef, aundef, aundef, aundef, aundef]) (by rfl) (fun hlow hC => ?_)
  simp only [lowL, AV.low, Bool.and_eq_true, Bool.true_and, and_true] at hlow
  have hlaf1 : ∀ n m, h.blks.length ≤ n → h.toks.length ≤ m → lowL n m af1 = true := fun n m h1 h2 => lowL_up h1 h2 _ (by simp [hlow])
  have hlkf1 : ∀ n m, h.blks.length ≤ n → h.toks.length ≤ m → lowL n m kf1 = true := fun n m h1 h2 => lowL_up h1 h2 _ (by simp [hlow])
  refine r_seq ?_
  refine r_region ?_
  refine ops_ok rfl (s_assign rfl rfl (tyo_ok rfl)) st4 ?_
  refine ops_nil ?_
  refine q_seq ?_
  refine r_seq ?_
  refine r_seq ?_
  refine r_region ?_
  refine ops_ok rfl (s_move rfl gt0 (tyo_ok rfl)) st6 ?_
  refine ops_len rfl (s_lenSl rfl rfl rfl rfl el28 gt6 lenMap) st7 fun hn1 => ?_
  replace hn1 := lenN hn1
  refine ops_ok rfl (s_move rfl rfl (tyo_ok rfl)) st8 ?_
  refine ops_nil ?_
  refine q_seq ?_
  refine r_block ?_
  refine r_loopLF (fun (n1 : Nat) (s1 : Unit) => [(2, .any), (3, .any), (4, .any), (5, .any), (6, .any), (8, .int .i64 (n1 : Int)), (9, .any), (10, .any), (11, .any), (12, .any), (13, .any), (14, .any), (15, .any), (16, .any), (17, .any), (18, .any)]) (fun s1 => h.ext [] []) hF (fun _ _ => by simp only [upd, List.set_cons_succ, List.set_cons_zero]; try rfl) (wk.le (by exact (.eq (.eq (.drop (.drop (.drop (.drop (.drop (.eq (.cons (leV.of_eq rfl) (.drop (.drop (.drop (.drop (.drop (.drop (.drop (.drop (.drop (.drop leL.nil))))))))))))))))))))) ?_
  intro n1 s1 hi1 hF
  refine r_seq ?_
  refine r_region ?_
  refine ops_ok rfl (s_bin rfl gt8 gt7 rfl) st9 ?_
  refine ops_nil ?_
  refine q_seq ?_
  refine r_seq ?_
  refine r_condL gt9 hF (fun x1 o1 hl1 hx1 hF hK1 => ?_) (fun hF => ?_)
  · skip
    refine r_skip ?_
    refine q_seq ?_
    refine r_seq ?_
    refine r_block ?_
    refine r_seq ?_
    refine r_region ?_
    refine ops_ok rfl (s_move rfl gt8 (tyo_ok rfl)) st10 ?_
    refine ops_ok rfl (s_assign rfl gt10 (tyo_ok rfl)) st5 ?_
    refine ops_nil ?_
    refine q_seq ?_
    refine r_seq ?_
    refine r_region ?_
    refine ops_ok rfl (s_move rfl gt1 (tyo_ok rfl)) st11 ?_
    refine ops_ok rfl (s_move rfl gt0 (tyo_ok rfl)) st12 ?_
    refine ops_ok rfl (s_move rfl gt5 (tyo_ok rfl)) st13 ?_
    refine ops_ok rfl (s_idxRow rfl el28 gt12 gt13 isl (idx_of hx1)) st14 ?_
    refine ops_ok rfl (f_load rfl ty9 gt14 (ldC_one rfl) (tyo_ok rfl)) st15 ?_
    refine bindF hF (fun v7 hv7 hF => ?_)
    refine ops_callP rfl (s_callC rfl rfl gt11 (argo_cons gt15 argo_nil) (.cons (tyo_ok rfl) .nil) rfl) (hf1 _ _ _ _ hv7) st16 ?_
    refine ops_nil ?_
    refine q_seq ?_
    refine r_condF gt16 hF (fun hc8 hF => ?_) (fun hc8 hF => ?_)
    · skip
      refine r_seq ?_
      refine r_region ?_
      refine ops_ok rfl (s_move rfl gt5 (tyo_ok rfl)) st17 ?_
      refine ops_ok rfl (s_assign rfl gt17 (tyo_ok rfl)) st4 ?_
      refine ops_nil ?_
      refine q_seq ?_
      refine r_ret ?_
      refine q_block_ret ?_
      refine q_seq_ret ?_
      refine q_loop_ret ?_
      obtain rfl := Option.some.inj hF
      replace hF := hK1
      refine q_block_ret ?_
      refine q_seq_ret ?_
      obtain rfl := Option.some.inj hF
      refine q_retL1 rfl (rl_tmp gt4 rl_nil) (fin_ext (leV.refl _) rfl ?_)
      exact ⟨rfl, rfl⟩
    · skip
      refine r_skip ?_
      refine q_block ?_
      refine q_seq ?_
      refine r_region ?_
      refine ops_ok rfl (s_bin rfl gt8 rfl rfl) st18 ?_
      refine ops_ok rfl (s_move rfl gt18 (tyo_ok rfl)) st8 ?_
      refine ops_nil ?_
      refine q_loop ?_
      obtain rfl := Option.some.inj hF
      exact ⟨(), hl1, hK1, wk.le (by exact (.eq (.eq (.drop (.drop (.drop (.drop (.drop (.eq (.cons (leV.of_eq (w64e (by omega) (by omega))) (.drop (.drop (.drop (.drop (.drop (.drop (.drop (.drop (.drop (.drop leL.nil))))))))))))))))))))⟩
  · skip
    refine r_exit ?_
    refine q_seq_exit ?_
    refine q_loop_exit ?_
    refine q_block_hit ?_
    refine q_seq ?_
    refine r_seq ?_
    refine r_region ?_
    refine ops_ok rfl (s_assign rfl rfl (tyo_ok rfl)) st4 ?_
    refine ops_nil ?_
    refine q_seq ?_
    refine r_ret ?_
    obtain rfl := Option.some.inj hF
    refine q_retL1 rfl (rl_tmp gt4 rl_nil) (fin_ext (leV.refl _) rfl ?_)
    exact ⟨rfl, rfl⟩
/-! slices.ContainsFunc[[]string,string] -/
theorem ok52 {s0 : (List Str)} {f1 : (Str → Option Bool)} {ff1 : FuncId} {af1 kf1 : List AV} {res : Bool} {h : AH} (hf1 : ∀ x0 v (L : List Blk) (M : List Nat), f1 x0 = some v → Spec Try.prog ff1 (af1 ++ [.str x0] ++ kf1) (h.ext L M) (fun rr hh => rr = .bool v ∧ hh = h.ext L M)) (hF : slicesContainsFuncString s0 f1 = some res) : Spec Try.prog 52 [.sl 1 (s0.map strRow), .fn (.func ff1) af1 kf1] h (fun rr hh => rr = .bool res ∧ hh = h) := by
  unfold slicesContainsFuncString at hF
  refine spec_of_body_extC Try.func52 rfl (by kernel_rfl) (env := [.sl 1 (s0.map strRow), .fn (.func ff1) af1 kf1, aundef, aundef, aundef, aundef, aundef, aundef, aundef]) (by rfl) (fun hlow hC => ?_)
  simp only [lowL, AV.low, Bool.and_eq_true, Bool.true_and, and_true] at hlow
  have hlaf1 : ∀ n m, h.blks.length ≤ n → h.toks.length ≤ m → lowL n m af1 = true := fun n m h1 h2 => lowL_up h1 h2 _ (by simp [hlow])
  have hlkf1 : ∀ n m, h.blks.length ≤ n → h.toks.length ≤ m → lowL n m kf1 = true := fun n m h1 h2 => lowL_up h1 h2 _ (by simp [hlow])
  refine r_seq ?_
  refine r_region ?_
  refine ops_ok rfl (s_assign rfl rfl (tyo_ok rfl)) st4 ?_
  refine ops_nil ?_
  refine q_seq ?_
  refine r_seq ?_
  refine r_region ?_
  refine ops_ok rfl (s_move rfl gt0 (tyo_ok rfl)) st5 ?_
  refine ops_ok rfl (s_move rfl gt1 (tyo_ok rfl)) st6 ?_
  refine bindF hF (fun v1 hv1 hF => ?_)
  refine ops_callP rfl (s_call0 rfl rfl rfl (argo_cons gt5 (argo_cons gt6 argo_nil)) (.cons (tyo_ok rfl) (.cons (tyo_ok rfl) .nil))) (ok94 (fun x0 v L M hv => by rw [ext_ext]; exact hf1 x0 v _ _ hv) hv1) st7 ?_
  refine ops_ok rfl (s_bin rfl gt7 rfl rfl) st8 ?_
  refine ops_ok rfl (s_assign rfl gt8 (tyo_ok rfl)) st4 ?_
  refine ops_nil ?_
  refine q_seq ?_
  refine r_ret ?_
  obtain rfl := Option.some.inj hF
  refine q_retL1 rfl (rl_tmp gt4 rl_nil) (fin_ext (leV.refl _) rfl ?_)
  exact ⟨rfl, rfl⟩
/-! varve/paths.parts -/
theorem ok71 {p0 : (List Str)} {res : ((List Str) × Bool)} {h : AH}  (hF : pathsXparts p0 = some res) : Spec Try.prog 71 [.sl 1 (p0.map strRow)] h (fun rr hh => rr = .tup [.sl 1 (res.1.map strRow), .bool res.2] ∧ hh = h) := by
  unfold pathsXparts at hF
  refine spec_of_body_ext Try.func71 rfl (by kernel_rfl) (env := [.sl 1 (p0.map strRow), aundef, aundef, aundef, aundef, aundef, aundef, aundef, aundef, aundef, aundef, aundef, aundef, aundef, aundef, aundef, aundef, aundef, aundef, aundef, aundef, aundef]) (by rfl) ?_
  refine r_seq ?_
  refine r_region ?_
  refine ops_ok rfl (s_assign rfl rfl (ty_nil el28)) st2 ?_
  refine ops_ok rfl (s_assign rfl rfl (tyo_ok rfl)) st3 ?_
  refine ops_nil ?_
  refine q_seq ?_
  refine r_seq ?_
  refine r_seq ?_
  refine r_region ?_
  refine ops_ok rfl (s_move rfl gt0 (tyo_ok rfl)) st5 ?_
  refine ops_len rfl (s_lenSl rfl rfl rfl rfl el28 gt5 lenMap) st6 fun hn1 => ?_
  replace hn1 := lenN hn1
  refine ops_ok rfl (s_assign rfl gt6 (tyo_ok rfl)) st4 ?_
  refine ops_nil ?_
  refine q_seq ?_
  refine r_seq ?_
  refine r_region ?_
  refine ops_ok rfl (s_move rfl gt4 (tyo_ok rfl)) st7 ?_
  refine ops_ok rfl (s_bin rfl gt7 rfl rfl) st8 ?_
  refine ops_ok rfl (s_move rfl gt8 (tyo_ok rfl)) st9 ?_
  refine ops_gv rfl (fun hb => s_move rfl gt0 (tyo_ok rfl)) st10 ?_
  refine ops_gv rfl (fun hb => s_move rfl gt4 (tyo_ok rfl)) st11 ?_
  refine ops_gv rfl (fun hb => s_bin rfl (evo_gv gt11 hb) rfl rfl) st12 ?_
  refine chkF hF (fun hg2 hF => ?_)
  refine ops_gv rfl (fun hb => s_gidxRow default rfl el28 (evo_gv gt10 hb) (evo_gv gt12 hb) isl (hg2 hb)) st13 ?_
  refine ops_gv rfl (fun hb => f_load rfl ty9 (evo_gv gt13 hb) (ldC_one rfl) (tyo_ok rfl)) st14 ?_
  refine ops_gv rfl (fun hb => s_bin rfl (evo_gv gt14 hb) rfl rfl) st15 ?_
  refine ops_ok rfl (s_pick rfl gt9 gt15 rfl (pick_and (fun ht => gT ht))) st16 ?_
  refine ops_nil ?_
  refine q_seq ?_
  refine r_condF gt16 hF (fun hc3 hF => ?_) (fun hc3 hF => ?_)
  · skip
    refine r_seq ?_
    refine r_region ?_
    refine ops_ok rfl (s_move rfl gt0 (tyo_ok rfl)) st17 ?_
    refine ops_ok rfl (s_move rfl gt4 (tyo_ok rfl)) st18 ?_
    refine ops_ok rfl (s_bin rfl gt18 rfl rfl) st19 ?_
    refine bindF hF (fun m4 hm4 hF => ?_)
    refine ops_ok rfl (s_slcSl rfl el28 gt17 (.inl rfl) .none (.some gt19) hm4) st20 ?_
    refine ops_ok rfl (s_assign rfl gt20 (tyo_ok rfl)) st2 ?_
    refine ops_ok rfl (s_assign rfl rfl (tyo_ok rfl)) st3 ?_
    refine ops_nil ?_
    refine q_seq ?_
    refine r_ret ?_
    refine q_seq_ret ?_
    obtain rfl := Option.some.inj hF
    refine q_retL rfl (rl_tmp gt2 (rl_tmp gt3 rl_nil)) (fin_ext (leV.refl _) rfl ?_)
    exact ⟨rfl, rfl⟩
  · skip
    refine r_skip ?_
    refine q_seq ?_
    refine r_seq ?_
    refine r_region ?_
    refine ops_ok rfl (s_move rfl gt0 (tyo_ok rfl)) st21 ?_
    refine ops_ok rfl (s_assign rfl gt21 (tyo_ok rfl)) st2 ?_
    refine ops_ok rfl (s_assign rfl rfl (tyo_ok rfl)) st3 ?_
    refine ops_nil ?_
    refine q_seq ?_
    refine r_ret ?_
    obtain rfl := Option.some.inj hF
    refine q_retL rfl (rl_tmp gt2 (rl_tmp gt3 rl_nil)) (fin_ext (leV.refl _) rfl ?_)
    exact ⟨rfl, rfl⟩
/-! varve/paths.MayPattern -/
theorem ok32 {p0 : (List Str)} {res : Bool} {h : AH}  (hF : pathsMayPattern p0 = some res) : Spec Try.prog 32 [.sl 1 (p0.map strRow)] h (fun rr hh => rr = .bool res ∧ hh = h) := by
  unfold pathsMayPattern at hF
  refine spec_of_body_ext Try.func32 rfl (by kernel_rfl) (env := [.sl 1 (p0.map strRow), aundef, aundef, aundef, aundef, aundef, aundef, aundef, aundef, aundef, aundef, aundef, aundef, aundef, aundef, aundef, aundef, aundef, aundef, aundef, aundef, aundef, aundef, aundef, aundef, aundef, aundef, aundef]) (by rfl) ?_
  refine r_seq ?_
  refine r_region ?_
  refine ops_ok rfl (s_assign rfl rfl (tyo_ok rfl)) st2 ?_
  refine ops_nil ?_
  refine q_seq ?_
  refine r_seq ?_
  refine r_region ?_
  refine ops_ok rfl (s_move rfl gt0 (tyo_ok rfl)) st7 ?_
  refine bindF hF (fun v1 hv1 hF => ?_)
  refine ops_callP rfl (s_call0 rfl rfl rfl (argo_cons gt7 argo_nil) (.cons (tyo_ok rfl) .nil)) (ok71 hv1) st8 ?_
  refine ops_ok rfl (s_move rfl gt8 (tyo_ok rfl)) st6 ?_
  refine ops_ok rfl (s_extract rfl gt6 rfl (tyo_ok rfl)) st9 ?_
  refine ops_ok rfl (s_extract rfl gt6 rfl (tyo_ok rfl)) st10 ?_
  refine ops_ok rfl (s_assign rfl gt9 (tyo_ok rfl)) st3 ?_
  refine ops_ok rfl (s_assign rfl gt10 (tyo_ok rfl)) st4 ?_
  refine ops_nil ?_
  refine q_seq ?_
  refine r_seq ?_
  refine r_region ?_
  refine ops_ok rfl (s_assign rfl rfl (tyo_ok rfl)) st5 ?_
  refine ops_nil ?_
  refine q_seq ?_
  refine r_seq ?_
  refine r_region ?_
  refine ops_ok rfl (s_move rfl gt3 (tyo_ok rfl)) st11 ?_
  refine ops_len rfl (s_lenSl rfl rfl rfl rfl el28 gt11 lenMap) st12 fun hn2 => ?_
  replace hn2 := lenN hn2
  refine ops_ok rfl (s_bin rfl gt12 rfl rfl) st13 ?_
  refine ops_ok rfl (s_move rfl gt13 (tyo_ok rfl)) st14 ?_
  refine ops_gv rfl (fun hb => s_move rfl gt4 (tyo_ok rfl)) st15 ?_
  refine ops_ok rfl (s_pick rfl gt14 rfl gt15 (pick_or (fun ht => gF ht))) st16 ?_
  refine ops_ok rfl (s_move rfl gt16 (tyo_ok rfl)) st17 ?_
  refine ops_gv rfl (fun hb => s_move rfl gt3 (tyo_ok rfl)) st18 ?_
  refine ops_glen rfl (fun hb => s_lenSl rfl rfl rfl rfl el28 (evo_gv gt18 hb) lenMap) st19 fun hn3 => ?_
  refine ops_gv rfl (fun hb => s_bin rfl (evo_gv gt19 hb) rfl rfl) st20 ?_
  refine ops_ok rfl (s_pick rfl gt17 gt20 rfl (pick_and (fun ht => gT ht))) st21 ?_
  refine ops_ok rfl (s_move rfl gt21 (tyo_ok rfl)) st22 ?_
  refine ops_gv rfl (fun hb => s_move rfl gt3 (tyo_ok rfl)) st23 ?_
  refine ops_gv rfl (fun hb => s_move rfl gt5 (tyo_ok rfl)) st24 ?_
  refine gbindF hF (fun v4 hv4 hF => ?_)
  refine ops_gcall rfl (fun hb => s_call0 rfl rfl rfl (argo_cons (evo_gv gt23 hb) (argo_cons (evo_gv gt24 hb) argo_nil)) (.cons (tyo_ok rfl) (.cons (tyo_ok rfl) .nil))) (fun hb => ok52 (fun _ v L M hv => ok72  hv) (hv4 hb)) st25 ?_
  refine ops_gv rfl (fun hb => s_un rfl (evo_gv gt25 hb) rfl) st26 ?_
  refine ops_ok rfl (s_pick rfl gt22 gt26 rfl (pick_and (fun ht => gT ht))) st27 ?_
  refine ops_ok rfl (s_assign rfl gt27 (tyo_ok rfl)) st2 ?_
  refine ops_nil ?_
  refine q_seq ?_
  refine r_ret ?_
  obtain rfl := Option.some.inj hF
  refine q_retL1 rfl (rl_tmp gt2 rl_nil) (fin_ext (leV.refl _) rfl ?_)
  exact ⟨rfl, rfl⟩
/-! strings.Join -/
def joinTryRen : Go.Shelf.Ren :=
  { f := fun x => match x with
      | 156 => 104
      | 165 => 120
      | 166 => 121
      | 169 => 122
      | 240 => 134
      | 241 => 135
      | 276 => 147
      | 277 => 148
      | n => n
    t := fun x => match x with
      | 0 => 0
      | 3 => 3
      | 4 => 4
      | 9 => 9
      | 20 => 20
      | 31 => 28
      | 37 => 140
      | 70 => 149
      | 72 => 151
      | 75 => 154
      | 76 => 155
      | 127 => 168
      | 164 => 176
      | 5 => 5
      | 80 => 157
      | n => n
    g := fun n => n }
theorem joinTryLays : Go.Proofs.Lays.n156 Try.prog joinTryRen where
  mixed := mixed
  f156 := Try.func104.trans (by kernel_rfl)
  f165 := Try.func120.trans (by kernel_rfl)
  f166 := Try.func121.trans (by kernel_rfl)
  f169 := Try.func122.trans (by kernel_rfl)
  f240 := Try.func134.trans (by kernel_rfl)
  f241 := Try.func135.trans (by kernel_rfl)
  f276 := Try.func147.trans (by kernel_rfl)
  f277 := Try.func148.trans (by kernel_rfl)
  t0 := Try.underlying0
  a0 := Try.isAgg0
  z0 := Try.sizeOf0
  v0 := Try.zeroValue0
  t3 := Try.underlying3
  a3 := Try.isAgg3
  z3 := Try.sizeOf3
  v3 := Try.zeroValue3
  t4 := Try.underlying4
  a4 := Try.isAgg4
  z4 := Try.sizeOf4
  v4 := Try.zeroValue4
  t9 := Try.underlying9
  a9 := Try.isAgg9
  z9 := Try.sizeOf9
  v9 := Try.zeroValue9
  t20 := Try.underlying20
  a20 := Try.isAgg20
  z20 := Try.sizeOf20
  v20 := Try.zeroValue20
  t31 := Try.underlying28
  a31 := Try.isAgg28
  z31 := Try.sizeOf28
  v31 := Try.zeroValue28
  t37 := Try.underlying140
  a37 := Try.isAgg140
  z37 := Try.sizeOf140
  v37 := Try.zeroValue140
  t70 := Try.underlying149
  a70 := Try.isAgg149
  z70 := Try.sizeOf149
  v70 := Try.zeroValue149
  t72 := Try.underlying151
  a72 := Try.isAgg151
  z72 := Try.sizeOf151
  v72 := Try.zeroValue151
  t75 := Try.underlying154
  a75 := Try.isAgg154
  z75 := Try.sizeOf154
  v75 := Try.zeroValue154
  t76 := Try.underlying155
  a76 := Try.isAgg155
  z76 := Try.sizeOf155
  v76 := Try.zeroValue155
  t127 := Try.underlying168
  a127 := Try.isAgg168
  z127 := Try.sizeOf168
  v127 := Try.zeroValue168
  t164 := Try.underlying176
  a164 := Try.isAgg176
  z164 := Try.sizeOf176
  v164 := Try.zeroValue176
theorem joinTryExtra : Go.Proofs.Builder.Extra Try.prog joinTryRen where
  sizeBuilder := by kernel_rfl
  liesBuilder := by kernel_rfl
  t5 := Try.underlying5
  a5 := Try.isAgg5
  z5 := Try.sizeOf5
  v5 := Try.zeroValue5
  infoByte := by kernel_rfl
  cellsByte := by kernel_rfl
  sizeByte := by kernel_rfl
  neB5 := by decide
theorem ok104 {p0 : List Str} {p1 : Str} {res : Str} {h : AH} (hF : stringsJoin p0 p1 = some res) : Spec Try.prog 104 [.sl 1 (p0.map strRow), .str p1] h (fun rr hh => rr = .str res ∧ hh = h) :=
  spec_join joinTryLays joinTryExtra hF
/-! varve/paths.Text -/
theorem ok74 {p0 : (List Str)} {res : Str} {h : AH}  (hF : pathsText p0 = some res) : Spec Try.prog 74 [.sl 1 (p0.map strRow)] h (fun rr hh => rr = .str res ∧ hh = h) := by
  unfold pathsText at hF
  refine spec_of_body_ext Try.func74 rfl (by kernel_rfl) (env := [.sl 1 (p0.map strRow), aundef, aundef, aundef, aundef, aundef, aundef, aundef]) (by rfl) ?_
  refine r_seq ?_
  refine r_region ?_
  refine ops_ok rfl (s_assign rfl rfl (tyo_ok rfl)) st2 ?_
  refine ops_nil ?_
  refine q_seq ?_
  refine r_seq ?_
  refine r_seq ?_
  refine r_region ?_
  refine ops_ok rfl (s_move rfl gt0 (tyo_ok rfl)) st3 ?_
  refine bindF hF (fun v1 hv1 hF => ?_)
  refine ops_callP rfl (s_call0 rfl rfl rfl (argo_cons gt3 argo_nil) (.cons (tyo_ok rfl) .nil)) (ok32 hv1) st4 ?_
  refine ops_ok rfl (s_un rfl gt4 rfl) st5 ?_
  refine ops_nil ?_
  refine q_seq ?_
  refine r_condF gt5 hF (fun hc2 hF => ?_) (fun hc2 hF => ?_)
  · skip
    refine r_seq ?_
    refine r_region ?_
    refine ops_ok rfl (s_assign rfl rfl (tyo_ok rfl)) st2 ?_
    refine ops_nil ?_
    refine q_seq ?_
    refine r_ret ?_
    refine q_seq_ret ?_
    obtain rfl := Option.some.inj hF
    refine q_retL1 rfl (rl_tmp gt2 rl_nil) (fin_ext (leV.refl _) rfl ?_)
    exact ⟨rfl, rfl⟩
  · skip
    refine r_skip ?_
    refine q_seq ?_
    refine r_seq ?_
    refine r_region ?_
    refine ops_ok rfl (s_move rfl gt0 (tyo_ok rfl)) st6 ?_
    refine bindF hF (fun v3 hv3 hF => ?_)
    refine ops_callP rfl (s_call0 rfl rfl rfl (argo_cons gt6 (argo_cons rfl argo_nil)) (.cons (tyo_ok rfl) (.cons (tyo_ok rfl) .nil))) (ok104 hv3) st7 ?_
    refine ops_ok rfl (s_assign rfl gt7 (tyo_ok rfl)) st2 ?_
    refine ops_nil ?_
    refine q_seq ?_
    refine r_ret ?_
    obtain rfl := Option.some.inj hF
    refine q_retL1 rfl (rl_tmp gt2 rl_nil) (fin_ext (leV.refl _) rfl ?_)
    exact ⟨rfl, rfl⟩
/-! varve/op.MayPath 1 -/
theorem ok53 {s0 : Str} {res : Bool} {h : AH}  (hF : opMayPathC1 s0 = some res) : Spec Try.prog 53 [.str s0] h (fun rr hh => rr = .bool res ∧ hh = h) := by
  unfold opMayPathC1 at hF
  refine spec_of_body_ext Try.func53 rfl (by kernel_rfl) (env := [.str s0, aundef, aundef, aundef, aundef, aundef]) (by rfl) ?_
  refine r_seq ?_
  refine r_region ?_
  refine ops_ok rfl (s_assign rfl rfl (tyo_ok rfl)) st2 ?_
  refine ops_nil ?_
  refine q_seq ?_
  refine r_seq ?_
  refine r_region ?_
  refine ops_ok rfl (s_move rfl gt0 (tyo_ok rfl)) st3 ?_
  refine bindF hF (fun v1 hv1 hF => ?_)
  refine ops_callP rfl (s_call0 rfl rfl rfl (argo_cons gt3 argo_nil) (.cons (tyo_ok rfl) .nil)) (ok11 hv1) st4 ?_
  refine ops_ok rfl (s_un rfl gt4 rfl) st5 ?_
  refine ops_ok rfl (s_assign rfl gt5 (tyo_ok rfl)) st2 ?_
  refine ops_nil ?_
  refine q_seq ?_
  refine r_ret ?_
  obtain rfl := Option.some.inj hF
  refine q_retL1 rfl (rl_tmp gt2 rl_nil) (fin_ext (leV.refl _) rfl ?_)
  exact ⟨rfl, rfl⟩
/-! varve/op.MayPath -/
theorem ok13 {p0 : (List Str)} {res : Bool} {h : AH}  (hF : opMayPath p0 = some res) : Spec Try.prog 13 [.sl 1 (p0.map strRow)] h (fun rr hh => rr = .bool res ∧ hh = h) := by
  unfold opMayPath at hF
  refine spec_of_body_ext Try.func13 rfl (by kernel_rfl) (env := [.sl 1 (p0.map strRow), aundef, aundef, aundef, aundef, aundef, aundef, aundef, aundef, aundef, aundef, aundef, aundef, aundef, aundef, aundef]) (by rfl) ?_
  refine r_seq ?_
  refine r_region ?_
  refine ops_ok rfl (s_assign rfl rfl (tyo_ok rfl)) st2 ?_
  refine ops_nil ?_
  refine q_seq ?_
  refine r_seq ?_
  refine r_region ?_
  refine ops_ok rfl (s_move rfl gt0 (tyo_ok rfl)) st3 ?_
  refine ops_len rfl (s_lenSl rfl rfl rfl rfl el28 gt3 lenMap) st4 fun hn1 => ?_
  replace hn1 := lenN hn1
  refine ops_ok rfl (s_bin rfl gt4 rfl rfl) st5 ?_
  refine ops_ok rfl (s_move rfl gt5 (tyo_ok rfl)) st6 ?_
  refine ops_gv rfl (fun hb => s_move rfl gt0 (tyo_ok rfl)) st7 ?_
  refine ops_glen rfl (fun hb => s_lenSl rfl rfl rfl rfl el28 (evo_gv gt7 hb) lenMap) st8 fun hn2 => ?_
  refine ops_gv rfl (fun hb => s_bin rfl (evo_gv gt8 hb) rfl rfl) st9 ?_
  refine ops_ok rfl (s_pick rfl gt6 gt9 rfl (pick_and (fun ht => gT ht))) st10 ?_
  refine ops_ok rfl (s_move rfl gt10 (tyo_ok rfl)) st11 ?_
  refine ops_gv rfl (fun hb => s_move rfl gt0 (tyo_ok rfl)) st12 ?_
  refine gbindF hF (fun v3 hv3 hF => ?_)
  refine ops_gcall rfl (fun hb => s_call0 rfl rfl rfl (argo_cons (evo_gv gt12 hb) (argo_cons rfl argo_nil)) (.cons (tyo_ok rfl) (.cons (tyo_ok rfl) .nil))) (fun hb => ok52 (fun _ v L M hv => ok53  hv) (hv3 hb)) st13 ?_
  refine ops_gv rfl (fun hb => s_un rfl (evo_gv gt13 hb) rfl) st14 ?_
  refine ops_ok rfl (s_pick rfl gt11 gt14 rfl (pick_and (fun ht => gT ht))) st15 ?_
  refine ops_ok rfl (s_assign rfl gt15 (tyo_ok rfl)) st2 ?_
  refine ops_nil ?_
  refine q_seq ?_
  refine r_ret ?_
  obtain rfl := Option.some.inj hF
  refine q_retL1 rfl (rl_tmp gt2 rl_nil) (fin_ext (leV.refl _) rfl ?_)
  exact ⟨rfl, rfl⟩
/-! varve/paths.Match -/
theorem ok38 {p0 : (List Str)} {path1 : (List Str)} {res : Bool} {h : AH}  (hF : pathsMatch p0 path1 = some res) : Spec Try.prog 38 [.sl 1 (p0.map strRow), .sl 1 (path1.map strRow)] h (fun rr hh => rr = .bool res ∧ hh = h) := by
  unfold pathsMatch at hF
  refine spec_of_body_ext Try.func38 rfl (by kernel_rfl) (env := [.sl 1 (p0.map strRow), .sl 1 (path1.map strRow), aundef, aundef, aundef, aundef, aundef, aundef, aundef, aundef, aundef, aundef, aundef, aundef, aundef, aundef, aundef, aundef, aundef, aundef, aundef, aundef, aundef, aundef, aundef, aundef, aundef, aundef, aundef, aundef, aundef, aundef, aundef, aundef, aundef, aundef, aundef, aundef, aundef, aundef, aundef, aundef, aundef, aundef, aundef, aundef, aundef, aundef, aundef, aundef, aundef, aundef, aundef, aundef, aundef, aundef, aundef, aundef]) (by rfl) ?_
  refine r_seq ?_
  refine r_region ?_
  refine ops_ok rfl (s_assign rfl rfl (tyo_ok rfl)) st4 ?_
  refine ops_nil ?_
  refine q_seq ?_
  refine r_seq ?_
  refine r_region ?_
  refine ops_ok rfl (s_move rfl gt0 (tyo_ok rfl)) st10 ?_
  refine bindF hF (fun v1 hv1 hF => ?_)
  refine ops_callP rfl (s_call0 rfl rfl rfl (argo_cons gt10 argo_nil) (.cons (tyo_ok rfl) .nil)) (ok71 hv1) st11 ?_
  refine ops_ok rfl (s_move rfl gt11 (tyo_ok rfl)) st9 ?_
  refine ops_ok rfl (s_extract rfl gt9 rfl (tyo_ok rfl)) st12 ?_
  refine ops_ok rfl (s_extract rfl gt9 rfl (tyo_ok rfl)) st13 ?_
  refine ops_ok rfl (s_assign rfl gt12 (tyo_ok rfl)) st5 ?_
  refine ops_ok rfl (s_assign rfl gt13 (tyo_ok rfl)) st6 ?_
  refine ops_nil ?_
  refine q_seq ?_
  refine r_seq ?_
  refine r_seq ?_
  refine r_region ?_
  refine ops_ok rfl (s_move rfl gt0 (tyo_ok rfl)) st14 ?_
  refine bindF hF (fun v2 hv2 hF => ?_)
  refine ops_callP rfl (s_call0 rfl rfl rfl (argo_cons gt14 argo_nil) (.cons (tyo_ok rfl) .nil)) (ok32 hv2) st15 ?_
  refine ops_ok rfl (s_un rfl gt15 rfl) st16 ?_
  refine ops_ok rfl (s_move rfl gt16 (tyo_ok rfl)) st17 ?_
  refine ops_gv rfl (fun hb => s_move rfl gt1 (tyo_ok rfl)) st18 ?_
  refine gbindF hF (fun v3 hv3 hF => ?_)
  refine ops_gcall rfl (fun hb => s_call0 rfl rfl rfl (argo_cons (evo_gv gt18 hb) argo_nil) (.cons (tyo_ok rfl) .nil)) (fun hb => ok13 (hv3 hb)) st19 ?_
  refine ops_gv rfl (fun hb => s_un rfl (evo_gv gt19 hb) rfl) st20 ?_
  refine ops_ok rfl (s_pick rfl gt17 rfl gt20 (pick_or (fun ht => gF ht))) st21 ?_
  refine ops_ok rfl (s_move rfl gt21 (tyo_ok rfl)) st22 ?_
  refine ops_gv rfl (fun hb => s_move rfl gt1 (tyo_ok rfl)) st23 ?_
  refine ops_glen rfl (fun hb => s_lenSl rfl rfl rfl rfl el28 (evo_gv gt23 hb) lenMap) st24 fun hn4 => ?_
  refine ops_gv rfl (fun hb => s_move rfl gt5 (tyo_ok rfl)) st25 ?_
  refine ops_glen rfl (fun hb => s_lenSl rfl rfl rfl rfl el28 (evo_gv gt25 hb) lenMap) st26 fun hn5 => ?_
  refine ops_gv rfl (fun hb => s_bin rfl (evo_gv gt24 hb) (evo_gv gt26 hb) rfl) st27 ?_
  refine ops_ok rfl (s_pick rfl gt22 rfl gt27 (pick_or (fun ht => gF ht))) st28 ?_
  refine ops_ok rfl (s_move rfl gt28 (tyo_ok rfl)) st29 ?_
  refine ops_gv rfl (fun hb => s_move rfl gt1 (tyo_ok rfl)) st30 ?_
  refine ops_glen rfl (fun hb => s_lenSl rfl rfl rfl rfl el28 (evo_gv gt30 hb) lenMap) st31 fun hn6 => ?_
  refine ops_gv rfl (fun hb => s_move rfl gt5 (tyo_ok rfl)) st32 ?_
  refine ops_glen rfl (fun hb => s_lenSl rfl rfl rfl rfl el28 (evo_gv gt32 hb) lenMap) st33 fun hn7 => ?_
  refine ops_gv rfl (fun hb => s_bin rfl (evo_gv gt31 hb) (evo_gv gt33 hb) rfl) st34 ?_
  refine ops_gv rfl (fun hb => s_move rfl (evo_gv gt34 hb) (tyo_ok rfl)) st35 ?_
  refine ops_gv (aG_gv rfl rfl rfl) (fun hb => s_move rfl gt6 (tyo_ok rfl)) st36 ?_
  refine ops_gv (aG_gv rfl rfl rfl) (fun hb => s_un rfl (evo_gv gt36 hb) rfl) st37 ?_
  refine ops_gv rfl (fun hb => s_pick rfl (evo_gv gt35 hb) gt37 rfl (pick_and (fun ht => gT2 hb ht))) st38 ?_
  refine ops_ok rfl (s_pick rfl gt29 rfl gt38 (pick_or (fun ht => gF ht))) st39 ?_
  refine ops_nil ?_
  refine q_seq ?_
  refine r_condF gt39 hF (fun hc8 hF => ?_) (fun hc8 hF => ?_)
  · skip
    refine r_seq ?_
    refine r_region ?_
    refine ops_ok rfl (s_assign rfl rfl (tyo_ok rfl)) st4 ?_
    refine ops_nil ?_
    refine q_seq ?_
    refine r_ret ?_
    refine q_seq_ret ?_
    obtain rfl := Option.some.inj hF
    refine q_retL1 rfl (rl_tmp gt4 rl_nil) (fin_ext (leV.refl _) rfl ?_)
    exact ⟨rfl, rfl⟩
  · skip
    refine r_skip ?_
    refine q_seq ?_
    refine r_seq ?_
    refine r_seq ?_
    refine r_region ?_
    refine ops_ok rfl (s_move rfl gt5 (tyo_ok rfl)) (sk st0) ?_
    refine ops_len rfl (s_lenSl rfl rfl rfl rfl el28 (gk gt0) lenMap) (sk st1) fun hn9 => ?_
    replace hn9 := lenN hn9
    refine ops_ok rfl (s_move rfl rfl (tyo_ok rfl)) (sk st2) ?_
    refine ops_nil ?_
    refine q_seq ?_
    refine r_block ?_
    refine r_loopLF (fun (n1 : Nat) (s1 : Unit) => [(0, .any), (2, .any), (3, .any), (4, .any), (5, .any), (6, .any), (7, .any), (8, .any), (9, .any), (10, .any), (11, .any), (12, .any), (13, .any), (14, .any), (15, .any), (16, .any), (17, .any), (18, .any), (19, .any), (20, .any), (21, .any), (22, .any), (23, .any), (24, .any), (25, .any), (26, .any), (27, .any), (28, .any), (29, .any), (30, .any), (31, .any), (32, .any), (33, .any), (34, .any), (35, .any), (36, .any), (37, .any), (38, .any), (39, .any), (42, .int .i64 (n1 : Int)), (43, .any), (44, .any), (45, .any), (46, .any), (47, .any), (48, .any), (49, .any), (50, .any), (51, .any), (52, .any), (53, .any), (54, .any), (55, .any), (56, .any), (57, .any)]) (fun s1 => h.ext [] []) hF (fun _ _ => by simp only [upd, List.set_cons_succ, List.set_cons_zero]; try rfl) (wk.le (by exact (.drop (.eq (.drop (.drop (.drop (.drop (.drop (.drop (.drop (.drop (.drop (.drop (.drop (.drop (.drop (.drop (.drop (.drop (.drop (.drop (.drop (.drop (.drop (.drop (.drop (.drop (.drop (.drop (.drop (.drop (.drop (.drop (.drop (.drop (.drop (.drop (.drop (.drop (.drop (.drop (.eq (.eq (.cons (leV.of_eq rfl) (.drop (.drop (.drop (.drop (.drop (.drop (.drop (.drop (.drop (.drop (.drop (.drop (.drop (.drop (.drop leL.nil)))))))))))))))))))))))))))))))))))))))))))))))))))))))))))) ?_
    intro n1 s1 hi1 hF
    refine r_seq ?_
    refine r_region ?_
    refine ops_ok rfl (s_bin rfl (gk gt2) (gk gt1) rfl) (sk st3) ?_
    refine ops_nil ?_
    refine q_seq ?_
    refine r_seq ?_
    refine r_condL (gk gt3) hF (fun x1 o1 hl1 hx1 hF hK1 => ?_) (fun hF => ?_)
    · skip
      refine r_skip ?_
      refine q_seq ?_
      refine r_seq ?_
      refine r_block ?_
      refine r_seq ?_
      refine r_region ?_
      refine ops_ok rfl (s_move rfl (gk gt2) (tyo_ok rfl)) (sk st4) ?_
      refine ops_ok rfl (s_idxRow rfl el28 (gk gt0) (gk gt2) isl (idx_of hx1)) (sk st5) ?_
      refine ops_ok rfl (f_load rfl ty9 (gk gt5) (ldC_one rfl) (tyo_ok rfl)) (sk st6) ?_
      refine ops_ok rfl (s_assign rfl (gk gt4) (tyo_ok rfl)) st7 ?_
      refine ops_ok rfl (s_assign rfl (gk gt6) (tyo_ok rfl)) st8 ?_
      refine ops_nil ?_
      refine q_seq ?_
      refine r_seq ?_
      refine r_region ?_
      refine ops_ok rfl (s_move rfl gt8 (tyo_ok rfl)) (sk st7) ?_
      refine ops_ok rfl (s_bin rfl (gk gt7) rfl rfl) (sk st8) ?_
      refine ops_ok rfl (s_move rfl (gk gt8) (tyo_ok rfl)) (sk st9) ?_
      refine ops_gv rfl (fun hb => s_move rfl gt8 (tyo_ok rfl)) (sk st10) ?_
      refine ops_gv rfl (fun hb => s_move rfl gt1 (tyo_ok rfl)) (sk st11) ?_
      refine ops_gv rfl (fun hb => s_move rfl gt7 (tyo_ok rfl)) (sk st12) ?_
      refine chkF hF (fun hg15 hF => ?_)
      refine ops_gv rfl (fun hb => s_gidxRow default rfl el28 (evo_gv (gk gt11) hb) (evo_gv (gk gt12) hb) isl (hg15 hb)) (sk st13) ?_
      refine ops_gv rfl (fun hb => f_load rfl ty9 (evo_gv (gk gt13) hb) (ldC_one rfl) (tyo_ok rfl)) (sk st14) ?_
      refine ops_gv rfl (fun hb => s_bin rfl (evo_gv (gk gt10) hb) (evo_gv (gk gt14) hb) rfl) (sk st15) ?_
      refine ops_ok rfl (s_pick rfl (gk gt9) (gk gt15) rfl (pick_and (fun ht => gT ht))) (sk st16) ?_
      refine ops_nil ?_
      refine q_seq ?_
      refine r_condF (gk gt16) hF (fun hc16 hF => ?_) (fun hc16 hF => ?_)
      · skip
        refine r_seq ?_
        refine r_region ?_
        refine ops_ok rfl (s_assign rfl rfl (tyo_ok rfl)) st4 ?_
        refine ops_nil ?_
        refine q_seq ?_
        refine r_ret ?_
        refine q_block_ret ?_
        refine q_seq_ret ?_
        refine q_loop_ret ?_
        obtain rfl := Option.some.inj hF
        replace hF := hK1
        refine q_block_ret ?_
        refine q_seq_ret ?_
        obtain rfl := Option.some.inj hF
        refine q_retL1 rfl (rl_tmp gt4 rl_nil) (fin_ext (leV.refl _) rfl ?_)
        exact ⟨rfl, rfl⟩
      · skip
        refine r_skip ?_
        refine q_block ?_
        refine q_seq ?_
        refine r_region ?_
        refine ops_ok rfl (s_bin rfl (gk gt2) rfl rfl) (sk st17) ?_
        refine ops_ok rfl (s_move rfl (gk gt17) (tyo_ok rfl)) (sk st2) ?_
        refine ops_nil ?_
        refine q_loop ?_
        obtain rfl := Option.some.inj hF
        exact ⟨(), hl1, hK1, wk.le (by exact (.drop (.eq (.drop (.drop (.drop (.drop (.drop (.drop (.drop (.drop (.drop (.drop (.drop (.drop (.drop (.drop (.drop (.drop (.drop (.drop (.drop (.drop (.drop (.drop (.drop (.drop (.drop (.drop (.drop (.drop (.drop (.drop (.drop (.drop (.drop (.drop (.drop (.drop (.drop (.drop (.eq (.eq (.cons (leV.of_eq (w64e (by omega) (by omega))) (.drop (.drop (.drop (.drop (.drop (.drop (.drop (.drop (.drop (.drop (.drop (.drop (.drop (.drop (.drop leL.nil)))))))))))))))))))))))))))))))))))))))))))))))))))))))))))⟩
    · skip
      refine r_exit ?_
      refine q_seq_exit ?_
      refine q_loop_exit ?_
      refine q_block_hit ?_
      refine q_seq ?_
      refine r_seq ?_
      refine r_region ?_
      refine ops_ok rfl (s_assign rfl rfl (tyo_ok rfl)) st4 ?_
      refine ops_nil ?_
      refine q_seq ?_
      refine r_ret ?_
      obtain rfl := Option.some.inj hF
      refine q_retL1 rfl (rl_tmp gt4 rl_nil) (fin_ext (leV.refl _) rfl ?_)
      exact ⟨rfl, rfl⟩
/-! varve/varvelaw30.known -/
theorem ok34  {res : Bool} {h : AH}  (hF : law30Xknown  = some res) : Spec Try.prog 34 [] h (fun rr hh => rr = .bool res ∧ hh = h) := by
  unfold law30Xknown at hF
  refine spec_of_body_ext Try.func34 rfl (by kernel_rfl) (env := [aundef, aundef, aundef, aundef, aundef, aundef, aundef, aundef, aundef, aundef, aundef, aundef, aundef, aundef, aundef, aundef, aundef, aundef, aundef, aundef, aundef, aundef, aundef, aundef, aundef, aundef, aundef, aundef, aundef]) (by rfl) ?_
  refine r_seq ?_
  refine r_region ?_
  refine ops_ok rfl (s_assign rfl rfl (tyo_ok rfl)) st0 ?_
  refine ops_nil ?_
  refine q_seq ?_
  refine r_seq ?_
  refine r_region ?_
  refine ops_ok rfl (s_buildSlice (es := ([([97] : Str), ([98] : Str)] : List Str).map strRow) rfl el28 ze9 rfl rfl (parto_cons rfl (parto_cons rfl parto_nil)) (.cons (tyo_ok rfl) (.cons (tyo_ok rfl) .nil)) rfl rfl rfl) st2 ?_
  refine ops_ok rfl (s_assign rfl gt2 (tyo_ok rfl)) st1 ?_
  refine ops_nil ?_
  refine q_seq ?_
  refine r_seq ?_
  refine r_region ?_
  refine ops_ok rfl (s_buildSlice (es := ([([97] : Str), ([42] : Str)] : List Str).map strRow) rfl el28 ze9 rfl rfl (parto_cons rfl (parto_cons rfl parto_nil)) (.cons (tyo_ok rfl) (.cons (tyo_ok rfl) .nil)) rfl rfl rfl) st3 ?_
  refine ops_ok rfl (s_move rfl gt1 (tyo_ok rfl)) st4 ?_
  refine bindF hF (fun v1 hv1 hF => ?_)
  refine ops_callP rfl (s_call0 rfl rfl rfl (argo_cons gt3 (argo_cons gt4 argo_nil)) (.cons (tyo_ok rfl) (.cons (tyo_ok rfl) .nil))) ((ok38 hv1).le (.cons (leV.osl _ _ _) (.cons (leV.osl _ _ _) leL.nil))) st5 ?_
  refine ops_ok rfl (s_move rfl gt5 (tyo_ok rfl)) st6 ?_
  refine ops_gv rfl (fun hb => s_buildSlice (es := ([([97] : Str), ([42] : Str)] : List Str).map strRow) rfl el28 ze9 rfl rfl (parto_cons rfl (parto_cons rfl parto_nil)) (.cons (tyo_ok rfl) (.cons (tyo_ok rfl) .nil)) rfl rfl rfl) st7 ?_
  refine ops_gv rfl (fun hb => s_move rfl gt1 (tyo_ok rfl)) st8 ?_
  refine chkF hF (fun hg3 hF => ?_)
  refine ops_gv rfl (fun hb => s_slcSl rfl el28 (evo_gv gt8 hb) (.inr ⟨_, rfl, .inl rfl⟩) .none (.some rfl) (slc_of (hg3 hb))) st9 ?_
  refine gbindF hF (fun v4 hv4 hF => ?_)
  refine ops_gcall rfl (fun hb => s_call0 rfl rfl rfl (argo_cons (evo_gv gt7 hb) (argo_cons (evo_gv gt9 hb) argo_nil)) (.cons (tyo_ok rfl) (.cons (tyo_ok rfl) .nil))) (fun hb => (ok38 (hv4 hb)).le (.cons (leV.osl _ _ _) (.eq leL.nil))) st10 ?_
  refine ops_gv rfl (fun hb => s_un rfl (evo_gv gt10 hb) rfl) st11 ?_
  refine ops_ok rfl (s_pick rfl gt6 gt11 rfl (pick_and (fun ht => gT ht))) st12 ?_
  refine ops_ok rfl (s_move rfl gt12 (tyo_ok rfl)) st13 ?_
  refine ops_gv rfl (fun hb => s_buildSlice (es := ([([97] : Str), ([42, 42] : Str)] : List Str).map strRow) rfl el28 ze9 rfl rfl (parto_cons rfl (parto_cons rfl parto_nil)) (.cons (tyo_ok rfl) (.cons (tyo_ok rfl) .nil)) rfl rfl rfl) st14 ?_
  refine ops_gv rfl (fun hb => s_move rfl gt1 (tyo_ok rfl)) st15 ?_
  refine chkF hF (fun hg6 hF => ?_)
  refine ops_gv rfl (fun hb => s_slcSl rfl el28 (evo_gv gt15 hb) (.inr ⟨_, rfl, .inl rfl⟩) .none (.some rfl) (slc_of (hg6 hb))) st16 ?_
  refine gbindF hF (fun v7 hv7 hF => ?_)
  refine ops_gcall rfl (fun hb => s_call0 rfl rfl rfl (argo_cons (evo_gv gt14 hb) (argo_cons (evo_gv gt16 hb) argo_nil)) (.cons (tyo_ok rfl) (.cons (tyo_ok rfl) .nil))) (fun hb => (ok38 (hv7 hb)).le (.cons (leV.osl _ _ _) (.eq leL.nil))) st17 ?_
  refine ops_ok rfl (s_pick rfl gt13 gt17 rfl (pick_and (fun ht => gT ht))) st18 ?_
  refine ops_ok rfl (s_move rfl gt18 (tyo_ok rfl)) st19 ?_
  refine ops_gv rfl (fun hb => s_buildSlice (es := ([([42, 42] : Str)] : List Str).map strRow) rfl el28 ze9 rfl rfl (parto_cons rfl parto_nil) (.cons (tyo_ok rfl) .nil) rfl rfl rfl) st20 ?_
  refine ops_gv rfl (fun hb => s_move rfl gt1 (tyo_ok rfl)) st21 ?_
  refine gbindF hF (fun v8 hv8 hF => ?_)
  refine ops_gcall rfl (fun hb => s_call0 rfl rfl rfl (argo_cons (evo_gv gt20 hb) (argo_cons (evo_gv gt21 hb) argo_nil)) (.cons (tyo_ok rfl) (.cons (tyo_ok rfl) .nil))) (fun hb => (ok38 (hv8 hb)).le (.cons (leV.osl _ _ _) (.cons (leV.osl _ _ _) leL.nil))) st22 ?_
  refine ops_ok rfl (s_pick rfl gt19 gt22 rfl (pick_and (fun ht => gT ht))) st23 ?_
  refine ops_ok rfl (s_move rfl gt23 (tyo_ok rfl)) st24 ?_
  refine ops_gv rfl (fun hb => s_buildSlice (es := ([([97] : Str), ([42] : Str)] : List Str).map strRow) rfl el28 ze9 rfl rfl (parto_cons rfl (parto_cons rfl parto_nil)) (.cons (tyo_ok rfl) (.cons (tyo_ok rfl) .nil)) rfl rfl rfl) st25 ?_
  refine gbindF hF (fun v9 hv9 hF => ?_)
  refine ops_gcall rfl (fun hb => s_call0 rfl rfl rfl (argo_cons (evo_gv gt25 hb) argo_nil) (.cons (tyo_ok rfl) .nil)) (fun hb => (ok74 (hv9 hb)).le (.cons (leV.osl _ _ _) leL.nil)) st26 ?_
  refine ops_gv rfl (fun hb => s_bin rfl (evo_gv gt26 hb) rfl rfl) st27 ?_
  refine ops_ok rfl (s_pick rfl gt24 gt27 rfl (pick_and (fun ht => gT ht))) st28 ?_
  refine ops_ok rfl (s_assign rfl gt28 (tyo_ok rfl)) st0 ?_
  refine ops_nil ?_
  refine q_seq ?_
  refine r_ret ?_
  obtain rfl := Option.some.inj hF
  refine q_retL1 rfl (rl_tmp gt0 rl_nil) (fin_ext (leV.refl _) rfl ?_)
  exact ⟨rfl, rfl⟩
/-! varve/leaf.isTime -/
theorem ok136 {n0 : Int} {res : Bool} {h : AH}  (hF : leafXisTime n0 = some res) : Spec Try.prog 136 [.int .u64 n0] h (fun rr hh => rr = .bool res ∧ hh = h) := by
  unfold leafXisTime at hF
  refine spec_of_body_ext Try.func136 rfl (by kernel_rfl) (env := [.int .u64 n0, aundef, aundef, aundef, aundef, aundef, aundef, aundef, aundef]) (by rfl) ?_
  refine r_seq ?_
  refine r_region ?_
  refine ops_ok rfl (s_assign rfl rfl (tyo_ok rfl)) st2 ?_
  refine ops_nil ?_
  refine q_seq ?_
  refine r_seq ?_
  refine r_region ?_
  refine ops_ok rfl (s_move rfl gt0 (tyo_ok rfl)) st3 ?_
  refine ops_ok rfl (s_bin rfl gt3 rfl rfl) st4 ?_
  refine ops_ok rfl (s_move rfl gt4 (tyo_ok rfl)) st5 ?_
  refine ops_gv rfl (fun hb => s_move rfl gt0 (tyo_ok rfl)) st6 ?_
  refine ops_gv rfl (fun hb => s_bin rfl (evo_gv gt6 hb) rfl rfl) st7 ?_
  refine ops_ok rfl (s_pick rfl gt5 gt7 rfl (pick_and (fun ht => gT ht))) st8 ?_
  refine ops_ok rfl (s_assign rfl gt8 (tyo_ok rfl)) st2 ?_
  refine ops_nil ?_
  refine q_seq ?_
  refine r_ret ?_
  obtain rfl := Option.some.inj hF
  refine q_retL1 rfl (rl_tmp gt2 rl_nil) (fin_ext (leV.refl _) rfl ?_)
  exact ⟨rfl, rfl⟩
/-! varve/leaf.isText -/
theorem ok137 {s0 : Str} {res : Bool} {h : AH}  (hF : leafXisText s0 = some res) : Spec Try.prog 137 [.str s0] h (fun rr hh => rr = .bool res ∧ hh = h) := by
  unfold leafXisText at hF
  refine spec_of_body_ext Try.func137 rfl (by kernel_rfl) (env := [.str s0, aundef, aundef, aundef, aundef, aundef]) (by rfl) ?_
  refine r_seq ?_
  refine r_region ?_
  refine ops_ok rfl (s_assign rfl rfl (tyo_ok rfl)) st2 ?_
  refine ops_nil ?_
  refine q_seq ?_
  refine r_seq ?_
  refine r_region ?_
  refine ops_ok rfl (s_move rfl gt0 (tyo_ok rfl)) st3 ?_
  refine ops_len rfl (s_lenStr rfl rfl rfl rfl ty9 gt3) st4 fun hn1 => ?_
  replace hn1 := lenN hn1
  refine ops_ok rfl (s_bin rfl gt4 rfl rfl) st5 ?_
  refine ops_ok rfl (s_assign rfl gt5 (tyo_ok rfl)) st2 ?_
  refine ops_nil ?_
  refine q_seq ?_
  refine r_ret ?_
  obtain rfl := Option.some.inj hF
  refine q_retL1 rfl (rl_tmp gt2 rl_nil) (fin_ext (leV.refl _) rfl ?_)
  exact ⟨rfl, rfl⟩
/-! varve/dot.Compare -/
theorem ok116 {a0 : GDot} {b1 : GDot} {res : Int} {h : AH}  (hF : dotCompare a0 b1 = some res) : Spec Try.prog 116 [.agg [.int .u8 a0.actor.rep, .int .u32 a0.actor.inc, .int .u64 a0.seq], .agg [.int .u8 b1.actor.rep, .int .u32 b1.actor.inc, .int .u64 b1.seq]] h (fun rr hh => rr = .int .i64 res ∧ hh = h) := by
  unfold dotCompare at hF
  refine spec_of_body_ext Try.func116 rfl (by kernel_rfl) (env := [.agg [.int .u8 a0.actor.rep, .int .u32 a0.actor.inc, .int .u64 a0.seq], .agg [.int .u8 b1.actor.rep, .int .u32 b1.actor.inc, .int .u64 b1.seq], aundef, aundef, aundef, aundef, aundef, aundef, aundef, aundef, aundef, aundef, aundef, aundef, aundef, aundef, aundef]) (by rfl) ?_
  refine r_seq ?_
  refine r_region ?_
  refine ops_ok rfl (e_box (n := 0) rfl gt0 (tyo_ok rfl) rfl rfl) st2 ?_
  refine ops_ok rfl (e_box (n := 1) rfl gt1 (tyo_ok rfl) rfl rfl) st3 ?_
  refine ops_ok rfl (s_assign rfl rfl (tyo_ok rfl)) st4 ?_
  refine ops_nil ?_
  refine q_seq ?_
  refine r_seq ?_
  refine r_drawn [4, 9, 11] [] trivial mixed (by kernel_rfl) ?_
  refine draw_ok rfl rfl (s_fieldAddr rfl fo27x0 gt2 rfl) st5 ?_
  refine draw_ok rfl rfl (e_load rfl ty24.choose_spec.1 gt5 rfl (ldC_agX (cs' := [.int .u8 a0.actor.rep, .int .u32 a0.actor.inc]) ty24.choose_spec.2 rfl rfl) (tyo_ok rfl)) st6 ?_
  refine draw_ok rfl rfl (s_fieldAddr rfl fo27x0 gt3 rfl) st7 ?_
  refine draw_ok rfl rfl (e_load rfl ty24.choose_spec.1 gt7 rfl (ldC_agX (cs' := [.int .u8 b1.actor.rep, .int .u32 b1.actor.inc]) ty24.choose_spec.2 rfl rfl) (tyo_ok rfl)) st8 ?_
  refine bindF hF (fun v1 hv1 hF => ?_)
  refine draw_callN rfl rfl (fun _ => s_call0 rfl rfl rfl (argo_cons gt6 (argo_cons gt8 argo_nil)) (.cons (tyo_ok rfl) (.cons (tyo_ok rfl) .nil))) (by rintro _ ⟨B2, T2, rfl, hk2⟩; exact ok132 hv1) st9 ?_
  refine draw_ok rfl rfl (s_fieldAddr rfl fo27x1 gt2 rfl) st10 ?_
  refine draw_ok rfl rfl (e_load rfl ty25 gt10 rfl (ldC_one rfl) (tyo_ok rfl)) st11 ?_
  refine draw_ok rfl rfl (s_fieldAddr rfl fo27x1 gt3 rfl) st12 ?_
  refine draw_ok rfl rfl (e_load rfl ty25 gt12 rfl (ldC_one rfl) (tyo_ok rfl)) st13 ?_
  refine bindF hF (fun v2 hv2 hF => ?_)
  refine draw_callN rfl rfl (fun _ => s_call0 rfl rfl rfl (argo_cons gt11 (argo_cons gt13 argo_nil)) (.cons (tyo_ok rfl) (.cons (tyo_ok rfl) .nil))) (by rintro _ ⟨B2, T2, rfl, hk2⟩; exact ok133 hv2) st14 ?_
  refine draw_ok rfl rfl (s_buildSlice (es := ([v1, v2] : List Int).map (intRow .i64)) rfl el45 ze3 rfl rfl (parto_cons gt9 (parto_cons gt14 parto_nil)) (.cons (tyo_ok rfl) (.cons (tyo_ok rfl) .nil)) rfl rfl rfl) st15 ?_
  refine bindF hF (fun v3 hv3 hF => ?_)
  refine draw_callN rfl rfl (fun _ => s_call0 rfl rfl rfl (argo_cons gt15 argo_nil) (.cons (tyo_ok rfl) .nil)) (by rintro _ ⟨B2, T2, rfl, hk2⟩; exact (ok131 hv3).le (.cons (leV.osl _ _ _) leL.nil)) st16 ?_
  refine draw_ok rfl rfl (s_assign rfl gt16 (tyo_ok rfl)) st4 ?_
  refine draw_nil ?_
  refine q_seq ?_
  refine r_ret ?_
  obtain rfl := Option.some.inj hF
  refine q_retL1 rfl (rl_tmp gt4 rl_nil) (fin_ext (leV.refl _) rfl ?_)
  exact ⟨rfl, rfl⟩
/-! varve/leaf.compare -/
theorem ok157 {a0 : Int} {d1 : GDot} {b2 : Int} {o3 : GDot} {res : Int} {h : AH}  (hF : leafXcompare a0 d1 b2 o3 = some res) : Spec Try.prog 157 [.int .u64 a0, .agg [.int .u8 d1.actor.rep, .int .u32 d1.actor.inc, .int .u64 d1.seq], .int .u64 b2, .agg [.int .u8 o3.actor.rep, .int .u32 o3.actor.inc, .int .u64 o3.seq]] h (fun rr hh => rr = .int .i64 res ∧ hh = h) := by
  unfold leafXcompare at hF
  refine spec_of_body_ext Try.func157 rfl (by kernel_rfl) (env := [.int .u64 a0, .agg [.int .u8 d1.actor.rep, .int .u32 d1.actor.inc, .int .u64 d1.seq], .int .u64 b2, .agg [.int .u8 o3.actor.rep, .int .u32 o3.actor.inc, .int .u64 o3.seq], aundef, aundef, aundef, aundef, aundef, aundef, aundef, aundef, aundef, aundef, aundef, aundef, aundef]) (by rfl) ?_
  refine r_seq ?_
  refine r_region ?_
  refine ops_ok rfl (e_box (n := 0) rfl gt1 (tyo_ok rfl) rfl rfl) st5 ?_
  refine ops_ok rfl (e_box (n := 1) rfl gt3 (tyo_ok rfl) rfl rfl) st7 ?_
  refine ops_ok rfl (s_assign rfl rfl (tyo_ok rfl)) st8 ?_
  refine ops_nil ?_
  refine q_seq ?_
  refine r_seq ?_
  refine r_drawn [2, 5, 7] [] trivial mixed (by kernel_rfl) ?_
  refine draw_ok rfl rfl (s_move rfl gt0 (tyo_ok rfl)) st9 ?_
  refine draw_ok rfl rfl (s_move rfl gt2 (tyo_ok rfl)) st10 ?_
  refine bindF hF (fun v1 hv1 hF => ?_)
  refine draw_callN rfl rfl (fun _ => s_call0 rfl rfl rfl (argo_cons gt9 (argo_cons gt10 argo_nil)) (.cons (tyo_ok rfl) (.cons (tyo_ok rfl) .nil))) (by rintro _ ⟨B2, T2, rfl, hk2⟩; exact ok133 hv1) st11 ?_
  refine draw_ok rfl rfl (e_load rfl ty27.choose_spec.1 gt5 rfl (ldC_agX (cs' := [.int .u8 d1.actor.rep, .int .u32 d1.actor.inc, .int .u64 d1.seq]) ty27.choose_spec.2 rfl rfl) (tyo_ok rfl)) st12 ?_
  refine draw_ok rfl rfl (e_load rfl ty27.choose_spec.1 gt7 rfl (ldC_agX (cs' := [.int .u8 o3.actor.rep, .int .u32 o3.actor.inc, .int .u64 o3.seq]) ty27.choose_spec.2 rfl rfl) (tyo_ok rfl)) st13 ?_
  refine bindF hF (fun v2 hv2 hF => ?_)
  refine draw_callN rfl rfl (fun _ => s_call0 rfl rfl rfl (argo_cons gt12 (argo_cons gt13 argo_nil)) (.cons (tyo_ok rfl) (.cons (tyo_ok rfl) .nil))) (by rintro _ ⟨B2, T2, rfl, hk2⟩; exact ok116 hv2) st14 ?_
  refine draw_ok rfl rfl (s_buildSlice (es := ([v1, v2] : List Int).map (intRow .i64)) rfl el45 ze3 rfl rfl (parto_cons gt11 (parto_cons gt14 parto_nil)) (.cons (tyo_ok rfl) (.cons (tyo_ok rfl) .nil)) rfl rfl rfl) st15 ?_
  refine bindF hF (fun v3 hv3 hF => ?_)
  refine draw_callN rfl rfl (fun _ => s_call0 rfl rfl rfl (argo_cons gt15 argo_nil) (.cons (tyo_ok rfl) .nil)) (by rintro _ ⟨B2, T2, rfl, hk2⟩; exact (ok131 hv3).le (.cons (leV.osl _ _ _) leL.nil)) st16 ?_
  refine draw_ok rfl rfl (s_assign rfl gt16 (tyo_ok rfl)) st8 ?_
  refine draw_nil ?_
  refine q_seq ?_
  refine r_ret ?_
  obtain rfl := Option.some.inj hF
  refine q_retL1 rfl (rl_tmp gt8 rl_nil) (fin_ext (leV.refl _) rfl ?_)
  exact ⟨rfl, rfl⟩
/-! varve/leaf.Ahead -/
theorem ok149 {time0 : Int} {d1 : GDot} {other2 : Int} {o3 : GDot} {res : Bool} {h : AH}  (hF : leafAhead time0 d1 other2 o3 = some res) : Spec Try.prog 149 [.int .u64 time0, .agg [.int .u8 d1.actor.rep, .int .u32 d1.actor.inc, .int .u64 d1.seq], .int .u64 other2, .agg [.int .u8 o3.actor.rep, .int .u32 o3.actor.inc, .int .u64 o3.seq]] h (fun rr hh => rr = .bool res ∧ hh = h) := by
  unfold leafAhead at hF
  refine spec_of_body_ext Try.func149 rfl (by kernel_rfl) (env := [.int .u64 time0, .agg [.int .u8 d1.actor.rep, .int .u32 d1.actor.inc, .int .u64 d1.seq], .int .u64 other2, .agg [.int .u8 o3.actor.rep, .int .u32 o3.actor.inc, .int .u64 o3.seq], aundef, aundef, aundef, aundef, aundef, aundef, aundef, aundef, aundef, aundef, aundef]) (by rfl) ?_
  refine r_seq ?_
  refine r_region ?_
  refine ops_ok rfl (e_box (n := 0) rfl gt1 (tyo_ok rfl) rfl rfl) st5 ?_
  refine ops_ok rfl (e_box (n := 1) rfl gt3 (tyo_ok rfl) rfl rfl) st7 ?_
  refine ops_ok rfl (s_assign rfl rfl (tyo_ok rfl)) st8 ?_
  refine ops_nil ?_
  refine q_seq ?_
  refine r_seq ?_
  refine r_region ?_
  refine ops_ok rfl (s_move rfl gt0 (tyo_ok rfl)) st9 ?_
  refine ops_ok rfl (e_load rfl ty27.choose_spec.1 gt5 rfl (ldC_agX (cs' := [.int .u8 d1.actor.rep, .int .u32 d1.actor.inc, .int .u64 d1.seq]) ty27.choose_spec.2 rfl rfl) (tyo_ok rfl)) st10 ?_
  refine ops_ok rfl (s_move rfl gt2 (tyo_ok rfl)) st11 ?_
  refine ops_ok rfl (e_load rfl ty27.choose_spec.1 gt7 rfl (ldC_agX (cs' := [.int .u8 o3.actor.rep, .int .u32 o3.actor.inc, .int .u64 o3.seq]) ty27.choose_spec.2 rfl rfl) (tyo_ok rfl)) st12 ?_
  refine bindF hF (fun v1 hv1 hF => ?_)
  refine ops_callP rfl (s_call0 rfl rfl rfl (argo_cons gt9 (argo_cons gt10 (argo_cons gt11 (argo_cons gt12 argo_nil)))) (.cons (tyo_ok rfl) (.cons (tyo_ok rfl) (.cons (tyo_ok rfl) (.cons (tyo_ok rfl) .nil))))) (ok157 hv1) st13 ?_
  refine ops_ok rfl (s_bin rfl gt13 rfl rfl) st14 ?_
  refine ops_ok rfl (s_assign rfl gt14 (tyo_ok rfl)) st8 ?_
  refine ops_nil ?_
  refine q_seq ?_
  refine r_ret ?_
  obtain rfl := Option.some.inj hF
  refine q_retL1 rfl (rl_tmp gt8 rl_nil) (fin_ext (leV.refl _) rfl ?_)
  exact ⟨rfl, rfl⟩
/-! varve/leaf.twice -/
theorem ok150 {l0 : (List GItem)} {res : Bool} {h : AH}  (hF : leafXtwice l0 = some res) : Spec Try.prog 150 [.sl 5 (l0.map GItem.row)] h (fun rr hh => rr = .bool res ∧ hh = h) := by
  unfold leafXtwice at hF
  refine spec_of_body_ext Try.func150 rfl (by kernel_rfl) (env := [.sl 5 (l0.map GItem.row), aundef, aundef, aundef, aundef, aundef, aundef, aundef, aundef, aundef, aundef, aundef, aundef, aundef, aundef, aundef, aundef, aundef, aundef, aundef, aundef, aundef, aundef, aundef, aundef, aundef]) (by rfl) ?_
  refine r_seq ?_
  refine r_region ?_
  refine ops_ok rfl (s_assign rfl rfl (tyo_ok rfl)) st2 ?_
  refine ops_nil ?_
  refine q_seq ?_
  refine r_seq ?_
  refine r_region ?_
  refine ops_ok rfl (e_makeMap (n := 0) rfl rfl) st6 ?_
  refine ops_ok rfl (s_assign rfl gt6 (tyo_ok rfl)) st3 ?_
  refine ops_nil ?_
  refine q_seq ?_
  refine r_seq ?_
  refine r_seq ?_
  refine r_region ?_
  refine ops_ok rfl (s_move rfl gt0 (tyo_ok rfl)) st7 ?_
  refine ops_len rfl (s_lenSl rfl rfl rfl rfl el63 gt7 lenMap) st8 fun hn1 => ?_
  replace hn1 := lenN hn1
  refine ops_ok rfl (s_move rfl rfl (tyo_ok rfl)) st9 ?_
  refine ops_nil ?_
  refine q_seq ?_
  refine r_block ?_
  refine r_loopLF (fun (n1 : Nat) (s1 : List (GDot × Int)) => [(1, .any), (2, .any), (4, .any), (5, .any), (6, .any), (9, .int .i64 (n1 : Int)), (10, .any), (11, .any), (12, .any), (13, .any), (14, .any), (15, .any), (16, .any), (17, .any), (18, .any), (19, .any), (20, .any), (21, .any), (22, .any), (23, .any), (24, .any), (25, .any)]) (fun s1 => h.ext [.mapo (s1.map (mrow (fun x => AV.agg (GDot.row x)) (AV.int .i64))) 0] []) hF (fun _ _ => by simp only [upd, List.set_cons_succ, List.set_cons_zero]; try rfl) (wk.le (by exact (.eq (.drop (.drop (.eq (.drop (.drop (.drop (.eq (.eq (.cons (leV.of_eq rfl) (.drop (.drop (.drop (.drop (.drop (.drop (.drop (.drop (.drop (.drop (.drop (.drop (.drop (.drop (.drop (.drop leL.nil)))))))))))))))))))))))))))) ?_
  intro n1 s1 hi1 hF
  refine r_seq ?_
  refine r_region ?_
  refine ops_ok rfl (s_bin rfl gt9 gt8 rfl) st10 ?_
  refine ops_nil ?_
  refine q_seq ?_
  refine r_seq ?_
  refine r_condL gt10 hF (fun x1 o1 hl1 hx1 hF hK1 => ?_) (fun hF => ?_)
  · skip
    refine r_skip ?_
    refine q_seq ?_
    refine r_seq ?_
    refine r_block ?_
    refine r_seq ?_
    refine r_region ?_
    refine ops_ok rfl (s_idxRow rfl el63 gt7 gt9 isl (idx_of hx1)) st11 ?_
    refine ops_ok rfl (f_load rfl ty73.choose_spec.1 gt11 (ldC_agX (cs' := [.int .u64 x1.time, .int .u8 x1.dot.actor.rep, .int .u32 x1.dot.actor.inc, .int .u64 x1.dot.seq, .str x1.text]) ty73.choose_spec.2 rfl rfl) (tyo_ok rfl)) st12 ?_
    refine ops_ok rfl (e_alloc (n := 1) rfl ze73 rfl) st5 ?_
    refine ops_ok rfl (e_store (cs' := [.int .u64 x1.time, .int .u8 x1.dot.actor.rep, .int .u32 x1.dot.actor.inc, .int .u64 x1.dot.seq, .str x1.text]) rfl ty73.choose_spec.1 gt5 gt12 (tyo_ok rfl) rfl rfl rfl rfl rfl) rfl ?_
    refine ops_nil ?_
    refine q_seq ?_
    refine r_drawnF [3] (fun _ => MapE h 0 (s1.map (mrow (fun x => AV.agg (GDot.row x)) (AV.int .i64))) ((ment GDot.eqb (0 : Int) s1 x1.dot).map (mrow (fun x => AV.agg (GDot.row x)) (AV.int .i64)))) (fun _ => ⟨_, _, rfl, .inl rfl⟩) mixed (by kernel_rfl) ?_
    refine draw_ok rfl rfl (s_move rfl gt3 (tyo_ok rfl)) st13 ?_
    refine draw_ok rfl rfl (s_fieldAddr rfl fo73x1 gt5 rfl) st14 ?_
    refine draw_ok rfl rfl (e_load rfl ty27.choose_spec.1 gt14 rfl (ldC_agX (cs' := [.int .u8 x1.dot.actor.rep, .int .u32 x1.dot.actor.inc, .int .u64 x1.dot.seq]) ty27.choose_spec.2 rfl rfl) (tyo_ok rfl)) st15 ?_
    refine draw_okN rfl rfl (e_lookupF (m := s1) (k := x1.dot) (d := (0 : Int)) (j := 0) (kv := (fun x => AV.agg (GDot.row x))) (vv := (AV.int .i64)) rfl Try.underlying186 kq27 az3 gt13 gt15) st16 ?_
    refine draw_ok rfl rfl (s_bin rfl gt16 rfl rfl) st17 ?_
    refine draw_eff rfl (FOk.all ⟨_, _, rfl, .inr rfl⟩) (by kernel_rfl) rfl (e_entry (m := s1) (k := x1.dot) (d := (0 : Int)) (j := 0) (kv := (fun x => AV.agg (GDot.row x))) (vv := (AV.int .i64)) rfl Try.underlying186 kq27 az3 gt13 rfl gt15 rfl) st18 ?_
    refine draw_ok rfl rfl (s_extract rfl gt18 rfl (tyo_ok rfl)) st19 ?_
    refine draw_eff rfl (FOk.skip (by kernel_rfl)) (by kernel_rfl) rfl (e_entryStore (m := s1) (k := x1.dot) (d := (0 : Int)) (v := (IntKind.wrap .i64 ((mgetD GDot.eqb (0 : Int) s1 x1.dot) + (1 : Int)))) (j := 0) (eq := GDot.eqb) (kv := (fun x => AV.agg (GDot.row x))) (vv := (AV.int .i64)) rfl gt13 rfl gt19 rfl gt17 rfl) rfl ?_
    refine draw_nil ?_
    refine q_block ?_
    refine q_seq ?_
    refine r_region ?_
    refine ops_ok rfl (s_bin rfl gt9 rfl rfl) st20 ?_
    refine ops_ok rfl (s_move rfl gt20 (tyo_ok rfl)) st9 ?_
    refine ops_nil ?_
    refine q_loop ?_
    obtain rfl := Option.some.inj hF
    exact ⟨(mput GDot.eqb s1 x1.dot (IntKind.wrap .i64 ((mgetD GDot.eqb (0 : Int) s1 x1.dot) + (1 : Int)))), hl1, hK1, wk.trans (wk.le (by exact (.eq (.drop (.drop (.eq (.drop (.drop (.drop (.eq (.eq (.cons (leV.of_eq (w64e (by omega) (by omega))) (.drop (.drop (.drop (.drop (.drop (.drop (.drop (.drop (.drop (.drop (.drop (.drop (.drop (.drop (.drop (.drop leL.nil)))))))))))))))))))))))))))) (wk_ext3 (by simp [lowL, AV.low]) rfl rfl (by simp [Blk.low, lowL, AV.low, GDot.row, mrow]))⟩
  · skip
    refine r_exit ?_
    refine q_seq_exit ?_
    refine q_loop_exit ?_
    refine q_block_hit ?_
    refine q_seq ?_
    refine r_seq ?_
    refine r_region ?_
    refine ops_ok rfl (s_move rfl gt3 (tyo_ok rfl)) st21 ?_
    refine ops_mlen (m := s1) (j := 0) (kv := (fun x => AV.agg (GDot.row x))) (vv := (AV.int .i64)) rfl rfl rfl rfl rfl Try.underlying186 gt21 rfl st22 ?_
    refine ops_ok rfl (s_move rfl gt0 (tyo_ok rfl)) st23 ?_
    refine ops_len rfl (s_lenSl rfl rfl rfl rfl el63 gt23 lenMap) st24 fun hn7 => ?_
    replace hn7 := lenN hn7
    refine ops_ok rfl (s_bin rfl gt22 gt24 rfl) st25 ?_
    refine ops_ok rfl (s_assign rfl gt25 (tyo_ok rfl)) st2 ?_
    refine ops_nil ?_
    refine q_seq ?_
    refine r_ret ?_
    obtain rfl := Option.some.inj hF
    refine q_retL1 rfl (rl_tmp gt2 rl_nil) (fin_ext (leV.refl _) rfl ?_)
    exact ⟨rfl, rfl⟩
/-! varve/dot.MayActor -/
theorem ok99 {a0 : GActor} {res : Bool} {h : AH}  (hF : dotMayActor a0 = some res) : Spec Try.prog 99 [.agg [.int .u8 a0.rep, .int .u32 a0.inc]] h (fun rr hh => rr = .bool res ∧ hh = h) := by
  unfold dotMayActor at hF
  refine spec_of_body_ext Try.func99 rfl (by kernel_rfl) (env := [.agg [.int .u8 a0.rep, .int .u32 a0.inc], aundef, aundef, aundef, aundef, aundef, aundef, aundef, aundef, aundef, aundef, aundef, aundef, aundef, aundef, aundef]) (by rfl) ?_
  refine r_seq ?_
  refine r_region ?_
  refine ops_ok rfl (e_box (n := 0) rfl gt0 (tyo_ok rfl) rfl rfl) st1 ?_
  refine ops_ok rfl (s_assign rfl rfl (tyo_ok rfl)) st2 ?_
  refine ops_nil ?_
  refine q_seq ?_
  refine r_seq ?_
  refine r_region ?_
  refine ops_ok rfl (s_fieldAddr rfl fo24x0 gt1 rfl) st3 ?_
  refine ops_ok rfl (e_load rfl ty5 gt3 rfl (ldC_one rfl) (tyo_ok rfl)) st4 ?_
  refine ops_ok rfl (s_bin rfl gt4 rfl rfl) st5 ?_
  refine ops_ok rfl (s_move rfl gt5 (tyo_ok rfl)) st6 ?_
  refine ops_gv rfl (fun hb => s_fieldAddr rfl fo24x1 gt1 rfl) st7 ?_
  refine ops_gv rfl (fun hb => e_load rfl ty22 (evo_gv gt7 hb) rfl (ldC_one rfl) (tyo_ok rfl)) st8 ?_
  refine ops_gv rfl (fun hb => s_bin rfl (evo_gv gt8 hb) rfl rfl) st9 ?_
  refine ops_ok rfl (s_pick rfl gt6 gt9 rfl (pick_and (fun ht => gT ht))) st10 ?_
  refine ops_ok rfl (s_move rfl gt10 (tyo_ok rfl)) st11 ?_
  refine ops_gv rfl (fun hb => s_fieldAddr rfl fo24x1 gt1 rfl) st12 ?_
  refine ops_gv rfl (fun hb => e_load rfl ty22 (evo_gv gt12 hb) rfl (ldC_one rfl) (tyo_ok rfl)) st13 ?_
  refine ops_gv rfl (fun hb => s_bin rfl (evo_gv gt13 hb) rfl rfl) st14 ?_
  refine ops_ok rfl (s_pick rfl gt11 gt14 rfl (pick_and (fun ht => gT ht))) st15 ?_
  refine ops_ok rfl (s_assign rfl gt15 (tyo_ok rfl)) st2 ?_
  refine ops_nil ?_
  refine q_seq ?_
  refine r_ret ?_
  obtain rfl := Option.some.inj hF
  refine q_retL1 rfl (rl_tmp gt2 rl_nil) (fin_ext (leV.refl _) rfl ?_)
  exact ⟨rfl, rfl⟩
/-! varve/dot.May -/
theorem ok57 {d0 : GDot} {res : Bool} {h : AH}  (hF : dotMay d0 = some res) : Spec Try.prog 57 [.agg [.int .u8 d0.actor.rep, .int .u32 d0.actor.inc, .int .u64 d0.seq]] h (fun rr hh => rr = .bool res ∧ hh = h) := by
  unfold dotMay at hF
  refine spec_of_body_ext Try.func57 rfl (by kernel_rfl) (env := [.agg [.int .u8 d0.actor.rep, .int .u32 d0.actor.inc, .int .u64 d0.seq], aundef, aundef, aundef, aundef, aundef, aundef, aundef, aundef, aundef, aundef, aundef, aundef, aundef, aundef, aundef]) (by rfl) ?_
  refine r_seq ?_
  refine r_region ?_
  refine ops_ok rfl (e_box (n := 0) rfl gt0 (tyo_ok rfl) rfl rfl) st1 ?_
  refine ops_ok rfl (s_assign rfl rfl (tyo_ok rfl)) st2 ?_
  refine ops_nil ?_
  refine q_seq ?_
  refine r_seq ?_
  refine r_region ?_
  refine ops_ok rfl (s_fieldAddr rfl fo27x0 gt1 rfl) st3 ?_
  refine ops_ok rfl (e_load rfl ty24.choose_spec.1 gt3 rfl (ldC_agX (cs' := [.int .u8 d0.actor.rep, .int .u32 d0.actor.inc]) ty24.choose_spec.2 rfl rfl) (tyo_ok rfl)) st4 ?_
  refine bindF hF (fun v1 hv1 hF => ?_)
  refine ops_callP rfl (s_call0 rfl rfl rfl (argo_cons gt4 argo_nil) (.cons (tyo_ok rfl) .nil)) (ok99 hv1) st5 ?_
  refine ops_ok rfl (s_move rfl gt5 (tyo_ok rfl)) st6 ?_
  refine ops_gv rfl (fun hb => s_fieldAddr rfl fo27x1 gt1 rfl) st7 ?_
  refine ops_gv rfl (fun hb => e_load rfl ty25 (evo_gv gt7 hb) rfl (ldC_one rfl) (tyo_ok rfl)) st8 ?_
  refine ops_gv rfl (fun hb => s_bin rfl (evo_gv gt8 hb) rfl rfl) st9 ?_
  refine ops_ok rfl (s_pick rfl gt6 gt9 rfl (pick_and (fun ht => gT ht))) st10 ?_
  refine ops_ok rfl (s_move rfl gt10 (tyo_ok rfl)) st11 ?_
  refine ops_gv rfl (fun hb => s_fieldAddr rfl fo27x1 gt1 rfl) st12 ?_
  refine ops_gv rfl (fun hb => e_load rfl ty25 (evo_gv gt12 hb) rfl (ldC_one rfl) (tyo_ok rfl)) st13 ?_
  refine ops_gv rfl (fun hb => s_bin rfl (evo_gv gt13 hb) rfl rfl) st14 ?_
  refine ops_ok rfl (s_pick rfl gt11 gt14 rfl (pick_and (fun ht => gT ht))) st15 ?_
  refine ops_ok rfl (s_assign rfl gt15 (tyo_ok rfl)) st2 ?_
  refine ops_nil ?_
  refine q_seq ?_
  refine r_ret ?_
  obtain rfl := Option.some.inj hF
  refine q_retL1 rfl (rl_tmp gt2 rl_nil) (fin_ext (leV.refl _) rfl ?_)
  exact ⟨rfl, rfl⟩
end Go.Vv
