/- Each function that the law reaches computes what its reading says; printed by a program. -/
import Derived.Test.YtfnfkkdaaiggaaaGreatVxT
import Derived.Test.YtfnfkkdaaiggaaaGreatVvZ
import Derived.Test.YtfnfkkdaaiggaaaGreatVvLb
import Derived.Test.YtfnfkkdaaiggaaaGreatVvMr
import Derived.Test.YtfnfkkdaaiggaaaGreatVvIt
import Derived.Test.YtfnfkkdaaiggaaaGreatVvRd
import Derived.Test.YtfnfkkdaaiggaaaGreatD
import Derived.Test.YtfnfkkdaaiggaaaGreatProg
namespace Go.Vv
open Go Go.Proofs
set_option maxRecDepth 100000
set_option maxHeartbeats 1000000
set_option linter.unusedSimpArgs false
set_option linter.unusedVariables false
section
variable {v a0 a1 a2 a3 a4 a5 a6 a7 a8 a9 a10 a11 a12 a13 a14 a15 a16 a17 a18 a19 a20 a21 a22 a23 a24 a25 a26 a27 a28 a29 a30 a31 a32 a33 a34 a35 a36 a37 a38 a39 : AV} {r q : List AV} {t : Nat}
theorem gt0 : evo (a0::r) (.tmp 0) = some a0 := rfl
theorem st0 : dso (some 0) (a0::r) v = some (v::r) := rfl
theorem gt1 : evo (a0::a1::r) (.tmp 1) = some a1 := rfl
theorem st1 : dso (some 1) (a0::a1::r) v = some (a0::v::r) := rfl
theorem gt2 : evo (a0::a1::a2::r) (.tmp 2) = some a2 := rfl
theorem st2 : dso (some 2) (a0::a1::a2::r) v = some (a0::a1::v::r) := rfl
theorem gt3 : evo (a0::a1::a2::a3::r) (.tmp 3) = some a3 := rfl
theorem st3 : dso (some 3) (a0::a1::a2::a3::r) v = some (a0::a1::a2::v::r) := rfl
theorem gt4 : evo (a0::a1::a2::a3::a4::r) (.tmp 4) = some a4 := rfl
theorem st4 : dso (some 4) (a0::a1::a2::a3::a4::r) v = some (a0::a1::a2::a3::v::r) := rfl
theorem gt5 : evo (a0::a1::a2::a3::a4::a5::r) (.tmp 5) = some a5 := rfl
theorem st5 : dso (some 5) (a0::a1::a2::a3::a4::a5::r) v = some (a0::a1::a2::a3::a4::v::r) := rfl
theorem gt6 : evo (a0::a1::a2::a3::a4::a5::a6::r) (.tmp 6) = some a6 := rfl
theorem st6 : dso (some 6) (a0::a1::a2::a3::a4::a5::a6::r) v = some (a0::a1::a2::a3::a4::a5::v::r) := rfl
theorem gt7 : evo (a0::a1::a2::a3::a4::a5::a6::a7::r) (.tmp 7) = some a7 := rfl
theorem st7 : dso (some 7) (a0::a1::a2::a3::a4::a5::a6::a7::r) v = some (a0::a1::a2::a3::a4::a5::a6::v::r) := rfl
theorem gt8 : evo (a0::a1::a2::a3::a4::a5::a6::a7::a8::r) (.tmp 8) = some a8 := rfl
theorem st8 : dso (some 8) (a0::a1::a2::a3::a4::a5::a6::a7::a8::r) v = some (a0::a1::a2::a3::a4::a5::a6::a7::v::r) := rfl
theorem gt9 : evo (a0::a1::a2::a3::a4::a5::a6::a7::a8::a9::r) (.tmp 9) = some a9 := rfl
theorem st9 : dso (some 9) (a0::a1::a2::a3::a4::a5::a6::a7::a8::a9::r) v = some (a0::a1::a2::a3::a4::a5::a6::a7::a8::v::r) := rfl
theorem gt10 : evo (a0::a1::a2::a3::a4::a5::a6::a7::a8::a9::a10::r) (.tmp 10) = some a10 := rfl
theorem st10 : dso (some 10) (a0::a1::a2::a3::a4::a5::a6::a7::a8::a9::a10::r) v = some (a0::a1::a2::a3::a4::a5::a6::a7::a8::a9::v::r) := rfl
theorem gt11 : evo (a0::a1::a2::a3::a4::a5::a6::a7::a8::a9::a10::a11::r) (.tmp 11) = some a11 := rfl
theorem st11 : dso (some 11) (a0::a1::a2::a3::a4::a5::a6::a7::a8::a9::a10::a11::r) v = some (a0::a1::a2::a3::a4::a5::a6::a7::a8::a9::a10::v::r) := rfl
theorem gt12 : evo (a0::a1::a2::a3::a4::a5::a6::a7::a8::a9::a10::a11::a12::r) (.tmp 12) = some a12 := rfl
theorem st12 : dso (some 12) (a0::a1::a2::a3::a4::a5::a6::a7::a8::a9::a10::a11::a12::r) v = some (a0::a1::a2::a3::a4::a5::a6::a7::a8::a9::a10::a11::v::r) := rfl
theorem gt13 : evo (a0::a1::a2::a3::a4::a5::a6::a7::a8::a9::a10::a11::a12::a13::r) (.tmp 13) = some a13 := rfl
theorem st13 : dso (some 13) (a0::a1::a2::a3::a4::a5::a6::a7::a8::a9::a10::a11::a12::a13::r) v = some (a0::a1::a2::a3::a4::a5::a6::a7::a8::a9::a10::a11::a12::v::r) := rfl
theorem gt14 : evo (a0::a1::a2::a3::a4::a5::a6::a7::a8::a9::a10::a11::a12::a13::a14::r) (.tmp 14) = some a14 := rfl
theorem st14 : dso (some 14) (a0::a1::a2::a3::a4::a5::a6::a7::a8::a9::a10::a11::a12::a13::a14::r) v = some (a0::a1::a2::a3::a4::a5::a6::a7::a8::a9::a10::a11::a12::a13::v::r) := rfl
theorem gt15 : evo (a0::a1::a2::a3::a4::a5::a6::a7::a8::a9::a10::a11::a12::a13::a14::a15::r) (.tmp 15) = some a15 := rfl
theorem st15 : dso (some 15) (a0::a1::a2::a3::a4::a5::a6::a7::a8::a9::a10::a11::a12::a13::a14::a15::r) v = some (a0::a1::a2::a3::a4::a5::a6::a7::a8::a9::a10::a11::a12::a13::a14::v::r) := rfl
theorem gt16 : evo (a0::a1::a2::a3::a4::a5::a6::a7::a8::a9::a10::a11::a12::a13::a14::a15::a16::r) (.tmp 16) = some a16 := rfl
theorem st16 : dso (some 16) (a0::a1::a2::a3::a4::a5::a6::a7::a8::a9::a10::a11::a12::a13::a14::a15::a16::r) v = some (a0::a1::a2::a3::a4::a5::a6::a7::a8::a9::a10::a11::a12::a13::a14::a15::v::r) := rfl
theorem gt17 : evo (a0::a1::a2::a3::a4::a5::a6::a7::a8::a9::a10::a11::a12::a13::a14::a15::a16::a17::r) (.tmp 17) = some a17 := rfl
theorem st17 : dso (some 17) (a0::a1::a2::a3::a4::a5::a6::a7::a8::a9::a10::a11::a12::a13::a14::a15::a16::a17::r) v = some (a0::a1::a2::a3::a4::a5::a6::a7::a8::a9::a10::a11::a12::a13::a14::a15::a16::v::r) := rfl
theorem gt18 : evo (a0::a1::a2::a3::a4::a5::a6::a7::a8::a9::a10::a11::a12::a13::a14::a15::a16::a17::a18::r) (.tmp 18) = some a18 := rfl
theorem st18 : dso (some 18) (a0::a1::a2::a3::a4::a5::a6::a7::a8::a9::a10::a11::a12::a13::a14::a15::a16::a17::a18::r) v = some (a0::a1::a2::a3::a4::a5::a6::a7::a8::a9::a10::a11::a12::a13::a14::a15::a16::a17::v::r) := rfl
theorem gt19 : evo (a0::a1::a2::a3::a4::a5::a6::a7::a8::a9::a10::a11::a12::a13::a14::a15::a16::a17::a18::a19::r) (.tmp 19) = some a19 := rfl
theorem st19 : dso (some 19) (a0::a1::a2::a3::a4::a5::a6::a7::a8::a9::a10::a11::a12::a13::a14::a15::a16::a17::a18::a19::r) v = some (a0::a1::a2::a3::a4::a5::a6::a7::a8::a9::a10::a11::a12::a13::a14::a15::a16::a17::a18::v::r) := rfl
theorem gt20 : evo (a0::a1::a2::a3::a4::a5::a6::a7::a8::a9::a10::a11::a12::a13::a14::a15::a16::a17::a18::a19::a20::r) (.tmp 20) = some a20 := rfl
theorem st20 : dso (some 20) (a0::a1::a2::a3::a4::a5::a6::a7::a8::a9::a10::a11::a12::a13::a14::a15::a16::a17::a18::a19::a20::r) v = some (a0::a1::a2::a3::a4::a5::a6::a7::a8::a9::a10::a11::a12::a13::a14::a15::a16::a17::a18::a19::v::r) := rfl
theorem gt21 : evo (a0::a1::a2::a3::a4::a5::a6::a7::a8::a9::a10::a11::a12::a13::a14::a15::a16::a17::a18::a19::a20::a21::r) (.tmp 21) = some a21 := rfl
theorem st21 : dso (some 21) (a0::a1::a2::a3::a4::a5::a6::a7::a8::a9::a10::a11::a12::a13::a14::a15::a16::a17::a18::a19::a20::a21::r) v = some (a0::a1::a2::a3::a4::a5::a6::a7::a8::a9::a10::a11::a12::a13::a14::a15::a16::a17::a18::a19::a20::v::r) := rfl
theorem gt22 : evo (a0::a1::a2::a3::a4::a5::a6::a7::a8::a9::a10::a11::a12::a13::a14::a15::a16::a17::a18::a19::a20::a21::a22::r) (.tmp 22) = some a22 := rfl
theorem st22 : dso (some 22) (a0::a1::a2::a3::a4::a5::a6::a7::a8::a9::a10::a11::a12::a13::a14::a15::a16::a17::a18::a19::a20::a21::a22::r) v = some (a0::a1::a2::a3::a4::a5::a6::a7::a8::a9::a10::a11::a12::a13::a14::a15::a16::a17::a18::a19::a20::a21::v::r) := rfl
theorem gt23 : evo (a0::a1::a2::a3::a4::a5::a6::a7::a8::a9::a10::a11::a12::a13::a14::a15::a16::a17::a18::a19::a20::a21::a22::a23::r) (.tmp 23) = some a23 := rfl
theorem st23 : dso (some 23) (a0::a1::a2::a3::a4::a5::a6::a7::a8::a9::a10::a11::a12::a13::a14::a15::a16::a17::a18::a19::a20::a21::a22::a23::r) v = some (a0::a1::a2::a3::a4::a5::a6::a7::a8::a9::a10::a11::a12::a13::a14::a15::a16::a17::a18::a19::a20::a21::a22::v::r) := rfl
theorem gt24 : evo (a0::a1::a2::a3::a4::a5::a6::a7::a8::a9::a10::a11::a12::a13::a14::a15::a16::a17::a18::a19::a20::a21::a22::a23::a24::r) (.tmp 24) = some a24 := rfl
theorem st24 : dso (some 24) (a0::a1::a2::a3::a4::a5::a6::a7::a8::a9::a10::a11::a12::a13::a14::a15::a16::a17::a18::a19::a20::a21::a22::a23::a24::r) v = some (a0::a1::a2::a3::a4::a5::a6::a7::a8::a9::a10::a11::a12::a13::a14::a15::a16::a17::a18::a19::a20::a21::a22::a23::v::r) := rfl
theorem gt25 : evo (a0::a1::a2::a3::a4::a5::a6::a7::a8::a9::a10::a11::a12::a13::a14::a15::a16::a17::a18::a19::a20::a21::a22::a23::a24::a25::r) (.tmp 25) = some a25 := rfl
theorem st25 : dso (some 25) (a0::a1::a2::a3::a4::a5::a6::a7::a8::a9::a10::a11::a12::a13::a14::a15::a16::a17::a18::a19::a20::a21::a22::a23::a24::a25::r) v = some (a0::a1::a2::a3::a4::a5::a6::a7::a8::a9::a10::a11::a12::a13::a14::a15::a16::a17::a18::a19::a20::a21::a22::a23::a24::v::r) := rfl
theorem gt26 : evo (a0::a1::a2::a3::a4::a5::a6::a7::a8::a9::a10::a11::a12::a13::a14::a15::a16::a17::a18::a19::a20::a21::a22::a23::a24::a25::a26::r) (.tmp 26) = some a26 := rfl
theorem st26 : dso (some 26) (a0::a1::a2::a3::a4::a5::a6::a7::a8::a9::a10::a11::a12::a13::a14::a15::a16::a17::a18::a19::a20::a21::a22::a23::a24::a25::a26::r) v = some (a0::a1::a2::a3::a4::a5::a6::a7::a8::a9::a10::a11::a12::a13::a14::a15::a16::a17::a18::a19::a20::a21::a22::a23::a24::a25::v::r) := rfl
theorem gt27 : evo (a0::a1::a2::a3::a4::a5::a6::a7::a8::a9::a10::a11::a12::a13::a14::a15::a16::a17::a18::a19::a20::a21::a22::a23::a24::a25::a26::a27::r) (.tmp 27) = some a27 := rfl
theorem st27 : dso (some 27) (a0::a1::a2::a3::a4::a5::a6::a7::a8::a9::a10::a11::a12::a13::a14::a15::a16::a17::a18::a19::a20::a21::a22::a23::a24::a25::a26::a27::r) v = some (a0::a1::a2::a3::a4::a5::a6::a7::a8::a9::a10::a11::a12::a13::a14::a15::a16::a17::a18::a19::a20::a21::a22::a23::a24::a25::a26::v::r) := rfl
theorem gt28 : evo (a0::a1::a2::a3::a4::a5::a6::a7::a8::a9::a10::a11::a12::a13::a14::a15::a16::a17::a18::a19::a20::a21::a22::a23::a24::a25::a26::a27::a28::r) (.tmp 28) = some a28 := rfl
theorem st28 : dso (some 28) (a0::a1::a2::a3::a4::a5::a6::a7::a8::a9::a10::a11::a12::a13::a14::a15::a16::a17::a18::a19::a20::a21::a22::a23::a24::a25::a26::a27::a28::r) v = some (a0::a1::a2::a3::a4::a5::a6::a7::a8::a9::a10::a11::a12::a13::a14::a15::a16::a17::a18::a19::a20::a21::a22::a23::a24::a25::a26::a27::v::r) := rfl
theorem gt29 : evo (a0::a1::a2::a3::a4::a5::a6::a7::a8::a9::a10::a11::a12::a13::a14::a15::a16::a17::a18::a19::a20::a21::a22::a23::a24::a25::a26::a27::a28::a29::r) (.tmp 29) = some a29 := rfl
theorem st29 : dso (some 29) (a0::a1::a2::a3::a4::a5::a6::a7::a8::a9::a10::a11::a12::a13::a14::a15::a16::a17::a18::a19::a20::a21::a22::a23::a24::a25::a26::a27::a28::a29::r) v = some (a0::a1::a2::a3::a4::a5::a6::a7::a8::a9::a10::a11::a12::a13::a14::a15::a16::a17::a18::a19::a20::a21::a22::a23::a24::a25::a26::a27::a28::v::r) := rfl
theorem gt30 : evo (a0::a1::a2::a3::a4::a5::a6::a7::a8::a9::a10::a11::a12::a13::a14::a15::a16::a17::a18::a19::a20::a21::a22::a23::a24::a25::a26::a27::a28::a29::a30::r) (.tmp 30) = some a30 := rfl
theorem st30 : dso (some 30) (a0::a1::a2::a3::a4::a5::a6::a7::a8::a9::a10::a11::a12::a13::a14::a15::a16::a17::a18::a19::a20::a21::a22::a23::a24::a25::a26::a27::a28::a29::a30::r) v = some (a0::a1::a2::a3::a4::a5::a6::a7::a8::a9::a10::a11::a12::a13::a14::a15::a16::a17::a18::a19::a20::a21::a22::a23::a24::a25::a26::a27::a28::a29::v::r) := rfl
theorem gt31 : evo (a0::a1::a2::a3::a4::a5::a6::a7::a8::a9::a10::a11::a12::a13::a14::a15::a16::a17::a18::a19::a20::a21::a22::a23::a24::a25::a26::a27::a28::a29::a30::a31::r) (.tmp 31) = some a31 := rfl
theorem st31 : dso (some 31) (a0::a1::a2::a3::a4::a5::a6::a7::a8::a9::a10::a11::a12::a13::a14::a15::a16::a17::a18::a19::a20::a21::a22::a23::a24::a25::a26::a27::a28::a29::a30::a31::r) v = some (a0::a1::a2::a3::a4::a5::a6::a7::a8::a9::a10::a11::a12::a13::a14::a15::a16::a17::a18::a19::a20::a21::a22::a23::a24::a25::a26::a27::a28::a29::a30::v::r) := rfl
theorem gt32 : evo (a0::a1::a2::a3::a4::a5::a6::a7::a8::a9::a10::a11::a12::a13::a14::a15::a16::a17::a18::a19::a20::a21::a22::a23::a24::a25::a26::a27::a28::a29::a30::a31::a32::r) (.tmp 32) = some a32 := rfl
theorem st32 : dso (some 32) (a0::a1::a2::a3::a4::a5::a6::a7::a8::a9::a10::a11::a12::a13::a14::a15::a16::a17::a18::a19::a20::a21::a22::a23::a24::a25::a26::a27::a28::a29::a30::a31::a32::r) v = some (a0::a1::a2::a3::a4::a5::a6::a7::a8::a9::a10::a11::a12::a13::a14::a15::a16::a17::a18::a19::a20::a21::a22::a23::a24::a25::a26::a27::a28::a29::a30::a31::v::r) := rfl
theorem gt33 : evo (a0::a1::a2::a3::a4::a5::a6::a7::a8::a9::a10::a11::a12::a13::a14::a15::a16::a17::a18::a19::a20::a21::a22::a23::a24::a25::a26::a27::a28::a29::a30::a31::a32::a33::r) (.tmp 33) = some a33 := rfl
theorem st33 : dso (some 33) (a0::a1::a2::a3::a4::a5::a6::a7::a8::a9::a10::a11::a12::a13::a14::a15::a16::a17::a18::a19::a20::a21::a22::a23::a24::a25::a26::a27::a28::a29::a30::a31::a32::a33::r) v = some (a0::a1::a2::a3::a4::a5::a6::a7::a8::a9::a10::a11::a12::a13::a14::a15::a16::a17::a18::a19::a20::a21::a22::a23::a24::a25::a26::a27::a28::a29::a30::a31::a32::v::r) := rfl
theorem gt34 : evo (a0::a1::a2::a3::a4::a5::a6::a7::a8::a9::a10::a11::a12::a13::a14::a15::a16::a17::a18::a19::a20::a21::a22::a23::a24::a25::a26::a27::a28::a29::a30::a31::a32::a33::a34::r) (.tmp 34) = some a34 := rfl
theorem st34 : dso (some 34) (a0::a1::a2::a3::a4::a5::a6::a7::a8::a9::a10::a11::a12::a13::a14::a15::a16::a17::a18::a19::a20::a21::a22::a23::a24::a25::a26::a27::a28::a29::a30::a31::a32::a33::a34::r) v = some (a0::a1::a2::a3::a4::a5::a6::a7::a8::a9::a10::a11::a12::a13::a14::a15::a16::a17::a18::a19::a20::a21::a22::a23::a24::a25::a26::a27::a28::a29::a30::a31::a32::a33::v::r) := rfl
theorem gt35 : evo (a0::a1::a2::a3::a4::a5::a6::a7::a8::a9::a10::a11::a12::a13::a14::a15::a16::a17::a18::a19::a20::a21::a22::a23::a24::a25::a26::a27::a28::a29::a30::a31::a32::a33::a34::a35::r) (.tmp 35) = some a35 := rfl
theorem st35 : dso (some 35) (a0::a1::a2::a3::a4::a5::a6::a7::a8::a9::a10::a11::a12::a13::a14::a15::a16::a17::a18::a19::a20::a21::a22::a23::a24::a25::a26::a27::a28::a29::a30::a31::a32::a33::a34::a35::r) v = some (a0::a1::a2::a3::a4::a5::a6::a7::a8::a9::a10::a11::a12::a13::a14::a15::a16::a17::a18::a19::a20::a21::a22::a23::a24::a25::a26::a27::a28::a29::a30::a31::a32::a33::a34::v::r) := rfl
theorem gt36 : evo (a0::a1::a2::a3::a4::a5::a6::a7::a8::a9::a10::a11::a12::a13::a14::a15::a16::a17::a18::a19::a20::a21::a22::a23::a24::a25::a26::a27::a28::a29::a30::a31::a32::a33::a34::a35::a36::r) (.tmp 36) = some a36 := rfl
theorem st36 : dso (some 36) (a0::a1::a2::a3::a4::a5::a6::a7::a8::a9::a10::a11::a12::a13::a14::a15::a16::a17::a18::a19::a20::a21::a22::a23::a24::a25::a26::a27::a28::a29::a30::a31::a32::a33::a34::a35::a36::r) v = some (a0::a1::a2::a3::a4::a5::a6::a7::a8::a9::a10::a11::a12::a13::a14::a15::a16::a17::a18::a19::a20::a21::a22::a23::a24::a25::a26::a27::a28::a29::a30::a31::a32::a33::a34::a35::v::r) := rfl
theorem gt37 : evo (a0::a1::a2::a3::a4::a5::a6::a7::a8::a9::a10::a11::a12::a13::a14::a15::a16::a17::a18::a19::a20::a21::a22::a23::a24::a25::a26::a27::a28::a29::a30::a31::a32::a33::a34::a35::a36::a37::r) (.tmp 37) = some a37 := rfl
theorem st37 : dso (some 37) (a0::a1::a2::a3::a4::a5::a6::a7::a8::a9::a10::a11::a12::a13::a14::a15::a16::a17::a18::a19::a20::a21::a22::a23::a24::a25::a26::a27::a28::a29::a30::a31::a32::a33::a34::a35::a36::a37::r) v = some (a0::a1::a2::a3::a4::a5::a6::a7::a8::a9::a10::a11::a12::a13::a14::a15::a16::a17::a18::a19::a20::a21::a22::a23::a24::a25::a26::a27::a28::a29::a30::a31::a32::a33::a34::a35::a36::v::r) := rfl
theorem gt38 : evo (a0::a1::a2::a3::a4::a5::a6::a7::a8::a9::a10::a11::a12::a13::a14::a15::a16::a17::a18::a19::a20::a21::a22::a23::a24::a25::a26::a27::a28::a29::a30::a31::a32::a33::a34::a35::a36::a37::a38::r) (.tmp 38) = some a38 := rfl
theorem st38 : dso (some 38) (a0::a1::a2::a3::a4::a5::a6::a7::a8::a9::a10::a11::a12::a13::a14::a15::a16::a17::a18::a19::a20::a21::a22::a23::a24::a25::a26::a27::a28::a29::a30::a31::a32::a33::a34::a35::a36::a37::a38::r) v = some (a0::a1::a2::a3::a4::a5::a6::a7::a8::a9::a10::a11::a12::a13::a14::a15::a16::a17::a18::a19::a20::a21::a22::a23::a24::a25::a26::a27::a28::a29::a30::a31::a32::a33::a34::a35::a36::a37::v::r) := rfl
theorem gt39 : evo (a0::a1::a2::a3::a4::a5::a6::a7::a8::a9::a10::a11::a12::a13::a14::a15::a16::a17::a18::a19::a20::a21::a22::a23::a24::a25::a26::a27::a28::a29::a30::a31::a32::a33::a34::a35::a36::a37::a38::a39::r) (.tmp 39) = some a39 := rfl
theorem st39 : dso (some 39) (a0::a1::a2::a3::a4::a5::a6::a7::a8::a9::a10::a11::a12::a13::a14::a15::a16::a17::a18::a19::a20::a21::a22::a23::a24::a25::a26::a27::a28::a29::a30::a31::a32::a33::a34::a35::a36::a37::a38::a39::r) v = some (a0::a1::a2::a3::a4::a5::a6::a7::a8::a9::a10::a11::a12::a13::a14::a15::a16::a17::a18::a19::a20::a21::a22::a23::a24::a25::a26::a27::a28::a29::a30::a31::a32::a33::a34::a35::a36::a37::a38::v::r) := rfl
theorem gk (h : evo r (.tmp t) = some v) : evo (a0::a1::a2::a3::a4::a5::a6::a7::a8::a9::a10::a11::a12::a13::a14::a15::a16::a17::a18::a19::a20::a21::a22::a23::a24::a25::a26::a27::a28::a29::a30::a31::a32::a33::a34::a35::a36::a37::a38::a39::r) (.tmp (t + 40)) = some v := h
theorem sk (h : dso (some t) r v = some q) : dso (some (t + 40)) (a0::a1::a2::a3::a4::a5::a6::a7::a8::a9::a10::a11::a12::a13::a14::a15::a16::a17::a18::a19::a20::a21::a22::a23::a24::a25::a26::a27::a28::a29::a30::a31::a32::a33::a34::a35::a36::a37::a38::a39::r) v = some (a0::a1::a2::a3::a4::a5::a6::a7::a8::a9::a10::a11::a12::a13::a14::a15::a16::a17::a18::a19::a20::a21::a22::a23::a24::a25::a26::a27::a28::a29::a30::a31::a32::a33::a34::a35::a36::a37::a38::a39::q) := congrArg (fun x => some (a0::a1::a2::a3::a4::a5::a6::a7::a8::a9::a10::a11::a12::a13::a14::a15::a16::a17::a18::a19::a20::a21::a22::a23::a24::a25::a26::a27::a28::a29::a30::a31::a32::a33::a34::a35::a36::a37::a38::a39::x)) (Option.some.inj h)
end

def GActor.row (x : GActor) : List AV := [.int .u8 x.rep, .int .u32 x.inc]
def GDot.row (x : GDot) : List AV := [.int .u8 x.actor.rep, .int .u32 x.actor.inc, .int .u64 x.seq]
def GItem.row (x : GItem) : List AV := [.int .u64 x.time, .int .u8 x.dot.actor.rep, .int .u32 x.dot.actor.inc, .int .u64 x.dot.seq, .str x.text]
def GLeaf.row (x : GLeaf) : List AV := [.int .u8 x.typ, .int .i64 x.n, .int .u64 x.time, .int .u8 x.dot.actor.rep, .int .u32 x.dot.actor.inc, .int .u64 x.dot.seq, .str x.text, .sl 5 (x.items.map GItem.row), .sl 3 (x.tombs.map GDot.row)]
def GEdit.row (x : GEdit) : List AV := [.sl 1 (x.path.map strRow), .int .u8 x.typ, .bool x.had, .bool x.has, .int .u8 x.was.typ, .int .i64 x.was.n, .int .u64 x.was.time, .int .u8 x.was.dot.actor.rep, .int .u32 x.was.dot.actor.inc, .int .u64 x.was.dot.seq, .str x.was.text, .sl 5 (x.was.items.map GItem.row), .sl 3 (x.was.tombs.map GDot.row), .int .u8 x.is.typ, .int .i64 x.is.n, .int .u64 x.is.time, .int .u8 x.is.dot.actor.rep, .int .u32 x.is.dot.actor.inc, .int .u64 x.is.dot.seq, .str x.is.text, .sl 5 (x.is.items.map GItem.row), .sl 3 (x.is.tombs.map GDot.row)]
theorem el22 : El Tryz.prog 22 53 22 := mkEl Tryz.underlying22 (by kernel_rfl)
theorem ty53 : ∃ d, Ty Tryz.prog 53 d 22 ∧ isAggD d = true := ⟨_, mkTy Tryz.underlying53 (by kernel_rfl), by kernel_rfl⟩
theorem ze53 : zeroC Tryz.prog 53 = some [.osl none 1 [], .int .u8 0, .bool false, .bool false, .int .u8 0, .int .i64 0, .int .u64 0, .int .u8 0, .int .u32 0, .int .u64 0, .str [], .osl none 5 [], .osl none 3 [], .int .u8 0, .int .i64 0, .int .u64 0, .int .u8 0, .int .u32 0, .int .u64 0, .str [], .osl none 5 [], .osl none 3 []] := by kernel_rfl
theorem fo53x0 : Fo Tryz.prog 53 0 0 38 1 := mkFo (by kernel_rfl) (by kernel_rfl)
theorem ty38 : Ty Tryz.prog 38 (.slice 9) 1 := mkTy Tryz.underlying38 (by kernel_rfl)
theorem el38 : El Tryz.prog 38 9 1 := mkEl Tryz.underlying38 (by kernel_rfl)
theorem fo53x4 : Fo Tryz.prog 53 4 4 51 9 := mkFo (by kernel_rfl) (by kernel_rfl)
theorem fo51x5 : Fo Tryz.prog 51 5 7 48 1 := mkFo (by kernel_rfl) (by kernel_rfl)
theorem ty48 : Ty Tryz.prog 48 (.slice 82) 1 := mkTy Tryz.underlying48 (by kernel_rfl)
theorem el48 : El Tryz.prog 48 82 5 := mkEl Tryz.underlying48 (by kernel_rfl)
theorem fo53x5 : Fo Tryz.prog 53 5 13 51 9 := mkFo (by kernel_rfl) (by kernel_rfl)
theorem fo51x6 : Fo Tryz.prog 51 6 8 49 1 := mkFo (by kernel_rfl) (by kernel_rfl)
theorem ty49 : Ty Tryz.prog 49 (.slice 47) 1 := mkTy Tryz.underlying49 (by kernel_rfl)
theorem el49 : El Tryz.prog 49 47 3 := mkEl Tryz.underlying49 (by kernel_rfl)
theorem ty9 : Ty Tryz.prog 9 .string 1 := mkTy Tryz.underlying9 (by kernel_rfl)
/-! varve/varveref31.Great -/
theorem ok4 {l0 : (List GEdit)} {res : Bool} {h : AH}  (hF : ref31Great l0 = some res) : Spec Tryz.prog 4 [.sl 22 (l0.map GEdit.row)] h (fun rr hh => rr = .bool res ∧ hh = h) := by
  unfold ref31Great at hF
  refine spec_of_body_ext Tryz.func4 rfl (by kernel_rfl) (env := [.sl 22 (l0.map GEdit.row), aundef, aundef, aundef, aundef, aundef, aundef, aundef, aundef, aundef, aundef, aundef, aundef, aundef, aundef, aundef, aundef, aundef, aundef, aundef, aundef, aundef, aundef, aundef, aundef, aundef, aundef, aundef, aundef, aundef, aundef, aundef, aundef, aundef, aundef, aundef, aundef, aundef, aundef, aundef, aundef, aundef, aundef, aundef, aundef, aundef, aundef, aundef, aundef, aundef, aundef, aundef, aundef, aundef, aundef, aundef, aundef, aundef, aundef, aundef, aundef]) (by rfl) ?_
  refine r_seq ?_
  refine r_region ?_
  refine ops_ok rfl (s_assign rfl rfl (tyo_ok rfl)) st2 ?_
  refine ops_nil ?_
  refine q_seq ?_
  refine r_seq ?_
  refine r_seq ?_
  refine r_region ?_
  refine ops_ok rfl (s_assign rfl rfl (tyo_ok rfl)) st3 ?_
  refine ops_nil ?_
  refine q_seq ?_
  refine r_block ?_
  refine r_loopLF (fun (n1 : Nat) (s1 : Unit) => [(1, .any), (2, .any), (3, .int .i64 (n1 : Int)), (4, .any), (5, .any), (6, .any), (7, .any), (8, .any), (9, .any), (10, .any), (11, .any), (12, .any), (13, .any), (14, .any), (15, .any), (16, .any), (17, .any), (18, .any), (19, .any), (20, .any), (21, .any), (22, .any), (23, .any), (24, .any), (25, .any), (26, .any), (27, .any), (28, .any), (29, .any), (30, .any), (31, .any), (32, .any), (33, .any), (34, .any), (35, .any), (36, .any), (37, .any), (38, .any), (39, .any), (40, .any), (41, .any), (42, .any), (43, .any), (44, .any), (45, .any), (46, .any), (47, .any), (48, .any), (49, .any), (50, .any), (51, .any), (52, .any), (53, .any), (54, .any), (55, .any), (56, .any), (57, .any), (58, .any), (59, .any), (60, .any)]) (fun s1 => h.ext [] []) hF (fun _ _ => by simp only [upd, List.set_cons_succ, List.set_cons_zero]; try rfl) (wk.le (by exact (.eq (.drop (.drop (.cons (leV.of_eq rfl) (.drop (.drop (.drop (.drop (.drop (.drop (.drop (.drop (.drop (.drop (.drop (.drop (.drop (.drop (.drop (.drop (.drop (.drop (.drop (.drop (.drop (.drop (.drop (.drop (.drop (.drop (.drop (.drop (.drop (.drop (.drop (.drop (.drop (.drop (.drop (.drop (.drop (.drop (.drop (.drop (.drop (.drop (.drop (.drop (.drop (.drop (.drop (.drop (.drop (.drop (.drop (.drop (.drop (.drop (.drop (.drop (.drop leL.nil))))))))))))))))))))))))))))))))))))))))))))))))))))))))))))))) ?_
  intro n1 s1 hi1 hF
  refine r_seq ?_
  refine r_seq ?_
  refine r_region ?_
  refine ops_ok rfl (s_move rfl gt3 (tyo_ok rfl)) st6 ?_
  refine ops_ok rfl (s_move rfl gt0 (tyo_ok rfl)) st7 ?_
  refine ops_len rfl (s_lenSl rfl rfl rfl rfl el22 gt7 lenMap) st8 fun hn45 => ?_
  replace hn45 := lenN hn45
  refine ops_ok rfl (s_bin rfl gt6 gt8 rfl) st9 ?_
  refine ops_nil ?_
  refine q_seq ?_
  refine r_condL gt9 hF (fun x1 o1 hl1 hx1 hF hK1 => ?_) (fun hF => ?_)
  · skip
    refine r_skip ?_
    refine q_seq ?_
    refine r_seq ?_
    refine r_block ?_
    refine r_seq ?_
    refine r_region ?_
    refine ops_ok rfl (s_move rfl gt0 (tyo_ok rfl)) st12 ?_
    refine ops_ok rfl (s_move rfl gt3 (tyo_ok rfl)) st13 ?_
    refine ops_ok rfl (s_idxRow rfl el22 gt12 gt13 isl (idx_of hx1)) st14 ?_
    refine ops_ok rfl (f_load rfl ty53.choose_spec.1 gt14 (ldC_agX (cs' := [.sl 1 (x1.path.map strRow), .int .u8 x1.typ, .bool x1.had, .bool x1.has, .int .u8 x1.was.typ, .int .i64 x1.was.n, .int .u64 x1.was.time, .int .u8 x1.was.dot.actor.rep, .int .u32 x1.was.dot.actor.inc, .int .u64 x1.was.dot.seq, .str x1.was.text, .sl 5 (x1.was.items.map GItem.row), .sl 3 (x1.was.tombs.map GDot.row), .int .u8 x1.is.typ, .int .i64 x1.is.n, .int .u64 x1.is.time, .int .u8 x1.is.dot.actor.rep, .int .u32 x1.is.dot.actor.inc, .int .u64 x1.is.dot.seq, .str x1.is.text, .sl 5 (x1.is.items.map GItem.row), .sl 3 (x1.is.tombs.map GDot.row)]) ty53.choose_spec.2 rfl rfl) (tyo_ok rfl)) st15 ?_
    refine ops_ok rfl (e_alloc (n := 0) rfl ze53 rfl) st4 ?_
    refine ops_ok rfl (e_store (cs' := [.sl 1 (x1.path.map strRow), .int .u8 x1.typ, .bool x1.had, .bool x1.has, .int .u8 x1.was.typ, .int .i64 x1.was.n, .int .u64 x1.was.time, .int .u8 x1.was.dot.actor.rep, .int .u32 x1.was.dot.actor.inc, .int .u64 x1.was.dot.seq, .str x1.was.text, .sl 5 (x1.was.items.map GItem.row), .sl 3 (x1.was.tombs.map GDot.row), .int .u8 x1.is.typ, .int .i64 x1.is.n, .int .u64 x1.is.time, .int .u8 x1.is.dot.actor.rep, .int .u32 x1.is.dot.actor.inc, .int .u64 x1.is.dot.seq, .str x1.is.text, .sl 5 (x1.is.items.map GItem.row), .sl 3 (x1.is.tombs.map GDot.row)]) rfl ty53.choose_spec.1 gt4 gt15 (tyo_ok rfl) rfl rfl rfl rfl rfl) rfl ?_
    refine ops_nil ?_
    refine q_seq ?_
    refine r_seq ?_
    refine r_seq ?_
    refine r_region ?_
    refine ops_ok rfl (s_fieldAddr rfl fo53x0 gt4 rfl) st16 ?_
    refine ops_ok rfl (e_load rfl ty38 gt16 rfl (ldC_one rfl) (tyo_ok rfl)) st17 ?_
    refine ops_len rfl (s_lenSl rfl rfl rfl rfl el38 gt17 lenMap) st18 fun hn46 => ?_
    replace hn46 := lenN hn46
    refine ops_ok rfl (s_bin rfl gt18 rfl rfl) st19 ?_
    refine ops_ok rfl (s_move rfl gt19 (tyo_ok rfl)) st20 ?_
    refine ops_gv rfl (fun hb => s_fieldAddr rfl fo53x4 gt4 rfl) st21 ?_
    refine ops_gv rfl (fun hb => s_fieldAddr rfl fo51x5 (evo_gv gt21 hb) rfl) st22 ?_
    refine ops_gv rfl (fun hb => e_load rfl ty48 (evo_gv gt22 hb) rfl (ldC_one rfl) (tyo_ok rfl)) st23 ?_
    refine ops_glen rfl (fun hb => s_lenSl rfl rfl rfl rfl el48 (evo_gv gt23 hb) lenMap) st24 fun hn47 => ?_
    refine ops_gv rfl (fun hb => s_fieldAddr rfl fo53x5 gt4 rfl) st25 ?_
    refine ops_gv rfl (fun hb => s_fieldAddr rfl fo51x5 (evo_gv gt25 hb) rfl) st26 ?_
    refine ops_gv rfl (fun hb => e_load rfl ty48 (evo_gv gt26 hb) rfl (ldC_one rfl) (tyo_ok rfl)) st27 ?_
    refine ops_glen rfl (fun hb => s_lenSl rfl rfl rfl rfl el48 (evo_gv gt27 hb) lenMap) st28 fun hn48 => ?_
    refine ops_gv rfl (fun hb => s_bin rfl (evo_gv gt24 hb) (evo_gv gt28 hb) rfl) st29 ?_
    refine ops_gv rfl (fun hb => s_bin rfl (evo_gv gt29 hb) rfl rfl) st30 ?_
    refine ops_ok rfl (s_pick rfl gt20 rfl gt30 (pick_or (fun ht => gF ht))) st31 ?_
    refine ops_ok rfl (s_move rfl gt31 (tyo_ok rfl)) st32 ?_
    refine ops_gv rfl (fun hb => s_fieldAddr rfl fo53x4 gt4 rfl) st33 ?_
    refine ops_gv rfl (fun hb => s_fieldAddr rfl fo51x6 (evo_gv gt33 hb) rfl) st34 ?_
    refine ops_gv rfl (fun hb => e_load rfl ty49 (evo_gv gt34 hb) rfl (ldC_one rfl) (tyo_ok rfl)) st35 ?_
    refine ops_glen rfl (fun hb => s_lenSl rfl rfl rfl rfl el49 (evo_gv gt35 hb) lenMap) st36 fun hn49 => ?_
    refine ops_gv rfl (fun hb => s_fieldAddr rfl fo53x5 gt4 rfl) st37 ?_
    refine ops_gv rfl (fun hb => s_fieldAddr rfl fo51x6 (evo_gv gt37 hb) rfl) st38 ?_
    refine ops_gv rfl (fun hb => e_load rfl ty49 (evo_gv gt38 hb) rfl (ldC_one rfl) (tyo_ok rfl)) st39 ?_
    refine ops_glen rfl (fun hb => s_lenSl rfl rfl rfl rfl el49 (evo_gv gt39 hb) lenMap) (sk st0) fun hn50 => ?_
    refine ops_gv rfl (fun hb => s_bin rfl (evo_gv gt36 hb) (evo_gv (gk gt0) hb) rfl) (sk st1) ?_
    refine ops_gv rfl (fun hb => s_bin rfl (evo_gv (gk gt1) hb) rfl rfl) (sk st2) ?_
    refine ops_ok rfl (s_pick rfl gt32 rfl (gk gt2) (pick_or (fun ht => gF ht))) (sk st3) ?_
    refine ops_nil ?_
    refine q_seq ?_
    refine r_condF (gk gt3) hF (fun hc51 hF => ?_) (fun hc51 hF => ?_)
    · skip
      refine r_seq ?_
      refine r_region ?_
      refine ops_ok rfl (s_assign rfl rfl (tyo_ok rfl)) st2 ?_
      refine ops_nil ?_
      refine q_seq ?_
      refine r_ret ?_
      refine q_seq_ret ?_
      refine q_block_ret ?_
      refine q_seq_ret ?_
      refine q_loop_ret ?_
      obtain rfl := Option.some.inj hF
      replace hF := hK1
      refine q_block_ret ?_
      refine q_seq_ret ?_
      obtain rfl := Option.some.inj hF
      refine q_retL1 rfl (rl_tmp gt2 rl_nil) (fin_ext (leV.refl _) rfl ?_)
      exact ⟨rfl, rfl⟩
    · skip
      refine r_skip ?_
      refine q_seq ?_
      refine r_seq ?_
      refine r_region ?_
      refine ops_ok rfl (s_assign rfl rfl (tyo_ok rfl)) st5 ?_
      refine ops_nil ?_
      refine q_seq ?_
      refine r_block ?_
      refine r_loopLF (fun (n2 : Nat) (s2 : Unit) => [(1, .any), (2, .any), (5, .int .i64 (n2 : Int)), (6, .any), (7, .any), (8, .any), (9, .any), (10, .any), (11, .any), (12, .any), (13, .any), (14, .any), (15, .any), (16, .any), (17, .any), (18, .any), (19, .any), (20, .any), (21, .any), (22, .any), (23, .any), (24, .any), (25, .any), (26, .any), (27, .any), (28, .any), (29, .any), (30, .any), (31, .any), (32, .any), (33, .any), (34, .any), (35, .any), (36, .any), (37, .any), (38, .any), (39, .any), (40, .any), (41, .any), (42, .any), (43, .any), (44, .any), (45, .any), (46, .any), (47, .any), (48, .any), (49, .any), (50, .any), (51, .any), (52, .any), (53, .any), (54, .any), (55, .any), (56, .any), (57, .any), (58, .any), (59, .any), (60, .any)]) (fun s2 => h.ext [.cells [.sl 1 (x1.path.map strRow), .int .u8 x1.typ, .bool x1.had, .bool x1.has, .int .u8 x1.was.typ, .int .i64 x1.was.n, .int .u64 x1.was.time, .int .u8 x1.was.dot.actor.rep, .int .u32 x1.was.dot.actor.inc, .int .u64 x1.was.dot.seq, .str x1.was.text, .sl 5 (x1.was.items.map GItem.row), .sl 3 (x1.was.tombs.map GDot.row), .int .u8 x1.is.typ, .int .i64 x1.is.n, .int .u64 x1.is.time, .int .u8 x1.is.dot.actor.rep, .int .u32 x1.is.dot.actor.inc, .int .u64 x1.is.dot.seq, .str x1.is.text, .sl 5 (x1.is.items.map GItem.row), .sl 3 (x1.is.tombs.map GDot.row)]] []) hF (fun _ _ => by simp only [upd, List.set_cons_succ, List.set_cons_zero]; try rfl) (wk.le (by exact (.eq (.drop (.drop (.eq (.eq (.cons (leV.of_eq rfl) (.drop (.drop (.drop (.drop (.drop (.drop (.drop (.drop (.drop (.drop (.drop (.drop (.drop (.drop (.drop (.drop (.drop (.drop (.drop (.drop (.drop (.drop (.drop (.drop (.drop (.drop (.drop (.drop (.drop (.drop (.drop (.drop (.drop (.drop (.drop (.drop (.drop (.drop (.drop (.drop (.drop (.drop (.drop (.drop (.drop (.drop (.drop (.drop (.drop (.drop (.drop (.drop (.drop (.drop (.drop leL.nil))))))))))))))))))))))))))))))))))))))))))))))))))))))))))))))) ?_
      intro n2 s2 hi2 hF
      refine r_seq ?_
      refine r_seq ?_
      refine r_region ?_
      refine ops_ok rfl (s_move rfl gt5 (tyo_ok rfl)) (sk st4) ?_
      refine ops_ok rfl (s_fieldAddr rfl fo53x0 gt4 rfl) (sk st5) ?_
      refine ops_ok rfl (e_load rfl ty38 (gk gt5) rfl (ldC_one rfl) (tyo_ok rfl)) (sk st6) ?_
      refine ops_len rfl (s_lenSl rfl rfl rfl rfl el38 (gk gt6) lenMap) (sk st7) fun hn81 => ?_
      replace hn81 := lenN hn81
      refine ops_ok rfl (s_bin rfl (gk gt4) (gk gt7) rfl) (sk st8) ?_
      refine ops_nil ?_
      refine q_seq ?_
      refine r_condL (gk gt8) hF (fun x2 o2 hl2 hx2 hF hK2 => ?_) (fun hF => ?_)
      · skip
        refine r_skip ?_
        refine q_seq ?_
        refine r_seq ?_
        refine r_block ?_
        refine r_seq ?_
        refine r_region ?_
        refine ops_ok rfl (s_fieldAddr rfl fo53x0 gt4 rfl) (sk st11) ?_
        refine ops_ok rfl (e_load rfl ty38 (gk gt11) rfl (ldC_one rfl) (tyo_ok rfl)) (sk st12) ?_
        refine ops_ok rfl (s_move rfl gt5 (tyo_ok rfl)) (sk st13) ?_
        refine ops_ok rfl (s_idxRow rfl el38 (gk gt12) (gk gt13) isl (idx_of hx2)) (sk st14) ?_
        refine ops_ok rfl (f_load rfl ty9 (gk gt14) (ldC_one rfl) (tyo_ok rfl)) (sk st15) ?_
        refine ops_len rfl (s_lenStr rfl rfl rfl rfl ty9 (gk gt15)) (sk st16) fun hn82 => ?_
        replace hn82 := lenN hn82
        refine ops_ok rfl (s_bin rfl (gk gt16) rfl rfl) (sk st17) ?_
        refine ops_nil ?_
        refine q_seq ?_
        refine r_condF (gk gt17) hF (fun hc83 hF => ?_) (fun hc83 hF => ?_)
        · skip
          refine r_seq ?_
          refine r_region ?_
          refine ops_ok rfl (s_assign rfl rfl (tyo_ok rfl)) st2 ?_
          refine ops_nil ?_
          refine q_seq ?_
          refine r_ret ?_
          refine q_block_ret ?_
          refine q_seq_ret ?_
          refine q_loop_ret ?_
          obtain rfl := Option.some.inj hF
          replace hF := hK2
          refine q_block_ret ?_
          refine q_block_ret ?_
          refine q_seq_ret ?_
          refine q_loop_ret ?_
          obtain rfl := Option.some.inj hF
          replace hF := hK1
          refine q_block_ret ?_
          refine q_seq_ret ?_
          obtain rfl := Option.some.inj hF
          refine q_retL1 rfl (rl_tmp gt2 rl_nil) (fin_ext (leV.refl _) rfl ?_)
          exact ⟨rfl, rfl⟩
        · skip
          refine r_skip ?_
          refine q_block ?_
          refine q_seq ?_
          refine r_region ?_
          refine ops_ok rfl (s_move rfl gt5 (tyo_ok rfl)) (sk st9) ?_
          refine ops_ok rfl (s_bin rfl (gk gt9) rfl rfl) (sk st10) ?_
          refine ops_ok rfl (s_assign rfl (gk gt10) (tyo_ok rfl)) st5 ?_
          refine ops_nil ?_
          refine q_loop ?_
          obtain rfl := Option.some.inj hF
          exact ⟨(), hl2, hK2, wk.le (by exact (.eq (.drop (.drop (.eq (.eq (.cons (leV.of_eq (w64e (by omega) (by omega))) (.drop (.drop (.drop (.drop (.drop (.drop (.drop (.drop (.drop (.drop (.drop (.drop (.drop (.drop (.drop (.drop (.drop (.drop (.drop (.drop (.drop (.drop (.drop (.drop (.drop (.drop (.drop (.drop (.drop (.drop (.drop (.drop (.drop (.drop (.drop (.drop (.drop (.drop (.drop (.drop (.drop (.drop (.drop (.drop (.drop (.drop (.drop (.drop (.drop (.drop (.drop (.drop (.drop (.drop (.drop leL.nil))))))))))))))))))))))))))))))))))))))))))))))))))))))))))))))⟩
      · skip
        refine r_exit ?_
        refine q_seq_exit ?_
        refine q_loop_exit ?_
        refine q_block_hit ?_
        refine q_block ?_
        refine q_seq ?_
        refine r_region ?_
        refine ops_ok rfl (s_move rfl gt3 (tyo_ok rfl)) st10 ?_
        refine ops_ok rfl (s_bin rfl gt10 rfl rfl) st11 ?_
        refine ops_ok rfl (s_assign rfl gt11 (tyo_ok rfl)) st3 ?_
        refine ops_nil ?_
        refine q_loop ?_
        obtain rfl := Option.some.inj hF
        exact ⟨(), hl1, hK1, wk.trans (wk.le (by exact (.eq (.drop (.drop (.cons (leV.of_eq (w64e (by omega) (by omega))) (.drop (.drop (.drop (.drop (.drop (.drop (.drop (.drop (.drop (.drop (.drop (.drop (.drop (.drop (.drop (.drop (.drop (.drop (.drop (.drop (.drop (.drop (.drop (.drop (.drop (.drop (.drop (.drop (.drop (.drop (.drop (.drop (.drop (.drop (.drop (.drop (.drop (.drop (.drop (.drop (.drop (.drop (.drop (.drop (.drop (.drop (.drop (.drop (.drop (.drop (.drop (.drop (.drop (.drop (.drop (.drop (.drop leL.nil))))))))))))))))))))))))))))))))))))))))))))))))))))))))))))))) (wk_ext3 (by simp [lowL, AV.low]) rfl rfl (by simp [Blk.low, lowL, AV.low]))⟩
  · skip
    refine r_exit ?_
    refine q_seq_exit ?_
    refine q_loop_exit ?_
    refine q_block_hit ?_
    refine q_seq ?_
    refine r_seq ?_
    refine r_region ?_
    refine ops_ok rfl (s_move rfl gt0 (tyo_ok rfl)) (sk st18) ?_
    refine ops_len rfl (s_lenSl rfl rfl rfl rfl el22 (gk gt18) lenMap) (sk st19) fun hn84 => ?_
    replace hn84 := lenN hn84
    refine ops_ok rfl (s_bin rfl (gk gt19) rfl rfl) (sk st20) ?_
    refine ops_ok rfl (s_assign rfl (gk gt20) (tyo_ok rfl)) st2 ?_
    refine ops_nil ?_
    refine q_seq ?_
    refine r_ret ?_
    obtain rfl := Option.some.inj hF
    refine q_retL1 rfl (rl_tmp gt2 rl_nil) (fin_ext (leV.refl _) rfl ?_)
    exact ⟨rfl, rfl⟩
/-! varve/varvelaw41.known -/
def xmu (f : FuncId) : Bool := [20, 26, 40, 45, 72, 76, 77, 78, 79, 80, 81, 82, 83, 87, 88, 89, 90, 91, 92, 94, 95, 108, 112, 117, 129, 130, 131, 132, 133, 134, 135, 136, 147].contains f
noncomputable def xpre : Pre := rowPre Tryz.prog xmu
theorem xpre_ok : PreOk xpre := rowPre_ok
def mc28TryzRen : Go.Shelf.Ren :=
  { f := fun x => match x with
      | 5 => 28
      | 7 => 46
      | n => n
    t := fun x => match x with
      | 4 => 4
      | 20 => 20
      | 23 => 61
      | 25 => 9
      | 3 => 59
      | n => n
    g := fun n => n }
theorem mc28TryzLays : Go.Proofs.SlLaysW.n5 Tryz.prog mc28TryzRen where
  mixed := by kernel_rfl
  f5 := ⟨Tryz.f28.name, by kernel_rfl, Tryz.func28.trans (by kernel_rfl)⟩
  f7 := Tryz.func46.trans (by kernel_rfl)
  t4 := Tryz.underlying4
  a4 := Tryz.isAgg4
  z4 := Tryz.sizeOf4
  v4 := Tryz.zeroValue4
  t20 := Tryz.underlying20
  a20 := Tryz.isAgg20
  z20 := Tryz.sizeOf20
  v20 := Tryz.zeroValue20
  t23 := Tryz.underlying61
  a23 := Tryz.isAgg61
  z23 := Tryz.sizeOf61
  v23 := Tryz.zeroValue61
def joinTryzRen : Go.Shelf.Ren :=
  { f := fun x => match x with
      | 156 => 75
      | 165 => 109
      | 166 => 110
      | 169 => 111
      | 240 => 137
      | 241 => 138
      | 276 => 150
      | 277 => 151
      | n => n
    t := fun x => match x with
      | 0 => 0
      | 3 => 3
      | 4 => 4
      | 9 => 9
      | 20 => 20
      | 31 => 38
      | 37 => 128
      | 70 => 152
      | 72 => 154
      | 75 => 157
      | 76 => 158
      | 127 => 180
      | 164 => 192
      | 5 => 5
      | 80 => 160
      | n => n
    g := fun n => n }
theorem joinTryzLays : Go.Proofs.Lays.n156 Tryz.prog joinTryzRen where
  mixed := by kernel_rfl
  f156 := Tryz.func75.trans (by kernel_rfl)
  f165 := Tryz.func109.trans (by kernel_rfl)
  f166 := Tryz.func110.trans (by kernel_rfl)
  f169 := Tryz.func111.trans (by kernel_rfl)
  f240 := Tryz.func137.trans (by kernel_rfl)
  f241 := Tryz.func138.trans (by kernel_rfl)
  f276 := Tryz.func150.trans (by kernel_rfl)
  f277 := Tryz.func151.trans (by kernel_rfl)
  t0 := Tryz.underlying0
  a0 := Tryz.isAgg0
  z0 := Tryz.sizeOf0
  v0 := Tryz.zeroValue0
  t3 := Tryz.underlying3
  a3 := Tryz.isAgg3
  z3 := Tryz.sizeOf3
  v3 := Tryz.zeroValue3
  t4 := Tryz.underlying4
  a4 := Tryz.isAgg4
  z4 := Tryz.sizeOf4
  v4 := Tryz.zeroValue4
  t9 := Tryz.underlying9
  a9 := Tryz.isAgg9
  z9 := Tryz.sizeOf9
  v9 := Tryz.zeroValue9
  t20 := Tryz.underlying20
  a20 := Tryz.isAgg20
  z20 := Tryz.sizeOf20
  v20 := Tryz.zeroValue20
  t31 := Tryz.underlying38
  a31 := Tryz.isAgg38
  z31 := Tryz.sizeOf38
  v31 := Tryz.zeroValue38
  t37 := Tryz.underlying128
  a37 := Tryz.isAgg128
  z37 := Tryz.sizeOf128
  v37 := Tryz.zeroValue128
  t70 := Tryz.underlying152
  a70 := Tryz.isAgg152
  z70 := Tryz.sizeOf152
  v70 := Tryz.zeroValue152
  t72 := Tryz.underlying154
  a72 := Tryz.isAgg154
  z72 := Tryz.sizeOf154
  v72 := Tryz.zeroValue154
  t75 := Tryz.underlying157
  a75 := Tryz.isAgg157
  z75 := Tryz.sizeOf157
  v75 := Tryz.zeroValue157
  t76 := Tryz.underlying158
  a76 := Tryz.isAgg158
  z76 := Tryz.sizeOf158
  v76 := Tryz.zeroValue158
  t127 := Tryz.underlying180
  a127 := Tryz.isAgg180
  z127 := Tryz.sizeOf180
  v127 := Tryz.zeroValue180
  t164 := Tryz.underlying192
  a164 := Tryz.isAgg192
  z164 := Tryz.sizeOf192
  v164 := Tryz.zeroValue192
theorem joinTryzExtra : Go.Proofs.Builder.Extra Tryz.prog joinTryzRen where
  sizeBuilder := by kernel_rfl
  liesBuilder := by kernel_rfl
  t5 := Tryz.underlying5
  a5 := Tryz.isAgg5
  z5 := Tryz.sizeOf5
  v5 := Tryz.zeroValue5
  infoByte := by kernel_rfl
  cellsByte := by kernel_rfl
  sizeByte := by kernel_rfl
  neB5 := by decide
def xown (f : FuncId) : Bool := [19, 52, 61, 62, 69, 74, 102].contains f
def xlib0 : CallX := orLib (mcLib [28]) (joinLib 75)
theorem xlibOk0 : CallOk Tryz.prog xlib0 := orLib_ok (mcLib_ok (fun f hf => by
    simp only [List.mem_cons, List.not_mem_nil, or_false] at hf
    rcases hf with rfl
    · exact ⟨_, mc28TryzLays, rfl⟩
)) (joinLib_ok joinTryzLays joinTryzExtra rfl)
theorem xm0 : (xall Tryz.prog xpre xlib0 xown 1000 80).1 121 [.str [97], .fn (.func 120) [] []] ⟨[], []⟩ = some [(.bool false, ⟨[], []⟩)] := by kernel_rfl
def xlib1 : CallX := tabX 121 [.str [97], .fn (.func 120) [] []] (.bool false) xlib0
theorem xlibOk1 : CallOk Tryz.prog xlib1 := tabX_ok (spec_xv xpre_ok xlibOk0 xm0 rfl) xlibOk0
theorem xm1 : (xall Tryz.prog xpre xlib1 xown 1000 80).1 96 [.str [97]] ⟨[], []⟩ = some [(.bool true, ⟨[], []⟩)] := by kernel_rfl
def xlib2 : CallX := tabX 96 [.str [97]] (.bool true) xlib1
theorem xlibOk2 : CallOk Tryz.prog xlib2 := tabX_ok (spec_xv xpre_ok xlibOk1 xm1 rfl) xlibOk1
theorem xm2 : (xall Tryz.prog xpre xlib2 xown 1000 80).1 36 [.agg [.int .u8 (2), .int .i64 (0), .int .u64 (1), .int .u8 (0), .int .u32 (1), .int .u64 (1), .str [117], .sl 5 [], .sl 3 []], .agg [.int .u8 (2), .int .i64 (0), .int .u64 (1), .int .u8 (0), .int .u32 (1), .int .u64 (1), .str [117], .osl (none) 5 [], .osl (none) 3 []]] ⟨[], []⟩ = some [(.bool true, ⟨[], []⟩)] := by kernel_rfl
def xlib3 : CallX := tabX 36 [.agg [.int .u8 (2), .int .i64 (0), .int .u64 (1), .int .u8 (0), .int .u32 (1), .int .u64 (1), .str [117], .sl 5 [], .sl 3 []], .agg [.int .u8 (2), .int .i64 (0), .int .u64 (1), .int .u8 (0), .int .u32 (1), .int .u64 (1), .str [117], .osl (none) 5 [], .osl (none) 3 []]] (.bool true) xlib2
theorem xlibOk3 : CallOk Tryz.prog xlib3 := tabX_ok (spec_xv xpre_ok xlibOk2 xm2 rfl) xlibOk2
theorem xm3 : (xall Tryz.prog xpre xlib3 xown 1000 80).1 97 [.agg [.int .u8 (2), .int .i64 (0), .int .u64 (1), .int .u8 (0), .int .u32 (1), .int .u64 (1), .str [117], .sl 5 [], .sl 3 []]] ⟨[], []⟩ = some [(.bool true, ⟨[], []⟩)] := by kernel_rfl
def xlib4 : CallX := tabX 97 [.agg [.int .u8 (2), .int .i64 (0), .int .u64 (1), .int .u8 (0), .int .u32 (1), .int .u64 (1), .str [117], .sl 5 [], .sl 3 []]] (.bool true) xlib3
theorem xlibOk4 : CallOk Tryz.prog xlib4 := tabX_ok (spec_xv xpre_ok xlibOk3 xm3 rfl) xlibOk3
theorem xm4 : (xall Tryz.prog xpre xlib4 xown 1000 80).1 121 [.str [98], .fn (.func 120) [] []] ⟨[], []⟩ = some [(.bool false, ⟨[], []⟩)] := by kernel_rfl
def xlib5 : CallX := tabX 121 [.str [98], .fn (.func 120) [] []] (.bool false) xlib4
theorem xlibOk5 : CallOk Tryz.prog xlib5 := tabX_ok (spec_xv xpre_ok xlibOk4 xm4 rfl) xlibOk4
theorem xm5 : (xall Tryz.prog xpre xlib5 xown 1000 80).1 96 [.str [98]] ⟨[], []⟩ = some [(.bool true, ⟨[], []⟩)] := by kernel_rfl
def xlib6 : CallX := tabX 96 [.str [98]] (.bool true) xlib5
theorem xlibOk6 : CallOk Tryz.prog xlib6 := tabX_ok (spec_xv xpre_ok xlibOk5 xm5 rfl) xlibOk5
theorem xm6 : (xall Tryz.prog xpre xlib6 xown 1000 80).1 154 [.agg [.int .u8 (0), .int .u32 (1)], .agg [.int .u8 (0), .int .u32 (1)]] ⟨[], []⟩ = some [(.int .i64 (0), ⟨[], []⟩)] := by kernel_rfl
def xlib7 : CallX := tabX 154 [.agg [.int .u8 (0), .int .u32 (1)], .agg [.int .u8 (0), .int .u32 (1)]] (.int .i64 (0)) xlib6
theorem xlibOk7 : CallOk Tryz.prog xlib7 := tabX_ok (spec_xv xpre_ok xlibOk6 xm6 rfl) xlibOk6
theorem xm7 : (xall Tryz.prog xpre xlib7 xown 1000 80).1 145 [.agg [.int .u8 (0), .int .u32 (1), .int .u64 (2)], .agg [.int .u8 (0), .int .u32 (1), .int .u64 (3)]] ⟨[], []⟩ = some [(.int .i64 (-1), ⟨[], []⟩)] := by kernel_rfl
def xlib8 : CallX := tabX 145 [.agg [.int .u8 (0), .int .u32 (1), .int .u64 (2)], .agg [.int .u8 (0), .int .u32 (1), .int .u64 (3)]] (.int .i64 (-1)) xlib7
theorem xlibOk8 : CallOk Tryz.prog xlib8 := tabX_ok (spec_xv xpre_ok xlibOk7 xm7 rfl) xlibOk7
theorem xm8 : (xall Tryz.prog xpre xlib8 xown 1000 80).1 153 [.int .u64 (0), .agg [.int .u8 (0), .int .u32 (1), .int .u64 (2)], .int .u64 (0), .agg [.int .u8 (0), .int .u32 (1), .int .u64 (3)]] ⟨[], []⟩ = some [(.int .i64 (-1), ⟨[], []⟩)] := by kernel_rfl
def xlib9 : CallX := tabX 153 [.int .u64 (0), .agg [.int .u8 (0), .int .u32 (1), .int .u64 (2)], .int .u64 (0), .agg [.int .u8 (0), .int .u32 (1), .int .u64 (3)]] (.int .i64 (-1)) xlib8
theorem xlibOk9 : CallOk Tryz.prog xlib9 := tabX_ok (spec_xv xpre_ok xlibOk8 xm8 rfl) xlibOk8
theorem xm9 : (xall Tryz.prog xpre xlib9 xown 1000 80).1 143 [.int .u64 (0), .agg [.int .u8 (0), .int .u32 (1), .int .u64 (2)], .int .u64 (0), .agg [.int .u8 (0), .int .u32 (1), .int .u64 (3)]] ⟨[], []⟩ = some [(.bool true, ⟨[], []⟩)] := by kernel_rfl
def xlib10 : CallX := tabX 143 [.int .u64 (0), .agg [.int .u8 (0), .int .u32 (1), .int .u64 (2)], .int .u64 (0), .agg [.int .u8 (0), .int .u32 (1), .int .u64 (3)]] (.bool true) xlib9
theorem xlibOk10 : CallOk Tryz.prog xlib10 := tabX_ok (spec_xv xpre_ok xlibOk9 xm9 rfl) xlibOk9
theorem xm10 : (xall Tryz.prog xpre xlib10 xown 1000 80).1 144 [.sl 5 [[.int .u64 (0),.int .u8 (0),.int .u32 (1),.int .u64 (2),.str [117]],[.int .u64 (0),.int .u8 (0),.int .u32 (1),.int .u64 (3),.str [118]]]] ⟨[], []⟩ = some [(.bool false, ⟨[], []⟩)] := by kernel_rfl
def xlib11 : CallX := tabX 144 [.sl 5 [[.int .u64 (0),.int .u8 (0),.int .u32 (1),.int .u64 (2),.str [117]],[.int .u64 (0),.int .u8 (0),.int .u32 (1),.int .u64 (3),.str [118]]]] (.bool false) xlib10
theorem xlibOk11 : CallOk Tryz.prog xlib11 := tabX_ok (spec_xv xpre_ok xlibOk10 xm10 rfl) xlibOk10
theorem xm11 : (xall Tryz.prog xpre xlib11 xown 1000 80).1 125 [.sl 5 [[.int .u64 (0),.int .u8 (0),.int .u32 (1),.int .u64 (2),.str [117]],[.int .u64 (0),.int .u8 (0),.int .u32 (1),.int .u64 (3),.str [118]]], .bool false] ⟨[], []⟩ = some [(.bool true, ⟨[], []⟩)] := by kernel_rfl
def xlib12 : CallX := tabX 125 [.sl 5 [[.int .u64 (0),.int .u8 (0),.int .u32 (1),.int .u64 (2),.str [117]],[.int .u64 (0),.int .u8 (0),.int .u32 (1),.int .u64 (3),.str [118]]], .bool false] (.bool true) xlib11
theorem xlibOk12 : CallOk Tryz.prog xlib12 := tabX_ok (spec_xv xpre_ok xlibOk11 xm11 rfl) xlibOk11
theorem xm12 : (xall Tryz.prog xpre xlib12 xown 1000 80).1 36 [.agg [.int .u8 (3), .int .i64 (0), .int .u64 (0), .int .u8 (0), .int .u32 (0), .int .u64 (0), .str [], .sl 5 [[.int .u64 (0),.int .u8 (0),.int .u32 (1),.int .u64 (2),.str [117]],[.int .u64 (0),.int .u8 (0),.int .u32 (1),.int .u64 (3),.str [118]]], .sl 3 []], .agg [.int .u8 (3), .int .i64 (0), .int .u64 (0), .int .u8 (0), .int .u32 (0), .int .u64 (0), .str [], .sl 5 [[.int .u64 (0),.int .u8 (0),.int .u32 (1),.int .u64 (2),.str [117]],[.int .u64 (0),.int .u8 (0),.int .u32 (1),.int .u64 (3),.str [118]]], .sl 3 []]] ⟨[], []⟩ = some [(.bool true, ⟨[], []⟩)] := by kernel_rfl
def xlib13 : CallX := tabX 36 [.agg [.int .u8 (3), .int .i64 (0), .int .u64 (0), .int .u8 (0), .int .u32 (0), .int .u64 (0), .str [], .sl 5 [[.int .u64 (0),.int .u8 (0),.int .u32 (1),.int .u64 (2),.str [117]],[.int .u64 (0),.int .u8 (0),.int .u32 (1),.int .u64 (3),.str [118]]], .sl 3 []], .agg [.int .u8 (3), .int .i64 (0), .int .u64 (0), .int .u8 (0), .int .u32 (0), .int .u64 (0), .str [], .sl 5 [[.int .u64 (0),.int .u8 (0),.int .u32 (1),.int .u64 (2),.str [117]],[.int .u64 (0),.int .u8 (0),.int .u32 (1),.int .u64 (3),.str [118]]], .sl 3 []]] (.bool true) xlib12
theorem xlibOk13 : CallOk Tryz.prog xlib13 := tabX_ok (spec_xv xpre_ok xlibOk12 xm12 rfl) xlibOk12
theorem xm13 : (xall Tryz.prog xpre xlib13 xown 1000 80).1 97 [.agg [.int .u8 (3), .int .i64 (0), .int .u64 (0), .int .u8 (0), .int .u32 (0), .int .u64 (0), .str [], .sl 5 [[.int .u64 (0),.int .u8 (0),.int .u32 (1),.int .u64 (2),.str [117]],[.int .u64 (0),.int .u8 (0),.int .u32 (1),.int .u64 (3),.str [118]]], .sl 3 []]] ⟨[], []⟩ = some [(.bool true, ⟨[], []⟩)] := by kernel_rfl
def xlib14 : CallX := tabX 97 [.agg [.int .u8 (3), .int .i64 (0), .int .u64 (0), .int .u8 (0), .int .u32 (0), .int .u64 (0), .str [], .sl 5 [[.int .u64 (0),.int .u8 (0),.int .u32 (1),.int .u64 (2),.str [117]],[.int .u64 (0),.int .u8 (0),.int .u32 (1),.int .u64 (3),.str [118]]], .sl 3 []]] (.bool true) xlib13
theorem xlibOk14 : CallOk Tryz.prog xlib14 := tabX_ok (spec_xv xpre_ok xlibOk13 xm13 rfl) xlibOk13
theorem xm14 : (xall Tryz.prog xpre xlib14 xown 1000 80).1 47 [.osl (none) 3 [[.str [97],.sl 9 [[.int .u8 (2),.int .i64 (0),.int .u64 (1),.int .u8 (0),.int .u32 (1),.int .u64 (1),.str [117],.sl 5 [],.sl 3 []]],.sl 3 []],[.str [98],.sl 9 [[.int .u8 (3),.int .i64 (0),.int .u64 (0),.int .u8 (0),.int .u32 (0),.int .u64 (0),.str [],.sl 5 [[.int .u64 (0),.int .u8 (0),.int .u32 (1),.int .u64 (2),.str [117]],[.int .u64 (0),.int .u8 (0),.int .u32 (1),.int .u64 (3),.str [118]]],.sl 3 []]],.sl 3 []]], .int .i64 (0)] ⟨[], []⟩ = some [(.bool true, ⟨[], []⟩)] := by kernel_rfl
def xlib15 : CallX := tabX 47 [.osl (none) 3 [[.str [97],.sl 9 [[.int .u8 (2),.int .i64 (0),.int .u64 (1),.int .u8 (0),.int .u32 (1),.int .u64 (1),.str [117],.sl 5 [],.sl 3 []]],.sl 3 []],[.str [98],.sl 9 [[.int .u8 (3),.int .i64 (0),.int .u64 (0),.int .u8 (0),.int .u32 (0),.int .u64 (0),.str [],.sl 5 [[.int .u64 (0),.int .u8 (0),.int .u32 (1),.int .u64 (2),.str [117]],[.int .u64 (0),.int .u8 (0),.int .u32 (1),.int .u64 (3),.str [118]]],.sl 3 []]],.sl 3 []]], .int .i64 (0)] (.bool true) xlib14
theorem xlibOk15 : CallOk Tryz.prog xlib15 := tabX_ok (spec_xv xpre_ok xlibOk14 xm14 rfl) xlibOk14
theorem xm15 : (xall Tryz.prog xpre xlib15 xown 1000 80).1 29 [.osl (none) 3 [[.str [97],.sl 9 [[.int .u8 (2),.int .i64 (0),.int .u64 (1),.int .u8 (0),.int .u32 (1),.int .u64 (1),.str [117],.sl 5 [],.sl 3 []]],.sl 3 []],[.str [98],.sl 9 [[.int .u8 (3),.int .i64 (0),.int .u64 (0),.int .u8 (0),.int .u32 (0),.int .u64 (0),.str [],.sl 5 [[.int .u64 (0),.int .u8 (0),.int .u32 (1),.int .u64 (2),.str [117]],[.int .u64 (0),.int .u8 (0),.int .u32 (1),.int .u64 (3),.str [118]]],.sl 3 []]],.sl 3 []]]] ⟨[], []⟩ = some [(.bool true, ⟨[], []⟩)] := by kernel_rfl
def xlib16 : CallX := tabX 29 [.osl (none) 3 [[.str [97],.sl 9 [[.int .u8 (2),.int .i64 (0),.int .u64 (1),.int .u8 (0),.int .u32 (1),.int .u64 (1),.str [117],.sl 5 [],.sl 3 []]],.sl 3 []],[.str [98],.sl 9 [[.int .u8 (3),.int .i64 (0),.int .u64 (0),.int .u8 (0),.int .u32 (0),.int .u64 (0),.str [],.sl 5 [[.int .u64 (0),.int .u8 (0),.int .u32 (1),.int .u64 (2),.str [117]],[.int .u64 (0),.int .u8 (0),.int .u32 (1),.int .u64 (3),.str [118]]],.sl 3 []]],.sl 3 []]]] (.bool true) xlib15
theorem xlibOk16 : CallOk Tryz.prog xlib16 := tabX_ok (spec_xv xpre_ok xlibOk15 xm15 rfl) xlibOk15
theorem xm16 : (xall Tryz.prog xpre xlib16 xown 1000 80).1 48 [.osl (none) 1 [[.str [42,42]]]] ⟨[], []⟩ = some [(.bool true, ⟨[], []⟩)] := by kernel_rfl
def xlib17 : CallX := tabX 48 [.osl (none) 1 [[.str [42,42]]]] (.bool true) xlib16
theorem xlibOk17 : CallOk Tryz.prog xlib17 := tabX_ok (spec_xv xpre_ok xlibOk16 xm16 rfl) xlibOk16
theorem xm17 : (xall Tryz.prog xpre xlib17 xown 1000 80).1 23 [.sl 1 [[.str [98]]], .sl 1 [[.str [97]]]] ⟨[], []⟩ = some [(.int .i64 (1), ⟨[], []⟩)] := by kernel_rfl
def xlib18 : CallX := tabX 23 [.sl 1 [[.str [98]]], .sl 1 [[.str [97]]]] (.int .i64 (1)) xlib17
theorem xlibOk18 : CallOk Tryz.prog xlib18 := tabX_ok (spec_xv xpre_ok xlibOk17 xm17 rfl) xlibOk17
theorem xm18 : (xall Tryz.prog xpre xlib18 xown 1000 80).1 21 [.agg [.sl 1 [[.str [98]]], .int .u8 (3)], .agg [.sl 1 [[.str [97]]], .int .u8 (2)]] ⟨[], []⟩ = some [(.int .i64 (1), ⟨[], []⟩)] := by kernel_rfl
def xlib19 : CallX := tabX 21 [.agg [.sl 1 [[.str [98]]], .int .u8 (3)], .agg [.sl 1 [[.str [97]]], .int .u8 (2)]] (.int .i64 (1)) xlib18
theorem xlibOk19 : CallOk Tryz.prog xlib19 := tabX_ok (spec_xv xpre_ok xlibOk18 xm18 rfl) xlibOk18
theorem xm19 : (xall Tryz.prog xpre xlib19 xown 1000 80).1 23 [.sl 1 [[.str [97]]], .sl 1 [[.str [98]]]] ⟨[], []⟩ = some [(.int .i64 (-1), ⟨[], []⟩)] := by kernel_rfl
def xlib20 : CallX := tabX 23 [.sl 1 [[.str [97]]], .sl 1 [[.str [98]]]] (.int .i64 (-1)) xlib19
theorem xlibOk20 : CallOk Tryz.prog xlib20 := tabX_ok (spec_xv xpre_ok xlibOk19 xm19 rfl) xlibOk19
theorem xm20 : (xall Tryz.prog xpre xlib20 xown 1000 80).1 21 [.agg [.sl 1 [[.str [97]]], .int .u8 (2)], .agg [.sl 1 [[.str [98]]], .int .u8 (3)]] ⟨[], []⟩ = some [(.int .i64 (-1), ⟨[], []⟩)] := by kernel_rfl
def xlib21 : CallX := tabX 21 [.agg [.sl 1 [[.str [97]]], .int .u8 (2)], .agg [.sl 1 [[.str [98]]], .int .u8 (3)]] (.int .i64 (-1)) xlib20
theorem xlibOk21 : CallOk Tryz.prog xlib21 := tabX_ok (spec_xv xpre_ok xlibOk20 xm20 rfl) xlibOk20
theorem xm21 : (xall Tryz.prog xpre xlib21 xown 1000 80).1 13 [.sl 2 [[.sl 1 [[.str [97]]],.int .u8 (2)],[.sl 1 [[.str [98]]],.int .u8 (3)]], .osl (none) 2 [[.sl 1 [[.str [97]]],.int .u8 (2)],[.sl 1 [[.str [98]]],.int .u8 (3)]]] ⟨[], []⟩ = some [(.bool true, ⟨[], []⟩)] := by kernel_rfl
def xlib22 : CallX := tabX 13 [.sl 2 [[.sl 1 [[.str [97]]],.int .u8 (2)],[.sl 1 [[.str [98]]],.int .u8 (3)]], .osl (none) 2 [[.sl 1 [[.str [97]]],.int .u8 (2)],[.sl 1 [[.str [98]]],.int .u8 (3)]]] (.bool true) xlib21
theorem xlibOk22 : CallOk Tryz.prog xlib22 := tabX_ok (spec_xv xpre_ok xlibOk21 xm21 rfl) xlibOk21
theorem xm22 : (xall Tryz.prog xpre xlib22 xown 1000 80).1 5 [] ⟨[], []⟩ = some [(.bool true, ⟨[], []⟩)] := by kernel_rfl
def xlib23 : CallX := tabX 5 [] (.bool true) xlib22
theorem xlibOk23 : CallOk Tryz.prog xlib23 := tabX_ok (spec_xv xpre_ok xlibOk22 xm22 rfl) xlibOk22
def xlib : CallX := xlib23
theorem xlib_ok : CallOk Tryz.prog xlib := xlibOk23
theorem x5 : (xall Tryz.prog xpre xlib xown 1000 80).1 5 [] ⟨[], []⟩ = some [(.bool true, ⟨[], []⟩)] := by kernel_rfl
theorem ok5 {res : Bool} {h : AH} (hF : law41Xknown = some res) : Spec Tryz.prog 5 [] h (fun rr hh => rr = .bool res ∧ hh = h) := by
  unfold law41Xknown at hF
  obtain rfl := Option.some.inj hF
  exact spec_x xpre_ok xlib_ok x5 rfl
/-! varve/varvelaw41.IndexNone -/
theorem ok3 {text0 : Str} {l1 : (List GEdit)} {res : Bool} {h : AH} (hh0 : h = h0) (hF : law41IndexNone text0 l1 = some res) : Spec Tryz.prog 3 [.str text0, .sl 22 (l1.map GEdit.row)] h (fun rr hh => rr = .bool res ∧ hh = h) := by
  unfold law41IndexNone at hF
  refine spec_of_body_ext Tryz.func3 rfl (by kernel_rfl) (env := [.str text0, .sl 22 (l1.map GEdit.row), aundef, aundef, aundef, aundef, aundef, aundef, aundef, aundef, aundef, aundef, aundef, aundef, aundef, aundef, aundef, aundef, aundef, aundef, aundef, aundef, aundef, aundef, aundef, aundef, aundef, aundef, aundef, aundef, aundef, aundef, aundef, aundef, aundef, aundef, aundef, aundef, aundef, aundef, aundef, aundef, aundef, aundef, aundef, aundef, aundef, aundef, aundef, aundef, aundef, aundef, aundef, aundef, aundef]) (by rfl) ?_
  refine r_seq ?_
  refine r_region ?_
  refine ops_ok rfl (s_assign rfl rfl (tyo_ok rfl)) st4 ?_
  refine ops_nil ?_
  refine q_seq ?_
  refine r_seq ?_
  refine r_seq ?_
  refine r_region ?_
  refine ops_ok rfl (s_move rfl gt0 (tyo_ok rfl)) st10 ?_
  refine ops_len rfl (s_lenStr rfl rfl rfl rfl ty9 gt10) st11 fun hn1 => ?_
  replace hn1 := lenN hn1
  refine ops_ok rfl (s_bin rfl gt11 rfl rfl) st12 ?_
  refine ops_ok rfl (s_move rfl gt12 (tyo_ok rfl)) st13 ?_
  refine ops_gv rfl (fun hb => s_move rfl gt1 (tyo_ok rfl)) st14 ?_
  refine gbindF hF (fun v2 hv2 hF => ?_)
  refine ops_gcall rfl (fun hb => s_call0 rfl rfl rfl (argo_cons (evo_gv gt14 hb) argo_nil) (.cons (tyo_ok rfl) .nil)) (fun hb => ok4 (hv2 hb)) st15 ?_
  refine ops_ok rfl (s_pick rfl gt13 rfl gt15 (pick_or (fun ht => gF ht))) st16 ?_
  refine ops_nil ?_
  refine q_seq ?_
  refine r_condF gt16 hF (fun hc3 hF => ?_) (fun hc3 hF => ?_)
  · skip
    refine r_seq ?_
    refine r_region ?_
    refine bindF hF (fun v4 hv4 hF => ?_)
    refine ops_callP rfl (s_call0 rfl rfl rfl argo_nil .nil) (ok5 hv4) st17 ?_
    refine ops_ok rfl (s_assign rfl gt17 (tyo_ok rfl)) st4 ?_
    refine ops_nil ?_
    refine q_seq ?_
    refine r_ret ?_
    refine q_seq_ret ?_
    obtain rfl := Option.some.inj hF
    refine q_retL1 rfl (rl_tmp gt4 rl_nil) (fin_ext (leV.refl _) rfl ?_)
    exact ⟨rfl, rfl⟩
  · skip
    refine r_skip ?_
    refine q_seq ?_
    subst hh0
    obtain rfl := Option.some.inj hF
    exact x_rest xpre_ok xlib_ok (own := xown) (fuel := 1000) (n := 80) (by kernel_rfl)
end Go.Vv
