/- Each function that the law reaches computes what its reading says; printed by a program. -/
import Derived.Test.YtpokpbdhelgalaaGreatVxL
import Derived.Test.YtpokpbdhelgalaaGreatVxP
import Derived.Test.YtpokpbdhelgalaaGreatVvZ
import Derived.Test.YtpokpbdhelgalaaGreatVvLb
import Derived.Test.YtpokpbdhelgalaaGreatVvMr
import Derived.Test.YtpokpbdhelgalaaGreatVvIt
import Derived.Test.YtpokpbdhelgalaaGreatVvRd
import Derived.Test.YtpokpbdhelgalaaGreatD
import Derived.Test.YtpokpbdhelgalaaGreatProg
namespace Go.Vv
open Go Go.Proofs
set_option maxRecDepth 100000
set_option maxHeartbeats 1000000
set_option linter.unusedSimpArgs false
set_option linter.unusedVariables false
section
variable {v a0 a1 a2 a3 a4 a5 a6 a7 a8 a9 a10 a11 a12 a13 a14 a15 a16 a17 a18 a19 a20 a21 a22 a23 a24 a25 a26 a27 a28 a29 a30 a31 a32 a33 a34 a35 a36 a37 a38 a39 : AV} {r q : List AV} {t : Nat}
theorem gt0 : evo (a0::r) (.tmp 0) = some a0 := rfl
theorem st0 : dso (some 0) (a0::r) v = some (v::r) := rfl
theorem gt1 : evo (a0::a1::r) (.tmp 1) = some a1 := rfl
theorem st1 : dso (some 1) (a0::a1::r) v = some (a0::v::r) := rfl
theorem gt2 : evo (a0::a1::a2::r) (.tmp 2) = some a2 := rfl
theorem st2 : dso (some 2) (a0::a1::a2::r) v = some (a0::a1::v::r) := rfl
theorem gt3 : evo (a0::a1::a2::a3::r) (.tmp 3) = some a3 := rfl
theorem st3 : dso (some 3) (a0::a1::a2::a3::r) v = some (a0::a1::a2::v::r) := rfl
theorem gt4 : evo (a0::a1::a2::a3::a4::r) (.tmp 4) = some a4 := rfl
theorem st4 : dso (some 4) (a0::a1::a2::a3::a4::r) v = some (a0::a1::a2::a3::v::r) := rfl
theorem gt5 : evo (a0::a1::a2::a3::a4::a5::r) (.tmp 5) = some a5 := rfl
theorem st5 : dso (some 5) (a0::a1::a2::a3::a4::a5::r) v = some (a0::a1::a2::a3::a4::v::r) := rfl
theorem gt6 : evo (a0::a1::a2::a3::a4::a5::a6::r) (.tmp 6) = some a6 := rfl
theorem st6 : dso (some 6) (a0::a1::a2::a3::a4::a5::a6::r) v = some (a0::a1::a2::a3::a4::a5::v::r) := rfl
theorem gt7 : evo (a0::a1::a2::a3::a4::a5::a6::a7::r) (.tmp 7) = some a7 := rfl
theorem st7 : dso (some 7) (a0::a1::a2::a3::a4::a5::a6::a7::r) v = some (a0::a1::a2::a3::a4::a5::a6::v::r) := rfl
theorem gt8 : evo (a0::a1::a2::a3::a4::a5::a6::a7::a8::r) (.tmp 8) = some a8 := rfl
theorem st8 : dso (some 8) (a0::a1::a2::a3::a4::a5::a6::a7::a8::r) v = some (a0::a1::a2::a3::a4::a5::a6::a7::v::r) := rfl
theorem gt9 : evo (a0::a1::a2::a3::a4::a5::a6::a7::a8::a9::r) (.tmp 9) = some a9 := rfl
theorem st9 : dso (some 9) (a0::a1::a2::a3::a4::a5::a6::a7::a8::a9::r) v = some (a0::a1::a2::a3::a4::a5::a6::a7::a8::v::r) := rfl
theorem gt10 : evo (a0::a1::a2::a3::a4::a5::a6::a7::a8::a9::a10::r) (.tmp 10) = some a10 := rfl
theorem st10 : dso (some 10) (a0::a1::a2::a3::a4::a5::a6::a7::a8::a9::a10::r) v = some (a0::a1::a2::a3::a4::a5::a6::a7::a8::a9::v::r) := rfl
theorem gt11 : evo (a0::a1::a2::a3::a4::a5::a6::a7::a8::a9::a10::a11::r) (.tmp 11) = some a11 := rfl
theorem st11 : dso (some 11) (a0::a1::a2::a3::a4::a5::a6::a7::a8::a9::a10::a11::r) v = some (a0::a1::a2::a3::a4::a5::a6::a7::a8::a9::a10::v::r) := rfl
theorem gt12 : evo (a0::a1::a2::a3::a4::a5::a6::a7::a8::a9::a10::a11::a12::r) (.tmp 12) = some a12 := rfl
theorem st12 : dso (some 12) (a0::a1::a2::a3::a4::a5::a6::a7::a8::a9::a10::a11::a12::r) v = some (a0::a1::a2::a3::a4::a5::a6::a7::a8::a9::a10::a11::v::r) := rfl
theorem gt13 : evo (a0::a1::a2::a3::a4::a5::a6::a7::a8::a9::a10::a11::a12::a13::r) (.tmp 13) = some a13 := rfl
theorem st13 : dso (some 13) (a0::a1::a2::a3::a4::a5::a6::a7::a8::a9::a10::a11::a12::a13::r) v = some (a0::a1::a2::a3::a4::a5::a6::a7::a8::a9::a10::a11::a12::v::r) := rfl
theorem gt14 : evo (a0::a1::a2::a3::a4::a5::a6::a7::a8::a9::a10::a11::a12::a13::a14::r) (.tmp 14) = some a14 := rfl
theorem st14 : dso (some 14) (a0::a1::a2::a3::a4::a5::a6::a7::a8::a9::a10::a11::a12::a13::a14::r) v = some (a0::a1::a2::a3::a4::a5::a6::a7::a8::a9::a10::a11::a12::a13::v::r) := rfl
theorem gt15 : evo (a0::a1::a2::a3::a4::a5::a6::a7::a8::a9::a10::a11::a12::a13::a14::a15::r) (.tmp 15) = some a15 := rfl
theorem st15 : dso (some 15) (a0::a1::a2::a3::a4::a5::a6::a7::a8::a9::a10::a11::a12::a13::a14::a15::r) v = some (a0::a1::a2::a3::a4::a5::a6::a7::a8::a9::a10::a11::a12::a13::a14::v::r) := rfl
theorem gt16 : evo (a0::a1::a2::a3::a4::a5::a6::a7::a8::a9::a10::a11::a12::a13::a14::a15::a16::r) (.tmp 16) = some a16 := rfl
theorem st16 : dso (some 16) (a0::a1::a2::a3::a4::a5::a6::a7::a8::a9::a10::a11::a12::a13::a14::a15::a16::r) v = some (a0::a1::a2::a3::a4::a5::a6::a7::a8::a9::a10::a11::a12::a13::a14::a15::v::r) := rfl
theorem gt17 : evo (a0::a1::a2::a3::a4::a5::a6::a7::a8::a9::a10::a11::a12::a13::a14::a15::a16::a17::r) (.tmp 17) = some a17 := rfl
theorem st17 : dso (some 17) (a0::a1::a2::a3::a4::a5::a6::a7::a8::a9::a10::a11::a12::a13::a14::a15::a16::a17::r) v = some (a0::a1::a2::a3::a4::a5::a6::a7::a8::a9::a10::a11::a12::a13::a14::a15::a16::v::r) := rfl
theorem gt18 : evo (a0::a1::a2::a3::a4::a5::a6::a7::a8::a9::a10::a11::a12::a13::a14::a15::a16::a17::a18::r) (.tmp 18) = some a18 := rfl
theorem st18 : dso (some 18) (a0::a1::a2::a3::a4::a5::a6::a7::a8::a9::a10::a11::a12::a13::a14::a15::a16::a17::a18::r) v = some (a0::a1::a2::a3::a4::a5::a6::a7::a8::a9::a10::a11::a12::a13::a14::a15::a16::a17::v::r) := rfl
theorem gt19 : evo (a0::a1::a2::a3::a4::a5::a6::a7::a8::a9::a10::a11::a12::a13::a14::a15::a16::a17::a18::a19::r) (.tmp 19) = some a19 := rfl
theorem st19 : dso (some 19) (a0::a1::a2::a3::a4::a5::a6::a7::a8::a9::a10::a11::a12::a13::a14::a15::a16::a17::a18::a19::r) v = some (a0::a1::a2::a3::a4::a5::a6::a7::a8::a9::a10::a11::a12::a13::a14::a15::a16::a17::a18::v::r) := rfl
theorem gt20 : evo (a0::a1::a2::a3::a4::a5::a6::a7::a8::a9::a10::a11::a12::a13::a14::a15::a16::a17::a18::a19::a20::r) (.tmp 20) = some a20 := rfl
theorem st20 : dso (some 20) (a0::a1::a2::a3::a4::a5::a6::a7::a8::a9::a10::a11::a12::a13::a14::a15::a16::a17::a18::a19::a20::r) v = some (a0::a1::a2::a3::a4::a5::a6::a7::a8::a9::a10::a11::a12::a13::a14::a15::a16::a17::a18::a19::v::r) := rfl
theorem gt21 : evo (a0::a1::a2::a3::a4::a5::a6::a7::a8::a9::a10::a11::a12::a13::a14::a15::a16::a17::a18::a19::a20::a21::r) (.tmp 21) = some a21 := rfl
theorem st21 : dso (some 21) (a0::a1::a2::a3::a4::a5::a6::a7::a8::a9::a10::a11::a12::a13::a14::a15::a16::a17::a18::a19::a20::a21::r) v = some (a0::a1::a2::a3::a4::a5::a6::a7::a8::a9::a10::a11::a12::a13::a14::a15::a16::a17::a18::a19::a20::v::r) := rfl
theorem gt22 : evo (a0::a1::a2::a3::a4::a5::a6::a7::a8::a9::a10::a11::a12::a13::a14::a15::a16::a17::a18::a19::a20::a21::a22::r) (.tmp 22) = some a22 := rfl
theorem st22 : dso (some 22) (a0::a1::a2::a3::a4::a5::a6::a7::a8::a9::a10::a11::a12::a13::a14::a15::a16::a17::a18::a19::a20::a21::a22::r) v = some (a0::a1::a2::a3::a4::a5::a6::a7::a8::a9::a10::a11::a12::a13::a14::a15::a16::a17::a18::a19::a20::a21::v::r) := rfl
theorem gt23 : evo (a0::a1::a2::a3::a4::a5::a6::a7::a8::a9::a10::a11::a12::a13::a14::a15::a16::a17::a18::a19::a20::a21::a22::a23::r) (.tmp 23) = some a23 := rfl
theorem st23 : dso (some 23) (a0::a1::a2::a3::a4::a5::a6::a7::a8::a9::a10::a11::a12::a13::a14::a15::a16::a17::a18::a19::a20::a21::a22::a23::r) v = some (a0::a1::a2::a3::a4::a5::a6::a7::a8::a9::a10::a11::a12::a13::a14::a15::a16::a17::a18::a19::a20::a21::a22::v::r) := rfl
theorem gt24 : evo (a0::a1::a2::a3::a4::a5::a6::a7::a8::a9::a10::a11::a12::a13::a14::a15::a16::a17::a18::a19::a20::a21::a22::a23::a24::r) (.tmp 24) = some a24 := rfl
theorem st24 : dso (some 24) (a0::a1::a2::a3::a4::a5::a6::a7::a8::a9::a10::a11::a12::a13::a14::a15::a16::a17::a18::a19::a20::a21::a22::a23::a24::r) v = some (a0::a1::a2::a3::a4::a5::a6::a7::a8::a9::a10::a11::a12::a13::a14::a15::a16::a17::a18::a19::a20::a21::a22::a23::v::r) := rfl
theorem gt25 : evo (a0::a1::a2::a3::a4::a5::a6::a7::a8::a9::a10::a11::a12::a13::a14::a15::a16::a17::a18::a19::a20::a21::a22::a23::a24::a25::r) (.tmp 25) = some a25 := rfl
theorem st25 : dso (some 25) (a0::a1::a2::a3::a4::a5::a6::a7::a8::a9::a10::a11::a12::a13::a14::a15::a16::a17::a18::a19::a20::a21::a22::a23::a24::a25::r) v = some (a0::a1::a2::a3::a4::a5::a6::a7::a8::a9::a10::a11::a12::a13::a14::a15::a16::a17::a18::a19::a20::a21::a22::a23::a24::v::r) := rfl
theorem gt26 : evo (a0::a1::a2::a3::a4::a5::a6::a7::a8::a9::a10::a11::a12::a13::a14::a15::a16::a17::a18::a19::a20::a21::a22::a23::a24::a25::a26::r) (.tmp 26) = some a26 := rfl
theorem st26 : dso (some 26) (a0::a1::a2::a3::a4::a5::a6::a7::a8::a9::a10::a11::a12::a13::a14::a15::a16::a17::a18::a19::a20::a21::a22::a23::a24::a25::a26::r) v = some (a0::a1::a2::a3::a4::a5::a6::a7::a8::a9::a10::a11::a12::a13::a14::a15::a16::a17::a18::a19::a20::a21::a22::a23::a24::a25::v::r) := rfl
theorem gt27 : evo (a0::a1::a2::a3::a4::a5::a6::a7::a8::a9::a10::a11::a12::a13::a14::a15::a16::a17::a18::a19::a20::a21::a22::a23::a24::a25::a26::a27::r) (.tmp 27) = some a27 := rfl
theorem st27 : dso (some 27) (a0::a1::a2::a3::a4::a5::a6::a7::a8::a9::a10::a11::a12::a13::a14::a15::a16::a17::a18::a19::a20::a21::a22::a23::a24::a25::a26::a27::r) v = some (a0::a1::a2::a3::a4::a5::a6::a7::a8::a9::a10::a11::a12::a13::a14::a15::a16::a17::a18::a19::a20::a21::a22::a23::a24::a25::a26::v::r) := rfl
theorem gt28 : evo (a0::a1::a2::a3::a4::a5::a6::a7::a8::a9::a10::a11::a12::a13::a14::a15::a16::a17::a18::a19::a20::a21::a22::a23::a24::a25::a26::a27::a28::r) (.tmp 28) = some a28 := rfl
theorem st28 : dso (some 28) (a0::a1::a2::a3::a4::a5::a6::a7::a8::a9::a10::a11::a12::a13::a14::a15::a16::a17::a18::a19::a20::a21::a22::a23::a24::a25::a26::a27::a28::r) v = some (a0::a1::a2::a3::a4::a5::a6::a7::a8::a9::a10::a11::a12::a13::a14::a15::a16::a17::a18::a19::a20::a21::a22::a23::a24::a25::a26::a27::v::r) := rfl
theorem gt29 : evo (a0::a1::a2::a3::a4::a5::a6::a7::a8::a9::a10::a11::a12::a13::a14::a15::a16::a17::a18::a19::a20::a21::a22::a23::a24::a25::a26::a27::a28::a29::r) (.tmp 29) = some a29 := rfl
theorem st29 : dso (some 29) (a0::a1::a2::a3::a4::a5::a6::a7::a8::a9::a10::a11::a12::a13::a14::a15::a16::a17::a18::a19::a20::a21::a22::a23::a24::a25::a26::a27::a28::a29::r) v = some (a0::a1::a2::a3::a4::a5::a6::a7::a8::a9::a10::a11::a12::a13::a14::a15::a16::a17::a18::a19::a20::a21::a22::a23::a24::a25::a26::a27::a28::v::r) := rfl
theorem gt30 : evo (a0::a1::a2::a3::a4::a5::a6::a7::a8::a9::a10::a11::a12::a13::a14::a15::a16::a17::a18::a19::a20::a21::a22::a23::a24::a25::a26::a27::a28::a29::a30::r) (.tmp 30) = some a30 := rfl
theorem st30 : dso (some 30) (a0::a1::a2::a3::a4::a5::a6::a7::a8::a9::a10::a11::a12::a13::a14::a15::a16::a17::a18::a19::a20::a21::a22::a23::a24::a25::a26::a27::a28::a29::a30::r) v = some (a0::a1::a2::a3::a4::a5::a6::a7::a8::a9::a10::a11::a12::a13::a14::a15::a16::a17::a18::a19::a20::a21::a22::a23::a24::a25::a26::a27::a28::a29::v::r) := rfl
theorem gt31 : evo (a0::a1::a2::a3::a4::a5::a6::a7::a8::a9::a10::a11::a12::a13::a14::a15::a16::a17::a18::a19::a20::a21::a22::a23::a24::a25::a26::a27::a28::a29::a30::a31::r) (.tmp 31) = some a31 := rfl
theorem st31 : dso (some 31) (a0::a1::a2::a3::a4::a5::a6::a7::a8::a9::a10::a11::a12::a13::a14::a15::a16::a17::a18::a19::a20::a21::a22::a23::a24::a25::a26::a27::a28::a29::a30::a31::r) v = some (a0::a1::a2::a3::a4::a5::a6::a7::a8::a9::a10::a11::a12::a13::a14::a15::a16::a17::a18::a19::a20::a21::a22::a23::a24::a25::a26::a27::a28::a29::a30::v::r) := rfl
theorem gt32 : evo (a0::a1::a2::a3::a4::a5::a6::a7::a8::a9::a10::a11::a12::a13::a14::a15::a16::a17::a18::a19::a20::a21::a22::a23::a24::a25::a26::a27::a28::a29::a30::a31::a32::r) (.tmp 32) = some a32 := rfl
theorem st32 : dso (some 32) (a0::a1::a2::a3::a4::a5::a6::a7::a8::a9::a10::a11::a12::a13::a14::a15::a16::a17::a18::a19::a20::a21::a22::a23::a24::a25::a26::a27::a28::a29::a30::a31::a32::r) v = some (a0::a1::a2::a3::a4::a5::a6::a7::a8::a9::a10::a11::a12::a13::a14::a15::a16::a17::a18::a19::a20::a21::a22::a23::a24::a25::a26::a27::a28::a29::a30::a31::v::r) := rfl
theorem gt33 : evo (a0::a1::a2::a3::a4::a5::a6::a7::a8::a9::a10::a11::a12::a13::a14::a15::a16::a17::a18::a19::a20::a21::a22::a23::a24::a25::a26::a27::a28::a29::a30::a31::a32::a33::r) (.tmp 33) = some a33 := rfl
theorem st33 : dso (some 33) (a0::a1::a2::a3::a4::a5::a6::a7::a8::a9::a10::a11::a12::a13::a14::a15::a16::a17::a18::a19::a20::a21::a22::a23::a24::a25::a26::a27::a28::a29::a30::a31::a32::a33::r) v = some (a0::a1::a2::a3::a4::a5::a6::a7::a8::a9::a10::a11::a12::a13::a14::a15::a16::a17::a18::a19::a20::a21::a22::a23::a24::a25::a26::a27::a28::a29::a30::a31::a32::v::r) := rfl
theorem gt34 : evo (a0::a1::a2::a3::a4::a5::a6::a7::a8::a9::a10::a11::a12::a13::a14::a15::a16::a17::a18::a19::a20::a21::a22::a23::a24::a25::a26::a27::a28::a29::a30::a31::a32::a33::a34::r) (.tmp 34) = some a34 := rfl
theorem st34 : dso (some 34) (a0::a1::a2::a3::a4::a5::a6::a7::a8::a9::a10::a11::a12::a13::a14::a15::a16::a17::a18::a19::a20::a21::a22::a23::a24::a25::a26::a27::a28::a29::a30::a31::a32::a33::a34::r) v = some (a0::a1::a2::a3::a4::a5::a6::a7::a8::a9::a10::a11::a12::a13::a14::a15::a16::a17::a18::a19::a20::a21::a22::a23::a24::a25::a26::a27::a28::a29::a30::a31::a32::a33::v::r) := rfl
theorem gt35 : evo (a0::a1::a2::a3::a4::a5::a6::a7::a8::a9::a10::a11::a12::a13::a14::a15::a16::a17::a18::a19::a20::a21::a22::a23::a24::a25::a26::a27::a28::a29::a30::a31::a32::a33::a34::a35::r) (.tmp 35) = some a35 := rfl
theorem st35 : dso (some 35) (a0::a1::a2::a3::a4::a5::a6::a7::a8::a9::a10::a11::a12::a13::a14::a15::a16::a17::a18::a19::a20::a21::a22::a23::a24::a25::a26::a27::a28::a29::a30::a31::a32::a33::a34::a35::r) v = some (a0::a1::a2::a3::a4::a5::a6::a7::a8::a9::a10::a11::a12::a13::a14::a15::a16::a17::a18::a19::a20::a21::a22::a23::a24::a25::a26::a27::a28::a29::a30::a31::a32::a33::a34::v::r) := rfl
theorem gt36 : evo (a0::a1::a2::a3::a4::a5::a6::a7::a8::a9::a10::a11::a12::a13::a14::a15::a16::a17::a18::a19::a20::a21::a22::a23::a24::a25::a26::a27::a28::a29::a30::a31::a32::a33::a34::a35::a36::r) (.tmp 36) = some a36 := rfl
theorem st36 : dso (some 36) (a0::a1::a2::a3::a4::a5::a6::a7::a8::a9::a10::a11::a12::a13::a14::a15::a16::a17::a18::a19::a20::a21::a22::a23::a24::a25::a26::a27::a28::a29::a30::a31::a32::a33::a34::a35::a36::r) v = some (a0::a1::a2::a3::a4::a5::a6::a7::a8::a9::a10::a11::a12::a13::a14::a15::a16::a17::a18::a19::a20::a21::a22::a23::a24::a25::a26::a27::a28::a29::a30::a31::a32::a33::a34::a35::v::r) := rfl
theorem gt37 : evo (a0::a1::a2::a3::a4::a5::a6::a7::a8::a9::a10::a11::a12::a13::a14::a15::a16::a17::a18::a19::a20::a21::a22::a23::a24::a25::a26::a27::a28::a29::a30::a31::a32::a33::a34::a35::a36::a37::r) (.tmp 37) = some a37 := rfl
theorem st37 : dso (some 37) (a0::a1::a2::a3::a4::a5::a6::a7::a8::a9::a10::a11::a12::a13::a14::a15::a16::a17::a18::a19::a20::a21::a22::a23::a24::a25::a26::a27::a28::a29::a30::a31::a32::a33::a34::a35::a36::a37::r) v = some (a0::a1::a2::a3::a4::a5::a6::a7::a8::a9::a10::a11::a12::a13::a14::a15::a16::a17::a18::a19::a20::a21::a22::a23::a24::a25::a26::a27::a28::a29::a30::a31::a32::a33::a34::a35::a36::v::r) := rfl
theorem gt38 : evo (a0::a1::a2::a3::a4::a5::a6::a7::a8::a9::a10::a11::a12::a13::a14::a15::a16::a17::a18::a19::a20::a21::a22::a23::a24::a25::a26::a27::a28::a29::a30::a31::a32::a33::a34::a35::a36::a37::a38::r) (.tmp 38) = some a38 := rfl
theorem st38 : dso (some 38) (a0::a1::a2::a3::a4::a5::a6::a7::a8::a9::a10::a11::a12::a13::a14::a15::a16::a17::a18::a19::a20::a21::a22::a23::a24::a25::a26::a27::a28::a29::a30::a31::a32::a33::a34::a35::a36::a37::a38::r) v = some (a0::a1::a2::a3::a4::a5::a6::a7::a8::a9::a10::a11::a12::a13::a14::a15::a16::a17::a18::a19::a20::a21::a22::a23::a24::a25::a26::a27::a28::a29::a30::a31::a32::a33::a34::a35::a36::a37::v::r) := rfl
theorem gt39 : evo (a0::a1::a2::a3::a4::a5::a6::a7::a8::a9::a10::a11::a12::a13::a14::a15::a16::a17::a18::a19::a20::a21::a22::a23::a24::a25::a26::a27::a28::a29::a30::a31::a32::a33::a34::a35::a36::a37::a38::a39::r) (.tmp 39) = some a39 := rfl
theorem st39 : dso (some 39) (a0::a1::a2::a3::a4::a5::a6::a7::a8::a9::a10::a11::a12::a13::a14::a15::a16::a17::a18::a19::a20::a21::a22::a23::a24::a25::a26::a27::a28::a29::a30::a31::a32::a33::a34::a35::a36::a37::a38::a39::r) v = some (a0::a1::a2::a3::a4::a5::a6::a7::a8::a9::a10::a11::a12::a13::a14::a15::a16::a17::a18::a19::a20::a21::a22::a23::a24::a25::a26::a27::a28::a29::a30::a31::a32::a33::a34::a35::a36::a37::a38::v::r) := rfl
theorem gk (h : evo r (.tmp t) = some v) : evo (a0::a1::a2::a3::a4::a5::a6::a7::a8::a9::a10::a11::a12::a13::a14::a15::a16::a17::a18::a19::a20::a21::a22::a23::a24::a25::a26::a27::a28::a29::a30::a31::a32::a33::a34::a35::a36::a37::a38::a39::r) (.tmp (t + 40)) = some v := h
theorem sk (h : dso (some t) r v = some q) : dso (some (t + 40)) (a0::a1::a2::a3::a4::a5::a6::a7::a8::a9::a10::a11::a12::a13::a14::a15::a16::a17::a18::a19::a20::a21::a22::a23::a24::a25::a26::a27::a28::a29::a30::a31::a32::a33::a34::a35::a36::a37::a38::a39::r) v = some (a0::a1::a2::a3::a4::a5::a6::a7::a8::a9::a10::a11::a12::a13::a14::a15::a16::a17::a18::a19::a20::a21::a22::a23::a24::a25::a26::a27::a28::a29::a30::a31::a32::a33::a34::a35::a36::a37::a38::a39::q) := congrArg (fun x => some (a0::a1::a2::a3::a4::a5::a6::a7::a8::a9::a10::a11::a12::a13::a14::a15::a16::a17::a18::a19::a20::a21::a22::a23::a24::a25::a26::a27::a28::a29::a30::a31::a32::a33::a34::a35::a36::a37::a38::a39::x)) (Option.some.inj h)
end

def GActor.row (x : GActor) : List AV := [.int .u8 x.rep, .int .u32 x.inc]
def GDot.row (x : GDot) : List AV := [.int .u8 x.actor.rep, .int .u32 x.actor.inc, .int .u64 x.seq]
def GItem.row (x : GItem) : List AV := [.int .u64 x.time, .int .u8 x.dot.actor.rep, .int .u32 x.dot.actor.inc, .int .u64 x.dot.seq, .str x.text]
def GLeaf.row (x : GLeaf) : List AV := [.int .u8 x.typ, .int .i64 x.n, .int .u64 x.time, .int .u8 x.dot.actor.rep, .int .u32 x.dot.actor.inc, .int .u64 x.dot.seq, .str x.text, .sl 5 (x.items.map GItem.row), .sl 3 (x.tombs.map GDot.row)]
mutual
def GNode.row : GNode → List AV
  | ⟨name, leaves, subs⟩ => [.str name, .sl 9 (leaves.map GLeaf.row), .sl 3 (GNode.rows subs)]
def GNode.rows : List GNode → List (List AV)
  | [] => []
  | x :: r => x.row :: GNode.rows r
end
theorem GNode.rows_eq (l : List GNode) : GNode.rows l = l.map GNode.row := by
  induction l with
  | nil => rfl
  | cons x r ih => simp only [GNode.rows, List.map_cons, ih]
theorem GNode.row_eq (x : GNode) : x.row = [.str x.name, .sl 9 (x.leaves.map GLeaf.row), .sl 3 (x.subs.map GNode.row)] := by
  cases x; simp only [GNode.row, GNode.rows_eq]
def GVarvelaw40Op.row (x : GVarvelaw40Op) : List AV := [.int .i64 x.kind, .int .i64 x.n, .sl 1 (x.p.map strRow), .sl 3 (x.t.map GNode.row)]
theorem el24 : El Tryz.prog 24 60 3 := mkEl Tryz.underlying24 (by kernel_rfl)
theorem mixed : Tryz.prog.follows .mixedOrders = true := by kernel_rfl
theorem fo60x0 : Fo Tryz.prog 60 0 0 9 1 := mkFo (by kernel_rfl) (by kernel_rfl)
theorem ty9 : Ty Tryz.prog 9 .string 1 := mkTy Tryz.underlying9 (by kernel_rfl)
theorem fo60x2 : Fo Tryz.prog 60 2 2 24 1 := mkFo (by kernel_rfl) (by kernel_rfl)
theorem ty24 : Ty Tryz.prog 24 (.slice 60) 1 := mkTy Tryz.underlying24 (by kernel_rfl)
theorem fo60x1 : Fo Tryz.prog 60 1 1 58 1 := mkFo (by kernel_rfl) (by kernel_rfl)
theorem ty58 : Ty Tryz.prog 58 (.slice 57) 1 := mkTy Tryz.underlying58 (by kernel_rfl)
theorem el58 : El Tryz.prog 58 57 9 := mkEl Tryz.underlying58 (by kernel_rfl)
theorem ty57 : ∃ d, Ty Tryz.prog 57 d 9 ∧ isAggD d = true := ⟨_, mkTy Tryz.underlying57 (by kernel_rfl), by kernel_rfl⟩
theorem ze57 : zeroC Tryz.prog 57 = some [.int .u8 0, .int .i64 0, .int .u64 0, .int .u8 0, .int .u32 0, .int .u64 0, .str [], .osl none 5 [], .osl none 3 []] := by kernel_rfl
theorem fo57x4 : Fo Tryz.prog 57 4 6 9 1 := mkFo (by kernel_rfl) (by kernel_rfl)
theorem fo57x6 : Fo Tryz.prog 57 6 8 55 1 := mkFo (by kernel_rfl) (by kernel_rfl)
theorem ty55 : Ty Tryz.prog 55 (.slice 53) 1 := mkTy Tryz.underlying55 (by kernel_rfl)
theorem el55 : El Tryz.prog 55 53 3 := mkEl Tryz.underlying55 (by kernel_rfl)
theorem fo57x5 : Fo Tryz.prog 57 5 7 54 1 := mkFo (by kernel_rfl) (by kernel_rfl)
theorem ty54 : Ty Tryz.prog 54 (.slice 106) 1 := mkTy Tryz.underlying54 (by kernel_rfl)
theorem el54 : El Tryz.prog 54 106 5 := mkEl Tryz.underlying54 (by kernel_rfl)
theorem fo106x2 : Fo Tryz.prog 106 2 4 9 1 := mkFo (by kernel_rfl) (by kernel_rfl)
theorem el28 : El Tryz.prog 28 26 4 := mkEl Tryz.underlying28 (by kernel_rfl)
theorem ty26 : ∃ d, Ty Tryz.prog 26 d 4 ∧ isAggD d = true := ⟨_, mkTy Tryz.underlying26 (by kernel_rfl), by kernel_rfl⟩
theorem ze26 : zeroC Tryz.prog 26 = some [.int .i64 0, .int .i64 0, .osl none 1 [], .osl none 3 []] := by kernel_rfl
theorem fo26x2 : Fo Tryz.prog 26 2 2 22 1 := mkFo (by kernel_rfl) (by kernel_rfl)
theorem ty22 : Ty Tryz.prog 22 (.slice 9) 1 := mkTy Tryz.underlying22 (by kernel_rfl)
theorem el22 : El Tryz.prog 22 9 1 := mkEl Tryz.underlying22 (by kernel_rfl)
theorem fo26x3 : Fo Tryz.prog 26 3 3 24 1 := mkFo (by kernel_rfl) (by kernel_rfl)
/-! varve/varveref07.size -/
theorem ok29N (n : Nat) : ∀ {t0 : (List GNode)} {deep1 : Int} {res : Int} {h : AH} , ref07XsizeN n t0 deep1 = some res → Spec Tryz.prog 29 [.sl 3 (t0.map GNode.row), .int .i64 deep1] h (fun rr hh => rr = .int .i64 res ∧ hh = h) := by
  induction n with
  | zero => intro t0 deep1 res h  hF; simp [ref07XsizeN] at hF
  | succ n ih =>
    intro t0 deep1 res h  hF
    unfold ref07XsizeN at hF
    refine spec_of_body_ext Tryz.func29 rfl (by kernel_rfl) (env := [.sl 3 (t0.map GNode.row), .int .i64 deep1, aundef, aundef, aundef, aundef, aundef, aundef, aundef, aundef, aundef, aundef, aundef, aundef, aundef, aundef, aundef, aundef, aundef, aundef, aundef, aundef, aundef, aundef, aundef, aundef, aundef, aundef, aundef, aundef, aundef, aundef, aundef, aundef, aundef, aundef, aundef, aundef, aundef, aundef, aundef, aundef, aundef, aundef, aundef, aundef, aundef, aundef, aundef, aundef, aundef, aundef, aundef, aundef, aundef, aundef, aundef, aundef, aundef, aundef, aundef, aundef, aundef, aundef, aundef, aundef, aundef, aundef, aundef, aundef, aundef, aundef, aundef, aundef, aundef, aundef, aundef, aundef, aundef, aundef, aundef, aundef, aundef, aundef]) (by rfl) ?_
    refine r_seq ?_
    refine r_region ?_
    refine ops_ok rfl (s_assign rfl rfl (tyo_ok rfl)) st4 ?_
    refine ops_nil ?_
    refine q_seq ?_
    refine r_seq ?_
    refine r_region ?_
    refine ops_ok rfl (s_assign rfl rfl (tyo_ok rfl)) st5 ?_
    refine ops_nil ?_
    refine q_seq ?_
    refine r_seq ?_
    refine r_seq ?_
    refine r_region ?_
    refine ops_ok rfl (s_assign rfl rfl (tyo_ok rfl)) st6 ?_
    refine ops_nil ?_
    refine q_seq ?_
    refine r_block ?_
    refine r_loopWF (fun (s1 : Int × Int) => [(2, .any), (3, .any), (4, .any), (5, .int .i64 s1.1), (6, .int .i64 s1.2), (7, .any), (8, .any), (9, .any), (10, .any), (11, .any), (12, .any), (13, .any), (14, .any), (15, .any), (16, .any), (17, .any), (18, .any), (19, .any), (20, .any), (21, .any), (22, .any), (23, .any), (24, .any), (25, .any), (26, .any), (27, .any), (28, .any), (29, .any), (30, .any), (31, .any), (32, .any), (33, .any), (34, .any), (35, .any), (36, .any), (37, .any), (38, .any), (39, .any), (40, .any), (41, .any), (42, .any), (43, .any), (44, .any), (45, .any), (46, .any), (47, .any), (48, .any), (49, .any), (50, .any), (51, .any), (52, .any), (53, .any), (54, .any), (55, .any), (56, .any), (57, .any), (58, .any), (59, .any), (60, .any), (61, .any), (62, .any), (63, .any), (64, .any), (65, .any), (66, .any), (67, .any), (68, .any), (69, .any), (70, .any), (71, .any), (72, .any), (73, .any), (74, .any), (75, .any), (76, .any), (77, .any), (78, .any), (79, .any), (80, .any), (81, .any), (82, .any), (83, .any)]) (fun s1 => h.ext [] []) hF (fun _ => by simp only [upd, List.set_cons_succ, List.set_cons_zero]; try rfl) (wk.le (by exact (.eq (.eq (.drop (.drop (.drop (.cons (leV.of_eq rfl) (.cons (leV.of_eq rfl) (.drop (.drop (.drop (.drop (.drop (.drop (.drop (.drop (.drop (.drop (.drop (.drop (.drop (.drop (.drop (.drop (.drop (.drop (.drop (.drop (.drop (.drop (.drop (.drop (.drop (.drop (.drop (.drop (.drop (.drop (.drop (.drop (.drop (.drop (.drop (.drop (.drop (.drop (.drop (.drop (.drop (.drop (.drop (.drop (.drop (.drop (.drop (.drop (.drop (.drop (.drop (.drop (.drop (.drop (.drop (.drop (.drop (.drop (.drop (.drop (.drop (.drop (.drop (.drop (.drop (.drop (.drop (.drop (.drop (.drop (.drop (.drop (.drop (.drop (.drop (.drop (.drop leL.nil)))))))))))))))))))))))))))))))))))))))))))))))))))))))))))))))))))))))))))))))))))))) ?_
    intro n1 s1 o1 hF hK1
    refine r_seq ?_
    refine r_seq ?_
    refine r_region ?_
    refine ops_ok rfl (s_move rfl gt6 (tyo_ok rfl)) st10 ?_
    refine ops_ok rfl (s_move rfl gt0 (tyo_ok rfl)) st11 ?_
    refine ops_len rfl (s_lenSl rfl rfl rfl rfl el24 gt11 lenMap) st12 fun hn66 => ?_
    replace hn66 := lenN hn66
    refine ops_ok rfl (s_bin rfl gt10 gt12 rfl) st13 ?_
    refine ops_ok rfl (s_move rfl gt13 (tyo_ok rfl)) st14 ?_
    refine ops_gv rfl (fun hb => s_move rfl gt1 (tyo_ok rfl)) st15 ?_
    refine ops_gv rfl (fun hb => s_bin rfl (evo_gv gt15 hb) rfl rfl) st16 ?_
    refine ops_ok rfl (s_pick rfl gt14 gt16 rfl (pick_and (fun ht => gT ht))) st17 ?_
    refine ops_nil ?_
    refine q_seq ?_
    refine r_condF gt17 hF (fun hc67 hF => ?_) (fun hc67 hF => ?_)
    · skip
      refine r_skip ?_
      refine q_seq ?_
      refine r_seq ?_
      refine r_block ?_
      refine r_seq ?_
      refine r_drawn [16] [] trivial mixed (by kernel_rfl) ?_
      refine draw_ok rfl rfl (s_move rfl gt5 (tyo_ok rfl)) st20 ?_
      refine draw_ok rfl rfl (s_bin rfl gt20 rfl rfl) st21 ?_
      refine draw_ok rfl rfl (s_move rfl gt0 (tyo_ok rfl)) st22 ?_
      refine draw_ok rfl rfl (s_move rfl gt6 (tyo_ok rfl)) st23 ?_
      refine bindF hF (fun y68 hy68 hF => ?_)
      refine draw_ok rfl rfl (s_idxRowE rfl el24 gt22 gt23 isl hy68 (GNode.row_eq _)) st24 ?_
      refine draw_ok rfl rfl (s_fieldAddr rfl fo60x0 gt24 rfl) st25 ?_
      refine draw_ok rfl rfl (f_load rfl ty9 gt25 (ldC_one rfl) (tyo_ok rfl)) st26 ?_
      refine draw_len rfl rfl (s_lenStr rfl rfl rfl rfl ty9 gt26) st27 ?_
      refine draw_ok rfl rfl (s_bin rfl gt21 gt27 rfl) st28 ?_
      refine draw_ok rfl rfl (s_move rfl gt0 (tyo_ok rfl)) st29 ?_
      refine draw_ok rfl rfl (s_move rfl gt6 (tyo_ok rfl)) st30 ?_
      refine bindF hF (fun y70 hy70 hF => ?_)
      refine draw_ok rfl rfl (s_idxRowE rfl el24 gt29 gt30 isl hy70 (GNode.row_eq _)) st31 ?_
      refine draw_ok rfl rfl (s_fieldAddr rfl fo60x2 gt31 rfl) st32 ?_
      refine draw_ok rfl rfl (f_load rfl ty24 gt32 (ldC_one rfl) (tyo_ok rfl)) st33 ?_
      refine draw_ok rfl rfl (s_move rfl gt1 (tyo_ok rfl)) st34 ?_
      refine draw_ok rfl rfl (s_bin rfl gt34 rfl rfl) st35 ?_
      refine bindF hF (fun v71 hv71 hF => ?_)
      refine draw_callN rfl rfl (fun _ => s_call0 rfl rfl rfl (argo_cons gt33 (argo_cons gt35 argo_nil)) (.cons (tyo_ok rfl) (.cons (tyo_ok rfl) .nil))) (by rintro _ ⟨B2, T2, rfl, hk2⟩; exact ih hv71) st36 ?_
      refine draw_ok rfl rfl (s_bin rfl gt28 gt36 rfl) st37 ?_
      refine draw_ok rfl rfl (s_assign rfl gt37 (tyo_ok rfl)) st5 ?_
      refine draw_nil ?_
      refine q_seq ?_
      refine r_seq ?_
      refine r_region ?_
      refine ops_ok rfl (s_assign rfl rfl (tyo_ok rfl)) st7 ?_
      refine ops_nil ?_
      refine q_seq ?_
      refine r_block ?_
      refine r_loopWF (fun (s2 : Int × Int) => [(2, .any), (3, .any), (4, .any), (5, .int .i64 s2.1), (7, .int .i64 s2.2), (8, .any), (9, .any), (10, .any), (11, .any), (12, .any), (13, .any), (14, .any), (15, .any), (16, .any), (17, .any), (18, .any), (19, .any), (20, .any), (21, .any), (22, .any), (23, .any), (24, .any), (25, .any), (26, .any), (27, .any), (28, .any), (29, .any), (30, .any), (31, .any), (32, .any), (33, .any), (34, .any), (35, .any), (36, .any), (37, .any), (38, .any), (39, .any), (40, .any), (41, .any), (42, .any), (43, .any), (44, .any), (45, .any), (46, .any), (47, .any), (48, .any), (49, .any), (50, .any), (51, .any), (52, .any), (53, .any), (54, .any), (55, .any), (56, .any), (57, .any), (58, .any), (59, .any), (60, .any), (61, .any), (62, .any), (63, .any), (64, .any), (65, .any), (66, .any), (67, .any), (68, .any), (69, .any), (70, .any), (71, .any), (72, .any), (73, .any), (74, .any), (75, .any), (76, .any), (77, .any), (78, .any), (79, .any), (80, .any), (81, .any), (82, .any), (83, .any)]) (fun s2 => h.ext [] []) hF (fun _ => by simp only [upd, List.set_cons_succ, List.set_cons_zero]; try rfl) (wk.le (by exact (.eq (.eq (.drop (.drop (.drop (.cons (leV.of_eq rfl) (.eq (.cons (leV.of_eq rfl) (.drop (.drop (.drop (.drop (.drop (.drop (.drop (.drop (.drop (.drop (.drop (.drop (.drop (.drop (.drop (.drop (.drop (.drop (.drop (.drop (.drop (.drop (.drop (.drop (.drop (.drop (.drop (.drop (.drop (.drop (.drop (.drop (.drop (.drop (.drop (.drop (.drop (.drop (.drop (.drop (.drop (.drop (.drop (.drop (.drop (.drop (.drop (.drop (.drop (.drop (.drop (.drop (.drop (.drop (.drop (.drop (.drop (.drop (.drop (.drop (.drop (.drop (.drop (.drop (.drop (.drop (.drop (.drop (.drop (.drop (.drop (.drop (.drop (.drop (.drop (.drop leL.nil)))))))))))))))))))))))))))))))))))))))))))))))))))))))))))))))))))))))))))))))))))))) ?_
      intro n2 s2 o2 hF hK2
      refine r_seq ?_
      refine r_seq ?_
      refine r_region ?_
      refine ops_ok rfl (s_move rfl gt7 (tyo_ok rfl)) st38 ?_
      refine ops_ok rfl (s_move rfl gt0 (tyo_ok rfl)) st39 ?_
      refine ops_ok rfl (s_move rfl gt6 (tyo_ok rfl)) (sk st0) ?_
      refine bindF hF (fun y102 hy102 hF => ?_)
      refine ops_ok rfl (s_idxRowE rfl el24 gt39 (gk gt0) isl hy102 (GNode.row_eq _)) (sk st1) ?_
      refine ops_ok rfl (s_fieldAddr rfl fo60x1 (gk gt1) rfl) (sk st2) ?_
      refine ops_ok rfl (f_load rfl ty58 (gk gt2) (ldC_one rfl) (tyo_ok rfl)) (sk st3) ?_
      refine ops_len rfl (s_lenSl rfl rfl rfl rfl el58 (gk gt3) lenMap) (sk st4) fun hn103 => ?_
      replace hn103 := lenN hn103
      refine ops_ok rfl (s_bin rfl gt38 (gk gt4) rfl) (sk st5) ?_
      refine ops_nil ?_
      refine q_seq ?_
      refine r_condF (gk gt5) hF (fun hc104 hF => ?_) (fun hc104 hF => ?_)
      · skip
        refine r_skip ?_
        refine q_seq ?_
        refine r_seq ?_
        refine r_block ?_
        refine r_seq ?_
        refine r_region ?_
        refine ops_ok rfl (s_move rfl gt0 (tyo_ok rfl)) (sk st8) ?_
        refine ops_ok rfl (s_move rfl gt6 (tyo_ok rfl)) (sk st9) ?_
        refine bindF hF (fun y105 hy105 hF => ?_)
        refine ops_ok rfl (s_idxRowE rfl el24 (gk gt8) (gk gt9) isl hy105 (GNode.row_eq _)) (sk st10) ?_
        refine ops_ok rfl (s_fieldAddr rfl fo60x1 (gk gt10) rfl) (sk st11) ?_
        refine ops_ok rfl (f_load rfl ty58 (gk gt11) (ldC_one rfl) (tyo_ok rfl)) (sk st12) ?_
        refine ops_ok rfl (s_move rfl gt7 (tyo_ok rfl)) (sk st13) ?_
        refine bindF hF (fun y106 hy106 hF => ?_)
        refine ops_ok rfl (s_idxRow rfl el58 (gk gt12) (gk gt13) isl hy106) (sk st14) ?_
        refine ops_ok rfl (f_load rfl ty57.choose_spec.1 (gk gt14) (ldC_agX (cs' := [.int .u8 y106.typ, .int .i64 y106.n, .int .u64 y106.time, .int .u8 y106.dot.actor.rep, .int .u32 y106.dot.actor.inc, .int .u64 y106.dot.seq, .str y106.text, .sl 5 (y106.items.map GItem.row), .sl 3 (y106.tombs.map GDot.row)]) ty57.choose_spec.2 rfl rfl) (tyo_ok rfl)) (sk st15) ?_
        refine ops_ok rfl (e_alloc (n := 0) rfl ze57 rfl) st8 ?_
        refine ops_ok rfl (e_store (cs' := [.int .u8 y106.typ, .int .i64 y106.n, .int .u64 y106.time, .int .u8 y106.dot.actor.rep, .int .u32 y106.dot.actor.inc, .int .u64 y106.dot.seq, .str y106.text, .sl 5 (y106.items.map GItem.row), .sl 3 (y106.tombs.map GDot.row)]) rfl ty57.choose_spec.1 gt8 (gk gt15) (tyo_ok rfl) rfl rfl rfl rfl rfl) rfl ?_
        refine ops_nil ?_
        refine q_seq ?_
        refine r_seq ?_
        refine r_region ?_
        refine ops_ok rfl (s_move rfl gt5 (tyo_ok rfl)) (sk st16) ?_
        refine ops_ok rfl (s_bin rfl (gk gt16) rfl rfl) (sk st17) ?_
        refine ops_ok rfl (s_fieldAddr rfl fo57x4 gt8 rfl) (sk st18) ?_
        refine ops_ok rfl (e_load rfl ty9 (gk gt18) rfl (ldC_one rfl) (tyo_ok rfl)) (sk st19) ?_
        refine ops_len rfl (s_lenStr rfl rfl rfl rfl ty9 (gk gt19)) (sk st20) fun hn107 => ?_
        replace hn107 := lenN hn107
        refine ops_ok rfl (s_bin rfl (gk gt17) (gk gt20) rfl) (sk st21) ?_
        refine ops_ok rfl (s_fieldAddr rfl fo57x6 gt8 rfl) (sk st22) ?_
        refine ops_ok rfl (e_load rfl ty55 (gk gt22) rfl (ldC_one rfl) (tyo_ok rfl)) (sk st23) ?_
        refine ops_len rfl (s_lenSl rfl rfl rfl rfl el55 (gk gt23) lenMap) (sk st24) fun hn108 => ?_
        replace hn108 := lenN hn108
        refine ops_ok rfl (s_bin rfl (gk gt21) (gk gt24) rfl) (sk st25) ?_
        refine ops_ok rfl (s_assign rfl (gk gt25) (tyo_ok rfl)) st5 ?_
        refine ops_nil ?_
        refine q_seq ?_
        refine r_seq ?_
        refine r_region ?_
        refine ops_ok rfl (s_assign rfl rfl (tyo_ok rfl)) st9 ?_
        refine ops_nil ?_
        refine q_seq ?_
        refine r_block ?_
        refine r_loopLF (fun (n3 : Nat) (s3 : Int) => [(2, .any), (3, .any), (4, .any), (5, .int .i64 s3), (9, .int .i64 (n3 : Int)), (10, .any), (11, .any), (12, .any), (13, .any), (14, .any), (15, .any), (16, .any), (17, .any), (18, .any), (19, .any), (20, .any), (21, .any), (22, .any), (23, .any), (24, .any), (25, .any), (26, .any), (27, .any), (28, .any), (29, .any), (30, .any), (31, .any), (32, .any), (33, .any), (34, .any), (35, .any), (36, .any), (37, .any), (38, .any), (39, .any), (40, .any), (41, .any), (42, .any), (43, .any), (44, .any), (45, .any), (46, .any), (47, .any), (48, .any), (49, .any), (50, .any), (51, .any), (52, .any), (53, .any), (54, .any), (55, .any), (56, .any), (57, .any), (58, .any), (59, .any), (60, .any), (61, .any), (62, .any), (63, .any), (64, .any), (65, .any), (66, .any), (67, .any), (68, .any), (69, .any), (70, .any), (71, .any), (72, .any), (73, .any), (74, .any), (75, .any), (76, .any), (77, .any), (78, .any), (79, .any), (80, .any), (81, .any), (82, .any), (83, .any)]) (fun s3 => h.ext [.cells [.int .u8 y106.typ, .int .i64 y106.n, .int .u64 y106.time, .int .u8 y106.dot.actor.rep, .int .u32 y106.dot.actor.inc, .int .u64 y106.dot.seq, .str y106.text, .sl 5 (y106.items.map GItem.row), .sl 3 (y106.tombs.map GDot.row)]] []) hF (fun _ _ => by simp only [upd, List.set_cons_succ, List.set_cons_zero]; try rfl) (wk.le (by exact (.eq (.eq (.drop (.drop (.drop (.cons (leV.of_eq rfl) (.eq (.eq (.eq (.cons (leV.of_eq rfl) (.drop (.drop (.drop (.drop (.drop (.drop (.drop (.drop (.drop (.drop (.drop (.drop (.drop (.drop (.drop (.drop (.drop (.drop (.drop (.drop (.drop (.drop (.drop (.drop (.drop (.drop (.drop (.drop (.drop (.drop (.drop (.drop (.drop (.drop (.drop (.drop (.drop (.drop (.drop (.drop (.drop (.drop (.drop (.drop (.drop (.drop (.drop (.drop (.drop (.drop (.drop (.drop (.drop (.drop (.drop (.drop (.drop (.drop (.drop (.drop (.drop (.drop (.drop (.drop (.drop (.drop (.drop (.drop (.drop (.drop (.drop (.drop (.drop (.drop leL.nil)))))))))))))))))))))))))))))))))))))))))))))))))))))))))))))))))))))))))))))))))))))) ?_
        intro n3 s3 hi3 hF
        refine r_seq ?_
        refine r_seq ?_
        refine r_region ?_
        refine ops_ok rfl (s_move rfl gt9 (tyo_ok rfl)) (sk st26) ?_
        refine ops_ok rfl (s_fieldAddr rfl fo57x5 gt8 rfl) (sk st27) ?_
        refine ops_ok rfl (e_load rfl ty54 (gk gt27) rfl (ldC_one rfl) (tyo_ok rfl)) (sk st28) ?_
        refine ops_len rfl (s_lenSl rfl rfl rfl rfl el54 (gk gt28) lenMap) (sk st29) fun hn125 => ?_
        replace hn125 := lenN hn125
        refine ops_ok rfl (s_bin rfl (gk gt26) (gk gt29) rfl) (sk st30) ?_
        refine ops_nil ?_
        refine q_seq ?_
        refine r_condL (gk gt30) hF (fun x3 o3 hl3 hx3 hF hK3 => ?_) (fun hF => ?_)
        · skip
          refine r_skip ?_
          refine q_seq ?_
          refine r_seq ?_
          refine r_block ?_
          refine r_region ?_
          refine ops_ok rfl (s_move rfl gt5 (tyo_ok rfl)) (sk st33) ?_
          refine ops_ok rfl (s_bin rfl (gk gt33) rfl rfl) (sk st34) ?_
          refine ops_ok rfl (s_fieldAddr rfl fo57x5 gt8 rfl) (sk st35) ?_
          refine ops_ok rfl (e_load rfl ty54 (gk gt35) rfl (ldC_one rfl) (tyo_ok rfl)) (sk st36) ?_
          refine ops_ok rfl (s_move rfl gt9 (tyo_ok rfl)) (sk st37) ?_
          refine ops_ok rfl (s_idxRow rfl el54 (gk gt36) (gk gt37) isl (idx_of hx3)) (sk st38) ?_
          refine ops_ok rfl (s_fieldAddr rfl fo106x2 (gk gt38) rfl) (sk st39) ?_
          refine ops_ok rfl (f_load rfl ty9 (gk gt39) (ldC_one rfl) (tyo_ok rfl)) (sk (sk st0)) ?_
          refine ops_len rfl (s_lenStr rfl rfl rfl rfl ty9 (gk (gk gt0))) (sk (sk st1)) fun hn126 => ?_
          replace hn126 := lenN hn126
          refine ops_ok rfl (s_bin rfl (gk gt34) (gk (gk gt1)) rfl) (sk (sk st2)) ?_
          refine ops_ok rfl (s_assign rfl (gk (gk gt2)) (tyo_ok rfl)) st5 ?_
          refine ops_nil ?_
          refine q_block ?_
          refine q_seq ?_
          refine r_region ?_
          refine ops_ok rfl (s_move rfl gt9 (tyo_ok rfl)) (sk st31) ?_
          refine ops_ok rfl (s_bin rfl (gk gt31) rfl rfl) (sk st32) ?_
          refine ops_ok rfl (s_assign rfl (gk gt32) (tyo_ok rfl)) st9 ?_
          refine ops_nil ?_
          refine q_loop ?_
          obtain rfl := Option.some.inj hF
          exact ⟨(IntKind.wrap .i64 ((IntKind.wrap .i64 (s3 + (1 : Int))) + ((x3.text).length : Int))), hl3, hK3, wk.le (by exact (.eq (.eq (.drop (.drop (.drop (.cons (leV.of_eq rfl) (.eq (.eq (.eq (.cons (leV.of_eq (w64e (by omega) (by omega))) (.drop (.drop (.drop (.drop (.drop (.drop (.drop (.drop (.drop (.drop (.drop (.drop (.drop (.drop (.drop (.drop (.drop (.drop (.drop (.drop (.drop (.drop (.drop (.drop (.drop (.drop (.drop (.drop (.drop (.drop (.drop (.drop (.drop (.drop (.drop (.drop (.drop (.drop (.drop (.drop (.drop (.drop (.drop (.drop (.drop (.drop (.drop (.drop (.drop (.drop (.drop (.drop (.drop (.drop (.drop (.drop (.drop (.drop (.drop (.drop (.drop (.drop (.drop (.drop (.drop (.drop (.drop (.drop (.drop (.drop (.drop (.drop (.drop (.drop leL.nil)))))))))))))))))))))))))))))))))))))))))))))))))))))))))))))))))))))))))))))))))))))⟩
        · skip
          refine r_exit ?_
          refine q_seq_exit ?_
          refine q_loop_exit ?_
          refine q_block_hit ?_
          refine q_block ?_
          refine q_seq ?_
          refine r_region ?_
          refine ops_ok rfl (s_move rfl gt7 (tyo_ok rfl)) (sk st6) ?_
          refine ops_ok rfl (s_bin rfl (gk gt6) rfl rfl) (sk st7) ?_
          refine ops_ok rfl (s_assign rfl (gk gt7) (tyo_ok rfl)) st7 ?_
          refine ops_nil ?_
          refine q_loop ?_
          obtain rfl := Option.some.inj hF
          exact ⟨(s3, (IntKind.wrap .i64 (s2.2 + (1 : Int)))), hK2, wk.trans (wk.le (by exact (.eq (.eq (.drop (.drop (.drop (.cons (leV.of_eq rfl) (.eq (.cons (leV.of_eq rfl) (.drop (.drop (.drop (.drop (.drop (.drop (.drop (.drop (.drop (.drop (.drop (.drop (.drop (.drop (.drop (.drop (.drop (.drop (.drop (.drop (.drop (.drop (.drop (.drop (.drop (.drop (.drop (.drop (.drop (.drop (.drop (.drop (.drop (.drop (.drop (.drop (.drop (.drop (.drop (.drop (.drop (.drop (.drop (.drop (.drop (.drop (.drop (.drop (.drop (.drop (.drop (.drop (.drop (.drop (.drop (.drop (.drop (.drop (.drop (.drop (.drop (.drop (.drop (.drop (.drop (.drop (.drop (.drop (.drop (.drop (.drop (.drop (.drop (.drop (.drop (.drop leL.nil)))))))))))))))))))))))))))))))))))))))))))))))))))))))))))))))))))))))))))))))))))))) (wk_ext3 (by simp [lowL, AV.low]) rfl rfl (by simp [Blk.low, lowL, AV.low]))⟩
      · skip
        refine r_exit ?_
        refine q_seq_exit ?_
        refine q_loop_exit ?_
        obtain rfl := Option.some.inj hF
        replace hF := hK2
        refine q_block_hit ?_
        refine q_block ?_
        refine q_seq ?_
        refine r_region ?_
        refine ops_ok rfl (s_move rfl gt6 (tyo_ok rfl)) st18 ?_
        refine ops_ok rfl (s_bin rfl gt18 rfl rfl) st19 ?_
        refine ops_ok rfl (s_assign rfl gt19 (tyo_ok rfl)) st6 ?_
        refine ops_nil ?_
        refine q_loop ?_
        obtain rfl := Option.some.inj hF
        exact ⟨(s2.1, (IntKind.wrap .i64 (s1.2 + (1 : Int)))), hK1, wk.le (by exact (.eq (.eq (.drop (.drop (.drop (.cons (leV.of_eq rfl) (.cons (leV.of_eq rfl) (.drop (.drop (.drop (.drop (.drop (.drop (.drop (.drop (.drop (.drop (.drop (.drop (.drop (.drop (.drop (.drop (.drop (.drop (.drop (.drop (.drop (.drop (.drop (.drop (.drop (.drop (.drop (.drop (.drop (.drop (.drop (.drop (.drop (.drop (.drop (.drop (.drop (.drop (.drop (.drop (.drop (.drop (.drop (.drop (.drop (.drop (.drop (.drop (.drop (.drop (.drop (.drop (.drop (.drop (.drop (.drop (.drop (.drop (.drop (.drop (.drop (.drop (.drop (.drop (.drop (.drop (.drop (.drop (.drop (.drop (.drop (.drop (.drop (.drop (.drop (.drop (.drop leL.nil)))))))))))))))))))))))))))))))))))))))))))))))))))))))))))))))))))))))))))))))))))))⟩
    · skip
      refine r_exit ?_
      refine q_seq_exit ?_
      refine q_loop_exit ?_
      obtain rfl := Option.some.inj hF
      replace hF := hK1
      refine q_block_hit ?_
      refine q_seq ?_
      refine r_seq ?_
      refine r_region ?_
      refine ops_ok rfl (s_move rfl gt5 (tyo_ok rfl)) (sk (sk st3)) ?_
      refine ops_ok rfl (s_assign rfl (gk (gk gt3)) (tyo_ok rfl)) st4 ?_
      refine ops_nil ?_
      refine q_seq ?_
      refine r_ret ?_
      obtain rfl := Option.some.inj hF
      refine q_retL1 rfl (rl_tmp gt4 rl_nil) (fin_ext (leV.refl _) rfl ?_)
      exact ⟨rfl, rfl⟩
theorem ok29 {t0 : (List GNode)} {deep1 : Int} {res : Int} {h : AH}  (hF : ref07Xsize t0 deep1 = some res) : Spec Tryz.prog 29 [.sl 3 (t0.map GNode.row), .int .i64 deep1] h (fun rr hh => rr = .int .i64 res ∧ hh = h) := by
  obtain ⟨n, hn⟩ := anyN_is hF
  exact ok29N n  hn
/-! varve/varveref07.Great -/
theorem ok13 {t0 : (List GNode)} {res : Bool} {h : AH}  (hF : ref07Great t0 = some res) : Spec Tryz.prog 13 [.sl 3 (t0.map GNode.row)] h (fun rr hh => rr = .bool res ∧ hh = h) := by
  unfold ref07Great at hF
  refine spec_of_body_ext Tryz.func13 rfl (by kernel_rfl) (env := [.sl 3 (t0.map GNode.row), aundef, aundef, aundef, aundef, aundef]) (by rfl) ?_
  refine r_seq ?_
  refine r_region ?_
  refine ops_ok rfl (s_assign rfl rfl (tyo_ok rfl)) st2 ?_
  refine ops_nil ?_
  refine q_seq ?_
  refine r_seq ?_
  refine r_region ?_
  refine ops_ok rfl (s_move rfl gt0 (tyo_ok rfl)) st3 ?_
  refine bindF hF (fun v1 hv1 hF => ?_)
  refine ops_callP rfl (s_call0 rfl rfl rfl (argo_cons gt3 (argo_cons rfl argo_nil)) (.cons (tyo_ok rfl) (.cons (tyo_ok rfl) .nil))) (ok29 hv1) st4 ?_
  refine ops_ok rfl (s_bin rfl gt4 rfl rfl) st5 ?_
  refine ops_ok rfl (s_assign rfl gt5 (tyo_ok rfl)) st2 ?_
  refine ops_nil ?_
  refine q_seq ?_
  refine r_ret ?_
  obtain rfl := Option.some.inj hF
  refine q_retL1 rfl (rl_tmp gt2 rl_nil) (fin_ext (leV.refl _) rfl ?_)
  exact ⟨rfl, rfl⟩
/-! varve/varvelaw40.great -/
theorem ok4 {l0 : (List GVarvelaw40Op)} {res : Bool} {h : AH}  (hF : law40Xgreat l0 = some res) : Spec Tryz.prog 4 [.sl 4 (l0.map GVarvelaw40Op.row)] h (fun rr hh => rr = .bool res ∧ hh = h) := by
  unfold law40Xgreat at hF
  refine spec_of_body_ext Tryz.func4 rfl (by kernel_rfl) (env := [.sl 4 (l0.map GVarvelaw40Op.row), aundef, aundef, aundef, aundef, aundef, aundef, aundef, aundef, aundef, aundef, aundef, aundef, aundef, aundef, aundef, aundef, aundef, aundef, aundef, aundef, aundef, aundef, aundef]) (by rfl) ?_
  refine r_seq ?_
  refine r_region ?_
  refine ops_ok rfl (s_assign rfl rfl (tyo_ok rfl)) st2 ?_
  refine ops_nil ?_
  refine q_seq ?_
  refine r_seq ?_
  refine r_seq ?_
  refine r_region ?_
  refine ops_ok rfl (s_move rfl gt0 (tyo_ok rfl)) st5 ?_
  refine ops_len rfl (s_lenSl rfl rfl rfl rfl el28 gt5 lenMap) st6 fun hn1 => ?_
  replace hn1 := lenN hn1
  refine ops_ok rfl (s_move rfl rfl (tyo_ok rfl)) st7 ?_
  refine ops_nil ?_
  refine q_seq ?_
  refine r_block ?_
  refine r_loopLF (fun (n1 : Nat) (s1 : Unit) => [(1, .any), (2, .any), (3, .any), (4, .any), (7, .int .i64 (n1 : Int)), (8, .any), (9, .any), (10, .any), (11, .any), (12, .any), (13, .any), (14, .any), (15, .any), (16, .any), (17, .any), (18, .any), (19, .any), (20, .any), (21, .any), (22, .any), (23, .any)]) (fun s1 => h.ext [] []) hF (fun _ _ => by simp only [upd, List.set_cons_succ, List.set_cons_zero]; try rfl) (wk.le (by exact (.eq (.drop (.drop (.drop (.drop (.eq (.eq (.cons (leV.of_eq rfl) (.drop (.drop (.drop (.drop (.drop (.drop (.drop (.drop (.drop (.drop (.drop (.drop (.drop (.drop (.drop (.drop leL.nil)))))))))))))))))))))))))) ?_
  intro n1 s1 hi1 hF
  refine r_seq ?_
  refine r_region ?_
  refine ops_ok rfl (s_bin rfl gt7 gt6 rfl) st8 ?_
  refine ops_nil ?_
  refine q_seq ?_
  refine r_seq ?_
  refine r_condL gt8 hF (fun x1 o1 hl1 hx1 hF hK1 => ?_) (fun hF => ?_)
  · skip
    refine r_skip ?_
    refine q_seq ?_
    refine r_seq ?_
    refine r_block ?_
    refine r_seq ?_
    refine r_region ?_
    refine ops_ok rfl (s_idxRow rfl el28 gt5 gt7 isl (idx_of hx1)) st9 ?_
    refine ops_ok rfl (f_load rfl ty26.choose_spec.1 gt9 (ldC_agX (cs' := [.int .i64 x1.kind, .int .i64 x1.n, .sl 1 (x1.p.map strRow), .sl 3 (x1.t.map GNode.row)]) ty26.choose_spec.2 rfl rfl) (tyo_ok rfl)) st10 ?_
    refine ops_ok rfl (e_alloc (n := 0) rfl ze26 rfl) st4 ?_
    refine ops_ok rfl (e_store (cs' := [.int .i64 x1.kind, .int .i64 x1.n, .sl 1 (x1.p.map strRow), .sl 3 (x1.t.map GNode.row)]) rfl ty26.choose_spec.1 gt4 gt10 (tyo_ok rfl) rfl rfl rfl rfl rfl) rfl ?_
    refine ops_nil ?_
    refine q_seq ?_
    refine r_seq ?_
    refine r_region ?_
    refine ops_ok rfl (s_fieldAddr rfl fo26x2 gt4 rfl) st11 ?_
    refine ops_ok rfl (e_load rfl ty22 gt11 rfl (ldC_one rfl) (tyo_ok rfl)) st12 ?_
    refine ops_len rfl (s_lenSl rfl rfl rfl rfl el22 gt12 lenMap) st13 fun hn8 => ?_
    replace hn8 := lenN hn8
    refine ops_ok rfl (s_bin rfl gt13 rfl rfl) st14 ?_
    refine ops_ok rfl (s_move rfl gt14 (tyo_ok rfl)) st15 ?_
    refine ops_gv rfl (fun hb => s_fieldAddr rfl fo26x3 gt4 rfl) st16 ?_
    refine ops_gv rfl (fun hb => e_load rfl ty24 (evo_gv gt16 hb) rfl (ldC_one rfl) (tyo_ok rfl)) st17 ?_
    refine gbindF hF (fun v9 hv9 hF => ?_)
    refine ops_gcall rfl (fun hb => s_call0 rfl rfl rfl (argo_cons (evo_gv gt17 hb) argo_nil) (.cons (tyo_ok rfl) .nil)) (fun hb => ok13 (hv9 hb)) st18 ?_
    refine ops_ok rfl (s_pick rfl gt15 rfl gt18 (pick_or (fun ht => gF ht))) st19 ?_
    refine ops_nil ?_
    refine q_seq ?_
    refine r_condF gt19 hF (fun hc10 hF => ?_) (fun hc10 hF => ?_)
    · skip
      refine r_seq ?_
      refine r_region ?_
      refine ops_ok rfl (s_assign rfl rfl (tyo_ok rfl)) st2 ?_
      refine ops_nil ?_
      refine q_seq ?_
      refine r_ret ?_
      refine q_block_ret ?_
      refine q_seq_ret ?_
      refine q_loop_ret ?_
      obtain rfl := Option.some.inj hF
      replace hF := hK1
      refine q_block_ret ?_
      refine q_seq_ret ?_
      obtain rfl := Option.some.inj hF
      refine q_retL1 rfl (rl_tmp gt2 rl_nil) (fin_ext (leV.refl _) rfl ?_)
      exact ⟨rfl, rfl⟩
    · skip
      refine r_skip ?_
      refine q_block ?_
      refine q_seq ?_
      refine r_region ?_
      refine ops_ok rfl (s_bin rfl gt7 rfl rfl) st20 ?_
      refine ops_ok rfl (s_move rfl gt20 (tyo_ok rfl)) st7 ?_
      refine ops_nil ?_
      refine q_loop ?_
      obtain rfl := Option.some.inj hF
      exact ⟨(), hl1, hK1, wk.trans (wk.le (by exact (.eq (.drop (.drop (.drop (.drop (.eq (.eq (.cons (leV.of_eq (w64e (by omega) (by omega))) (.drop (.drop (.drop (.drop (.drop (.drop (.drop (.drop (.drop (.drop (.drop (.drop (.drop (.drop (.drop (.drop leL.nil)))))))))))))))))))))))))) (wk_ext3 (by simp [lowL, AV.low]) rfl rfl (by simp [Blk.low, lowL, AV.low]))⟩
  · skip
    refine r_exit ?_
    refine q_seq_exit ?_
    refine q_loop_exit ?_
    refine q_block_hit ?_
    refine q_seq ?_
    refine r_seq ?_
    refine r_region ?_
    refine ops_ok rfl (s_move rfl gt0 (tyo_ok rfl)) st21 ?_
    refine ops_len rfl (s_lenSl rfl rfl rfl rfl el28 gt21 lenMap) st22 fun hn11 => ?_
    replace hn11 := lenN hn11
    refine ops_ok rfl (s_bin rfl gt22 rfl rfl) st23 ?_
    refine ops_ok rfl (s_assign rfl gt23 (tyo_ok rfl)) st2 ?_
    refine ops_nil ?_
    refine q_seq ?_
    refine r_ret ?_
    obtain rfl := Option.some.inj hF
    refine q_retL1 rfl (rl_tmp gt2 rl_nil) (fin_ext (leV.refl _) rfl ?_)
    exact ⟨rfl, rfl⟩
/-! varve/varvelaw40.known -/
def xpre : Pre := nopre
theorem xpre_ok : PreOk xpre := nopre_ok
def mc27TryzRen : Go.Shelf.Ren :=
  { f := fun x => match x with
      | 5 => 27
      | 7 => 45
      | n => n
    t := fun x => match x with
      | 4 => 4
      | 20 => 20
      | 23 => 30
      | 25 => 3
      | 3 => 68
      | n => n
    g := fun n => n }
theorem mc27TryzLays : Go.Proofs.SlLaysW.n5 Tryz.prog mc27TryzRen where
  mixed := by kernel_rfl
  f5 := ⟨Tryz.f27.name, by kernel_rfl, Tryz.func27.trans (by kernel_rfl)⟩
  f7 := Tryz.func45.trans (by kernel_rfl)
  t4 := Tryz.underlying4
  a4 := Tryz.isAgg4
  z4 := Tryz.sizeOf4
  v4 := Tryz.zeroValue4
  t20 := Tryz.underlying20
  a20 := Tryz.isAgg20
  z20 := Tryz.sizeOf20
  v20 := Tryz.zeroValue20
  t23 := Tryz.underlying30
  a23 := Tryz.isAgg30
  z23 := Tryz.sizeOf30
  v23 := Tryz.zeroValue30
def joinTryzRen : Go.Shelf.Ren :=
  { f := fun x => match x with
      | 156 => 53
      | 165 => 69
      | 166 => 70
      | 169 => 71
      | 240 => 96
      | 241 => 97
      | 276 => 119
      | 277 => 120
      | n => n
    t := fun x => match x with
      | 0 => 0
      | 3 => 3
      | 4 => 4
      | 9 => 9
      | 20 => 20
      | 31 => 22
      | 37 => 116
      | 70 => 130
      | 72 => 132
      | 75 => 135
      | 76 => 136
      | 127 => 160
      | 164 => 179
      | 5 => 5
      | 80 => 138
      | n => n
    g := fun n => n }
theorem joinTryzLays : Go.Proofs.Lays.n156 Tryz.prog joinTryzRen where
  mixed := by kernel_rfl
  f156 := Tryz.func53.trans (by kernel_rfl)
  f165 := Tryz.func69.trans (by kernel_rfl)
  f166 := Tryz.func70.trans (by kernel_rfl)
  f169 := Tryz.func71.trans (by kernel_rfl)
  f240 := Tryz.func96.trans (by kernel_rfl)
  f241 := Tryz.func97.trans (by kernel_rfl)
  f276 := Tryz.func119.trans (by kernel_rfl)
  f277 := Tryz.func120.trans (by kernel_rfl)
  t0 := Tryz.underlying0
  a0 := Tryz.isAgg0
  z0 := Tryz.sizeOf0
  v0 := Tryz.zeroValue0
  t3 := Tryz.underlying3
  a3 := Tryz.isAgg3
  z3 := Tryz.sizeOf3
  v3 := Tryz.zeroValue3
  t4 := Tryz.underlying4
  a4 := Tryz.isAgg4
  z4 := Tryz.sizeOf4
  v4 := Tryz.zeroValue4
  t9 := Tryz.underlying9
  a9 := Tryz.isAgg9
  z9 := Tryz.sizeOf9
  v9 := Tryz.zeroValue9
  t20 := Tryz.underlying20
  a20 := Tryz.isAgg20
  z20 := Tryz.sizeOf20
  v20 := Tryz.zeroValue20
  t31 := Tryz.underlying22
  a31 := Tryz.isAgg22
  z31 := Tryz.sizeOf22
  v31 := Tryz.zeroValue22
  t37 := Tryz.underlying116
  a37 := Tryz.isAgg116
  z37 := Tryz.sizeOf116
  v37 := Tryz.zeroValue116
  t70 := Tryz.underlying130
  a70 := Tryz.isAgg130
  z70 := Tryz.sizeOf130
  v70 := Tryz.zeroValue130
  t72 := Tryz.underlying132
  a72 := Tryz.isAgg132
  z72 := Tryz.sizeOf132
  v72 := Tryz.zeroValue132
  t75 := Tryz.underlying135
  a75 := Tryz.isAgg135
  z75 := Tryz.sizeOf135
  v75 := Tryz.zeroValue135
  t76 := Tryz.underlying136
  a76 := Tryz.isAgg136
  z76 := Tryz.sizeOf136
  v76 := Tryz.zeroValue136
  t127 := Tryz.underlying160
  a127 := Tryz.isAgg160
  z127 := Tryz.sizeOf160
  v127 := Tryz.zeroValue160
  t164 := Tryz.underlying179
  a164 := Tryz.isAgg179
  z164 := Tryz.sizeOf179
  v164 := Tryz.zeroValue179
theorem joinTryzExtra : Go.Proofs.Builder.Extra Tryz.prog joinTryzRen where
  sizeBuilder := by kernel_rfl
  liesBuilder := by kernel_rfl
  t5 := Tryz.underlying5
  a5 := Tryz.isAgg5
  z5 := Tryz.sizeOf5
  v5 := Tryz.zeroValue5
  infoByte := by kernel_rfl
  cellsByte := by kernel_rfl
  sizeByte := by kernel_rfl
  neB5 := by decide
def xlib : CallX := orLib (mcLib [27]) (joinLib 53)
theorem xlib_ok : CallOk Tryz.prog xlib := orLib_ok (mcLib_ok (fun f hf => by
    simp only [List.mem_cons, List.not_mem_nil, or_false] at hf
    rcases hf with rfl
    · exact ⟨_, mc27TryzLays, rfl⟩
)) (joinLib_ok joinTryzLays joinTryzExtra rfl)
def xown (f : FuncId) : Bool := [17, 19, 25, 38, 51, 58, 63, 64, 67].contains f
theorem x5 : (xall Tryz.prog xpre xlib xown 1000 80).1 5 [] ⟨[], []⟩ = some [(.bool true, ⟨[], []⟩)] := by kernel_rfl
theorem ok5 {res : Bool} {h : AH} (hF : law40Xknown = some res) : Spec Tryz.prog 5 [] h (fun rr hh => rr = .bool res ∧ hh = h) := by
  unfold law40Xknown at hF
  obtain rfl := Option.some.inj hF
  exact spec_x xpre_ok xlib_ok x5 rfl
/-! varve/varvelaw40.WatchNone -/
theorem ok3 {o0 : GVarvelaw40Op} {res : Bool} {h : AH} (hh0 : h = h0) (hF : law40WatchNone o0 = some res) : Spec Tryz.prog 3 [.agg [.int .i64 o0.kind, .int .i64 o0.n, .sl 1 (o0.p.map strRow), .sl 3 (o0.t.map GNode.row)]] h (fun rr hh => rr = .bool res ∧ hh = h) := by
  unfold law40WatchNone at hF
  refine spec_of_body_ext Tryz.func3 rfl (by kernel_rfl) (env := [.agg [.int .i64 o0.kind, .int .i64 o0.n, .sl 1 (o0.p.map strRow), .sl 3 (o0.t.map GNode.row)], aundef, aundef, aundef, aundef, aundef, aundef, aundef, aundef, aundef, aundef, aundef, aundef, aundef, aundef, aundef, aundef, aundef, aundef, aundef, aundef, aundef, aundef, aundef, aundef, aundef, aundef, aundef, aundef, aundef, aundef, aundef, aundef, aundef, aundef, aundef, aundef, aundef, aundef, aundef, aundef, aundef, aundef, aundef, aundef, aundef, aundef, aundef, aundef, aundef, aundef, aundef, aundef, aundef, aundef, aundef, aundef, aundef, aundef, aundef, aundef, aundef, aundef, aundef, aundef, aundef, aundef, aundef, aundef, aundef, aundef, aundef, aundef, aundef, aundef, aundef, aundef, aundef, aundef, aundef, aundef, aundef, aundef, aundef, aundef, aundef, aundef, aundef, aundef, aundef, aundef]) (by rfl) ?_
  refine r_seq ?_
  refine r_region ?_
  refine ops_ok rfl (e_box (n := 0) rfl gt0 (tyo_ok rfl) rfl rfl) st1 ?_
  refine ops_ok rfl (s_assign rfl rfl (tyo_ok rfl)) st2 ?_
  refine ops_nil ?_
  refine q_seq ?_
  refine r_seq ?_
  refine r_seq ?_
  refine r_region ?_
  refine ops_ok rfl (e_load rfl ty26.choose_spec.1 gt1 rfl (ldC_agX (cs' := [.int .i64 o0.kind, .int .i64 o0.n, .sl 1 (o0.p.map strRow), .sl 3 (o0.t.map GNode.row)]) ty26.choose_spec.2 rfl rfl) (tyo_ok rfl)) st12 ?_
  refine ops_ok rfl (s_buildSlice (es := ([o0] : List GVarvelaw40Op).map GVarvelaw40Op.row) rfl el28 ze26 rfl rfl (parto_cons gt12 parto_nil) (.cons (tyo_ok rfl) .nil) rfl rfl rfl) st13 ?_
  refine bindF hF (fun v1 hv1 hF => ?_)
  refine ops_callP rfl (s_call0 rfl rfl rfl (argo_cons gt13 argo_nil) (.cons (tyo_ok rfl) .nil)) ((ok4 hv1).le (.cons (leV.osl _ _ _) leL.nil)) st14 ?_
  refine ops_nil ?_
  refine q_seq ?_
  refine r_condF gt14 hF (fun hc2 hF => ?_) (fun hc2 hF => ?_)
  · skip
    refine r_seq ?_
    refine r_region ?_
    refine bindF hF (fun v3 hv3 hF => ?_)
    refine ops_callP rfl (s_call0 rfl rfl rfl argo_nil .nil) (ok5 hv3) st15 ?_
    refine ops_ok rfl (s_assign rfl gt15 (tyo_ok rfl)) st2 ?_
    refine ops_nil ?_
    refine q_seq ?_
    refine r_ret ?_
    refine q_seq_ret ?_
    obtain rfl := Option.some.inj hF
    refine q_retL1 rfl (rl_tmp gt2 rl_nil) (fin_ext (leV.refl _) rfl ?_)
    exact ⟨rfl, rfl⟩
  · skip
    refine r_skip ?_
    refine q_seq ?_
    subst hh0
    obtain rfl := Option.some.inj hF
    exact x_rest xpre_ok xlib_ok (own := xown) (fuel := 1000) (n := 80) (by kernel_rfl)
end Go.Vv
