/- Each function that the law reaches computes what its reading says; printed by a program. -/
import Derived.Test.YtfikkifcjpphiaaGreatVvZ
import Derived.Test.YtfikkifcjpphiaaGreatVvLb
import Derived.Test.YtfikkifcjpphiaaGreatVvLc
import Derived.Test.YtfikkifcjpphiaaGreatVvMr
import Derived.Test.YtfikkifcjpphiaaGreatVvIt
import Derived.Test.YtfikkifcjpphiaaGreatVvRd
import Derived.Test.YtfikkifcjpphiaaGreatD
import Derived.Test.YtfikkifcjpphiaaGreatProg
namespace Go.Vv
open Go Go.Proofs
set_option maxRecDepth 100000
set_option maxHeartbeats 1000000
set_option linter.unusedSimpArgs false
set_option linter.unusedVariables false
section
variable {v a0 a1 a2 a3 a4 a5 a6 a7 a8 a9 a10 a11 a12 a13 a14 a15 a16 a17 a18 a19 a20 a21 a22 a23 a24 a25 a26 a27 a28 a29 a30 a31 a32 a33 a34 a35 a36 a37 a38 a39 : AV} {r q : List AV} {t : Nat}
theorem gt0 : evo (a0::r) (.tmp 0) = some a0 := rfl
theorem st0 : dso (some 0) (a0::r) v = some (v::r) := rfl
theorem gt1 : evo (a0::a1::r) (.tmp 1) = some a1 := rfl
theorem st1 : dso (some 1) (a0::a1::r) v = some (a0::v::r) := rfl
theorem gt2 : evo (a0::a1::a2::r) (.tmp 2) = some a2 := rfl
theorem st2 : dso (some 2) (a0::a1::a2::r) v = some (a0::a1::v::r) := rfl
theorem gt3 : evo (a0::a1::a2::a3::r) (.tmp 3) = some a3 := rfl
theorem st3 : dso (some 3) (a0::a1::a2::a3::r) v = some (a0::a1::a2::v::r) := rfl
theorem gt4 : evo (a0::a1::a2::a3::a4::r) (.tmp 4) = some a4 := rfl
theorem st4 : dso (some 4) (a0::a1::a2::a3::a4::r) v = some (a0::a1::a2::a3::v::r) := rfl
theorem gt5 : evo (a0::a1::a2::a3::a4::a5::r) (.tmp 5) = some a5 := rfl
theorem st5 : dso (some 5) (a0::a1::a2::a3::a4::a5::r) v = some (a0::a1::a2::a3::a4::v::r) := rfl
theorem gt6 : evo (a0::a1::a2::a3::a4::a5::a6::r) (.tmp 6) = some a6 := rfl
theorem st6 : dso (some 6) (a0::a1::a2::a3::a4::a5::a6::r) v = some (a0::a1::a2::a3::a4::a5::v::r) := rfl
theorem gt7 : evo (a0::a1::a2::a3::a4::a5::a6::a7::r) (.tmp 7) = some a7 := rfl
theorem st7 : dso (some 7) (a0::a1::a2::a3::a4::a5::a6::a7::r) v = some (a0::a1::a2::a3::a4::a5::a6::v::r) := rfl
theorem gt8 : evo (a0::a1::a2::a3::a4::a5::a6::a7::a8::r) (.tmp 8) = some a8 := rfl
theorem st8 : dso (some 8) (a0::a1::a2::a3::a4::a5::a6::a7::a8::r) v = some (a0::a1::a2::a3::a4::a5::a6::a7::v::r) := rfl
theorem gt9 : evo (a0::a1::a2::a3::a4::a5::a6::a7::a8::a9::r) (.tmp 9) = some a9 := rfl
theorem st9 : dso (some 9) (a0::a1::a2::a3::a4::a5::a6::a7::a8::a9::r) v = some (a0::a1::a2::a3::a4::a5::a6::a7::a8::v::r) := rfl
theorem gt10 : evo (a0::a1::a2::a3::a4::a5::a6::a7::a8::a9::a10::r) (.tmp 10) = some a10 := rfl
theorem st10 : dso (some 10) (a0::a1::a2::a3::a4::a5::a6::a7::a8::a9::a10::r) v = some (a0::a1::a2::a3::a4::a5::a6::a7::a8::a9::v::r) := rfl
theorem gt11 : evo (a0::a1::a2::a3::a4::a5::a6::a7::a8::a9::a10::a11::r) (.tmp 11) = some a11 := rfl
theorem st11 : dso (some 11) (a0::a1::a2::a3::a4::a5::a6::a7::a8::a9::a10::a11::r) v = some (a0::a1::a2::a3::a4::a5::a6::a7::a8::a9::a10::v::r) := rfl
theorem gt12 : evo (a0::a1::a2::a3::a4::a5::a6::a7::a8::a9::a10::a11::a12::r) (.tmp 12) = some a12 := rfl
theorem st12 : dso (some 12) (a0::a1::a2::a3::a4::a5::a6::a7::a8::a9::a10::a11::a12::r) v = some (a0::a1::a2::a3::a4::a5::a6::a7::a8::a9::a10::a11::v::r) := rfl
theorem gt13 : evo (a0::a1::a2::a3::a4::a5::a6::a7::a8::a9::a10::a11::a12::a13::r) (.tmp 13) = some a13 := rfl
theorem st13 : dso (some 13) (a0::a1::a2::a3::a4::a5::a6::a7::a8::a9::a10::a11::a12::a13::r) v = some (a0::a1::a2::a3::a4::a5::a6::a7::a8::a9::a10::a11::a12::v::r) := rfl
theorem gt14 : evo (a0::a1::a2::a3::a4::a5::a6::a7::a8::a9::a10::a11::a12::a13::a14::r) (.tmp 14) = some a14 := rfl
theorem st14 : dso (some 14) (a0::a1::a2::a3::a4::a5::a6::a7::a8::a9::a10::a11::a12::a13::a14::r) v = some (a0::a1::a2::a3::a4::a5::a6::a7::a8::a9::a10::a11::a12::a13::v::r) := rfl
theorem gt15 : evo (a0::a1::a2::a3::a4::a5::a6::a7::a8::a9::a10::a11::a12::a13::a14::a15::r) (.tmp 15) = some a15 := rfl
theorem st15 : dso (some 15) (a0::a1::a2::a3::a4::a5::a6::a7::a8::a9::a10::a11::a12::a13::a14::a15::r) v = some (a0::a1::a2::a3::a4::a5::a6::a7::a8::a9::a10::a11::a12::a13::a14::v::r) := rfl
theorem gt16 : evo (a0::a1::a2::a3::a4::a5::a6::a7::a8::a9::a10::a11::a12::a13::a14::a15::a16::r) (.tmp 16) = some a16 := rfl
theorem st16 : dso (some 16) (a0::a1::a2::a3::a4::a5::a6::a7::a8::a9::a10::a11::a12::a13::a14::a15::a16::r) v = some (a0::a1::a2::a3::a4::a5::a6::a7::a8::a9::a10::a11::a12::a13::a14::a15::v::r) := rfl
theorem gt17 : evo (a0::a1::a2::a3::a4::a5::a6::a7::a8::a9::a10::a11::a12::a13::a14::a15::a16::a17::r) (.tmp 17) = some a17 := rfl
theorem st17 : dso (some 17) (a0::a1::a2::a3::a4::a5::a6::a7::a8::a9::a10::a11::a12::a13::a14::a15::a16::a17::r) v = some (a0::a1::a2::a3::a4::a5::a6::a7::a8::a9::a10::a11::a12::a13::a14::a15::a16::v::r) := rfl
theorem gt18 : evo (a0::a1::a2::a3::a4::a5::a6::a7::a8::a9::a10::a11::a12::a13::a14::a15::a16::a17::a18::r) (.tmp 18) = some a18 := rfl
theorem st18 : dso (some 18) (a0::a1::a2::a3::a4::a5::a6::a7::a8::a9::a10::a11::a12::a13::a14::a15::a16::a17::a18::r) v = some (a0::a1::a2::a3::a4::a5::a6::a7::a8::a9::a10::a11::a12::a13::a14::a15::a16::a17::v::r) := rfl
theorem gt19 : evo (a0::a1::a2::a3::a4::a5::a6::a7::a8::a9::a10::a11::a12::a13::a14::a15::a16::a17::a18::a19::r) (.tmp 19) = some a19 := rfl
theorem st19 : dso (some 19) (a0::a1::a2::a3::a4::a5::a6::a7::a8::a9::a10::a11::a12::a13::a14::a15::a16::a17::a18::a19::r) v = some (a0::a1::a2::a3::a4::a5::a6::a7::a8::a9::a10::a11::a12::a13::a14::a15::a16::a17::a18::v::r) := rfl
theorem gt20 : evo (a0::a1::a2::a3::a4::a5::a6::a7::a8::a9::a10::a11::a12::a13::a14::a15::a16::a17::a18::a19::a20::r) (.tmp 20) = some a20 := rfl
theorem st20 : dso (some 20) (a0::a1::a2::a3::a4::a5::a6::a7::a8::a9::a10::a11::a12::a13::a14::a15::a16::a17::a18::a19::a20::r) v = some (a0::a1::a2::a3::a4::a5::a6::a7::a8::a9::a10::a11::a12::a13::a14::a15::a16::a17::a18::a19::v::r) := rfl
theorem gt21 : evo (a0::a1::a2::a3::a4::a5::a6::a7::a8::a9::a10::a11::a12::a13::a14::a15::a16::a17::a18::a19::a20::a21::r) (.tmp 21) = some a21 := rfl
theorem st21 : dso (some 21) (a0::a1::a2::a3::a4::a5::a6::a7::a8::a9::a10::a11::a12::a13::a14::a15::a16::a17::a18::a19::a20::a21::r) v = some (a0::a1::a2::a3::a4::a5::a6::a7::a8::a9::a10::a11::a12::a13::a14::a15::a16::a17::a18::a19::a20::v::r) := rfl
theorem gt22 : evo (a0::a1::a2::a3::a4::a5::a6::a7::a8::a9::a10::a11::a12::a13::a14::a15::a16::a17::a18::a19::a20::a21::a22::r) (.tmp 22) = some a22 := rfl
theorem st22 : dso (some 22) (a0::a1::a2::a3::a4::a5::a6::a7::a8::a9::a10::a11::a12::a13::a14::a15::a16::a17::a18::a19::a20::a21::a22::r) v = some (a0::a1::a2::a3::a4::a5::a6::a7::a8::a9::a10::a11::a12::a13::a14::a15::a16::a17::a18::a19::a20::a21::v::r) := rfl
theorem gt23 : evo (a0::a1::a2::a3::a4::a5::a6::a7::a8::a9::a10::a11::a12::a13::a14::a15::a16::a17::a18::a19::a20::a21::a22::a23::r) (.tmp 23) = some a23 := rfl
theorem st23 : dso (some 23) (a0::a1::a2::a3::a4::a5::a6::a7::a8::a9::a10::a11::a12::a13::a14::a15::a16::a17::a18::a19::a20::a21::a22::a23::r) v = some (a0::a1::a2::a3::a4::a5::a6::a7::a8::a9::a10::a11::a12::a13::a14::a15::a16::a17::a18::a19::a20::a21::a22::v::r) := rfl
theorem gt24 : evo (a0::a1::a2::a3::a4::a5::a6::a7::a8::a9::a10::a11::a12::a13::a14::a15::a16::a17::a18::a19::a20::a21::a22::a23::a24::r) (.tmp 24) = some a24 := rfl
theorem st24 : dso (some 24) (a0::a1::a2::a3::a4::a5::a6::a7::a8::a9::a10::a11::a12::a13::a14::a15::a16::a17::a18::a19::a20::a21::a22::a23::a24::r) v = some (a0::a1::a2::a3::a4::a5::a6::a7::a8::a9::a10::a11::a12::a13::a14::a15::a16::a17::a18::a19::a20::a21::a22::a23::v::r) := rfl
theorem gt25 : evo (a0::a1::a2::a3::a4::a5::a6::a7::a8::a9::a10::a11::a12::a13::a14::a15::a16::a17::a18::a19::a20::a21::a22::a23::a24::a25::r) (.tmp 25) = some a25 := rfl
theorem st25 : dso (some 25) (a0::a1::a2::a3::a4::a5::a6::a7::a8::a9::a10::a11::a12::a13::a14::a15::a16::a17::a18::a19::a20::a21::a22::a23::a24::a25::r) v = some (a0::a1::a2::a3::a4::a5::a6::a7::a8::a9::a10::a11::a12::a13::a14::a15::a16::a17::a18::a19::a20::a21::a22::a23::a24::v::r) := rfl
theorem gt26 : evo (a0::a1::a2::a3::a4::a5::a6::a7::a8::a9::a10::a11::a12::a13::a14::a15::a16::a17::a18::a19::a20::a21::a22::a23::a24::a25::a26::r) (.tmp 26) = some a26 := rfl
theorem st26 : dso (some 26) (a0::a1::a2::a3::a4::a5::a6::a7::a8::a9::a10::a11::a12::a13::a14::a15::a16::a17::a18::a19::a20::a21::a22::a23::a24::a25::a26::r) v = some (a0::a1::a2::a3::a4::a5::a6::a7::a8::a9::a10::a11::a12::a13::a14::a15::a16::a17::a18::a19::a20::a21::a22::a23::a24::a25::v::r) := rfl
theorem gt27 : evo (a0::a1::a2::a3::a4::a5::a6::a7::a8::a9::a10::a11::a12::a13::a14::a15::a16::a17::a18::a19::a20::a21::a22::a23::a24::a25::a26::a27::r) (.tmp 27) = some a27 := rfl
theorem st27 : dso (some 27) (a0::a1::a2::a3::a4::a5::a6::a7::a8::a9::a10::a11::a12::a13::a14::a15::a16::a17::a18::a19::a20::a21::a22::a23::a24::a25::a26::a27::r) v = some (a0::a1::a2::a3::a4::a5::a6::a7::a8::a9::a10::a11::a12::a13::a14::a15::a16::a17::a18::a19::a20::a21::a22::a23::a24::a25::a26::v::r) := rfl
theorem gt28 : evo (a0::a1::a2::a3::a4::a5::a6::a7::a8::a9::a10::a11::a12::a13::a14::a15::a16::a17::a18::a19::a20::a21::a22::a23::a24::a25::a26::a27::a28::r) (.tmp 28) = some a28 := rfl
theorem st28 : dso (some 28) (a0::a1::a2::a3::a4::a5::a6::a7::a8::a9::a10::a11::a12::a13::a14::a15::a16::a17::a18::a19::a20::a21::a22::a23::a24::a25::a26::a27::a28::r) v = some (a0::a1::a2::a3::a4::a5::a6::a7::a8::a9::a10::a11::a12::a13::a14::a15::a16::a17::a18::a19::a20::a21::a22::a23::a24::a25::a26::a27::v::r) := rfl
theorem gt29 : evo (a0::a1::a2::a3::a4::a5::a6::a7::a8::a9::a10::a11::a12::a13::a14::a15::a16::a17::a18::a19::a20::a21::a22::a23::a24::a25::a26::a27::a28::a29::r) (.tmp 29) = some a29 := rfl
theorem st29 : dso (some 29) (a0::a1::a2::a3::a4::a5::a6::a7::a8::a9::a10::a11::a12::a13::a14::a15::a16::a17::a18::a19::a20::a21::a22::a23::a24::a25::a26::a27::a28::a29::r) v = some (a0::a1::a2::a3::a4::a5::a6::a7::a8::a9::a10::a11::a12::a13::a14::a15::a16::a17::a18::a19::a20::a21::a22::a23::a24::a25::a26::a27::a28::v::r) := rfl
theorem gt30 : evo (a0::a1::a2::a3::a4::a5::a6::a7::a8::a9::a10::a11::a12::a13::a14::a15::a16::a17::a18::a19::a20::a21::a22::a23::a24::a25::a26::a27::a28::a29::a30::r) (.tmp 30) = some a30 := rfl
theorem st30 : dso (some 30) (a0::a1::a2::a3::a4::a5::a6::a7::a8::a9::a10::a11::a12::a13::a14::a15::a16::a17::a18::a19::a20::a21::a22::a23::a24::a25::a26::a27::a28::a29::a30::r) v = some (a0::a1::a2::a3::a4::a5::a6::a7::a8::a9::a10::a11::a12::a13::a14::a15::a16::a17::a18::a19::a20::a21::a22::a23::a24::a25::a26::a27::a28::a29::v::r) := rfl
theorem gt31 : evo (a0::a1::a2::a3::a4::a5::a6::a7::a8::a9::a10::a11::a12::a13::a14::a15::a16::a17::a18::a19::a20::a21::a22::a23::a24::a25::a26::a27::a28::a29::a30::a31::r) (.tmp 31) = some a31 := rfl
theorem st31 : dso (some 31) (a0::a1::a2::a3::a4::a5::a6::a7::a8::a9::a10::a11::a12::a13::a14::a15::a16::a17::a18::a19::a20::a21::a22::a23::a24::a25::a26::a27::a28::a29::a30::a31::r) v = some (a0::a1::a2::a3::a4::a5::a6::a7::a8::a9::a10::a11::a12::a13::a14::a15::a16::a17::a18::a19::a20::a21::a22::a23::a24::a25::a26::a27::a28::a29::a30::v::r) := rfl
theorem gt32 : evo (a0::a1::a2::a3::a4::a5::a6::a7::a8::a9::a10::a11::a12::a13::a14::a15::a16::a17::a18::a19::a20::a21::a22::a23::a24::a25::a26::a27::a28::a29::a30::a31::a32::r) (.tmp 32) = some a32 := rfl
theorem st32 : dso (some 32) (a0::a1::a2::a3::a4::a5::a6::a7::a8::a9::a10::a11::a12::a13::a14::a15::a16::a17::a18::a19::a20::a21::a22::a23::a24::a25::a26::a27::a28::a29::a30::a31::a32::r) v = some (a0::a1::a2::a3::a4::a5::a6::a7::a8::a9::a10::a11::a12::a13::a14::a15::a16::a17::a18::a19::a20::a21::a22::a23::a24::a25::a26::a27::a28::a29::a30::a31::v::r) := rfl
theorem gt33 : evo (a0::a1::a2::a3::a4::a5::a6::a7::a8::a9::a10::a11::a12::a13::a14::a15::a16::a17::a18::a19::a20::a21::a22::a23::a24::a25::a26::a27::a28::a29::a30::a31::a32::a33::r) (.tmp 33) = some a33 := rfl
theorem st33 : dso (some 33) (a0::a1::a2::a3::a4::a5::a6::a7::a8::a9::a10::a11::a12::a13::a14::a15::a16::a17::a18::a19::a20::a21::a22::a23::a24::a25::a26::a27::a28::a29::a30::a31::a32::a33::r) v = some (a0::a1::a2::a3::a4::a5::a6::a7::a8::a9::a10::a11::a12::a13::a14::a15::a16::a17::a18::a19::a20::a21::a22::a23::a24::a25::a26::a27::a28::a29::a30::a31::a32::v::r) := rfl
theorem gt34 : evo (a0::a1::a2::a3::a4::a5::a6::a7::a8::a9::a10::a11::a12::a13::a14::a15::a16::a17::a18::a19::a20::a21::a22::a23::a24::a25::a26::a27::a28::a29::a30::a31::a32::a33::a34::r) (.tmp 34) = some a34 := rfl
theorem st34 : dso (some 34) (a0::a1::a2::a3::a4::a5::a6::a7::a8::a9::a10::a11::a12::a13::a14::a15::a16::a17::a18::a19::a20::a21::a22::a23::a24::a25::a26::a27::a28::a29::a30::a31::a32::a33::a34::r) v = some (a0::a1::a2::a3::a4::a5::a6::a7::a8::a9::a10::a11::a12::a13::a14::a15::a16::a17::a18::a19::a20::a21::a22::a23::a24::a25::a26::a27::a28::a29::a30::a31::a32::a33::v::r) := rfl
theorem gt35 : evo (a0::a1::a2::a3::a4::a5::a6::a7::a8::a9::a10::a11::a12::a13::a14::a15::a16::a17::a18::a19::a20::a21::a22::a23::a24::a25::a26::a27::a28::a29::a30::a31::a32::a33::a34::a35::r) (.tmp 35) = some a35 := rfl
theorem st35 : dso (some 35) (a0::a1::a2::a3::a4::a5::a6::a7::a8::a9::a10::a11::a12::a13::a14::a15::a16::a17::a18::a19::a20::a21::a22::a23::a24::a25::a26::a27::a28::a29::a30::a31::a32::a33::a34::a35::r) v = some (a0::a1::a2::a3::a4::a5::a6::a7::a8::a9::a10::a11::a12::a13::a14::a15::a16::a17::a18::a19::a20::a21::a22::a23::a24::a25::a26::a27::a28::a29::a30::a31::a32::a33::a34::v::r) := rfl
theorem gt36 : evo (a0::a1::a2::a3::a4::a5::a6::a7::a8::a9::a10::a11::a12::a13::a14::a15::a16::a17::a18::a19::a20::a21::a22::a23::a24::a25::a26::a27::a28::a29::a30::a31::a32::a33::a34::a35::a36::r) (.tmp 36) = some a36 := rfl
theorem st36 : dso (some 36) (a0::a1::a2::a3::a4::a5::a6::a7::a8::a9::a10::a11::a12::a13::a14::a15::a16::a17::a18::a19::a20::a21::a22::a23::a24::a25::a26::a27::a28::a29::a30::a31::a32::a33::a34::a35::a36::r) v = some (a0::a1::a2::a3::a4::a5::a6::a7::a8::a9::a10::a11::a12::a13::a14::a15::a16::a17::a18::a19::a20::a21::a22::a23::a24::a25::a26::a27::a28::a29::a30::a31::a32::a33::a34::a35::v::r) := rfl
theorem gt37 : evo (a0::a1::a2::a3::a4::a5::a6::a7::a8::a9::a10::a11::a12::a13::a14::a15::a16::a17::a18::a19::a20::a21::a22::a23::a24::a25::a26::a27::a28::a29::a30::a31::a32::a33::a34::a35::a36::a37::r) (.tmp 37) = some a37 := rfl
theorem st37 : dso (some 37) (a0::a1::a2::a3::a4::a5::a6::a7::a8::a9::a10::a11::a12::a13::a14::a15::a16::a17::a18::a19::a20::a21::a22::a23::a24::a25::a26::a27::a28::a29::a30::a31::a32::a33::a34::a35::a36::a37::r) v = some (a0::a1::a2::a3::a4::a5::a6::a7::a8::a9::a10::a11::a12::a13::a14::a15::a16::a17::a18::a19::a20::a21::a22::a23::a24::a25::a26::a27::a28::a29::a30::a31::a32::a33::a34::a35::a36::v::r) := rfl
theorem gt38 : evo (a0::a1::a2::a3::a4::a5::a6::a7::a8::a9::a10::a11::a12::a13::a14::a15::a16::a17::a18::a19::a20::a21::a22::a23::a24::a25::a26::a27::a28::a29::a30::a31::a32::a33::a34::a35::a36::a37::a38::r) (.tmp 38) = some a38 := rfl
theorem st38 : dso (some 38) (a0::a1::a2::a3::a4::a5::a6::a7::a8::a9::a10::a11::a12::a13::a14::a15::a16::a17::a18::a19::a20::a21::a22::a23::a24::a25::a26::a27::a28::a29::a30::a31::a32::a33::a34::a35::a36::a37::a38::r) v = some (a0::a1::a2::a3::a4::a5::a6::a7::a8::a9::a10::a11::a12::a13::a14::a15::a16::a17::a18::a19::a20::a21::a22::a23::a24::a25::a26::a27::a28::a29::a30::a31::a32::a33::a34::a35::a36::a37::v::r) := rfl
theorem gt39 : evo (a0::a1::a2::a3::a4::a5::a6::a7::a8::a9::a10::a11::a12::a13::a14::a15::a16::a17::a18::a19::a20::a21::a22::a23::a24::a25::a26::a27::a28::a29::a30::a31::a32::a33::a34::a35::a36::a37::a38::a39::r) (.tmp 39) = some a39 := rfl
theorem st39 : dso (some 39) (a0::a1::a2::a3::a4::a5::a6::a7::a8::a9::a10::a11::a12::a13::a14::a15::a16::a17::a18::a19::a20::a21::a22::a23::a24::a25::a26::a27::a28::a29::a30::a31::a32::a33::a34::a35::a36::a37::a38::a39::r) v = some (a0::a1::a2::a3::a4::a5::a6::a7::a8::a9::a10::a11::a12::a13::a14::a15::a16::a17::a18::a19::a20::a21::a22::a23::a24::a25::a26::a27::a28::a29::a30::a31::a32::a33::a34::a35::a36::a37::a38::v::r) := rfl
theorem gk (h : evo r (.tmp t) = some v) : evo (a0::a1::a2::a3::a4::a5::a6::a7::a8::a9::a10::a11::a12::a13::a14::a15::a16::a17::a18::a19::a20::a21::a22::a23::a24::a25::a26::a27::a28::a29::a30::a31::a32::a33::a34::a35::a36::a37::a38::a39::r) (.tmp (t + 40)) = some v := h
theorem sk (h : dso (some t) r v = some q) : dso (some (t + 40)) (a0::a1::a2::a3::a4::a5::a6::a7::a8::a9::a10::a11::a12::a13::a14::a15::a16::a17::a18::a19::a20::a21::a22::a23::a24::a25::a26::a27::a28::a29::a30::a31::a32::a33::a34::a35::a36::a37::a38::a39::r) v = some (a0::a1::a2::a3::a4::a5::a6::a7::a8::a9::a10::a11::a12::a13::a14::a15::a16::a17::a18::a19::a20::a21::a22::a23::a24::a25::a26::a27::a28::a29::a30::a31::a32::a33::a34::a35::a36::a37::a38::a39::q) := congrArg (fun x => some (a0::a1::a2::a3::a4::a5::a6::a7::a8::a9::a10::a11::a12::a13::a14::a15::a16::a17::a18::a19::a20::a21::a22::a23::a24::a25::a26::a27::a28::a29::a30::a31::a32::a33::a34::a35::a36::a37::a38::a39::x)) (Option.some.inj h)
end
def fvOp : Nat → AV
  | 1 => .fn (.func 87) [] []
  | 2 => .fn (.func 88) [] []
  | 3 => .fn (.func 89) [] []
  | _ => .nilf
def fnOp : Nat → FuncId
  | 1 => 87
  | 2 => 88
  | 3 => 89
  | _ => 0
theorem fvlOp (c n m : Nat) : (fvOp c).low n m = true := by unfold fvOp; split <;> rfl
theorem fvtOp (P : Program) (t : TypeId) (c : Nat) : tyfix P t (fvOp c) = fvOp c := by unfold fvOp; split <;> rfl
def GRule.row (x : GRule) : List AV := [.int .u8 x.rep, .sl 1 (x.path.map strRow), .int .u8 x.kinds, .bool x.allow, .bool x.read]
def GActor.row (x : GActor) : List AV := [.int .u8 x.rep, .int .u32 x.inc]
def GDot.row (x : GDot) : List AV := [.int .u8 x.actor.rep, .int .u32 x.actor.inc, .int .u64 x.seq]
def GOp.row (x : GOp) : List AV := [.int .u8 x.kind, .sl 1 (x.path.map strRow), .int .i64 x.n, .str x.text, .sl 3 (x.dots.map GDot.row)]
def GItem.row (x : GItem) : List AV := [.int .u64 x.time, .int .u8 x.dot.actor.rep, .int .u32 x.dot.actor.inc, .int .u64 x.dot.seq, .str x.text]
def GLeaf.row (x : GLeaf) : List AV := [.int .u8 x.typ, .int .i64 x.n, .int .u64 x.time, .int .u8 x.dot.actor.rep, .int .u32 x.dot.actor.inc, .int .u64 x.dot.seq, .str x.text, .sl 5 (x.items.map GItem.row), .sl 3 (x.tombs.map GDot.row)]
mutual
def GNode.row : GNode → List AV
  | ⟨name, leaves, subs⟩ => [.str name, .sl 9 (leaves.map GLeaf.row), .sl 3 (GNode.rows subs)]
def GNode.rows : List GNode → List (List AV)
  | [] => []
  | x :: r => x.row :: GNode.rows r
end
theorem GNode.rows_eq (l : List GNode) : GNode.rows l = l.map GNode.row := by
  induction l with
  | nil => rfl
  | cons x r ih => simp only [GNode.rows, List.map_cons, ih]
theorem GNode.row_eq (x : GNode) : x.row = [.str x.name, .sl 9 (x.leaves.map GLeaf.row), .sl 3 (x.subs.map GNode.row)] := by
  cases x; simp only [GNode.row, GNode.rows_eq]
def GOpKind.row (x : GOpKind) : List AV := [.int .u8 x.leaf, fvOp x.may]
def GRow.row (x : GRow) : List AV := [.sl 1 (x.path.map strRow), .int .u8 x.leaf.typ, .int .i64 x.leaf.n, .int .u64 x.leaf.time, .int .u8 x.leaf.dot.actor.rep, .int .u32 x.leaf.dot.actor.inc, .int .u64 x.leaf.dot.seq, .str x.leaf.text, .sl 5 (x.leaf.items.map GItem.row), .sl 3 (x.leaf.tombs.map GDot.row)]
def GEdit.row (x : GEdit) : List AV := [.sl 1 (x.path.map strRow), .int .u8 x.typ, .bool x.had, .bool x.has, .int .u8 x.was.typ, .int .i64 x.was.n, .int .u64 x.was.time, .int .u8 x.was.dot.actor.rep, .int .u32 x.was.dot.actor.inc, .int .u64 x.was.dot.seq, .str x.was.text, .sl 5 (x.was.items.map GItem.row), .sl 3 (x.was.tombs.map GDot.row), .int .u8 x.is.typ, .int .i64 x.is.n, .int .u64 x.is.time, .int .u8 x.is.dot.actor.rep, .int .u32 x.is.dot.actor.inc, .int .u64 x.is.dot.seq, .str x.is.text, .sl 5 (x.is.items.map GItem.row), .sl 3 (x.is.tombs.map GDot.row)]
theorem el22 : El Tryz.prog 22 54 5 := mkEl Tryz.underlying22 (by kernel_rfl)
theorem fo54x1 : Fo Tryz.prog 54 1 1 26 1 := mkFo (by kernel_rfl) (by kernel_rfl)
theorem ty26 : Ty Tryz.prog 26 (.slice 9) 1 := mkTy Tryz.underlying26 (by kernel_rfl)
theorem el26 : El Tryz.prog 26 9 1 := mkEl Tryz.underlying26 (by kernel_rfl)
theorem ty9 : Ty Tryz.prog 9 .string 1 := mkTy Tryz.underlying9 (by kernel_rfl)
theorem fo29x4 : Fo Tryz.prog 29 4 4 27 1 := mkFo (by kernel_rfl) (by kernel_rfl)
theorem ty27 : Ty Tryz.prog 27 (.slice 44) 1 := mkTy Tryz.underlying27 (by kernel_rfl)
theorem el27 : El Tryz.prog 27 44 3 := mkEl Tryz.underlying27 (by kernel_rfl)
theorem fo29x1 : Fo Tryz.prog 29 1 1 26 1 := mkFo (by kernel_rfl) (by kernel_rfl)
theorem fo29x3 : Fo Tryz.prog 29 3 3 9 1 := mkFo (by kernel_rfl) (by kernel_rfl)
theorem el24 : El Tryz.prog 24 68 3 := mkEl Tryz.underlying24 (by kernel_rfl)
theorem mixed : Tryz.prog.follows .mixedOrders = true := by kernel_rfl
theorem fo68x0 : Fo Tryz.prog 68 0 0 9 1 := mkFo (by kernel_rfl) (by kernel_rfl)
theorem fo68x2 : Fo Tryz.prog 68 2 2 24 1 := mkFo (by kernel_rfl) (by kernel_rfl)
theorem ty24 : Ty Tryz.prog 24 (.slice 68) 1 := mkTy Tryz.underlying24 (by kernel_rfl)
theorem fo68x1 : Fo Tryz.prog 68 1 1 66 1 := mkFo (by kernel_rfl) (by kernel_rfl)
theorem ty66 : Ty Tryz.prog 66 (.slice 47) 1 := mkTy Tryz.underlying66 (by kernel_rfl)
theorem el66 : El Tryz.prog 66 47 9 := mkEl Tryz.underlying66 (by kernel_rfl)
theorem ty47 : ∃ d, Ty Tryz.prog 47 d 9 ∧ isAggD d = true := ⟨_, mkTy Tryz.underlying47 (by kernel_rfl), by kernel_rfl⟩
theorem ze47 : zeroC Tryz.prog 47 = some [.int .u8 0, .int .i64 0, .int .u64 0, .int .u8 0, .int .u32 0, .int .u64 0, .str [], .osl none 5 [], .osl none 3 []] := by kernel_rfl
theorem fo47x4 : Fo Tryz.prog 47 4 6 9 1 := mkFo (by kernel_rfl) (by kernel_rfl)
theorem fo47x6 : Fo Tryz.prog 47 6 8 27 1 := mkFo (by kernel_rfl) (by kernel_rfl)
theorem fo47x5 : Fo Tryz.prog 47 5 7 45 1 := mkFo (by kernel_rfl) (by kernel_rfl)
theorem ty45 : Ty Tryz.prog 45 (.slice 79) 1 := mkTy Tryz.underlying45 (by kernel_rfl)
theorem el45 : El Tryz.prog 45 79 5 := mkEl Tryz.underlying45 (by kernel_rfl)
theorem fo79x2 : Fo Tryz.prog 79 2 4 9 1 := mkFo (by kernel_rfl) (by kernel_rfl)
theorem ty54 : ∃ d, Ty Tryz.prog 54 d 5 ∧ isAggD d = true := ⟨_, mkTy Tryz.underlying54 (by kernel_rfl), by kernel_rfl⟩
theorem ty4 : Ty Tryz.prog 4 .bool 1 := mkTy Tryz.underlying4 (by kernel_rfl)
theorem fo54x0 : Fo Tryz.prog 54 0 0 5 1 := mkFo (by kernel_rfl) (by kernel_rfl)
theorem ty5 : Ty Tryz.prog 5 (.int .u8) 1 := mkTy Tryz.underlying5 (by kernel_rfl)
theorem fo54x2 : Fo Tryz.prog 54 2 2 5 1 := mkFo (by kernel_rfl) (by kernel_rfl)
theorem fo42x0 : Fo Tryz.prog 42 0 0 5 1 := mkFo (by kernel_rfl) (by kernel_rfl)
theorem fo42x1 : Fo Tryz.prog 42 1 1 40 1 := mkFo (by kernel_rfl) (by kernel_rfl)
theorem ty40 : Ty Tryz.prog 40 (.int .u32) 1 := mkTy Tryz.underlying40 (by kernel_rfl)
theorem fo44x0 : Fo Tryz.prog 44 0 0 42 2 := mkFo (by kernel_rfl) (by kernel_rfl)
theorem ty42 : ∃ d, Ty Tryz.prog 42 d 2 ∧ isAggD d = true := ⟨_, mkTy Tryz.underlying42 (by kernel_rfl), by kernel_rfl⟩
theorem fo44x1 : Fo Tryz.prog 44 1 2 39 1 := mkFo (by kernel_rfl) (by kernel_rfl)
theorem ty39 : Ty Tryz.prog 39 (.int .u64) 1 := mkTy Tryz.underlying39 (by kernel_rfl)
theorem fo79x1 : Fo Tryz.prog 79 1 1 44 3 := mkFo (by kernel_rfl) (by kernel_rfl)
theorem ty44 : ∃ d, Ty Tryz.prog 44 d 3 ∧ isAggD d = true := ⟨_, mkTy Tryz.underlying44 (by kernel_rfl), by kernel_rfl⟩
theorem pk44 : PK Tryz.prog 44 [.i, .i, .i] := mkPK (by kernel_rfl) (by kernel_rfl) (by kernel_rfl)
theorem fo47x0 : Fo Tryz.prog 47 0 0 5 1 := mkFo (by kernel_rfl) (by kernel_rfl)
theorem fo47x1 : Fo Tryz.prog 47 1 1 2 1 := mkFo (by kernel_rfl) (by kernel_rfl)
theorem ty2 : Ty Tryz.prog 2 (.int .i64) 1 := mkTy Tryz.underlying2 (by kernel_rfl)
noncomputable def sf44 : Array Field := match Tryz.prog.underlying 44 with | some (.struct fs) => fs | _ => #[]
theorem su44 : Tryz.prog.underlying 44 = some (.struct sf44) := by kernel_rfl
theorem ze44 : zeroC Tryz.prog 44 = some [.int .u8 0, .int .u32 0, .int .u64 0] := by kernel_rfl
theorem pl44 : placesL Tryz.prog sf44 = some [(0, 2), (2, 1)] := by kernel_rfl
theorem fo47x2 : Fo Tryz.prog 47 2 2 39 1 := mkFo (by kernel_rfl) (by kernel_rfl)
theorem fo47x3 : Fo Tryz.prog 47 3 3 44 3 := mkFo (by kernel_rfl) (by kernel_rfl)
theorem ty79 : ∃ d, Ty Tryz.prog 79 d 5 ∧ isAggD d = true := ⟨_, mkTy Tryz.underlying79 (by kernel_rfl), by kernel_rfl⟩
theorem ze79 : zeroC Tryz.prog 79 = some [.int .u64 0, .int .u8 0, .int .u32 0, .int .u64 0, .str []] := by kernel_rfl
theorem fo79x0 : Fo Tryz.prog 79 0 0 39 1 := mkFo (by kernel_rfl) (by kernel_rfl)
theorem ty68 : ∃ d, Ty Tryz.prog 68 d 3 ∧ isAggD d = true := ⟨_, mkTy Tryz.underlying68 (by kernel_rfl), by kernel_rfl⟩
theorem ze68 : zeroC Tryz.prog 68 = some [.str [], .osl none 9 [], .osl none 3 []] := by kernel_rfl
theorem ze54 : zeroC Tryz.prog 54 = some [.int .u8 0, .osl none 1 [], .int .u8 0, .bool false, .bool false] := by kernel_rfl
theorem fo29x2 : Fo Tryz.prog 29 2 2 2 1 := mkFo (by kernel_rfl) (by kernel_rfl)
theorem el142 : El Tryz.prog 142 3 1 := mkEl Tryz.underlying142 (by kernel_rfl)
theorem ty3 : Ty Tryz.prog 3 (.int .i64) 1 := mkTy Tryz.underlying3 (by kernel_rfl)
theorem ze3 : zeroC Tryz.prog 3 = some [.int .i64 0] := by kernel_rfl
theorem ze102 : zeroC Tryz.prog 102 = some [.int .u8 0, .nilf] := by kernel_rfl
noncomputable def sf102 : Array Field := match Tryz.prog.underlying 102 with | some (.struct fs) => fs | _ => #[]
theorem su102 : Tryz.prog.underlying 102 = some (.struct sf102) := by kernel_rfl
theorem pl102 : placesL Tryz.prog sf102 = some [(0, 1), (1, 1)] := by kernel_rfl
theorem ty127 : Ty Tryz.prog 127 (.array 6 102) 12 := mkTy Tryz.underlying127 (by kernel_rfl)
theorem ze127 : zeroC Tryz.prog 127 = some [.int .u8 0, .nilf, .int .u8 0, .nilf, .int .u8 0, .nilf, .int .u8 0, .nilf, .int .u8 0, .nilf, .int .u8 0, .nilf] := by kernel_rfl
theorem ty102 : ∃ d, Ty Tryz.prog 102 d 2 ∧ isAggD d = true := ⟨_, mkTy Tryz.underlying102 (by kernel_rfl), by kernel_rfl⟩
theorem fo29x0 : Fo Tryz.prog 29 0 0 5 1 := mkFo (by kernel_rfl) (by kernel_rfl)
theorem fo102x1 : Fo Tryz.prog 102 1 1 84 1 := mkFo (by kernel_rfl) (by kernel_rfl)
theorem ty84 : Ty Tryz.prog 84 (.func #[29] #[4] false) 1 := mkTy Tryz.underlying84 (by kernel_rfl)
theorem ty29 : ∃ d, Ty Tryz.prog 29 d 5 ∧ isAggD d = true := ⟨_, mkTy Tryz.underlying29 (by kernel_rfl), by kernel_rfl⟩
theorem fo54x3 : Fo Tryz.prog 54 3 3 4 1 := mkFo (by kernel_rfl) (by kernel_rfl)
theorem ze9 : zeroC Tryz.prog 9 = some [.str []] := by kernel_rfl
noncomputable def sf54 : Array Field := match Tryz.prog.underlying 54 with | some (.struct fs) => fs | _ => #[]
theorem su54 : Tryz.prog.underlying 54 = some (.struct sf54) := by kernel_rfl
theorem pl54 : placesL Tryz.prog sf54 = some [(0, 1), (1, 1), (2, 1), (3, 1), (4, 1)] := by kernel_rfl
noncomputable def sf29 : Array Field := match Tryz.prog.underlying 29 with | some (.struct fs) => fs | _ => #[]
theorem su29 : Tryz.prog.underlying 29 = some (.struct sf29) := by kernel_rfl
theorem ze29 : zeroC Tryz.prog 29 = some [.int .u8 0, .osl none 1 [], .int .i64 0, .str [], .osl none 3 []] := by kernel_rfl
theorem pl29 : placesL Tryz.prog sf29 = some [(0, 1), (1, 1), (2, 1), (3, 1), (4, 1)] := by kernel_rfl
theorem el37 : El Tryz.prog 37 49 10 := mkEl Tryz.underlying37 (by kernel_rfl)
theorem ze49 : zeroC Tryz.prog 49 = some [.osl none 1 [], .int .u8 0, .int .i64 0, .int .u64 0, .int .u8 0, .int .u32 0, .int .u64 0, .str [], .osl none 5 [], .osl none 3 []] := by kernel_rfl
theorem ty49 : ∃ d, Ty Tryz.prog 49 d 10 ∧ isAggD d = true := ⟨_, mkTy Tryz.underlying49 (by kernel_rfl), by kernel_rfl⟩
theorem ty37 : Ty Tryz.prog 37 (.slice 49) 1 := mkTy Tryz.underlying37 (by kernel_rfl)
theorem ty89 : Ty Tryz.prog 89 (.func #[49] #[4] false) 1 := mkTy Tryz.underlying89 (by kernel_rfl)
noncomputable def sf49 : Array Field := match Tryz.prog.underlying 49 with | some (.struct fs) => fs | _ => #[]
theorem su49 : Tryz.prog.underlying 49 = some (.struct sf49) := by kernel_rfl
theorem pl49 : placesL Tryz.prog sf49 = some [(0, 1), (1, 9)] := by kernel_rfl
theorem pk79 : PK Tryz.prog 79 [.i, .i, .i, .i, .s] := mkPK (by kernel_rfl) (by kernel_rfl) (by kernel_rfl)
theorem kq44 : KQ Tryz.prog 44 (fun x => AV.agg (GDot.row x)) GDot.eqb := .struct su44 pk44 (fun _ _ => rfl) (fun a => by simp [GDot.eqb])
theorem az3 : aZero Tryz.prog 3 = some ((AV.int .i64) (0 : Int)) := by kernel_rfl
noncomputable def sf47 : Array Field := match Tryz.prog.underlying 47 with | some (.struct fs) => fs | _ => #[]
theorem su47 : Tryz.prog.underlying 47 = some (.struct sf47) := by kernel_rfl
theorem pl47 : placesL Tryz.prog sf47 = some [(0, 1), (1, 1), (2, 1), (3, 3), (6, 1), (7, 1), (8, 1)] := by kernel_rfl
theorem fo54x4 : Fo Tryz.prog 54 4 4 4 1 := mkFo (by kernel_rfl) (by kernel_rfl)
theorem fo64x0 : Fo Tryz.prog 64 0 0 26 1 := mkFo (by kernel_rfl) (by kernel_rfl)
theorem fo64x1 : Fo Tryz.prog 64 1 1 5 1 := mkFo (by kernel_rfl) (by kernel_rfl)
theorem el62 : El Tryz.prog 62 64 22 := mkEl Tryz.underlying62 (by kernel_rfl)
theorem ty64 : ∃ d, Ty Tryz.prog 64 d 22 ∧ isAggD d = true := ⟨_, mkTy Tryz.underlying64 (by kernel_rfl), by kernel_rfl⟩
theorem ze64 : zeroC Tryz.prog 64 = some [.osl none 1 [], .int .u8 0, .bool false, .bool false, .int .u8 0, .int .i64 0, .int .u64 0, .int .u8 0, .int .u32 0, .int .u64 0, .str [], .osl none 5 [], .osl none 3 [], .int .u8 0, .int .i64 0, .int .u64 0, .int .u8 0, .int .u32 0, .int .u64 0, .str [], .osl none 5 [], .osl none 3 []] := by kernel_rfl
theorem fo64x2 : Fo Tryz.prog 64 2 2 4 1 := mkFo (by kernel_rfl) (by kernel_rfl)
theorem fo64x3 : Fo Tryz.prog 64 3 3 4 1 := mkFo (by kernel_rfl) (by kernel_rfl)
theorem fo64x4 : Fo Tryz.prog 64 4 4 47 9 := mkFo (by kernel_rfl) (by kernel_rfl)
theorem fo64x5 : Fo Tryz.prog 64 5 13 47 9 := mkFo (by kernel_rfl) (by kernel_rfl)
noncomputable def sf68 : Array Field := match Tryz.prog.underlying 68 with | some (.struct fs) => fs | _ => #[]
theorem su68 : Tryz.prog.underlying 68 = some (.struct sf68) := by kernel_rfl
theorem pl68 : placesL Tryz.prog sf68 = some [(0, 1), (1, 1), (2, 1)] := by kernel_rfl
theorem ty134 : Ty Tryz.prog 134 (.int .u64) 1 := mkTy Tryz.underlying134 (by kernel_rfl)
theorem fo49x0 : Fo Tryz.prog 49 0 0 26 1 := mkFo (by kernel_rfl) (by kernel_rfl)
theorem fo49x1 : Fo Tryz.prog 49 1 1 47 9 := mkFo (by kernel_rfl) (by kernel_rfl)
noncomputable def sf64 : Array Field := match Tryz.prog.underlying 64 with | some (.struct fs) => fs | _ => #[]
theorem su64 : Tryz.prog.underlying 64 = some (.struct sf64) := by kernel_rfl
theorem pl64 : placesL Tryz.prog sf64 = some [(0, 1), (1, 1), (2, 1), (3, 1), (4, 9), (13, 9)] := by kernel_rfl
/-! varve/varveref42.Great -/
theorem ok14 {l0 : (List GRule)} {res : Bool} {h : AH}  (hF : ref42Great l0 = some res) : Spec Tryz.prog 14 [.sl 5 (l0.map GRule.row)] h (fun rr hh => rr = .bool res ∧ hh = h) := by
 unfold ref42Great at hF
 refine ye Tryz.func14 rfl (by kernel_rfl) (env := [.sl 5 (l0.map GRule.row), za, za, za, za, za, za, za, za, za, za, za, za, za, za, za, za, za, za, za, za, za, za, za, za, za, za, za, za, za, za, za, za, za, za, za, za, za, za, za, za]) (by rfl) ?_
 refine zk (zd ?_)
 refine zc rfl (zg rfl rfl (zb rfl)) st2 ?_
 refine ze (zj (zk (zk (zd ?_))))
 refine zc rfl (zg rfl rfl (zb rfl)) st3 ?_
 refine ze (zj (r_block ?_))
 refine yk (fun (n1 : Nat) (s1 : Unit) => anys [1, 2, 4, 5, 6, 7, 8, 9, 10, 11, 12, 13, 14, 15, 16, 17, 18, 19, 20, 21, 22, 23, 24, 25, 26, 27, 28, 29, 30, 31, 32, 33, 34, 35, 36, 37, 38, 39, 40] [(3, .int .i64 (n1 : Int))]) (fun s1 => h.ext [] []) hF (fun _ _ => by simp only [anys, upd, List.set_cons_succ, List.set_cons_zero]; try rfl) (wk.le (by exact (.eq (.drop (.drop (.cons (leV.of_eq rfl) (.d16 (.d16 (.d4 (.drop leL.nil)))))))))) ?_
 intro n1 s1 hi1 hF
 refine zk (zk (zd ?_))
 refine zc rfl (zf rfl gt3 (zb rfl)) st5 ?_
 refine zc rfl (zf rfl gt0 (zb rfl)) st6 ?_
 refine ops_len rfl (yh rfl rfl rfl rfl el22 gt6 lenMap) st7 fun hn26 => ?_
 replace hn26 := lenN hn26
 refine zc rfl (zu rfl gt5 gt7 rfl) st8 ?_
 refine ze (zj ?_)
 refine r_condL gt8 hF (fun x1 o1 hl1 hx1 hF hK1 => ?_) (fun hF => ?_)
 ·skip
  refine r_skip (zj (zk (r_block (zk (zk (zd ?_))))))
  refine zc rfl (zf rfl gt0 (zb rfl)) st11 ?_
  refine zc rfl (zf rfl gt3 (zb rfl)) st12 ?_
  refine zc rfl (s_idxRow rfl el22 gt11 gt12 isl (idx_of hx1)) st13 ?_
  refine zc rfl (zi rfl fo54x1 gt13 rfl) st14 ?_
  refine zc rfl (yi rfl ty26 gt14 (zr rfl) (zb rfl)) st15 ?_
  refine ops_len rfl (yh rfl rfl rfl rfl el26 gt15 lenMap) st16 fun hn27 => ?_
  replace hn27 := lenN hn27
  refine zc rfl (zu rfl gt16 rfl rfl) st17 ?_
  refine ze (zj ?_)
  refine r_condF gt17 hF (fun hc28 hF => ?_) (fun hc28 hF => ?_)
  ·skip
   refine zk (zd ?_)
   refine zc rfl (zg rfl rfl (zb rfl)) st2 ?_
   refine ze (zj (r_ret (zx ?_)))
   refine yd ?_
   refine zx ?_
   refine q_loop_ret ?_
   obtain rfl := Option.some.inj hF
   replace hF := hK1
   refine yd ?_
   refine zx ?_
   obtain rfl := Option.some.inj hF
   refine zz rfl (yc gt2 yb) (zy (leV.refl _) rfl ?_)
   exact ⟨rfl, rfl⟩
  ·skip
   refine r_skip (zj (zk (zd ?_)))
   refine zc rfl (zg rfl rfl (zb rfl)) st4 ?_
   refine ze (zj (r_block ?_))
   refine yk (fun (n2 : Nat) (s2 : Unit) => anys [1, 2, 5, 6, 7, 8, 9, 10, 11, 12, 13, 14, 15, 16, 17, 18, 19, 20, 21, 22, 23, 24, 25, 26, 27, 28, 29, 30, 31, 32, 33, 34, 35, 36, 37, 38, 39, 40] [(4, .int .i64 (n2 : Int))]) (fun s2 => h.ext [] []) hF (fun _ _ => by simp only [anys, upd, List.set_cons_succ, List.set_cons_zero]; try rfl) (wk.le (by exact (.eq (.drop (.drop (.eq (.cons (leV.of_eq rfl) (.d16 (.d16 (.d4 leL.nil)))))))))) ?_
   intro n2 s2 hi2 hF
   refine zk (zk (zd ?_))
   refine zc rfl (zf rfl gt4 (zb rfl)) st18 ?_
   refine zc rfl (zf rfl gt0 (zb rfl)) st19 ?_
   refine zc rfl (zf rfl gt3 (zb rfl)) st20 ?_
   refine zc rfl (s_idxRow rfl el22 gt19 gt20 isl (idx_of hx1)) st21 ?_
   refine zc rfl (zi rfl fo54x1 gt21 rfl) st22 ?_
   refine zc rfl (yi rfl ty26 gt22 (zr rfl) (zb rfl)) st23 ?_
   refine ops_len rfl (yh rfl rfl rfl rfl el26 gt23 lenMap) st24 fun hn36 => ?_
   replace hn36 := lenN hn36
   refine zc rfl (zu rfl gt18 gt24 rfl) st25 ?_
   refine ze (zj ?_)
   refine r_condL gt25 hF (fun x2 o2 hl2 hx2 hF hK2 => ?_) (fun hF => ?_)
   ·skip
    refine r_skip (zj (zk (r_block (zk (zd ?_)))))
    refine zc rfl (zf rfl gt0 (zb rfl)) st28 ?_
    refine zc rfl (zf rfl gt3 (zb rfl)) st29 ?_
    refine zc rfl (s_idxRow rfl el22 gt28 gt29 isl (idx_of hx1)) st30 ?_
    refine zc rfl (zi rfl fo54x1 gt30 rfl) st31 ?_
    refine zc rfl (yi rfl ty26 gt31 (zr rfl) (zb rfl)) st32 ?_
    refine zc rfl (zf rfl gt4 (zb rfl)) st33 ?_
    refine zc rfl (s_idxRow rfl el26 gt32 gt33 isl (idx_of hx2)) st34 ?_
    refine zc rfl (yi rfl ty9 gt34 (zr rfl) (zb rfl)) st35 ?_
    refine ops_len rfl (s_lenStr rfl rfl rfl rfl ty9 gt35) st36 fun hn37 => ?_
    replace hn37 := lenN hn37
    refine zc rfl (zu rfl gt36 rfl rfl) st37 ?_
    refine ze (zj ?_)
    refine r_condF gt37 hF (fun hc38 hF => ?_) (fun hc38 hF => ?_)
    ·skip
     refine zk (zd ?_)
     refine zc rfl (zg rfl rfl (zb rfl)) st2 ?_
     refine ze (zj (r_ret ?_))
     refine yd ?_
     refine zx ?_
     refine q_loop_ret ?_
     obtain rfl := Option.some.inj hF
     replace hF := hK2
     refine yd ?_
     refine yd ?_
     refine zx ?_
     refine q_loop_ret ?_
     obtain rfl := Option.some.inj hF
     replace hF := hK1
     refine yd ?_
     refine zx ?_
     obtain rfl := Option.some.inj hF
     refine zz rfl (yc gt2 yb) (zy (leV.refl _) rfl ?_)
     exact ⟨rfl, rfl⟩
    ·skip
     refine r_skip (q_block (zj (zd ?_)))
     refine zc rfl (zf rfl gt4 (zb rfl)) st26 ?_
     refine zc rfl (zu rfl gt26 rfl rfl) st27 ?_
     refine zc rfl (zg rfl gt27 (zb rfl)) st4 ?_
     refine ze (q_loop ?_)
     obtain rfl := Option.some.inj hF
     exact ⟨(), hl2, hK2, wk.le (by exact (.eq (.drop (.drop (.eq (.cons (leV.of_eq (w64e (by omega) (by omega))) (.d16 (.d16 (.d4 leL.nil)))))))))⟩
   ·skip
    refine r_exit ?_
    refine q_seq_exit ?_
    refine yj ?_
    refine q_block_hit ?_
    refine q_block (zj (zd ?_))
    refine zc rfl (zf rfl gt3 (zb rfl)) st9 ?_
    refine zc rfl (zu rfl gt9 rfl rfl) st10 ?_
    refine zc rfl (zg rfl gt10 (zb rfl)) st3 ?_
    refine ze (q_loop ?_)
    obtain rfl := Option.some.inj hF
    exact ⟨(), hl1, hK1, wk.le (by exact (.eq (.drop (.drop (.cons (leV.of_eq (w64e (by omega) (by omega))) (.d16 (.d16 (.d4 (.drop leL.nil)))))))))⟩
 ·skip
  refine r_exit ?_
  refine q_seq_exit ?_
  refine yj ?_
  refine q_block_hit ?_
  refine zj (zk (zd ?_))
  refine zc rfl (zf rfl gt0 (zb rfl)) st38 ?_
  refine ops_len rfl (yh rfl rfl rfl rfl el22 gt38 lenMap) st39 fun hn39 => ?_
  replace hn39 := lenN hn39
  refine zc rfl (zu rfl gt39 rfl rfl) (sk st0) ?_
  refine zc rfl (zg rfl (gk gt0) (zb rfl)) st2 ?_
  refine ze (zj (r_ret ?_))
  obtain rfl := Option.some.inj hF
  refine zz rfl (yc gt2 yb) (zy (leV.refl _) rfl ?_)
  exact ⟨rfl, rfl⟩
/-! varve/varvelaw42.great -/
theorem ok4 {l0 : (List GRule)} {o1 : GOp} {res : Bool} {h : AH}  (hF : law42Xgreat l0 o1 = some res) : Spec Tryz.prog 4 [.sl 5 (l0.map GRule.row), .agg [.int .u8 o1.kind, .sl 1 (o1.path.map strRow), .int .i64 o1.n, .str o1.text, .sl 3 (o1.dots.map GDot.row)]] h (fun rr hh => rr = .bool res ∧ hh = h) := by
 unfold law42Xgreat at hF
 refine ye Tryz.func4 rfl (by kernel_rfl) (env := [.sl 5 (l0.map GRule.row), .agg [.int .u8 o1.kind, .sl 1 (o1.path.map strRow), .int .i64 o1.n, .str o1.text, .sl 3 (o1.dots.map GDot.row)], za, za, za, za, za, za, za, za, za, za, za, za, za, za, za, za, za, za, za, za, za, za, za]) (by rfl) ?_
 refine zk (zd ?_)
 refine zc rfl (e_box (n := 0) rfl gt1 (zb rfl) rfl rfl) st3 ?_
 refine zc rfl (zg rfl rfl (zb rfl)) st4 ?_
 refine ze (zj (zk (zd ?_)))
 refine zc rfl (zf rfl gt0 (zb rfl)) st5 ?_
 refine bindF hF (fun v1 hv1 hF => ?_)
 refine yf rfl (yg rfl rfl rfl (zo gt5 zw) (.cons (zb rfl) .nil)) (ok14 hv1) st6 ?_
 refine zc rfl (zf rfl gt6 (zb rfl)) st7 ?_
 refine zp rfl (fun hb => zi rfl fo29x4 gt3 rfl) st8 ?_
 refine zp rfl (fun hb => zt rfl ty27 (zn gt8 hb) rfl (zr rfl) (zb rfl)) st9 ?_
 refine ops_glen rfl (fun hb => yh rfl rfl rfl rfl el27 (zn gt9 hb) lenMap) st10 fun hn2 => ?_
 refine zp rfl (fun hb => zu rfl (zn gt10 hb) rfl rfl) st11 ?_
 refine zc rfl (s_pick rfl gt7 rfl gt11 (pick_or (fun ht => gF ht))) st12 ?_
 refine zc rfl (zf rfl gt12 (zb rfl)) st13 ?_
 refine zp rfl (fun hb => zi rfl fo29x1 gt3 rfl) st14 ?_
 refine zp rfl (fun hb => zt rfl ty26 (zn gt14 hb) rfl (zr rfl) (zb rfl)) st15 ?_
 refine ops_glen rfl (fun hb => yh rfl rfl rfl rfl el26 (zn gt15 hb) lenMap) st16 fun hn3 => ?_
 refine zp rfl (fun hb => zu rfl (zn gt16 hb) rfl rfl) st17 ?_
 refine zc rfl (s_pick rfl gt13 rfl gt17 (pick_or (fun ht => gF ht))) st18 ?_
 refine zc rfl (zf rfl gt18 (zb rfl)) st19 ?_
 refine zp rfl (fun hb => zi rfl fo29x3 gt3 rfl) st20 ?_
 refine zp rfl (fun hb => zt rfl ty9 (zn gt20 hb) rfl (zr rfl) (zb rfl)) st21 ?_
 refine ops_glen rfl (fun hb => s_lenStr rfl rfl rfl rfl ty9 (zn gt21 hb)) st22 fun hn4 => ?_
 refine zp rfl (fun hb => zu rfl (zn gt22 hb) rfl rfl) st23 ?_
 refine zc rfl (s_pick rfl gt19 rfl gt23 (pick_or (fun ht => gF ht))) st24 ?_
 refine zc rfl (zg rfl gt24 (zb rfl)) st4 ?_
 refine ze (zj (r_ret ?_))
 obtain rfl := Option.some.inj hF
 refine zz rfl (yc gt4 yb) (zy (leV.refl _) rfl ?_)
 exact ⟨rfl, rfl⟩
/-! varve/varveref07.size -/
theorem ok15N (n : Nat) : ∀ {t0 : (List GNode)} {deep1 : Int} {res : Int} {h : AH} , ref07XsizeN n t0 deep1 = some res → Spec Tryz.prog 15 [.sl 3 (t0.map GNode.row), .int .i64 deep1] h (fun rr hh => rr = .int .i64 res ∧ hh = h) := by
 induction n with
 | zero => intro t0 deep1 res h  hF; simp [ref07XsizeN] at hF
 | succ n ih =>
  intro t0 deep1 res h  hF
  unfold ref07XsizeN at hF
  refine ye Tryz.func15 rfl (by kernel_rfl) (env := [.sl 3 (t0.map GNode.row), .int .i64 deep1, za, za, za, za, za, za, za, za, za, za, za, za, za, za, za, za, za, za, za, za, za, za, za, za, za, za, za, za, za, za, za, za, za, za, za, za, za, za, za, za, za, za, za, za, za, za, za, za, za, za, za, za, za, za, za, za, za, za, za, za, za, za, za, za, za, za, za, za, za, za, za, za, za, za, za, za, za, za, za, za, za, za]) (by rfl) ?_
  refine zk (zd ?_)
  refine zc rfl (zg rfl rfl (zb rfl)) st4 ?_
  refine ze (zj (zk (zd ?_)))
  refine zc rfl (zg rfl rfl (zb rfl)) st5 ?_
  refine ze (zj (zk (zk (zd ?_))))
  refine zc rfl (zg rfl rfl (zb rfl)) st6 ?_
  refine ze (zj (r_block ?_))
  refine r_loopWF (fun (s1 : Int × Int) => anys [2, 3, 4, 7, 8, 9, 10, 11, 12, 13, 14, 15, 16, 17, 18, 19, 20, 21, 22, 23, 24, 25, 26, 27, 28, 29, 30, 31, 32, 33, 34, 35, 36, 37, 38, 39, 40, 41, 42, 43, 44, 45, 46, 47, 48, 49, 50, 51, 52, 53, 54, 55, 56, 57, 58, 59, 60, 61, 62, 63, 64, 65, 66, 67, 68, 69, 70, 71, 72, 73, 74, 75, 76, 77, 78, 79, 80, 81, 82, 83] [(5, .int .i64 s1.1), (6, .int .i64 s1.2)]) (fun s1 => h.ext [] []) hF (fun _ => by simp only [anys, upd, List.set_cons_succ, List.set_cons_zero]; try rfl) (wk.le (by exact (.eq (.eq (.drop (.drop (.drop (.cons (leV.of_eq rfl) (.cons (leV.of_eq rfl) (.d16 (.d16 (.d16 (.d16 (.d4 (.d4 (.d4 (.drop leL.nil))))))))))))))))) ?_
  intro n1 s1 o1 hF hK1
  refine zk (zk (zd ?_))
  refine zc rfl (zf rfl gt6 (zb rfl)) st10 ?_
  refine zc rfl (zf rfl gt0 (zb rfl)) st11 ?_
  refine ops_len rfl (yh rfl rfl rfl rfl el24 gt11 lenMap) st12 fun hn66 => ?_
  replace hn66 := lenN hn66
  refine zc rfl (zu rfl gt10 gt12 rfl) st13 ?_
  refine zc rfl (zf rfl gt13 (zb rfl)) st14 ?_
  refine zp rfl (fun hb => zf rfl gt1 (zb rfl)) st15 ?_
  refine zp rfl (fun hb => zu rfl (zn gt15 hb) rfl rfl) st16 ?_
  refine zc rfl (s_pick rfl gt14 gt16 rfl (pick_and (fun ht => gT ht))) st17 ?_
  refine ze (zj ?_)
  refine r_condF gt17 hF (fun hc67 hF => ?_) (fun hc67 hF => ?_)
  ·skip
   refine r_skip (zj (zk (r_block (zk ?_))))
   refine r_drawn [16] [] trivial mixed (by kernel_rfl) ?_
   refine zq rfl rfl (zf rfl gt5 (zb rfl)) st20 ?_
   refine zq rfl rfl (zu rfl gt20 rfl rfl) st21 ?_
   refine zq rfl rfl (zf rfl gt0 (zb rfl)) st22 ?_
   refine zq rfl rfl (zf rfl gt6 (zb rfl)) st23 ?_
   refine bindF hF (fun y68 hy68 hF => ?_)
   refine zq rfl rfl (s_idxRowE rfl el24 gt22 gt23 isl hy68 (GNode.row_eq _)) st24 ?_
   refine zq rfl rfl (zi rfl fo68x0 gt24 rfl) st25 ?_
   refine zq rfl rfl (yi rfl ty9 gt25 (zr rfl) (zb rfl)) st26 ?_
   refine draw_len rfl rfl (s_lenStr rfl rfl rfl rfl ty9 gt26) st27 ?_
   refine zq rfl rfl (zu rfl gt21 gt27 rfl) st28 ?_
   refine zq rfl rfl (zf rfl gt0 (zb rfl)) st29 ?_
   refine zq rfl rfl (zf rfl gt6 (zb rfl)) st30 ?_
   refine bindF hF (fun y70 hy70 hF => ?_)
   refine zq rfl rfl (s_idxRowE rfl el24 gt29 gt30 isl hy70 (GNode.row_eq _)) st31 ?_
   refine zq rfl rfl (zi rfl fo68x2 gt31 rfl) st32 ?_
   refine zq rfl rfl (yi rfl ty24 gt32 (zr rfl) (zb rfl)) st33 ?_
   refine zq rfl rfl (zf rfl gt1 (zb rfl)) st34 ?_
   refine zq rfl rfl (zu rfl gt34 rfl rfl) st35 ?_
   refine bindF hF (fun v71 hv71 hF => ?_)
   refine draw_callN rfl rfl (fun _ => yg rfl rfl rfl (zo gt33 (zo gt35 zw)) (.cons (zb rfl) (.cons (zb rfl) .nil))) (by rintro _ ⟨B2, T2, rfl, hk2⟩; exact ih hv71) st36 ?_
   refine zq rfl rfl (zu rfl gt28 gt36 rfl) st37 ?_
   refine zq rfl rfl (zg rfl gt37 (zb rfl)) st5 ?_
   refine draw_nil ?_
   refine zj (zk (zd ?_))
   refine zc rfl (zg rfl rfl (zb rfl)) st7 ?_
   refine ze (zj (r_block ?_))
   refine r_loopWF (fun (s2 : Int × Int) => anys [2, 3, 4, 8, 9, 10, 11, 12, 13, 14, 15, 16, 17, 18, 19, 20, 21, 22, 23, 24, 25, 26, 27, 28, 29, 30, 31, 32, 33, 34, 35, 36, 37, 38, 39, 40, 41, 42, 43, 44, 45, 46, 47, 48, 49, 50, 51, 52, 53, 54, 55, 56, 57, 58, 59, 60, 61, 62, 63, 64, 65, 66, 67, 68, 69, 70, 71, 72, 73, 74, 75, 76, 77, 78, 79, 80, 81, 82, 83] [(5, .int .i64 s2.1), (7, .int .i64 s2.2)]) (fun s2 => h.ext [] []) hF (fun _ => by simp only [anys, upd, List.set_cons_succ, List.set_cons_zero]; try rfl) (wk.le (by exact (.eq (.eq (.drop (.drop (.drop (.cons (leV.of_eq rfl) (.eq (.cons (leV.of_eq rfl) (.d16 (.d16 (.d16 (.d16 (.d4 (.d4 (.d4 leL.nil))))))))))))))))) ?_
   intro n2 s2 o2 hF hK2
   refine zk (zk (zd ?_))
   refine zc rfl (zf rfl gt7 (zb rfl)) st38 ?_
   refine zc rfl (zf rfl gt0 (zb rfl)) st39 ?_
   refine zc rfl (zf rfl gt6 (zb rfl)) (sk st0) ?_
   refine bindF hF (fun y102 hy102 hF => ?_)
   refine zc rfl (s_idxRowE rfl el24 gt39 (gk gt0) isl hy102 (GNode.row_eq _)) (sk st1) ?_
   refine zc rfl (zi rfl fo68x1 (gk gt1) rfl) (sk st2) ?_
   refine zc rfl (yi rfl ty66 (gk gt2) (zr rfl) (zb rfl)) (sk st3) ?_
   refine ops_len rfl (yh rfl rfl rfl rfl el66 (gk gt3) lenMap) (sk st4) fun hn103 => ?_
   replace hn103 := lenN hn103
   refine zc rfl (zu rfl gt38 (gk gt4) rfl) (sk st5) ?_
   refine ze (zj ?_)
   refine r_condF (gk gt5) hF (fun hc104 hF => ?_) (fun hc104 hF => ?_)
   ·skip
    refine r_skip (zj (zk (r_block (zk (zd ?_)))))
    refine zc rfl (zf rfl gt0 (zb rfl)) (sk st8) ?_
    refine zc rfl (zf rfl gt6 (zb rfl)) (sk st9) ?_
    refine bindF hF (fun y105 hy105 hF => ?_)
    refine zc rfl (s_idxRowE rfl el24 (gk gt8) (gk gt9) isl hy105 (GNode.row_eq _)) (sk st10) ?_
    refine zc rfl (zi rfl fo68x1 (gk gt10) rfl) (sk st11) ?_
    refine zc rfl (yi rfl ty66 (gk gt11) (zr rfl) (zb rfl)) (sk st12) ?_
    refine zc rfl (zf rfl gt7 (zb rfl)) (sk st13) ?_
    refine bindF hF (fun y106 hy106 hF => ?_)
    refine zc rfl (s_idxRow rfl el66 (gk gt12) (gk gt13) isl hy106) (sk st14) ?_
    refine zc rfl (yi rfl ty47.choose_spec.1 (gk gt14) (ldC_agX (cs' := [.int .u8 y106.typ, .int .i64 y106.n, .int .u64 y106.time, .int .u8 y106.dot.actor.rep, .int .u32 y106.dot.actor.inc, .int .u64 y106.dot.seq, .str y106.text, .sl 5 (y106.items.map GItem.row), .sl 3 (y106.tombs.map GDot.row)]) ty47.choose_spec.2 rfl rfl) (zb rfl)) (sk st15) ?_
    refine zc rfl (e_alloc (n := 0) rfl ze47 rfl) st8 ?_
    refine zc rfl (e_store (cs' := [.int .u8 y106.typ, .int .i64 y106.n, .int .u64 y106.time, .int .u8 y106.dot.actor.rep, .int .u32 y106.dot.actor.inc, .int .u64 y106.dot.seq, .str y106.text, .sl 5 (y106.items.map GItem.row), .sl 3 (y106.tombs.map GDot.row)]) rfl ty47.choose_spec.1 gt8 (gk gt15) (zb rfl) rfl rfl rfl rfl rfl) rfl ?_
    refine ze (zj (zk (zd ?_)))
    refine zc rfl (zf rfl gt5 (zb rfl)) (sk st16) ?_
    refine zc rfl (zu rfl (gk gt16) rfl rfl) (sk st17) ?_
    refine zc rfl (zi rfl fo47x4 gt8 rfl) (sk st18) ?_
    refine zc rfl (zt rfl ty9 (gk gt18) rfl (zr rfl) (zb rfl)) (sk st19) ?_
    refine ops_len rfl (s_lenStr rfl rfl rfl rfl ty9 (gk gt19)) (sk st20) fun hn107 => ?_
    replace hn107 := lenN hn107
    refine zc rfl (zu rfl (gk gt17) (gk gt20) rfl) (sk st21) ?_
    refine zc rfl (zi rfl fo47x6 gt8 rfl) (sk st22) ?_
    refine zc rfl (zt rfl ty27 (gk gt22) rfl (zr rfl) (zb rfl)) (sk st23) ?_
    refine ops_len rfl (yh rfl rfl rfl rfl el27 (gk gt23) lenMap) (sk st24) fun hn108 => ?_
    replace hn108 := lenN hn108
    refine zc rfl (zu rfl (gk gt21) (gk gt24) rfl) (sk st25) ?_
    refine zc rfl (zg rfl (gk gt25) (zb rfl)) st5 ?_
    refine ze (zj (zk (zd ?_)))
    refine zc rfl (zg rfl rfl (zb rfl)) st9 ?_
    refine ze (zj (r_block ?_))
    refine yk (fun (n3 : Nat) (s3 : Int) => anys [2, 3, 4, 10, 11, 12, 13, 14, 15, 16, 17, 18, 19, 20, 21, 22, 23, 24, 25, 26, 27, 28, 29, 30, 31, 32, 33, 34, 35, 36, 37, 38, 39, 40, 41, 42, 43, 44, 45, 46, 47, 48, 49, 50, 51, 52, 53, 54, 55, 56, 57, 58, 59, 60, 61, 62, 63, 64, 65, 66, 67, 68, 69, 70, 71, 72, 73, 74, 75, 76, 77, 78, 79, 80, 81, 82, 83] [(5, .int .i64 s3), (9, .int .i64 (n3 : Int))]) (fun s3 => h.ext [.cells [.int .u8 y106.typ, .int .i64 y106.n, .int .u64 y106.time, .int .u8 y106.dot.actor.rep, .int .u32 y106.dot.actor.inc, .int .u64 y106.dot.seq, .str y106.text, .sl 5 (y106.items.map GItem.row), .sl 3 (y106.tombs.map GDot.row)]] []) hF (fun _ _ => by simp only [anys, upd, List.set_cons_succ, List.set_cons_zero]; try rfl) (wk.le (by exact (.eq (.eq (.drop (.drop (.drop (.cons (leV.of_eq rfl) (.eq (.eq (.eq (.cons (leV.of_eq rfl) (.d16 (.d16 (.d16 (.d16 (.d4 (.d4 (.drop (.drop leL.nil)))))))))))))))))))) ?_
    intro n3 s3 hi3 hF
    refine zk (zk (zd ?_))
    refine zc rfl (zf rfl gt9 (zb rfl)) (sk st26) ?_
    refine zc rfl (zi rfl fo47x5 gt8 rfl) (sk st27) ?_
    refine zc rfl (zt rfl ty45 (gk gt27) rfl (zr rfl) (zb rfl)) (sk st28) ?_
    refine ops_len rfl (yh rfl rfl rfl rfl el45 (gk gt28) lenMap) (sk st29) fun hn125 => ?_
    replace hn125 := lenN hn125
    refine zc rfl (zu rfl (gk gt26) (gk gt29) rfl) (sk st30) ?_
    refine ze (zj ?_)
    refine r_condL (gk gt30) hF (fun x3 o3 hl3 hx3 hF hK3 => ?_) (fun hF => ?_)
    ·skip
     refine r_skip (zj (zk (r_block (zd ?_))))
     refine zc rfl (zf rfl gt5 (zb rfl)) (sk st33) ?_
     refine zc rfl (zu rfl (gk gt33) rfl rfl) (sk st34) ?_
     refine zc rfl (zi rfl fo47x5 gt8 rfl) (sk st35) ?_
     refine zc rfl (zt rfl ty45 (gk gt35) rfl (zr rfl) (zb rfl)) (sk st36) ?_
     refine zc rfl (zf rfl gt9 (zb rfl)) (sk st37) ?_
     refine zc rfl (s_idxRow rfl el45 (gk gt36) (gk gt37) isl (idx_of hx3)) (sk st38) ?_
     refine zc rfl (zi rfl fo79x2 (gk gt38) rfl) (sk st39) ?_
     refine zc rfl (yi rfl ty9 (gk gt39) (zr rfl) (zb rfl)) (sk (sk st0)) ?_
     refine ops_len rfl (s_lenStr rfl rfl rfl rfl ty9 (gk (gk gt0))) (sk (sk st1)) fun hn126 => ?_
     replace hn126 := lenN hn126
     refine zc rfl (zu rfl (gk gt34) (gk (gk gt1)) rfl) (sk (sk st2)) ?_
     refine zc rfl (zg rfl (gk (gk gt2)) (zb rfl)) st5 ?_
     refine ze (q_block (zj (zd ?_)))
     refine zc rfl (zf rfl gt9 (zb rfl)) (sk st31) ?_
     refine zc rfl (zu rfl (gk gt31) rfl rfl) (sk st32) ?_
     refine zc rfl (zg rfl (gk gt32) (zb rfl)) st9 ?_
     refine ze (q_loop ?_)
     obtain rfl := Option.some.inj hF
     exact ⟨(IntKind.wrap .i64 ((IntKind.wrap .i64 (s3 + (1 : Int))) + ((x3.text).length : Int))), hl3, hK3, wk.le (by exact (.eq (.eq (.drop (.drop (.drop (.cons (leV.of_eq rfl) (.eq (.eq (.eq (.cons (leV.of_eq (w64e (by omega) (by omega))) (.d16 (.d16 (.d16 (.d16 (.d4 (.d4 (.drop (.drop leL.nil)))))))))))))))))))⟩
    ·skip
     refine r_exit ?_
     refine q_seq_exit ?_
     refine yj ?_
     refine q_block_hit ?_
     refine q_block (zj (zd ?_))
     refine zc rfl (zf rfl gt7 (zb rfl)) (sk st6) ?_
     refine zc rfl (zu rfl (gk gt6) rfl rfl) (sk st7) ?_
     refine zc rfl (zg rfl (gk gt7) (zb rfl)) st7 ?_
     refine ze (q_loop ?_)
     obtain rfl := Option.some.inj hF
     exact ⟨(s3, (IntKind.wrap .i64 (s2.2 + (1 : Int)))), hK2, wk.trans (wk.le (by exact (.eq (.eq (.drop (.drop (.drop (.cons (leV.of_eq rfl) (.eq (.cons (leV.of_eq rfl) (.d16 (.d16 (.d16 (.d16 (.d4 (.d4 (.d4 leL.nil))))))))))))))))) (wk_ext3 (by simp [lowL, AV.low]) rfl rfl (by simp [Blk.low, lowL, AV.low]))⟩
   ·skip
    refine r_exit ?_
    refine q_seq_exit ?_
    refine yj ?_
    obtain rfl := Option.some.inj hF
    replace hF := hK2
    refine q_block_hit ?_
    refine q_block (zj (zd ?_))
    refine zc rfl (zf rfl gt6 (zb rfl)) st18 ?_
    refine zc rfl (zu rfl gt18 rfl rfl) st19 ?_
    refine zc rfl (zg rfl gt19 (zb rfl)) st6 ?_
    refine ze (q_loop ?_)
    obtain rfl := Option.some.inj hF
    exact ⟨(s2.1, (IntKind.wrap .i64 (s1.2 + (1 : Int)))), hK1, wk.le (by exact (.eq (.eq (.drop (.drop (.drop (.cons (leV.of_eq rfl) (.cons (leV.of_eq rfl) (.d16 (.d16 (.d16 (.d16 (.d4 (.d4 (.d4 (.drop leL.nil))))))))))))))))⟩
  ·skip
   refine r_exit ?_
   refine q_seq_exit ?_
   refine yj ?_
   obtain rfl := Option.some.inj hF
   replace hF := hK1
   refine q_block_hit ?_
   refine zj (zk (zd ?_))
   refine zc rfl (zf rfl gt5 (zb rfl)) (sk (sk st3)) ?_
   refine zc rfl (zg rfl (gk (gk gt3)) (zb rfl)) st4 ?_
   refine ze (zj (r_ret ?_))
   obtain rfl := Option.some.inj hF
   refine zz rfl (yc gt4 yb) (zy (leV.refl _) rfl ?_)
   exact ⟨rfl, rfl⟩
theorem ok15 {t0 : (List GNode)} {deep1 : Int} {res : Int} {h : AH}  (hF : ref07Xsize t0 deep1 = some res) : Spec Tryz.prog 15 [.sl 3 (t0.map GNode.row), .int .i64 deep1] h (fun rr hh => rr = .int .i64 res ∧ hh = h) := by
 obtain ⟨n, hn⟩ := anyN_is hF
 exact ok15N n  hn
/-! varve/varveref07.Great -/
theorem ok5 {t0 : (List GNode)} {res : Bool} {h : AH}  (hF : ref07Great t0 = some res) : Spec Tryz.prog 5 [.sl 3 (t0.map GNode.row)] h (fun rr hh => rr = .bool res ∧ hh = h) := by
 unfold ref07Great at hF
 refine ye Tryz.func5 rfl (by kernel_rfl) (env := [.sl 3 (t0.map GNode.row), za, za, za, za, za]) (by rfl) ?_
 refine zk (zd ?_)
 refine zc rfl (zg rfl rfl (zb rfl)) st2 ?_
 refine ze (zj (zk (zd ?_)))
 refine zc rfl (zf rfl gt0 (zb rfl)) st3 ?_
 refine bindF hF (fun v1 hv1 hF => ?_)
 refine yf rfl (yg rfl rfl rfl (zo gt3 (zo rfl zw)) (.cons (zb rfl) (.cons (zb rfl) .nil))) (ok15 hv1) st4 ?_
 refine zc rfl (zu rfl gt4 rfl rfl) st5 ?_
 refine zc rfl (zg rfl gt5 (zb rfl)) st2 ?_
 refine ze (zj (r_ret ?_))
 obtain rfl := Option.some.inj hF
 refine zz rfl (yc gt2 yb) (zy (leV.refl _) rfl ?_)
 exact ⟨rfl, rfl⟩
/-! slices.IndexFunc[[]varve/api.Rule,varve/api.Rule] -/
theorem ok31 {s0 : (List GRule)} {f1 : (GRule → Option Bool)} {ff1 : FuncId} {af1 kf1 : List AV} {res : Int} {h : AH} (hf1 : ∀ x0 v (L : List Blk) (M : List Nat), f1 x0 = some v → Spec Tryz.prog ff1 (af1 ++ [.agg [.int .u8 x0.rep, .sl 1 (x0.path.map strRow), .int .u8 x0.kinds, .bool x0.allow, .bool x0.read]] ++ kf1) (h.ext L M) (fun rr hh => rr = .bool v ∧ hh = h.ext L M)) (hF : slicesIndexFuncRule s0 f1 = some res) : Spec Tryz.prog 31 [.sl 5 (s0.map GRule.row), .fn (.func ff1) af1 kf1] h (fun rr hh => rr = .int .i64 res ∧ hh = h) := by
 unfold slicesIndexFuncRule at hF
 refine spec_of_body_extC Tryz.func31 rfl (by kernel_rfl) (env := [.sl 5 (s0.map GRule.row), .fn (.func ff1) af1 kf1, za, za, za, za, za, za, za, za, za, za, za, za, za, za, za, za, za]) (by rfl) (fun hlow hC => ?_)
 simp only [lowL, AV.low, Bool.and_eq_true, Bool.true_and, and_true] at hlow
 have hlaf1 : ∀ n m, h.blks.length ≤ n → h.toks.length ≤ m → lowL n m af1 = true := fun n m h1 h2 => lowL_up h1 h2 _ (by simp [hlow])
 have hlkf1 : ∀ n m, h.blks.length ≤ n → h.toks.length ≤ m → lowL n m kf1 = true := fun n m h1 h2 => lowL_up h1 h2 _ (by simp [hlow])
 refine zk (zd ?_)
 refine zc rfl (zg rfl rfl (zb rfl)) st4 ?_
 refine ze (zj (zk (zk (zd ?_))))
 refine zc rfl (zf rfl gt0 (zb rfl)) st6 ?_
 refine ops_len rfl (yh rfl rfl rfl rfl el22 gt6 lenMap) st7 fun hn1 => ?_
 replace hn1 := lenN hn1
 refine zc rfl (zf rfl rfl (zb rfl)) st8 ?_
 refine ze (zj (r_block ?_))
 refine yk (fun (n1 : Nat) (s1 : Unit) => anys [2, 3, 4, 5, 6, 9, 10, 11, 12, 13, 14, 15, 16, 17, 18] [(8, .int .i64 (n1 : Int))]) (fun s1 => h.ext [] []) hF (fun _ _ => by simp only [anys, upd, List.set_cons_succ, List.set_cons_zero]; try rfl) (wk.le (by exact (.eq (.eq (.d4 (.drop (.eq (.cons (leV.of_eq rfl) (.d4 (.d4 (.drop (.drop leL.nil)))))))))))) ?_
 intro n1 s1 hi1 hF
 refine zk (zd ?_)
 refine zc rfl (zu rfl gt8 gt7 rfl) st9 ?_
 refine ze (zj (zk ?_))
 refine r_condL gt9 hF (fun x1 o1 hl1 hx1 hF hK1 => ?_) (fun hF => ?_)
 ·skip
  refine r_skip (zj (zk (r_block (zk (zd ?_)))))
  refine zc rfl (zf rfl gt8 (zb rfl)) st10 ?_
  refine zc rfl (zg rfl gt10 (zb rfl)) st5 ?_
  refine ze (zj (zk (zd ?_)))
  refine zc rfl (zf rfl gt1 (zb rfl)) st11 ?_
  refine zc rfl (zf rfl gt0 (zb rfl)) st12 ?_
  refine zc rfl (zf rfl gt5 (zb rfl)) st13 ?_
  refine zc rfl (s_idxRow rfl el22 gt12 gt13 isl (idx_of hx1)) st14 ?_
  refine zc rfl (yi rfl ty54.choose_spec.1 gt14 (ldC_agX (cs' := [.int .u8 x1.rep, .sl 1 (x1.path.map strRow), .int .u8 x1.kinds, .bool x1.allow, .bool x1.read]) ty54.choose_spec.2 rfl rfl) (zb rfl)) st15 ?_
  refine bindF hF (fun v7 hv7 hF => ?_)
  refine yf rfl (s_callC rfl rfl gt11 (zo gt15 zw) (.cons (zb rfl) .nil) rfl) (hf1 _ _ _ _ hv7) st16 ?_
  refine ze (zj ?_)
  refine r_condF gt16 hF (fun hc8 hF => ?_) (fun hc8 hF => ?_)
  ·skip
   refine zk (zd ?_)
   refine zc rfl (zf rfl gt5 (zb rfl)) st17 ?_
   refine zc rfl (zg rfl gt17 (zb rfl)) st4 ?_
   refine ze (zj (r_ret ?_))
   refine yd ?_
   refine zx ?_
   refine q_loop_ret ?_
   obtain rfl := Option.some.inj hF
   replace hF := hK1
   refine yd ?_
   refine zx ?_
   obtain rfl := Option.some.inj hF
   refine zz rfl (yc gt4 yb) (zy (leV.refl _) rfl ?_)
   exact ⟨rfl, rfl⟩
  ·skip
   refine r_skip (q_block (zj (zd ?_)))
   refine zc rfl (zu rfl gt8 rfl rfl) st18 ?_
   refine zc rfl (zf rfl gt18 (zb rfl)) st8 ?_
   refine ze (q_loop ?_)
   obtain rfl := Option.some.inj hF
   exact ⟨(), hl1, hK1, wk.le (by exact (.eq (.eq (.d4 (.drop (.eq (.cons (leV.of_eq (w64e (by omega) (by omega))) (.d4 (.d4 (.drop (.drop leL.nil)))))))))))⟩
 ·skip
  refine r_exit ?_
  refine q_seq_exit ?_
  refine yj ?_
  refine q_block_hit ?_
  refine zj (zk (zd ?_))
  refine zc rfl (zg rfl rfl (zb rfl)) st4 ?_
  refine ze (zj (r_ret ?_))
  obtain rfl := Option.some.inj hF
  refine zz rfl (yc gt4 yb) (zy (leV.refl _) rfl ?_)
  exact ⟨rfl, rfl⟩
/-! slices.ContainsFunc[[]varve/api.Rule,varve/api.Rule] -/
theorem ok16 {s0 : (List GRule)} {f1 : (GRule → Option Bool)} {ff1 : FuncId} {af1 kf1 : List AV} {res : Bool} {h : AH} (hf1 : ∀ x0 v (L : List Blk) (M : List Nat), f1 x0 = some v → Spec Tryz.prog ff1 (af1 ++ [.agg [.int .u8 x0.rep, .sl 1 (x0.path.map strRow), .int .u8 x0.kinds, .bool x0.allow, .bool x0.read]] ++ kf1) (h.ext L M) (fun rr hh => rr = .bool v ∧ hh = h.ext L M)) (hF : slicesContainsFuncRule s0 f1 = some res) : Spec Tryz.prog 16 [.sl 5 (s0.map GRule.row), .fn (.func ff1) af1 kf1] h (fun rr hh => rr = .bool res ∧ hh = h) := by
 unfold slicesContainsFuncRule at hF
 refine spec_of_body_extC Tryz.func16 rfl (by kernel_rfl) (env := [.sl 5 (s0.map GRule.row), .fn (.func ff1) af1 kf1, za, za, za, za, za, za, za]) (by rfl) (fun hlow hC => ?_)
 simp only [lowL, AV.low, Bool.and_eq_true, Bool.true_and, and_true] at hlow
 have hlaf1 : ∀ n m, h.blks.length ≤ n → h.toks.length ≤ m → lowL n m af1 = true := fun n m h1 h2 => lowL_up h1 h2 _ (by simp [hlow])
 have hlkf1 : ∀ n m, h.blks.length ≤ n → h.toks.length ≤ m → lowL n m kf1 = true := fun n m h1 h2 => lowL_up h1 h2 _ (by simp [hlow])
 refine zk (zd ?_)
 refine zc rfl (zg rfl rfl (zb rfl)) st4 ?_
 refine ze (zj (zk (zd ?_)))
 refine zc rfl (zf rfl gt0 (zb rfl)) st5 ?_
 refine zc rfl (zf rfl gt1 (zb rfl)) st6 ?_
 refine bindF hF (fun v1 hv1 hF => ?_)
 refine yf rfl (yg rfl rfl rfl (zo gt5 (zo gt6 zw)) (.cons (zb rfl) (.cons (zb rfl) .nil))) (ok31 (fun x0 v L M hv => by rw [ext_ext]; exact hf1 x0 v _ _ hv) hv1) st7 ?_
 refine zc rfl (zu rfl gt7 rfl rfl) st8 ?_
 refine zc rfl (zg rfl gt8 (zb rfl)) st4 ?_
 refine ze (zj (r_ret ?_))
 obtain rfl := Option.some.inj hF
 refine zz rfl (yc gt4 yb) (zy (leV.refl _) rfl ?_)
 exact ⟨rfl, rfl⟩
/-! varve/paths.parts -/
theorem ok48 {p0 : (List Str)} {res : ((List Str) × Bool)} {h : AH}  (hF : pathsXparts p0 = some res) : Spec Tryz.prog 48 [.sl 1 (p0.map strRow)] h (fun rr hh => rr = .tup [.sl 1 (res.1.map strRow), .bool res.2] ∧ hh = h) := by
 unfold pathsXparts at hF
 refine ye Tryz.func48 rfl (by kernel_rfl) (env := [.sl 1 (p0.map strRow), za, za, za, za, za, za, za, za, za, za, za, za, za, za, za, za, za, za, za, za, za]) (by rfl) ?_
 refine zk (zd ?_)
 refine zc rfl (zg rfl rfl (ty_nil el26)) st2 ?_
 refine zc rfl (zg rfl rfl (zb rfl)) st3 ?_
 refine ze (zj (zk (zk (zd ?_))))
 refine zc rfl (zf rfl gt0 (zb rfl)) st5 ?_
 refine ops_len rfl (yh rfl rfl rfl rfl el26 gt5 lenMap) st6 fun hn1 => ?_
 replace hn1 := lenN hn1
 refine zc rfl (zg rfl gt6 (zb rfl)) st4 ?_
 refine ze (zj (zk (zd ?_)))
 refine zc rfl (zf rfl gt4 (zb rfl)) st7 ?_
 refine zc rfl (zu rfl gt7 rfl rfl) st8 ?_
 refine zc rfl (zf rfl gt8 (zb rfl)) st9 ?_
 refine zp rfl (fun hb => zf rfl gt0 (zb rfl)) st10 ?_
 refine zp rfl (fun hb => zf rfl gt4 (zb rfl)) st11 ?_
 refine zp rfl (fun hb => zu rfl (zn gt11 hb) rfl rfl) st12 ?_
 refine chkF hF (fun hg2 hF => ?_)
 refine zp rfl (fun hb => s_gidxRow default rfl el26 (zn gt10 hb) (zn gt12 hb) isl (hg2 hb)) st13 ?_
 refine zp rfl (fun hb => yi rfl ty9 (zn gt13 hb) (zr rfl) (zb rfl)) st14 ?_
 refine zp rfl (fun hb => zu rfl (zn gt14 hb) rfl rfl) st15 ?_
 refine zc rfl (s_pick rfl gt9 gt15 rfl (pick_and (fun ht => gT ht))) st16 ?_
 refine ze (zj ?_)
 refine r_condF gt16 hF (fun hc3 hF => ?_) (fun hc3 hF => ?_)
 ·skip
  refine zk (zd ?_)
  refine zc rfl (zf rfl gt0 (zb rfl)) st17 ?_
  refine zc rfl (zf rfl gt4 (zb rfl)) st18 ?_
  refine zc rfl (zu rfl gt18 rfl rfl) st19 ?_
  refine bindF hF (fun m4 hm4 hF => ?_)
  refine zc rfl (s_slcSl rfl el26 gt17 (.inl rfl) .none (.some gt19) hm4) st20 ?_
  refine zc rfl (zg rfl gt20 (zb rfl)) st2 ?_
  refine zc rfl (zg rfl rfl (zb rfl)) st3 ?_
  refine ze (zj (r_ret (zx ?_)))
  obtain rfl := Option.some.inj hF
  refine q_retL rfl (yc gt2 (yc gt3 yb)) (zy (leV.refl _) rfl ?_)
  exact ⟨rfl, rfl⟩
 ·skip
  refine r_skip (zj (zk (zd ?_)))
  refine zc rfl (zf rfl gt0 (zb rfl)) st21 ?_
  refine zc rfl (zg rfl gt21 (zb rfl)) st2 ?_
  refine zc rfl (zg rfl rfl (zb rfl)) st3 ?_
  refine ze (zj (r_ret ?_))
  obtain rfl := Option.some.inj hF
  refine q_retL rfl (yc gt2 (yc gt3 yb)) (zy (leV.refl _) rfl ?_)
  exact ⟨rfl, rfl⟩
/-! varve/op.IsName 1 -/
theorem ok83 {r0 : Int} {res : Bool} {h : AH}  (hF : opIsNameC1 r0 = some res) : Spec Tryz.prog 83 [.int .i32 r0] h (fun rr hh => rr = .bool res ∧ hh = h) := by
 unfold opIsNameC1 at hF
 refine ye Tryz.func83 rfl (by kernel_rfl) (env := [.int .i32 r0, za, za, za, za, za, za, za, za, za, za, za, za, za, za, za, za, za, za, za, za, za, za, za, za]) (by rfl) ?_
 refine zk (zd ?_)
 refine zc rfl (zg rfl rfl (zb rfl)) st2 ?_
 refine ze (zj (zk (zd ?_)))
 refine zc rfl (zf rfl gt0 (zb rfl)) st3 ?_
 refine zc rfl (zu rfl gt3 rfl rfl) st4 ?_
 refine zc rfl (zf rfl gt4 (zb rfl)) st5 ?_
 refine zp rfl (fun hb => zf rfl gt0 (zb rfl)) st6 ?_
 refine zp rfl (fun hb => zu rfl (zn gt6 hb) rfl rfl) st7 ?_
 refine zc rfl (s_pick rfl gt5 rfl gt7 (pick_or (fun ht => gF ht))) st8 ?_
 refine zc rfl (zf rfl gt8 (zb rfl)) st9 ?_
 refine zp rfl (fun hb => zf rfl gt0 (zb rfl)) st10 ?_
 refine zp rfl (fun hb => zu rfl (zn gt10 hb) rfl rfl) st11 ?_
 refine zp rfl (fun hb => zf rfl (zn gt11 hb) (zb rfl)) st12 ?_
 refine zp (aG_gv rfl rfl rfl) (fun hb => zf rfl gt0 (zb rfl)) st13 ?_
 refine zp (aG_gv rfl rfl rfl) (fun hb => zu rfl (zn gt13 hb) rfl rfl) st14 ?_
 refine zp rfl (fun hb => s_pick rfl (zn gt12 hb) rfl gt14 (pick_or (fun ht => gF2 hb ht))) st15 ?_
 refine zc rfl (s_pick rfl gt9 gt15 rfl (pick_and (fun ht => gT ht))) st16 ?_
 refine zc rfl (zf rfl gt16 (zb rfl)) st17 ?_
 refine zp rfl (fun hb => zf rfl gt0 (zb rfl)) st18 ?_
 refine zp rfl (fun hb => zu rfl (zn gt18 hb) rfl rfl) st19 ?_
 refine zp rfl (fun hb => zf rfl (zn gt19 hb) (zb rfl)) st20 ?_
 refine zp (aG_gv rfl rfl rfl) (fun hb => zf rfl gt0 (zb rfl)) st21 ?_
 refine zp (aG_gv rfl rfl rfl) (fun hb => zu rfl (zn gt21 hb) rfl rfl) st22 ?_
 refine zp rfl (fun hb => s_pick rfl (zn gt20 hb) rfl gt22 (pick_or (fun ht => gF2 hb ht))) st23 ?_
 refine zc rfl (s_pick rfl gt17 gt23 rfl (pick_and (fun ht => gT ht))) st24 ?_
 refine zc rfl (zg rfl gt24 (zb rfl)) st2 ?_
 refine ze (zj (r_ret ?_))
 obtain rfl := Option.some.inj hF
 refine zz rfl (yc gt2 yb) (zy (leV.refl _) rfl ?_)
 exact ⟨rfl, rfl⟩
/-! strings.indexFunc -/
theorem ok122 {s0 : Str} {f1 : (Int → Option Bool)} {ff1 : FuncId} {af1 kf1 : List AV} {truth2 : Bool} {res : Int} {h : AH} (hf1 : ∀ x0 v (L : List Blk) (M : List Nat), f1 x0 = some v → Spec Tryz.prog ff1 (af1 ++ [.int .i32 x0] ++ kf1) (h.ext L M) (fun rr hh => rr = .bool v ∧ hh = h.ext L M)) (hF : stringsXindexFunc s0 f1 truth2 = some res) : Spec Tryz.prog 122 [.str s0, .fn (.func ff1) af1 kf1, .bool truth2] h (fun rr hh => rr = .int .i64 res ∧ hh = h) := by
 unfold stringsXindexFunc at hF
 refine spec_of_body_extC Tryz.func122 rfl (by kernel_rfl) (env := [.str s0, .fn (.func ff1) af1 kf1, .bool truth2, za, za, za, za, za, za, za, za, za, za, za, za, za, za, za, za, za, za]) (by rfl) (fun hlow hC => ?_)
 simp only [lowL, AV.low, Bool.and_eq_true, Bool.true_and, and_true] at hlow
 have hlaf1 : ∀ n m, h.blks.length ≤ n → h.toks.length ≤ m → lowL n m af1 = true := fun n m h1 h2 => lowL_up h1 h2 _ (by simp [hlow])
 have hlkf1 : ∀ n m, h.blks.length ≤ n → h.toks.length ≤ m → lowL n m kf1 = true := fun n m h1 h2 => lowL_up h1 h2 _ (by simp [hlow])
 refine zk (zd ?_)
 refine zc rfl (zg rfl rfl (zb rfl)) st6 ?_
 refine ze (zj (zk (zk (zd ?_))))
 refine zc rfl (zf rfl gt0 (zb rfl)) st9 ?_
 refine zc rfl (e_range (n := 0) rfl ty9 gt9 rfl) st10 ?_
 refine ze (zj (r_block ?_))
 refine r_loopWF (fun (s1 : Nat) => anys [0, 3, 4, 5, 6, 7, 8, 9, 11, 12, 13, 14, 15, 16, 17, 18, 19, 20] []) (fun s1 => h.ext [.siter s0 s1] []) hF (fun _ => by simp only [anys, upd, List.set_cons_succ, List.set_cons_zero]; try rfl) (wk.le (by exact (.drop (.eq (.eq (.d4 (.drop (.drop (.drop (.eq (.d4 (.d4 (.drop (.drop leL.nil)))))))))))))) ?_
 intro n1 s1 o1 hF hK1
 refine zk (zd ?_)
 refine ops_nextF rfl rfl gt10 rfl st11 st11 hF (fun hp5 hF => ?_) (fun hF => ?_)
 ·skip
  refine zc rfl (s_extract rfl gt11 rfl (zb rfl)) st12 ?_
  refine ze (zj (zk ?_))
  refine r_cond gt12 (fun _ => ?_) (fun hh => by cases hh)
  refine r_skip (zj (r_block (zk (zd ?_))))
  refine zc rfl (s_extract rfl gt11 rfl (zb rfl)) st13 ?_
  refine zc rfl (s_extract rfl gt11 rfl (zb rfl)) st14 ?_
  refine zc rfl (zg rfl gt13 (zb rfl)) st7 ?_
  refine zc rfl (zg rfl gt14 (zb rfl)) st8 ?_
  refine ze (zj (zk (zd ?_)))
  refine zc rfl (zf rfl gt1 (zb rfl)) st15 ?_
  refine zc rfl (zf rfl gt8 (zb rfl)) st16 ?_
  refine bindF hF (fun v6 hv6 hF => ?_)
  refine yf rfl (s_callC rfl rfl gt15 (zo gt16 zw) (.cons (zb rfl) .nil) rfl) (hf1 _ _ _ _ hv6) st17 ?_
  refine zc rfl (zf rfl gt2 (zb rfl)) st18 ?_
  refine zc rfl (zu rfl gt17 gt18 (bin_boolE ty4)) st19 ?_
  refine ze (zj ?_)
  refine r_condF gt19 hF (fun hc7 hF => ?_) (fun hc7 hF => ?_)
  ·skip
   refine zk (zd ?_)
   refine zc rfl (zf rfl gt7 (zb rfl)) st20 ?_
   refine zc rfl (zg rfl gt20 (zb rfl)) st6 ?_
   refine ze (zj (r_ret ?_))
   refine yd ?_
   refine q_loop_ret ?_
   obtain rfl := Option.some.inj hF
   replace hF := hK1
   refine yd ?_
   refine zx ?_
   obtain rfl := Option.some.inj hF
   refine zz rfl (yc gt6 yb) (zy (leV.refl _) rfl ?_)
   exact ⟨rfl, rfl⟩
  ·skip
   refine r_skip (q_block (q_loop ?_))
   obtain rfl := Option.some.inj hF
   exact ⟨(s1 + (dec s0 s1).2), hK1, wk.le (by exact (.drop (.eq (.eq (.d4 (.drop (.drop (.drop (.eq (.d4 (.d4 (.drop (.drop leL.nil)))))))))))))⟩
 ·skip
  refine zc rfl (s_extract rfl gt11 rfl (zb rfl)) st12 ?_
  refine ze (zj (zk ?_))
  refine r_cond gt12 (fun hh => by cases hh) (fun _ => ?_)
  refine r_exit ?_
  refine q_seq_exit ?_
  refine yj ?_
  obtain rfl := Option.some.inj hF
  replace hF := hK1
  refine q_block_hit ?_
  refine zj (zk (zd ?_))
  refine zc rfl (zg rfl rfl (zb rfl)) st6 ?_
  refine ze (zj (r_ret ?_))
  obtain rfl := Option.some.inj hF
  refine zz rfl (yc gt6 yb) (zy (leV.refl _) rfl ?_)
  exact ⟨rfl, rfl⟩
/-! strings.IndexFunc -/
theorem ok104 {s0 : Str} {f1 : (Int → Option Bool)} {ff1 : FuncId} {af1 kf1 : List AV} {res : Int} {h : AH} (hf1 : ∀ x0 v (L : List Blk) (M : List Nat), f1 x0 = some v → Spec Tryz.prog ff1 (af1 ++ [.int .i32 x0] ++ kf1) (h.ext L M) (fun rr hh => rr = .bool v ∧ hh = h.ext L M)) (hF : stringsIndexFunc s0 f1 = some res) : Spec Tryz.prog 104 [.str s0, .fn (.func ff1) af1 kf1] h (fun rr hh => rr = .int .i64 res ∧ hh = h) := by
 unfold stringsIndexFunc at hF
 refine spec_of_body_extC Tryz.func104 rfl (by kernel_rfl) (env := [.str s0, .fn (.func ff1) af1 kf1, za, za, za, za, za, za]) (by rfl) (fun hlow hC => ?_)
 simp only [lowL, AV.low, Bool.and_eq_true, Bool.true_and, and_true] at hlow
 have hlaf1 : ∀ n m, h.blks.length ≤ n → h.toks.length ≤ m → lowL n m af1 = true := fun n m h1 h2 => lowL_up h1 h2 _ (by simp [hlow])
 have hlkf1 : ∀ n m, h.blks.length ≤ n → h.toks.length ≤ m → lowL n m kf1 = true := fun n m h1 h2 => lowL_up h1 h2 _ (by simp [hlow])
 refine zk (zd ?_)
 refine zc rfl (zg rfl rfl (zb rfl)) st4 ?_
 refine ze (zj (zk (zd ?_)))
 refine zc rfl (zf rfl gt0 (zb rfl)) st5 ?_
 refine zc rfl (zf rfl gt1 (zb rfl)) st6 ?_
 refine bindF hF (fun v1 hv1 hF => ?_)
 refine yf rfl (yg rfl rfl rfl (zo gt5 (zo gt6 (zo rfl zw))) (.cons (zb rfl) (.cons (zb rfl) (.cons (zb rfl) .nil)))) (ok122 (fun x0 v L M hv => by rw [ext_ext]; exact hf1 x0 v _ _ hv) hv1) st7 ?_
 refine zc rfl (zg rfl gt7 (zb rfl)) st4 ?_
 refine ze (zj (r_ret ?_))
 obtain rfl := Option.some.inj hF
 refine zz rfl (yc gt4 yb) (zy (leV.refl _) rfl ?_)
 exact ⟨rfl, rfl⟩
/-! strings.ContainsFunc -/
theorem ok84 {s0 : Str} {f1 : (Int → Option Bool)} {ff1 : FuncId} {af1 kf1 : List AV} {res : Bool} {h : AH} (hf1 : ∀ x0 v (L : List Blk) (M : List Nat), f1 x0 = some v → Spec Tryz.prog ff1 (af1 ++ [.int .i32 x0] ++ kf1) (h.ext L M) (fun rr hh => rr = .bool v ∧ hh = h.ext L M)) (hF : stringsContainsFunc s0 f1 = some res) : Spec Tryz.prog 84 [.str s0, .fn (.func ff1) af1 kf1] h (fun rr hh => rr = .bool res ∧ hh = h) := by
 unfold stringsContainsFunc at hF
 refine spec_of_body_extC Tryz.func84 rfl (by kernel_rfl) (env := [.str s0, .fn (.func ff1) af1 kf1, za, za, za, za, za, za, za]) (by rfl) (fun hlow hC => ?_)
 simp only [lowL, AV.low, Bool.and_eq_true, Bool.true_and, and_true] at hlow
 have hlaf1 : ∀ n m, h.blks.length ≤ n → h.toks.length ≤ m → lowL n m af1 = true := fun n m h1 h2 => lowL_up h1 h2 _ (by simp [hlow])
 have hlkf1 : ∀ n m, h.blks.length ≤ n → h.toks.length ≤ m → lowL n m kf1 = true := fun n m h1 h2 => lowL_up h1 h2 _ (by simp [hlow])
 refine zk (zd ?_)
 refine zc rfl (zg rfl rfl (zb rfl)) st4 ?_
 refine ze (zj (zk (zd ?_)))
 refine zc rfl (zf rfl gt0 (zb rfl)) st5 ?_
 refine zc rfl (zf rfl gt1 (zb rfl)) st6 ?_
 refine bindF hF (fun v1 hv1 hF => ?_)
 refine yf rfl (yg rfl rfl rfl (zo gt5 (zo gt6 zw)) (.cons (zb rfl) (.cons (zb rfl) .nil))) (ok104 (fun x0 v L M hv => by rw [ext_ext]; exact hf1 x0 v _ _ hv) hv1) st7 ?_
 refine zc rfl (zu rfl gt7 rfl rfl) st8 ?_
 refine zc rfl (zg rfl gt8 (zb rfl)) st4 ?_
 refine ze (zj (r_ret ?_))
 obtain rfl := Option.some.inj hF
 refine zz rfl (yc gt4 yb) (zy (leV.refl _) rfl ?_)
 exact ⟨rfl, rfl⟩
/-! varve/op.IsName -/
theorem ok50 {s0 : Str} {res : Bool} {h : AH}  (hF : opIsName s0 = some res) : Spec Tryz.prog 50 [.str s0] h (fun rr hh => rr = .bool res ∧ hh = h) := by
 unfold opIsName at hF
 refine ye Tryz.func50 rfl (by kernel_rfl) (env := [.str s0, za, za, za, za, za, za, za, za, za, za, za, za, za, za, za, za, za]) (by rfl) ?_
 refine zk (zd ?_)
 refine zc rfl (zg rfl rfl (zb rfl)) st2 ?_
 refine ze (zj (zk (zd ?_)))
 refine zc rfl (zg rfl rfl (zb rfl)) st3 ?_
 refine ze (zj (zk (zd ?_)))
 refine zc rfl (zf rfl gt0 (zb rfl)) st4 ?_
 refine ops_len rfl (s_lenStr rfl rfl rfl rfl ty9 gt4) st5 fun hn1 => ?_
 replace hn1 := lenN hn1
 refine zc rfl (zu rfl gt5 rfl rfl) st6 ?_
 refine zc rfl (zf rfl gt6 (zb rfl)) st7 ?_
 refine zp rfl (fun hb => zf rfl gt0 (zb rfl)) st8 ?_
 refine ops_glen rfl (fun hb => s_lenStr rfl rfl rfl rfl ty9 (zn gt8 hb)) st9 fun hn2 => ?_
 refine zp rfl (fun hb => zu rfl (zn gt9 hb) rfl rfl) st10 ?_
 refine zc rfl (s_pick rfl gt7 gt10 rfl (pick_and (fun ht => gT ht))) st11 ?_
 refine zc rfl (zf rfl gt11 (zb rfl)) st12 ?_
 refine zp rfl (fun hb => zf rfl gt0 (zb rfl)) st13 ?_
 refine zp rfl (fun hb => zf rfl gt3 (zb rfl)) st14 ?_
 refine gbindF hF (fun v3 hv3 hF => ?_)
 refine ops_gcall rfl (fun hb => yg rfl rfl rfl (zo (zn gt13 hb) (zo (zn gt14 hb) zw)) (.cons (zb rfl) (.cons (zb rfl) .nil))) (fun hb => ok84 (fun _ v L M hv => ok83  hv) (hv3 hb)) st15 ?_
 refine zp rfl (fun hb => s_un rfl (zn gt15 hb) rfl) st16 ?_
 refine zc rfl (s_pick rfl gt12 gt16 rfl (pick_and (fun ht => gT ht))) st17 ?_
 refine zc rfl (zg rfl gt17 (zb rfl)) st2 ?_
 refine ze (zj (r_ret ?_))
 obtain rfl := Option.some.inj hF
 refine zz rfl (yc gt2 yb) (zy (leV.refl _) rfl ?_)
 exact ⟨rfl, rfl⟩
/-! varve/paths.MayPattern 1 -/
theorem ok49 {s0 : Str} {res : Bool} {h : AH}  (hF : pathsMayPatternC1 s0 = some res) : Spec Tryz.prog 49 [.str s0] h (fun rr hh => rr = .bool res ∧ hh = h) := by
 unfold pathsMayPatternC1 at hF
 refine ye Tryz.func49 rfl (by kernel_rfl) (env := [.str s0, za, za, za, za, za, za, za, za, za]) (by rfl) ?_
 refine zk (zd ?_)
 refine zc rfl (zg rfl rfl (zb rfl)) st2 ?_
 refine ze (zj (zk (zd ?_)))
 refine zc rfl (zf rfl gt0 (zb rfl)) st3 ?_
 refine zc rfl (zu rfl gt3 rfl rfl) st4 ?_
 refine zc rfl (zf rfl gt4 (zb rfl)) st5 ?_
 refine zp rfl (fun hb => zf rfl gt0 (zb rfl)) st6 ?_
 refine gbindF hF (fun v1 hv1 hF => ?_)
 refine ops_gcall rfl (fun hb => yg rfl rfl rfl (zo (zn gt6 hb) zw) (.cons (zb rfl) .nil)) (fun hb => ok50 (hv1 hb)) st7 ?_
 refine zp rfl (fun hb => s_un rfl (zn gt7 hb) rfl) st8 ?_
 refine zc rfl (s_pick rfl gt5 gt8 rfl (pick_and (fun ht => gT ht))) st9 ?_
 refine zc rfl (zg rfl gt9 (zb rfl)) st2 ?_
 refine ze (zj (r_ret ?_))
 obtain rfl := Option.some.inj hF
 refine zz rfl (yc gt2 yb) (zy (leV.refl _) rfl ?_)
 exact ⟨rfl, rfl⟩
/-! slices.IndexFunc[[]string,string] -/
theorem ok85 {s0 : (List Str)} {f1 : (Str → Option Bool)} {ff1 : FuncId} {af1 kf1 : List AV} {res : Int} {h : AH} (hf1 : ∀ x0 v (L : List Blk) (M : List Nat), f1 x0 = some v → Spec Tryz.prog ff1 (af1 ++ [.str x0] ++ kf1) (h.ext L M) (fun rr hh => rr = .bool v ∧ hh = h.ext L M)) (hF : slicesIndexFuncString s0 f1 = some res) : Spec Tryz.prog 85 [.sl 1 (s0.map strRow), .fn (.func ff1) af1 kf1] h (fun rr hh => rr = .int .i64 res ∧ hh = h) := by
 unfold slicesIndexFuncString at hF
 refine spec_of_body_extC Tryz.func85 rfl (by kernel_rfl) (env := [.sl 1 (s0.map strRow), .fn (.func ff1) af1 kf1, za, za, za, za, za, za, za, za, za, za, za, za, za, za, za, za, za]) (by rfl) (fun hlow hC => ?_)
 simp only [lowL, AV.low, Bool.and_eq_true, Bool.true_and, and_true] at hlow
 have hlaf1 : ∀ n m, h.blks.length ≤ n → h.toks.length ≤ m → lowL n m af1 = true := fun n m h1 h2 => lowL_up h1 h2 _ (by simp [hlow])
 have hlkf1 : ∀ n m, h.blks.length ≤ n → h.toks.length ≤ m → lowL n m kf1 = true := fun n m h1 h2 => lowL_up h1 h2 _ (by simp [hlow])
 refine zk (zd ?_)
 refine zc rfl (zg rfl rfl (zb rfl)) st4 ?_
 refine ze (zj (zk (zk (zd ?_))))
 refine zc rfl (zf rfl gt0 (zb rfl)) st6 ?_
 refine ops_len rfl (yh rfl rfl rfl rfl el26 gt6 lenMap) st7 fun hn1 => ?_
 replace hn1 := lenN hn1
 refine zc rfl (zf rfl rfl (zb rfl)) st8 ?_
 refine ze (zj (r_block ?_))
 refine yk (fun (n1 : Nat) (s1 : Unit) => anys [2, 3, 4, 5, 6, 9, 10, 11, 12, 13, 14, 15, 16, 17, 18] [(8, .int .i64 (n1 : Int))]) (fun s1 => h.ext [] []) hF (fun _ _ => by simp only [anys, upd, List.set_cons_succ, List.set_cons_zero]; try rfl) (wk.le (by exact (.eq (.eq (.d4 (.drop (.eq (.cons (leV.of_eq rfl) (.d4 (.d4 (.drop (.drop leL.nil)))))))))))) ?_
 intro n1 s1 hi1 hF
 refine zk (zd ?_)
 refine zc rfl (zu rfl gt8 gt7 rfl) st9 ?_
 refine ze (zj (zk ?_))
 refine r_condL gt9 hF (fun x1 o1 hl1 hx1 hF hK1 => ?_) (fun hF => ?_)
 ·skip
  refine r_skip (zj (zk (r_block (zk (zd ?_)))))
  refine zc rfl (zf rfl gt8 (zb rfl)) st10 ?_
  refine zc rfl (zg rfl gt10 (zb rfl)) st5 ?_
  refine ze (zj (zk (zd ?_)))
  refine zc rfl (zf rfl gt1 (zb rfl)) st11 ?_
  refine zc rfl (zf rfl gt0 (zb rfl)) st12 ?_
  refine zc rfl (zf rfl gt5 (zb rfl)) st13 ?_
  refine zc rfl (s_idxRow rfl el26 gt12 gt13 isl (idx_of hx1)) st14 ?_
  refine zc rfl (yi rfl ty9 gt14 (zr rfl) (zb rfl)) st15 ?_
  refine bindF hF (fun v7 hv7 hF => ?_)
  refine yf rfl (s_callC rfl rfl gt11 (zo gt15 zw) (.cons (zb rfl) .nil) rfl) (hf1 _ _ _ _ hv7) st16 ?_
  refine ze (zj ?_)
  refine r_condF gt16 hF (fun hc8 hF => ?_) (fun hc8 hF => ?_)
  ·skip
   refine zk (zd ?_)
   refine zc rfl (zf rfl gt5 (zb rfl)) st17 ?_
   refine zc rfl (zg rfl gt17 (zb rfl)) st4 ?_
   refine ze (zj (r_ret ?_))
   refine yd ?_
   refine zx ?_
   refine q_loop_ret ?_
   obtain rfl := Option.some.inj hF
   replace hF := hK1
   refine yd ?_
   refine zx ?_
   obtain rfl := Option.some.inj hF
   refine zz rfl (yc gt4 yb) (zy (leV.refl _) rfl ?_)
   exact ⟨rfl, rfl⟩
  ·skip
   refine r_skip (q_block (zj (zd ?_)))
   refine zc rfl (zu rfl gt8 rfl rfl) st18 ?_
   refine zc rfl (zf rfl gt18 (zb rfl)) st8 ?_
   refine ze (q_loop ?_)
   obtain rfl := Option.some.inj hF
   exact ⟨(), hl1, hK1, wk.le (by exact (.eq (.eq (.d4 (.drop (.eq (.cons (leV.of_eq (w64e (by omega) (by omega))) (.d4 (.d4 (.drop (.drop leL.nil)))))))))))⟩
 ·skip
  refine r_exit ?_
  refine q_seq_exit ?_
  refine yj ?_
  refine q_block_hit ?_
  refine zj (zk (zd ?_))
  refine zc rfl (zg rfl rfl (zb rfl)) st4 ?_
  refine ze (zj (r_ret ?_))
  obtain rfl := Option.some.inj hF
  refine zz rfl (yc gt4 yb) (zy (leV.refl _) rfl ?_)
  exact ⟨rfl, rfl⟩
/-! slices.ContainsFunc[[]string,string] -/
theorem ok51 {s0 : (List Str)} {f1 : (Str → Option Bool)} {ff1 : FuncId} {af1 kf1 : List AV} {res : Bool} {h : AH} (hf1 : ∀ x0 v (L : List Blk) (M : List Nat), f1 x0 = some v → Spec Tryz.prog ff1 (af1 ++ [.str x0] ++ kf1) (h.ext L M) (fun rr hh => rr = .bool v ∧ hh = h.ext L M)) (hF : slicesContainsFuncString s0 f1 = some res) : Spec Tryz.prog 51 [.sl 1 (s0.map strRow), .fn (.func ff1) af1 kf1] h (fun rr hh => rr = .bool res ∧ hh = h) := by
 unfold slicesContainsFuncString at hF
 refine spec_of_body_extC Tryz.func51 rfl (by kernel_rfl) (env := [.sl 1 (s0.map strRow), .fn (.func ff1) af1 kf1, za, za, za, za, za, za, za]) (by rfl) (fun hlow hC => ?_)
 simp only [lowL, AV.low, Bool.and_eq_true, Bool.true_and, and_true] at hlow
 have hlaf1 : ∀ n m, h.blks.length ≤ n → h.toks.length ≤ m → lowL n m af1 = true := fun n m h1 h2 => lowL_up h1 h2 _ (by simp [hlow])
 have hlkf1 : ∀ n m, h.blks.length ≤ n → h.toks.length ≤ m → lowL n m kf1 = true := fun n m h1 h2 => lowL_up h1 h2 _ (by simp [hlow])
 refine zk (zd ?_)
 refine zc rfl (zg rfl rfl (zb rfl)) st4 ?_
 refine ze (zj (zk (zd ?_)))
 refine zc rfl (zf rfl gt0 (zb rfl)) st5 ?_
 refine zc rfl (zf rfl gt1 (zb rfl)) st6 ?_
 refine bindF hF (fun v1 hv1 hF => ?_)
 refine yf rfl (yg rfl rfl rfl (zo gt5 (zo gt6 zw)) (.cons (zb rfl) (.cons (zb rfl) .nil))) (ok85 (fun x0 v L M hv => by rw [ext_ext]; exact hf1 x0 v _ _ hv) hv1) st7 ?_
 refine zc rfl (zu rfl gt7 rfl rfl) st8 ?_
 refine zc rfl (zg rfl gt8 (zb rfl)) st4 ?_
 refine ze (zj (r_ret ?_))
 obtain rfl := Option.some.inj hF
 refine zz rfl (yc gt4 yb) (zy (leV.refl _) rfl ?_)
 exact ⟨rfl, rfl⟩
/-! varve/paths.MayPattern -/
theorem ok32 {p0 : (List Str)} {res : Bool} {h : AH}  (hF : pathsMayPattern p0 = some res) : Spec Tryz.prog 32 [.sl 1 (p0.map strRow)] h (fun rr hh => rr = .bool res ∧ hh = h) := by
 unfold pathsMayPattern at hF
 refine ye Tryz.func32 rfl (by kernel_rfl) (env := [.sl 1 (p0.map strRow), za, za, za, za, za, za, za, za, za, za, za, za, za, za, za, za, za, za, za, za, za, za, za, za, za, za, za]) (by rfl) ?_
 refine zk (zd ?_)
 refine zc rfl (zg rfl rfl (zb rfl)) st2 ?_
 refine ze (zj (zk (zd ?_)))
 refine zc rfl (zf rfl gt0 (zb rfl)) st7 ?_
 refine bindF hF (fun v1 hv1 hF => ?_)
 refine yf rfl (yg rfl rfl rfl (zo gt7 zw) (.cons (zb rfl) .nil)) (ok48 hv1) st8 ?_
 refine zc rfl (zf rfl gt8 (zb rfl)) st6 ?_
 refine zc rfl (s_extract rfl gt6 rfl (zb rfl)) st9 ?_
 refine zc rfl (s_extract rfl gt6 rfl (zb rfl)) st10 ?_
 refine zc rfl (zg rfl gt9 (zb rfl)) st3 ?_
 refine zc rfl (zg rfl gt10 (zb rfl)) st4 ?_
 refine ze (zj (zk (zd ?_)))
 refine zc rfl (zg rfl rfl (zb rfl)) st5 ?_
 refine ze (zj (zk (zd ?_)))
 refine zc rfl (zf rfl gt3 (zb rfl)) st11 ?_
 refine ops_len rfl (yh rfl rfl rfl rfl el26 gt11 lenMap) st12 fun hn2 => ?_
 replace hn2 := lenN hn2
 refine zc rfl (zu rfl gt12 rfl rfl) st13 ?_
 refine zc rfl (zf rfl gt13 (zb rfl)) st14 ?_
 refine zp rfl (fun hb => zf rfl gt4 (zb rfl)) st15 ?_
 refine zc rfl (s_pick rfl gt14 rfl gt15 (pick_or (fun ht => gF ht))) st16 ?_
 refine zc rfl (zf rfl gt16 (zb rfl)) st17 ?_
 refine zp rfl (fun hb => zf rfl gt3 (zb rfl)) st18 ?_
 refine ops_glen rfl (fun hb => yh rfl rfl rfl rfl el26 (zn gt18 hb) lenMap) st19 fun hn3 => ?_
 refine zp rfl (fun hb => zu rfl (zn gt19 hb) rfl rfl) st20 ?_
 refine zc rfl (s_pick rfl gt17 gt20 rfl (pick_and (fun ht => gT ht))) st21 ?_
 refine zc rfl (zf rfl gt21 (zb rfl)) st22 ?_
 refine zp rfl (fun hb => zf rfl gt3 (zb rfl)) st23 ?_
 refine zp rfl (fun hb => zf rfl gt5 (zb rfl)) st24 ?_
 refine gbindF hF (fun v4 hv4 hF => ?_)
 refine ops_gcall rfl (fun hb => yg rfl rfl rfl (zo (zn gt23 hb) (zo (zn gt24 hb) zw)) (.cons (zb rfl) (.cons (zb rfl) .nil))) (fun hb => ok51 (fun _ v L M hv => ok49  hv) (hv4 hb)) st25 ?_
 refine zp rfl (fun hb => s_un rfl (zn gt25 hb) rfl) st26 ?_
 refine zc rfl (s_pick rfl gt22 gt26 rfl (pick_and (fun ht => gT ht))) st27 ?_
 refine zc rfl (zg rfl gt27 (zb rfl)) st2 ?_
 refine ze (zj (r_ret ?_))
 obtain rfl := Option.some.inj hF
 refine zz rfl (yc gt2 yb) (zy (leV.refl _) rfl ?_)
 exact ⟨rfl, rfl⟩
/-! varve/rights.mayOne -/
theorem ok18 {x0 : GRule} {res : Bool} {h : AH}  (hF : rightsXmayOne x0 = some res) : Spec Tryz.prog 18 [.agg [.int .u8 x0.rep, .sl 1 (x0.path.map strRow), .int .u8 x0.kinds, .bool x0.allow, .bool x0.read]] h (fun rr hh => rr = .bool res ∧ hh = h) := by
 unfold rightsXmayOne at hF
 refine ye Tryz.func18 rfl (by kernel_rfl) (env := [.agg [.int .u8 x0.rep, .sl 1 (x0.path.map strRow), .int .u8 x0.kinds, .bool x0.allow, .bool x0.read], za, za, za, za, za, za, za, za, za, za, za, za, za, za, za, za, za, za, za, za, za]) (by rfl) ?_
 refine zk (zd ?_)
 refine zc rfl (e_box (n := 0) rfl gt0 (zb rfl) rfl rfl) st1 ?_
 refine zc rfl (zg rfl rfl (zb rfl)) st2 ?_
 refine ze (zj (zk (zd ?_)))
 refine zc rfl (zi rfl fo54x0 gt1 rfl) st3 ?_
 refine zc rfl (zt rfl ty5 gt3 rfl (zr rfl) (zb rfl)) st4 ?_
 refine zc rfl (zu rfl gt4 rfl rfl) st5 ?_
 refine zc rfl (zf rfl gt5 (zb rfl)) st6 ?_
 refine zp rfl (fun hb => zi rfl fo54x0 gt1 rfl) st7 ?_
 refine zp rfl (fun hb => zt rfl ty5 (zn gt7 hb) rfl (zr rfl) (zb rfl)) st8 ?_
 refine zp rfl (fun hb => zu rfl (zn gt8 hb) rfl rfl) st9 ?_
 refine zc rfl (s_pick rfl gt6 rfl gt9 (pick_or (fun ht => gF ht))) st10 ?_
 refine zc rfl (zf rfl gt10 (zb rfl)) st11 ?_
 refine zp rfl (fun hb => zi rfl fo54x1 gt1 rfl) st12 ?_
 refine zp rfl (fun hb => zt rfl ty26 (zn gt12 hb) rfl (zr rfl) (zb rfl)) st13 ?_
 refine gbindF hF (fun v1 hv1 hF => ?_)
 refine ops_gcall rfl (fun hb => yg rfl rfl rfl (zo (zn gt13 hb) zw) (.cons (zb rfl) .nil)) (fun hb => ok32 (hv1 hb)) st14 ?_
 refine zc rfl (s_pick rfl gt11 gt14 rfl (pick_and (fun ht => gT ht))) st15 ?_
 refine zc rfl (zf rfl gt15 (zb rfl)) st16 ?_
 refine zp rfl (fun hb => zi rfl fo54x2 gt1 rfl) st17 ?_
 refine zp rfl (fun hb => zt rfl ty5 (zn gt17 hb) rfl (zr rfl) (zb rfl)) st18 ?_
 refine zp rfl (fun hb => zu rfl (zn gt18 hb) rfl rfl) st19 ?_
 refine zp rfl (fun hb => zu rfl (zn gt19 hb) rfl rfl) st20 ?_
 refine zc rfl (s_pick rfl gt16 gt20 rfl (pick_and (fun ht => gT ht))) st21 ?_
 refine zc rfl (zg rfl gt21 (zb rfl)) st2 ?_
 refine ze (zj (r_ret ?_))
 obtain rfl := Option.some.inj hF
 refine zz rfl (yc gt2 yb) (zy (leV.refl _) rfl ?_)
 exact ⟨rfl, rfl⟩
/-! varve/rights.May 1 -/
theorem ok17 {x0 : GRule} {res : Bool} {h : AH}  (hF : rightsMayC1 x0 = some res) : Spec Tryz.prog 17 [.agg [.int .u8 x0.rep, .sl 1 (x0.path.map strRow), .int .u8 x0.kinds, .bool x0.allow, .bool x0.read]] h (fun rr hh => rr = .bool res ∧ hh = h) := by
 unfold rightsMayC1 at hF
 refine ye Tryz.func17 rfl (by kernel_rfl) (env := [.agg [.int .u8 x0.rep, .sl 1 (x0.path.map strRow), .int .u8 x0.kinds, .bool x0.allow, .bool x0.read], za, za, za, za, za]) (by rfl) ?_
 refine zk (zd ?_)
 refine zc rfl (e_box (n := 0) rfl gt0 (zb rfl) rfl rfl) st1 ?_
 refine zc rfl (zg rfl rfl (zb rfl)) st2 ?_
 refine ze (zj (zk (zd ?_)))
 refine zc rfl (zt rfl ty54.choose_spec.1 gt1 rfl (ldC_agX (cs' := [.int .u8 x0.rep, .sl 1 (x0.path.map strRow), .int .u8 x0.kinds, .bool x0.allow, .bool x0.read]) ty54.choose_spec.2 rfl rfl) (zb rfl)) st3 ?_
 refine bindF hF (fun v1 hv1 hF => ?_)
 refine yf rfl (yg rfl rfl rfl (zo gt3 zw) (.cons (zb rfl) .nil)) (ok18 hv1) st4 ?_
 refine zc rfl (s_un rfl gt4 rfl) st5 ?_
 refine zc rfl (zg rfl gt5 (zb rfl)) st2 ?_
 refine ze (zj (r_ret ?_))
 obtain rfl := Option.some.inj hF
 refine zz rfl (yc gt2 yb) (zy (leV.refl _) rfl ?_)
 exact ⟨rfl, rfl⟩
/-! varve/rights.May -/
theorem ok6 {l0 : (List GRule)} {res : Bool} {h : AH}  (hF : rightsMay l0 = some res) : Spec Tryz.prog 6 [.sl 5 (l0.map GRule.row)] h (fun rr hh => rr = .bool res ∧ hh = h) := by
 unfold rightsMay at hF
 refine ye Tryz.func6 rfl (by kernel_rfl) (env := [.sl 5 (l0.map GRule.row), za, za, za, za, za, za, za, za, za, za]) (by rfl) ?_
 refine zk (zd ?_)
 refine zc rfl (zg rfl rfl (zb rfl)) st2 ?_
 refine ze (zj (zk (zd ?_)))
 refine zc rfl (zf rfl gt0 (zb rfl)) st3 ?_
 refine ops_len rfl (yh rfl rfl rfl rfl el22 gt3 lenMap) st4 fun hn1 => ?_
 replace hn1 := lenN hn1
 refine zc rfl (zu rfl gt4 rfl rfl) st5 ?_
 refine zc rfl (zf rfl gt5 (zb rfl)) st6 ?_
 refine zp rfl (fun hb => zf rfl gt0 (zb rfl)) st7 ?_
 refine gbindF hF (fun v2 hv2 hF => ?_)
 refine ops_gcall rfl (fun hb => yg rfl rfl rfl (zo (zn gt7 hb) (zo rfl zw)) (.cons (zb rfl) (.cons (zb rfl) .nil))) (fun hb => ok16 (fun _ v L M hv => ok17  hv) (hv2 hb)) st8 ?_
 refine zp rfl (fun hb => s_un rfl (zn gt8 hb) rfl) st9 ?_
 refine zc rfl (s_pick rfl gt6 gt9 rfl (pick_and (fun ht => gT ht))) st10 ?_
 refine zc rfl (zg rfl gt10 (zb rfl)) st2 ?_
 refine ze (zj (r_ret ?_))
 obtain rfl := Option.some.inj hF
 refine zz rfl (yc gt2 yb) (zy (leV.refl _) rfl ?_)
 exact ⟨rfl, rfl⟩
/-! varve/varveref04.IsName -/
theorem ok33 {s0 : Str} {res : Bool} {h : AH}  (hF : ref04IsName s0 = some res) : Spec Tryz.prog 33 [.str s0] h (fun rr hh => rr = .bool res ∧ hh = h) := by
 unfold ref04IsName at hF
 refine ye Tryz.func33 rfl (by kernel_rfl) (env := [.str s0, za, za, za, za, za, za, za, za, za, za, za, za, za, za, za, za, za, za, za, za, za, za, za, za, za, za, za, za, za, za, za, za, za, za, za, za, za, za, za, za, za, za, za, za]) (by rfl) ?_
 refine zk (zd ?_)
 refine zc rfl (zg rfl rfl (zb rfl)) st2 ?_
 refine ze (zj (zk (zk (zd ?_))))
 refine zc rfl (zf rfl gt0 (zb rfl)) st5 ?_
 refine ops_len rfl (s_lenStr rfl rfl rfl rfl ty9 gt5) st6 fun hn1 => ?_
 replace hn1 := lenN hn1
 refine zc rfl (zu rfl gt6 rfl rfl) st7 ?_
 refine zc rfl (zf rfl gt7 (zb rfl)) st8 ?_
 refine zp rfl (fun hb => zf rfl gt0 (zb rfl)) st9 ?_
 refine ops_glen rfl (fun hb => s_lenStr rfl rfl rfl rfl ty9 (zn gt9 hb)) st10 fun hn2 => ?_
 refine zp rfl (fun hb => zu rfl (zn gt10 hb) rfl rfl) st11 ?_
 refine zc rfl (s_pick rfl gt8 rfl gt11 (pick_or (fun ht => gF ht))) st12 ?_
 refine ze (zj ?_)
 refine r_condF gt12 hF (fun hc3 hF => ?_) (fun hc3 hF => ?_)
 ·skip
  refine zk (zd ?_)
  refine zc rfl (zg rfl rfl (zb rfl)) st2 ?_
  refine ze (zj (r_ret (zx ?_)))
  obtain rfl := Option.some.inj hF
  refine zz rfl (yc gt2 yb) (zy (leV.refl _) rfl ?_)
  exact ⟨rfl, rfl⟩
 ·skip
  refine r_skip (zj (zk (zk (zd ?_))))
  refine zc rfl (zg rfl rfl (zb rfl)) st3 ?_
  refine ze (zj (r_block ?_))
  refine yk (fun (n1 : Nat) (s1 : Unit) => anys [1, 2, 4, 5, 6, 7, 8, 9, 10, 11, 12, 13, 14, 15, 16, 17, 18, 19, 20, 21, 22, 23, 24, 25, 26, 27, 28, 29, 30, 31, 32, 33, 34, 35, 36, 37, 38, 39, 40, 41, 42, 43, 44] [(3, .int .i64 (n1 : Int))]) (fun s1 => h.ext [] []) hF (fun _ _ => by simp only [anys, upd, List.set_cons_succ, List.set_cons_zero]; try rfl) (wk.le (by exact (.eq (.drop (.drop (.cons (leV.of_eq rfl) (.d16 (.d16 (.d4 (.d4 (.drop leL.nil))))))))))) ?_
  intro n1 s1 hi1 hF
  refine zk (zk (zd ?_))
  refine zc rfl (zf rfl gt3 (zb rfl)) st13 ?_
  refine zc rfl (zf rfl gt0 (zb rfl)) st14 ?_
  refine ops_len rfl (s_lenStr rfl rfl rfl rfl ty9 gt14) st15 fun hn10 => ?_
  replace hn10 := lenN hn10
  refine zc rfl (zu rfl gt13 gt15 rfl) st16 ?_
  refine ze (zj ?_)
  refine r_condL gt16 hF (fun x1 o1 hl1 hx1 hF hK1 => ?_) (fun hF => ?_)
  ·skip
   refine r_skip (zj (zk (r_block (zk (zd ?_)))))
   refine zc rfl (zf rfl gt0 (zb rfl)) st19 ?_
   refine zc rfl (zf rfl gt3 (zb rfl)) st20 ?_
   refine zc rfl (s_idxStr rfl ty9 gt19 gt20 (idx_of hx1)) st21 ?_
   refine zc rfl (zg rfl gt21 (zb rfl)) st4 ?_
   refine ze (zj (zk (zd ?_)))
   refine zc rfl (zf rfl gt4 (zb rfl)) st22 ?_
   refine zc rfl (zu rfl gt22 rfl rfl) st23 ?_
   refine zc rfl (zf rfl gt23 (zb rfl)) st24 ?_
   refine zp rfl (fun hb => zf rfl gt4 (zb rfl)) st25 ?_
   refine zp rfl (fun hb => zu rfl (zn gt25 hb) rfl rfl) st26 ?_
   refine zc rfl (s_pick rfl gt24 gt26 rfl (pick_and (fun ht => gT ht))) st27 ?_
   refine zc rfl (zf rfl gt27 (zb rfl)) st28 ?_
   refine zp rfl (fun hb => zf rfl gt4 (zb rfl)) st29 ?_
   refine zp rfl (fun hb => zu rfl (zn gt29 hb) rfl rfl) st30 ?_
   refine zp rfl (fun hb => zf rfl (zn gt30 hb) (zb rfl)) st31 ?_
   refine zp (aG_gv rfl rfl rfl) (fun hb => zf rfl gt4 (zb rfl)) st32 ?_
   refine zp (aG_gv rfl rfl rfl) (fun hb => zu rfl (zn gt32 hb) rfl rfl) st33 ?_
   refine zp rfl (fun hb => s_pick rfl (zn gt31 hb) gt33 rfl (pick_and (fun ht => gT2 hb ht))) st34 ?_
   refine zc rfl (s_pick rfl gt28 rfl gt34 (pick_or (fun ht => gF ht))) st35 ?_
   refine zc rfl (zf rfl gt35 (zb rfl)) st36 ?_
   refine zp rfl (fun hb => zf rfl gt4 (zb rfl)) st37 ?_
   refine zp rfl (fun hb => zu rfl (zn gt37 hb) rfl rfl) st38 ?_
   refine zp rfl (fun hb => zf rfl (zn gt38 hb) (zb rfl)) st39 ?_
   refine zp (aG_gv rfl rfl rfl) (fun hb => zf rfl gt4 (zb rfl)) (sk st0) ?_
   refine zp (aG_gv rfl rfl rfl) (fun hb => zu rfl (zn (gk gt0) hb) rfl rfl) (sk st1) ?_
   refine zp rfl (fun hb => s_pick rfl (zn gt39 hb) (gk gt1) rfl (pick_and (fun ht => gT2 hb ht))) (sk st2) ?_
   refine zc rfl (s_pick rfl gt36 rfl (gk gt2) (pick_or (fun ht => gF ht))) (sk st3) ?_
   refine zc rfl (s_un rfl (gk gt3) rfl) (sk st4) ?_
   refine ze (zj ?_)
   refine r_condF (gk gt4) hF (fun hc11 hF => ?_) (fun hc11 hF => ?_)
   ·skip
    refine zk (zd ?_)
    refine zc rfl (zg rfl rfl (zb rfl)) st2 ?_
    refine ze (zj (r_ret ?_))
    refine yd ?_
    refine zx ?_
    refine q_loop_ret ?_
    obtain rfl := Option.some.inj hF
    replace hF := hK1
    refine yd ?_
    refine zx ?_
    obtain rfl := Option.some.inj hF
    refine zz rfl (yc gt2 yb) (zy (leV.refl _) rfl ?_)
    exact ⟨rfl, rfl⟩
   ·skip
    refine r_skip (q_block (zj (zd ?_)))
    refine zc rfl (zf rfl gt3 (zb rfl)) st17 ?_
    refine zc rfl (zu rfl gt17 rfl rfl) st18 ?_
    refine zc rfl (zg rfl gt18 (zb rfl)) st3 ?_
    refine ze (q_loop ?_)
    obtain rfl := Option.some.inj hF
    exact ⟨(), hl1, hK1, wk.le (by exact (.eq (.drop (.drop (.cons (leV.of_eq (w64e (by omega) (by omega))) (.d16 (.d16 (.d4 (.d4 (.drop leL.nil))))))))))⟩
  ·skip
   refine r_exit ?_
   refine q_seq_exit ?_
   refine yj ?_
   refine q_block_hit ?_
   refine zj (zk (zd ?_))
   refine zc rfl (zg rfl rfl (zb rfl)) st2 ?_
   refine ze (zj (r_ret ?_))
   obtain rfl := Option.some.inj hF
   refine zz rfl (yc gt2 yb) (zy (leV.refl _) rfl ?_)
   exact ⟨rfl, rfl⟩
/-! varve/varveref03.MayActor -/
theorem ok86 {a0 : GActor} {res : Bool} {h : AH}  (hF : ref03MayActor a0 = some res) : Spec Tryz.prog 86 [.agg [.int .u8 a0.rep, .int .u32 a0.inc]] h (fun rr hh => rr = .bool res ∧ hh = h) := by
 unfold ref03MayActor at hF
 refine ye Tryz.func86 rfl (by kernel_rfl) (env := [.agg [.int .u8 a0.rep, .int .u32 a0.inc], za, za, za, za, za, za, za, za, za, za, za, za, za, za, za]) (by rfl) ?_
 refine zk (zd ?_)
 refine zc rfl (e_box (n := 0) rfl gt0 (zb rfl) rfl rfl) st1 ?_
 refine zc rfl (zg rfl rfl (zb rfl)) st2 ?_
 refine ze (zj (zk (zd ?_)))
 refine zc rfl (zi rfl fo42x0 gt1 rfl) st3 ?_
 refine zc rfl (zt rfl ty5 gt3 rfl (zr rfl) (zb rfl)) st4 ?_
 refine zc rfl (zu rfl gt4 rfl rfl) st5 ?_
 refine zc rfl (zf rfl gt5 (zb rfl)) st6 ?_
 refine zp rfl (fun hb => zi rfl fo42x1 gt1 rfl) st7 ?_
 refine zp rfl (fun hb => zt rfl ty40 (zn gt7 hb) rfl (zr rfl) (zb rfl)) st8 ?_
 refine zp rfl (fun hb => zu rfl (zn gt8 hb) rfl rfl) st9 ?_
 refine zc rfl (s_pick rfl gt6 gt9 rfl (pick_and (fun ht => gT ht))) st10 ?_
 refine zc rfl (zf rfl gt10 (zb rfl)) st11 ?_
 refine zp rfl (fun hb => zi rfl fo42x1 gt1 rfl) st12 ?_
 refine zp rfl (fun hb => zt rfl ty40 (zn gt12 hb) rfl (zr rfl) (zb rfl)) st13 ?_
 refine zp rfl (fun hb => zu rfl (zn gt13 hb) rfl rfl) st14 ?_
 refine zc rfl (s_pick rfl gt11 gt14 rfl (pick_and (fun ht => gT ht))) st15 ?_
 refine zc rfl (zg rfl gt15 (zb rfl)) st2 ?_
 refine ze (zj (r_ret ?_))
 obtain rfl := Option.some.inj hF
 refine zz rfl (yc gt2 yb) (zy (leV.refl _) rfl ?_)
 exact ⟨rfl, rfl⟩
/-! varve/varveref03.May -/
theorem ok52 {d0 : GDot} {res : Bool} {h : AH}  (hF : ref03May d0 = some res) : Spec Tryz.prog 52 [.agg [.int .u8 d0.actor.rep, .int .u32 d0.actor.inc, .int .u64 d0.seq]] h (fun rr hh => rr = .bool res ∧ hh = h) := by
 unfold ref03May at hF
 refine ye Tryz.func52 rfl (by kernel_rfl) (env := [.agg [.int .u8 d0.actor.rep, .int .u32 d0.actor.inc, .int .u64 d0.seq], za, za, za, za, za, za, za, za, za, za, za, za, za, za, za]) (by rfl) ?_
 refine zk (zd ?_)
 refine zc rfl (e_box (n := 0) rfl gt0 (zb rfl) rfl rfl) st1 ?_
 refine zc rfl (zg rfl rfl (zb rfl)) st2 ?_
 refine ze (zj (zk (zd ?_)))
 refine zc rfl (zi rfl fo44x0 gt1 rfl) st3 ?_
 refine zc rfl (zt rfl ty42.choose_spec.1 gt3 rfl (ldC_agX (cs' := [.int .u8 d0.actor.rep, .int .u32 d0.actor.inc]) ty42.choose_spec.2 rfl rfl) (zb rfl)) st4 ?_
 refine bindF hF (fun v1 hv1 hF => ?_)
 refine yf rfl (yg rfl rfl rfl (zo gt4 zw) (.cons (zb rfl) .nil)) (ok86 hv1) st5 ?_
 refine zc rfl (zf rfl gt5 (zb rfl)) st6 ?_
 refine zp rfl (fun hb => zi rfl fo44x1 gt1 rfl) st7 ?_
 refine zp rfl (fun hb => zt rfl ty39 (zn gt7 hb) rfl (zr rfl) (zb rfl)) st8 ?_
 refine zp rfl (fun hb => zu rfl (zn gt8 hb) rfl rfl) st9 ?_
 refine zc rfl (s_pick rfl gt6 gt9 rfl (pick_and (fun ht => gT ht))) st10 ?_
 refine zc rfl (zf rfl gt10 (zb rfl)) st11 ?_
 refine zp rfl (fun hb => zi rfl fo44x1 gt1 rfl) st12 ?_
 refine zp rfl (fun hb => zt rfl ty39 (zn gt12 hb) rfl (zr rfl) (zb rfl)) st13 ?_
 refine zp rfl (fun hb => zu rfl (zn gt13 hb) rfl rfl) st14 ?_
 refine zc rfl (s_pick rfl gt11 gt14 rfl (pick_and (fun ht => gT ht))) st15 ?_
 refine zc rfl (zg rfl gt15 (zb rfl)) st2 ?_
 refine ze (zj (r_ret ?_))
 obtain rfl := Option.some.inj hF
 refine zz rfl (yc gt2 yb) (zy (leV.refl _) rfl ?_)
 exact ⟨rfl, rfl⟩
/-! varve/varveref05.Item -/
theorem ok53 {l0 : (List GItem)} {d1 : GDot} {res : Int} {h : AH}  (hF : ref05Item l0 d1 = some res) : Spec Tryz.prog 53 [.sl 5 (l0.map GItem.row), .agg [.int .u8 d1.actor.rep, .int .u32 d1.actor.inc, .int .u64 d1.seq]] h (fun rr hh => rr = .int .i64 res ∧ hh = h) := by
 unfold ref05Item at hF
 refine ye Tryz.func53 rfl (by kernel_rfl) (env := [.sl 5 (l0.map GItem.row), .agg [.int .u8 d1.actor.rep, .int .u32 d1.actor.inc, .int .u64 d1.seq], za, za, za, za, za, za, za, za, za, za, za, za, za, za, za, za, za, za]) (by rfl) ?_
 refine zk (zd ?_)
 refine zc rfl (e_box (n := 0) rfl gt1 (zb rfl) rfl rfl) st3 ?_
 refine zc rfl (zg rfl rfl (zb rfl)) st4 ?_
 refine ze (zj (zk (zk (zd ?_))))
 refine zc rfl (zg rfl rfl (zb rfl)) st5 ?_
 refine ze (zj (r_block ?_))
 refine yk (fun (n1 : Nat) (s1 : Unit) => anys [1, 2, 4, 6, 7, 8, 9, 10, 11, 12, 13, 14, 15, 16, 17, 18, 19] [(5, .int .i64 (n1 : Int))]) (fun s1 => h.ext [.cells [.int .u8 d1.actor.rep, .int .u32 d1.actor.inc, .int .u64 d1.seq]] []) hF (fun _ _ => by simp only [anys, upd, List.set_cons_succ, List.set_cons_zero]; try rfl) (wk.le (by exact (.eq (.drop (.drop (.eq (.drop (.cons (leV.of_eq rfl) (.d4 (.d4 (.d4 (.drop (.drop leL.nil))))))))))))) ?_
 intro n1 s1 hi1 hF
 refine zk (zk (zd ?_))
 refine zc rfl (zf rfl gt5 (zb rfl)) st6 ?_
 refine zc rfl (zf rfl gt0 (zb rfl)) st7 ?_
 refine ops_len rfl (yh rfl rfl rfl rfl el45 gt7 lenMap) st8 fun hn10 => ?_
 replace hn10 := lenN hn10
 refine zc rfl (zu rfl gt6 gt8 rfl) st9 ?_
 refine ze (zj ?_)
 refine r_condL gt9 hF (fun x1 o1 hl1 hx1 hF hK1 => ?_) (fun hF => ?_)
 ·skip
  refine r_skip (zj (zk (r_block (zk ?_))))
  refine r_drawn [] [] trivial mixed (by kernel_rfl) ?_
  refine zq rfl rfl (zf rfl gt0 (zb rfl)) st12 ?_
  refine zq rfl rfl (zf rfl gt5 (zb rfl)) st13 ?_
  refine zq rfl rfl (s_idxRow rfl el45 gt12 gt13 isl (idx_of hx1)) st14 ?_
  refine zq rfl rfl (zi rfl fo79x1 gt14 rfl) st15 ?_
  refine zq rfl rfl (yi rfl ty44.choose_spec.1 gt15 (ldC_agX (cs' := [.int .u8 x1.dot.actor.rep, .int .u32 x1.dot.actor.inc, .int .u64 x1.dot.seq]) ty44.choose_spec.2 rfl rfl) (zb rfl)) st16 ?_
  refine zq rfl rfl (zt rfl ty44.choose_spec.1 gt3 rfl (ldC_agX (cs' := [.int .u8 d1.actor.rep, .int .u32 d1.actor.inc, .int .u64 d1.seq]) ty44.choose_spec.2 rfl rfl) (zb rfl)) st17 ?_
  refine zq rfl rfl (zu rfl gt16 gt17 (bin_eq pk44 rfl)) st18 ?_
  refine draw_nil ?_
  refine zj ?_
  refine r_condF gt18 hF (fun hc11 hF => ?_) (fun hc11 hF => ?_)
  ·skip
   refine zk (zd ?_)
   refine zc rfl (zf rfl gt5 (zb rfl)) st19 ?_
   refine zc rfl (zg rfl gt19 (zb rfl)) st4 ?_
   refine ze (zj (r_ret ?_))
   refine yd ?_
   refine zx ?_
   refine q_loop_ret ?_
   obtain rfl := Option.some.inj hF
   replace hF := hK1
   refine yd ?_
   refine zx ?_
   obtain rfl := Option.some.inj hF
   refine zz rfl (yc gt4 yb) (zy (leV.refl _) rfl ?_)
   exact ⟨rfl, rfl⟩
  ·skip
   refine r_skip (q_block (zj (zd ?_)))
   refine zc rfl (zf rfl gt5 (zb rfl)) st10 ?_
   refine zc rfl (zu rfl gt10 rfl rfl) st11 ?_
   refine zc rfl (zg rfl gt11 (zb rfl)) st5 ?_
   refine ze (q_loop ?_)
   obtain rfl := Option.some.inj hF
   exact ⟨(), hl1, hK1, wk.le (by exact (.eq (.drop (.drop (.eq (.drop (.cons (leV.of_eq (w64e (by omega) (by omega))) (.d4 (.d4 (.d4 (.drop (.drop leL.nil))))))))))))⟩
 ·skip
  refine r_exit ?_
  refine q_seq_exit ?_
  refine yj ?_
  refine q_block_hit ?_
  refine zj (zk (zd ?_))
  refine zc rfl (zg rfl rfl (zb rfl)) st4 ?_
  refine ze (zj (r_ret ?_))
  obtain rfl := Option.some.inj hF
  refine zz rfl (yc gt4 yb) (zy (leV.refl _) rfl ?_)
  exact ⟨rfl, rfl⟩
/-! varve/varveref05.Tomb -/
theorem ok54 {l0 : (List GDot)} {d1 : GDot} {res : Bool} {h : AH}  (hF : ref05Tomb l0 d1 = some res) : Spec Tryz.prog 54 [.sl 3 (l0.map GDot.row), .agg [.int .u8 d1.actor.rep, .int .u32 d1.actor.inc, .int .u64 d1.seq]] h (fun rr hh => rr = .bool res ∧ hh = h) := by
 unfold ref05Tomb at hF
 refine ye Tryz.func54 rfl (by kernel_rfl) (env := [.sl 3 (l0.map GDot.row), .agg [.int .u8 d1.actor.rep, .int .u32 d1.actor.inc, .int .u64 d1.seq], za, za, za, za, za, za, za, za, za, za, za, za, za, za, za, za]) (by rfl) ?_
 refine zk (zd ?_)
 refine zc rfl (e_box (n := 0) rfl gt1 (zb rfl) rfl rfl) st3 ?_
 refine zc rfl (zg rfl rfl (zb rfl)) st4 ?_
 refine ze (zj (zk (zk (zd ?_))))
 refine zc rfl (zg rfl rfl (zb rfl)) st5 ?_
 refine ze (zj (r_block ?_))
 refine yk (fun (n1 : Nat) (s1 : Unit) => anys [1, 2, 4, 6, 7, 8, 9, 10, 11, 12, 13, 14, 15, 16, 17] [(5, .int .i64 (n1 : Int))]) (fun s1 => h.ext [.cells [.int .u8 d1.actor.rep, .int .u32 d1.actor.inc, .int .u64 d1.seq]] []) hF (fun _ _ => by simp only [anys, upd, List.set_cons_succ, List.set_cons_zero]; try rfl) (wk.le (by exact (.eq (.drop (.drop (.eq (.drop (.cons (leV.of_eq rfl) (.d4 (.d4 (.d4 leL.nil))))))))))) ?_
 intro n1 s1 hi1 hF
 refine zk (zk (zd ?_))
 refine zc rfl (zf rfl gt5 (zb rfl)) st6 ?_
 refine zc rfl (zf rfl gt0 (zb rfl)) st7 ?_
 refine ops_len rfl (yh rfl rfl rfl rfl el27 gt7 lenMap) st8 fun hn10 => ?_
 replace hn10 := lenN hn10
 refine zc rfl (zu rfl gt6 gt8 rfl) st9 ?_
 refine ze (zj ?_)
 refine r_condL gt9 hF (fun x1 o1 hl1 hx1 hF hK1 => ?_) (fun hF => ?_)
 ·skip
  refine r_skip (zj (zk (r_block (zk ?_))))
  refine r_drawn [] [] trivial mixed (by kernel_rfl) ?_
  refine zq rfl rfl (zf rfl gt0 (zb rfl)) st12 ?_
  refine zq rfl rfl (zf rfl gt5 (zb rfl)) st13 ?_
  refine zq rfl rfl (s_idxRow rfl el27 gt12 gt13 isl (idx_of hx1)) st14 ?_
  refine zq rfl rfl (yi rfl ty44.choose_spec.1 gt14 (ldC_agX (cs' := [.int .u8 x1.actor.rep, .int .u32 x1.actor.inc, .int .u64 x1.seq]) ty44.choose_spec.2 rfl rfl) (zb rfl)) st15 ?_
  refine zq rfl rfl (zt rfl ty44.choose_spec.1 gt3 rfl (ldC_agX (cs' := [.int .u8 d1.actor.rep, .int .u32 d1.actor.inc, .int .u64 d1.seq]) ty44.choose_spec.2 rfl rfl) (zb rfl)) st16 ?_
  refine zq rfl rfl (zu rfl gt15 gt16 (bin_eq pk44 rfl)) st17 ?_
  refine draw_nil ?_
  refine zj ?_
  refine r_condF gt17 hF (fun hc11 hF => ?_) (fun hc11 hF => ?_)
  ·skip
   refine zk (zd ?_)
   refine zc rfl (zg rfl rfl (zb rfl)) st4 ?_
   refine ze (zj (r_ret ?_))
   refine yd ?_
   refine zx ?_
   refine q_loop_ret ?_
   obtain rfl := Option.some.inj hF
   replace hF := hK1
   refine yd ?_
   refine zx ?_
   obtain rfl := Option.some.inj hF
   refine zz rfl (yc gt4 yb) (zy (leV.refl _) rfl ?_)
   exact ⟨rfl, rfl⟩
  ·skip
   refine r_skip (q_block (zj (zd ?_)))
   refine zc rfl (zf rfl gt5 (zb rfl)) st10 ?_
   refine zc rfl (zu rfl gt10 rfl rfl) st11 ?_
   refine zc rfl (zg rfl gt11 (zb rfl)) st5 ?_
   refine ze (q_loop ?_)
   obtain rfl := Option.some.inj hF
   exact ⟨(), hl1, hK1, wk.le (by exact (.eq (.drop (.drop (.eq (.drop (.cons (leV.of_eq (w64e (by omega) (by omega))) (.d4 (.d4 (.d4 leL.nil))))))))))⟩
 ·skip
  refine r_exit ?_
  refine q_seq_exit ?_
  refine yj ?_
  refine q_block_hit ?_
  refine zj (zk (zd ?_))
  refine zc rfl (zg rfl rfl (zb rfl)) st4 ?_
  refine ze (zj (r_ret ?_))
  obtain rfl := Option.some.inj hF
  refine zz rfl (yc gt4 yb) (zy (leV.refl _) rfl ?_)
  exact ⟨rfl, rfl⟩
/-! varve/varveref03.Less -/
theorem ok56 {a0 : GDot} {b1 : GDot} {res : Bool} {h : AH}  (hF : ref03Less a0 b1 = some res) : Spec Tryz.prog 56 [.agg [.int .u8 a0.actor.rep, .int .u32 a0.actor.inc, .int .u64 a0.seq], .agg [.int .u8 b1.actor.rep, .int .u32 b1.actor.inc, .int .u64 b1.seq]] h (fun rr hh => rr = .bool res ∧ hh = h) := by
 unfold ref03Less at hF
 refine ye Tryz.func56 rfl (by kernel_rfl) (env := [.agg [.int .u8 a0.actor.rep, .int .u32 a0.actor.inc, .int .u64 a0.seq], .agg [.int .u8 b1.actor.rep, .int .u32 b1.actor.inc, .int .u64 b1.seq], za, za, za, za, za, za, za, za, za, za, za, za, za, za, za, za, za, za, za, za, za, za, za, za, za, za, za, za, za, za, za, za, za, za, za, za]) (by rfl) ?_
 refine zk (zd ?_)
 refine zc rfl (e_box (n := 0) rfl gt0 (zb rfl) rfl rfl) st2 ?_
 refine zc rfl (e_box (n := 1) rfl gt1 (zb rfl) rfl rfl) st3 ?_
 refine zc rfl (zg rfl rfl (zb rfl)) st4 ?_
 refine ze (zj (zk (zk (zd ?_))))
 refine zc rfl (zi rfl fo44x0 gt2 rfl) st5 ?_
 refine zc rfl (zi rfl fo42x0 gt5 rfl) st6 ?_
 refine zc rfl (zt rfl ty5 gt6 rfl (zr rfl) (zb rfl)) st7 ?_
 refine zc rfl (zi rfl fo44x0 gt3 rfl) st8 ?_
 refine zc rfl (zi rfl fo42x0 gt8 rfl) st9 ?_
 refine zc rfl (zt rfl ty5 gt9 rfl (zr rfl) (zb rfl)) st10 ?_
 refine zc rfl (zu rfl gt7 gt10 rfl) st11 ?_
 refine ze (zj ?_)
 refine r_condF gt11 hF (fun hc1 hF => ?_) (fun hc1 hF => ?_)
 ·skip
  refine zk (zd ?_)
  refine zc rfl (zi rfl fo44x0 gt2 rfl) st12 ?_
  refine zc rfl (zi rfl fo42x0 gt12 rfl) st13 ?_
  refine zc rfl (zt rfl ty5 gt13 rfl (zr rfl) (zb rfl)) st14 ?_
  refine zc rfl (zi rfl fo44x0 gt3 rfl) st15 ?_
  refine zc rfl (zi rfl fo42x0 gt15 rfl) st16 ?_
  refine zc rfl (zt rfl ty5 gt16 rfl (zr rfl) (zb rfl)) st17 ?_
  refine zc rfl (zu rfl gt14 gt17 rfl) st18 ?_
  refine zc rfl (zg rfl gt18 (zb rfl)) st4 ?_
  refine ze (zj (r_ret (zx ?_)))
  obtain rfl := Option.some.inj hF
  refine zz rfl (yc gt4 yb) (zy (leV.refl _) rfl ?_)
  exact ⟨rfl, rfl⟩
 ·skip
  refine r_skip (zj (zk (zk (zd ?_))))
  refine zc rfl (zi rfl fo44x0 gt2 rfl) st19 ?_
  refine zc rfl (zi rfl fo42x1 gt19 rfl) st20 ?_
  refine zc rfl (zt rfl ty40 gt20 rfl (zr rfl) (zb rfl)) st21 ?_
  refine zc rfl (zi rfl fo44x0 gt3 rfl) st22 ?_
  refine zc rfl (zi rfl fo42x1 gt22 rfl) st23 ?_
  refine zc rfl (zt rfl ty40 gt23 rfl (zr rfl) (zb rfl)) st24 ?_
  refine zc rfl (zu rfl gt21 gt24 rfl) st25 ?_
  refine ze (zj ?_)
  refine r_condF gt25 hF (fun hc2 hF => ?_) (fun hc2 hF => ?_)
  ·skip
   refine zk (zd ?_)
   refine zc rfl (zi rfl fo44x0 gt2 rfl) st26 ?_
   refine zc rfl (zi rfl fo42x1 gt26 rfl) st27 ?_
   refine zc rfl (zt rfl ty40 gt27 rfl (zr rfl) (zb rfl)) st28 ?_
   refine zc rfl (zi rfl fo44x0 gt3 rfl) st29 ?_
   refine zc rfl (zi rfl fo42x1 gt29 rfl) st30 ?_
   refine zc rfl (zt rfl ty40 gt30 rfl (zr rfl) (zb rfl)) st31 ?_
   refine zc rfl (zu rfl gt28 gt31 rfl) st32 ?_
   refine zc rfl (zg rfl gt32 (zb rfl)) st4 ?_
   refine ze (zj (r_ret (zx ?_)))
   obtain rfl := Option.some.inj hF
   refine zz rfl (yc gt4 yb) (zy (leV.refl _) rfl ?_)
   exact ⟨rfl, rfl⟩
  ·skip
   refine r_skip (zj (zk (zd ?_)))
   refine zc rfl (zi rfl fo44x1 gt2 rfl) st33 ?_
   refine zc rfl (zt rfl ty39 gt33 rfl (zr rfl) (zb rfl)) st34 ?_
   refine zc rfl (zi rfl fo44x1 gt3 rfl) st35 ?_
   refine zc rfl (zt rfl ty39 gt35 rfl (zr rfl) (zb rfl)) st36 ?_
   refine zc rfl (zu rfl gt34 gt36 rfl) st37 ?_
   refine zc rfl (zg rfl gt37 (zb rfl)) st4 ?_
   refine ze (zj (r_ret ?_))
   obtain rfl := Option.some.inj hF
   refine zz rfl (yc gt4 yb) (zy (leV.refl _) rfl ?_)
   exact ⟨rfl, rfl⟩
/-! varve/varveref05.Ahead -/
theorem ok55 {time0 : Int} {d1 : GDot} {other2 : Int} {o3 : GDot} {res : Bool} {h : AH}  (hF : ref05Ahead time0 d1 other2 o3 = some res) : Spec Tryz.prog 55 [.int .u64 time0, .agg [.int .u8 d1.actor.rep, .int .u32 d1.actor.inc, .int .u64 d1.seq], .int .u64 other2, .agg [.int .u8 o3.actor.rep, .int .u32 o3.actor.inc, .int .u64 o3.seq]] h (fun rr hh => rr = .bool res ∧ hh = h) := by
 unfold ref05Ahead at hF
 refine ye Tryz.func55 rfl (by kernel_rfl) (env := [.int .u64 time0, .agg [.int .u8 d1.actor.rep, .int .u32 d1.actor.inc, .int .u64 d1.seq], .int .u64 other2, .agg [.int .u8 o3.actor.rep, .int .u32 o3.actor.inc, .int .u64 o3.seq], za, za, za, za, za, za, za, za, za, za, za, za, za, za]) (by rfl) ?_
 refine zk (zd ?_)
 refine zc rfl (e_box (n := 0) rfl gt1 (zb rfl) rfl rfl) st5 ?_
 refine zc rfl (e_box (n := 1) rfl gt3 (zb rfl) rfl rfl) st7 ?_
 refine zc rfl (zg rfl rfl (zb rfl)) st8 ?_
 refine ze (zj (zk (zk (zd ?_))))
 refine zc rfl (zf rfl gt0 (zb rfl)) st9 ?_
 refine zc rfl (zf rfl gt2 (zb rfl)) st10 ?_
 refine zc rfl (zu rfl gt9 gt10 rfl) st11 ?_
 refine ze (zj ?_)
 refine r_condF gt11 hF (fun hc1 hF => ?_) (fun hc1 hF => ?_)
 ·skip
  refine zk (zd ?_)
  refine zc rfl (zf rfl gt0 (zb rfl)) st12 ?_
  refine zc rfl (zf rfl gt2 (zb rfl)) st13 ?_
  refine zc rfl (zu rfl gt12 gt13 rfl) st14 ?_
  refine zc rfl (zg rfl gt14 (zb rfl)) st8 ?_
  refine ze (zj (r_ret (zx ?_)))
  obtain rfl := Option.some.inj hF
  refine zz rfl (yc gt8 yb) (zy (leV.refl _) rfl ?_)
  exact ⟨rfl, rfl⟩
 ·skip
  refine r_skip (zj (zk (zd ?_)))
  refine zc rfl (zt rfl ty44.choose_spec.1 gt5 rfl (ldC_agX (cs' := [.int .u8 d1.actor.rep, .int .u32 d1.actor.inc, .int .u64 d1.seq]) ty44.choose_spec.2 rfl rfl) (zb rfl)) st15 ?_
  refine zc rfl (zt rfl ty44.choose_spec.1 gt7 rfl (ldC_agX (cs' := [.int .u8 o3.actor.rep, .int .u32 o3.actor.inc, .int .u64 o3.seq]) ty44.choose_spec.2 rfl rfl) (zb rfl)) st16 ?_
  refine bindF hF (fun v2 hv2 hF => ?_)
  refine yf rfl (yg rfl rfl rfl (zo gt15 (zo gt16 zw)) (.cons (zb rfl) (.cons (zb rfl) .nil))) (ok56 hv2) st17 ?_
  refine zc rfl (zg rfl gt17 (zb rfl)) st8 ?_
  refine ze (zj (r_ret ?_))
  obtain rfl := Option.some.inj hF
  refine zz rfl (yc gt8 yb) (zy (leV.refl _) rfl ?_)
  exact ⟨rfl, rfl⟩
/-! varve/varveref05.May -/
theorem ok34 {l0 : GLeaf} {res : Bool} {h : AH}  (hF : ref05May l0 = some res) : Spec Tryz.prog 34 [.agg [.int .u8 l0.typ, .int .i64 l0.n, .int .u64 l0.time, .int .u8 l0.dot.actor.rep, .int .u32 l0.dot.actor.inc, .int .u64 l0.dot.seq, .str l0.text, .sl 5 (l0.items.map GItem.row), .sl 3 (l0.tombs.map GDot.row)]] h (fun rr hh => rr = .bool res ∧ hh = h) := by
 unfold ref05May at hF
 refine ye Tryz.func34 rfl (by kernel_rfl) (env := [.agg [.int .u8 l0.typ, .int .i64 l0.n, .int .u64 l0.time, .int .u8 l0.dot.actor.rep, .int .u32 l0.dot.actor.inc, .int .u64 l0.dot.seq, .str l0.text, .sl 5 (l0.items.map GItem.row), .sl 3 (l0.tombs.map GDot.row)], za, za, za, za, za, za, za, za, za, za, za, za, za, za, za, za, za, za, za, za, za, za, za, za, za, za, za, za, za, za, za, za, za, za, za, za, za, za, za, za, za, za, za, za, za, za, za, za, za, za, za, za, za, za, za, za, za, za, za, za, za, za, za, za, za, za, za, za, za, za, za, za, za, za, za, za, za, za, za, za, za, za, za, za, za, za, za, za, za, za, za, za, za, za, za, za, za, za, za, za, za, za, za, za, za, za, za, za, za, za, za, za, za, za, za, za, za, za, za, za, za, za, za, za, za, za, za, za, za, za, za, za, za, za, za, za, za, za, za, za, za, za, za, za, za, za, za, za, za, za, za, za, za, za, za, za, za, za, za, za, za, za, za, za, za, za, za, za, za, za, za, za, za, za, za, za, za, za, za, za, za, za, za, za, za, za, za, za, za, za, za, za, za, za, za, za, za, za, za, za, za, za, za, za]) (by rfl) ?_
 refine zk (zd ?_)
 refine zc rfl (e_box (n := 0) rfl gt0 (zb rfl) rfl rfl) st1 ?_
 refine zc rfl (zg rfl rfl (zb rfl)) st2 ?_
 refine ze (zj (zk (zk (zd ?_))))
 refine zc rfl (zi rfl fo47x0 gt1 rfl) st7 ?_
 refine zc rfl (zt rfl ty5 gt7 rfl (zr rfl) (zb rfl)) st8 ?_
 refine zc rfl (zu rfl gt8 rfl rfl) st9 ?_
 refine zc rfl (zf rfl gt9 (zb rfl)) st10 ?_
 refine zp rfl (fun hb => zi rfl fo47x0 gt1 rfl) st11 ?_
 refine zp rfl (fun hb => zt rfl ty5 (zn gt11 hb) rfl (zr rfl) (zb rfl)) st12 ?_
 refine zp rfl (fun hb => zu rfl (zn gt12 hb) rfl rfl) st13 ?_
 refine zc rfl (s_pick rfl gt10 rfl gt13 (pick_or (fun ht => gF ht))) st14 ?_
 refine zc rfl (zf rfl gt14 (zb rfl)) st15 ?_
 refine zp rfl (fun hb => zi rfl fo47x0 gt1 rfl) st16 ?_
 refine zp rfl (fun hb => zt rfl ty5 (zn gt16 hb) rfl (zr rfl) (zb rfl)) st17 ?_
 refine zp rfl (fun hb => zu rfl (zn gt17 hb) rfl rfl) st18 ?_
 refine zp rfl (fun hb => zf rfl (zn gt18 hb) (zb rfl)) st19 ?_
 refine zp (aG_gv rfl rfl rfl) (fun hb => zi rfl fo47x1 gt1 rfl) st20 ?_
 refine zp (aG_gv rfl rfl rfl) (fun hb => zt rfl ty2 (zn gt20 hb) rfl (zr rfl) (zb rfl)) st21 ?_
 refine zp (aG_gv rfl rfl rfl) (fun hb => zu rfl (zn gt21 hb) rfl rfl) st22 ?_
 refine zp rfl (fun hb => s_pick rfl (zn gt19 hb) gt22 rfl (pick_and (fun ht => gT2 hb ht))) st23 ?_
 refine zc rfl (s_pick rfl gt15 rfl gt23 (pick_or (fun ht => gF ht))) st24 ?_
 refine zc rfl (zf rfl gt24 (zb rfl)) st25 ?_
 refine zp rfl (fun hb => zi rfl fo47x0 gt1 rfl) st26 ?_
 refine zp rfl (fun hb => zt rfl ty5 (zn gt26 hb) rfl (zr rfl) (zb rfl)) st27 ?_
 refine zp rfl (fun hb => zu rfl (zn gt27 hb) rfl rfl) st28 ?_
 refine zp rfl (fun hb => zf rfl (zn gt28 hb) (zb rfl)) st29 ?_
 refine zp (aG_gv rfl rfl rfl) (fun hb => zi rfl fo47x5 gt1 rfl) st30 ?_
 refine zp (aG_gv rfl rfl rfl) (fun hb => zt rfl ty45 (zn gt30 hb) rfl (zr rfl) (zb rfl)) st31 ?_
 refine ops_glen (aG_gv rfl rfl rfl) (fun hb => yh rfl rfl rfl rfl el45 (zn gt31 hb) lenMap) st32 fun hn1 => ?_
 refine zp (aG_gv rfl rfl rfl) (fun hb => zu rfl (zn gt32 hb) rfl rfl) st33 ?_
 refine zp rfl (fun hb => s_pick rfl (zn gt29 hb) gt33 rfl (pick_and (fun ht => gT2 hb ht))) st34 ?_
 refine zc rfl (s_pick rfl gt25 rfl gt34 (pick_or (fun ht => gF ht))) st35 ?_
 refine zc rfl (zf rfl gt35 (zb rfl)) st36 ?_
 refine zp rfl (fun hb => zi rfl fo47x0 gt1 rfl) st37 ?_
 refine zp rfl (fun hb => zt rfl ty5 (zn gt37 hb) rfl (zr rfl) (zb rfl)) st38 ?_
 refine zp rfl (fun hb => zu rfl (zn gt38 hb) rfl rfl) st39 ?_
 refine zp rfl (fun hb => zf rfl (zn gt39 hb) (zb rfl)) (sk st0) ?_
 refine zp (aG_gv rfl rfl rfl) (fun hb => zi rfl fo47x6 gt1 rfl) (sk st1) ?_
 refine zp (aG_gv rfl rfl rfl) (fun hb => zt rfl ty27 (zn (gk gt1) hb) rfl (zr rfl) (zb rfl)) (sk st2) ?_
 refine ops_glen (aG_gv rfl rfl rfl) (fun hb => yh rfl rfl rfl rfl el27 (zn (gk gt2) hb) lenMap) (sk st3) fun hn2 => ?_
 refine zp (aG_gv rfl rfl rfl) (fun hb => zu rfl (zn (gk gt3) hb) rfl rfl) (sk st4) ?_
 refine zp rfl (fun hb => s_pick rfl (zn (gk gt0) hb) (gk gt4) rfl (pick_and (fun ht => gT2 hb ht))) (sk st5) ?_
 refine zc rfl (s_pick rfl gt36 rfl (gk gt5) (pick_or (fun ht => gF ht))) (sk st6) ?_
 refine ze (zj ?_)
 refine r_condF (gk gt6) hF (fun hc3 hF => ?_) (fun hc3 hF => ?_)
 ·skip
  refine zk (zd ?_)
  refine zc rfl (zg rfl rfl (zb rfl)) st2 ?_
  refine ze (zj (r_ret (zx ?_)))
  obtain rfl := Option.some.inj hF
  refine zz rfl (yc gt2 yb) (zy (leV.refl _) rfl ?_)
  exact ⟨rfl, rfl⟩
 ·skip
  refine r_skip (zj (zk (zd ?_)))
  refine zc rfl (s_build (cs' := [.int .u8 (0 : Int), .int .u32 (0 : Int), .int .u64 (0 : Int)]) rfl su44 ze44 pl44 parto_nil .nil rfl rfl) (sk st7) ?_
  refine zc rfl (e_alloc (n := 1) rfl ze44 rfl) st3 ?_
  refine zc rfl (e_store (cs' := [.int .u8 (0 : Int), .int .u32 (0 : Int), .int .u64 (0 : Int)]) rfl ty44.choose_spec.1 gt3 (gk gt7) (zb rfl) rfl rfl rfl rfl rfl) rfl ?_
  refine ze (zj ?_)
  refine r_join (fun (s1 : Unit) => anys [0, 2, 3, 4, 5, 6, 7, 8, 9, 10, 11, 12, 13, 14, 15, 16, 17, 18, 19, 20, 21, 22, 23, 24, 25, 26, 27, 28, 29, 30, 31, 32, 33, 34, 35, 36, 37, 38, 39, 40, 41, 42, 43, 44, 45, 46, 47, 48, 49, 50, 51, 52, 53, 54, 55, 56, 57, 58, 59, 60, 61, 62, 63, 64, 65, 66, 67, 68, 69, 70, 71, 72, 73, 74, 75, 76, 77, 78, 79, 80, 81, 82, 83, 84, 85, 86, 87, 88, 89, 90, 91, 92, 93, 94, 95, 96, 97, 98, 99, 100, 101, 102, 103, 104, 105, 106, 107, 108, 109, 110, 111, 112, 113, 114, 115, 116, 117, 118, 119, 120, 121, 122, 123, 124, 125, 126, 127, 128, 129, 130, 131, 132, 133, 134, 135, 136, 137, 138, 139, 140, 141, 142, 143, 144, 145, 146, 147, 148, 149, 150, 151, 152, 153, 154, 155, 156, 157, 158, 159, 160, 161, 162, 163, 164, 165, 166, 167, 168, 169, 170, 171, 172, 173, 174, 175, 176, 177, 178, 179, 180, 181, 182, 183, 184, 185, 186, 187, 188, 189, 190, 191, 192, 193, 194, 195, 196, 197, 198, 199, 200, 201, 202, 203, 204] []) (fun s1 => h.ext [.cells [.int .u8 l0.typ, .int .i64 l0.n, .int .u64 l0.time, .int .u8 l0.dot.actor.rep, .int .u32 l0.dot.actor.inc, .int .u64 l0.dot.seq, .str l0.text, .sl 5 (l0.items.map GItem.row), .sl 3 (l0.tombs.map GDot.row)], .cells [.int .u8 (0 : Int), .int .u32 (0 : Int), .int .u64 (0 : Int)]] []) hF (fun _ => by simp only [anys, upd, List.set_cons_succ, List.set_cons_zero]; try rfl) (fun o1 hF hK1 => ?_) (fun s1 hF => ?_)
  ·skip
   refine zk (zd ?_)
   refine zc rfl (zi rfl fo47x0 gt1 rfl) (sk st8) ?_
   refine zc rfl (zt rfl ty5 (gk gt8) rfl (zr rfl) (zb rfl)) (sk st9) ?_
   refine zc rfl (zu rfl (gk gt9) rfl rfl) (sk st10) ?_
   refine zc rfl (zf rfl (gk gt10) (zb rfl)) (sk st11) ?_
   refine zp rfl (fun hb => zi rfl fo47x2 gt1 rfl) (sk st12) ?_
   refine zp rfl (fun hb => zt rfl ty39 (zn (gk gt12) hb) rfl (zr rfl) (zb rfl)) (sk st13) ?_
   refine zp rfl (fun hb => zu rfl (zn (gk gt13) hb) rfl rfl) (sk st14) ?_
   refine zc rfl (s_pick rfl (gk gt11) rfl (gk gt14) (pick_or (fun ht => gF ht))) (sk st15) ?_
   refine ze (zj ?_)
   refine r_condF (gk gt15) hF (fun hc9 hF => ?_) (fun hc9 hF => ?_)
   ·skip
    refine zk (zd ?_)
    refine zc rfl (zi rfl fo47x2 gt1 rfl) (sk st16) ?_
    refine zc rfl (zt rfl ty39 (gk gt16) rfl (zr rfl) (zb rfl)) (sk st17) ?_
    refine zc rfl (zu rfl (gk gt17) rfl rfl) (sk st18) ?_
    refine zc rfl (zf rfl (gk gt18) (zb rfl)) (sk st19) ?_
    refine zp rfl (fun hb => zi rfl fo47x3 gt1 rfl) (sk st20) ?_
    refine zp rfl (fun hb => zt rfl ty44.choose_spec.1 (zn (gk gt20) hb) rfl (ldC_agX (cs' := [.int .u8 l0.dot.actor.rep, .int .u32 l0.dot.actor.inc, .int .u64 l0.dot.seq]) ty44.choose_spec.2 rfl rfl) (zb rfl)) (sk st21) ?_
    refine zp rfl (fun hb => zt rfl ty44.choose_spec.1 gt3 rfl (ldC_agX (cs' := [.int .u8 (0 : Int), .int .u32 (0 : Int), .int .u64 (0 : Int)]) ty44.choose_spec.2 rfl rfl) (zb rfl)) (sk st22) ?_
    refine zp rfl (fun hb => zu rfl (zn (gk gt21) hb) (zn (gk gt22) hb) (bin_ne pk44 rfl)) (sk st23) ?_
    refine zc rfl (s_pick rfl (gk gt19) rfl (gk gt23) (pick_or (fun ht => gF ht))) (sk st24) ?_
    refine zc rfl (zf rfl (gk gt24) (zb rfl)) (sk st25) ?_
    refine zp rfl (fun hb => zi rfl fo47x4 gt1 rfl) (sk st26) ?_
    refine zp rfl (fun hb => zt rfl ty9 (zn (gk gt26) hb) rfl (zr rfl) (zb rfl)) (sk st27) ?_
    refine zp rfl (fun hb => zu rfl (zn (gk gt27) hb) rfl rfl) (sk st28) ?_
    refine zc rfl (s_pick rfl (gk gt25) rfl (gk gt28) (pick_or (fun ht => gF ht))) (sk st29) ?_
    refine ze (zj ?_)
    refine r_condF (gk gt29) hF (fun hc10 hF => ?_) (fun hc10 hF => ?_)
    ·skip
     refine zk (zd ?_)
     refine zc rfl (zg rfl rfl (zb rfl)) st2 ?_
     refine ze (zj (r_ret ?_))
     refine q_join_ret ?_
     obtain rfl := Option.some.inj hF
     replace hF := hK1
     obtain rfl := Option.some.inj hF
     refine zz rfl (yc gt2 yb) (zy (leV.refl _) rfl ?_)
     exact ⟨rfl, rfl⟩
    ·skip
     refine r_skip (q_join ?_)
     obtain rfl := Option.some.inj hF
     exact ⟨(), hK1, wk.le (by exact (.drop (.eq (.d16 (.d16 (.d16 (.d16 (.d16 (.d16 (.d16 (.d16 (.d16 (.d16 (.d16 (.d16 (.d4 (.d4 (.drop (.drop (.drop leL.nil))))))))))))))))))))⟩
   ·skip
    refine zk (zd ?_)
    refine zc rfl (zi rfl fo47x2 gt1 rfl) (sk st30) ?_
    refine zc rfl (zt rfl ty39 (gk gt30) rfl (zr rfl) (zb rfl)) (sk st31) ?_
    refine zc rfl (zu rfl (gk gt31) rfl rfl) (sk st32) ?_
    refine zc rfl (zf rfl (gk gt32) (zb rfl)) (sk st33) ?_
    refine zp rfl (fun hb => zi rfl fo47x3 gt1 rfl) (sk st34) ?_
    refine zp rfl (fun hb => zt rfl ty44.choose_spec.1 (zn (gk gt34) hb) rfl (ldC_agX (cs' := [.int .u8 l0.dot.actor.rep, .int .u32 l0.dot.actor.inc, .int .u64 l0.dot.seq]) ty44.choose_spec.2 rfl rfl) (zb rfl)) (sk st35) ?_
    refine gbindF hF (fun v11 hv11 hF => ?_)
    refine ops_gcall rfl (fun hb => yg rfl rfl rfl (zo (zn (gk gt35) hb) zw) (.cons (zb rfl) .nil)) (fun hb => ok52 (hv11 hb)) (sk st36) ?_
    refine zp rfl (fun hb => s_un rfl (zn (gk gt36) hb) rfl) (sk st37) ?_
    refine zc rfl (s_pick rfl (gk gt33) rfl (gk gt37) (pick_or (fun ht => gF ht))) (sk st38) ?_
    refine zc rfl (zf rfl (gk gt38) (zb rfl)) (sk st39) ?_
    refine zp rfl (fun hb => zi rfl fo47x4 gt1 rfl) (sk (sk st0)) ?_
    refine zp rfl (fun hb => zt rfl ty9 (zn (gk (gk gt0)) hb) rfl (zr rfl) (zb rfl)) (sk (sk st1)) ?_
    refine ops_glen rfl (fun hb => s_lenStr rfl rfl rfl rfl ty9 (zn (gk (gk gt1)) hb)) (sk (sk st2)) fun hn12 => ?_
    refine zp rfl (fun hb => zu rfl (zn (gk (gk gt2)) hb) rfl rfl) (sk (sk st3)) ?_
    refine zc rfl (s_pick rfl (gk gt39) rfl (gk (gk gt3)) (pick_or (fun ht => gF ht))) (sk (sk st4)) ?_
    refine ze (zj ?_)
    refine r_condF (gk (gk gt4)) hF (fun hc13 hF => ?_) (fun hc13 hF => ?_)
    ·skip
     refine zk (zd ?_)
     refine zc rfl (zg rfl rfl (zb rfl)) st2 ?_
     refine ze (zj (r_ret ?_))
     refine q_join_ret ?_
     obtain rfl := Option.some.inj hF
     replace hF := hK1
     obtain rfl := Option.some.inj hF
     refine zz rfl (yc gt2 yb) (zy (leV.refl _) rfl ?_)
     exact ⟨rfl, rfl⟩
    ·skip
     refine r_skip (q_join ?_)
     obtain rfl := Option.some.inj hF
     exact ⟨(), hK1, wk.le (by exact (.drop (.eq (.d16 (.d16 (.d16 (.d16 (.d16 (.d16 (.d16 (.d16 (.d16 (.d16 (.d16 (.d16 (.d4 (.d4 (.drop (.drop (.drop leL.nil))))))))))))))))))))⟩
  ·skip
   refine zk (zk (zd ?_))
   refine zc rfl (zg rfl rfl (zb rfl)) st4 ?_
   refine ze (zj (r_block ?_))
   refine yk (fun (n2 : Nat) (s2 : Unit) => anys [0, 2, 3, 5, 6, 7, 8, 9, 10, 11, 12, 13, 14, 15, 16, 17, 18, 19, 20, 21, 22, 23, 24, 25, 26, 27, 28, 29, 30, 31, 32, 33, 34, 35, 36, 37, 38, 39, 40, 41, 42, 43, 44, 45, 46, 47, 48, 49, 50, 51, 52, 53, 54, 55, 56, 57, 58, 59, 60, 61, 62, 63, 64, 65, 66, 67, 68, 69, 70, 71, 72, 73, 74, 75, 76, 77, 78, 79, 80, 81, 82, 83, 84, 85, 86, 87, 88, 89, 90, 91, 92, 93, 94, 95, 96, 97, 98, 99, 100, 101, 102, 103, 104, 105, 106, 107, 108, 109, 110, 111, 112, 113, 114, 115, 116, 117, 118, 119, 120, 121, 122, 123, 124, 125, 126, 127, 128, 129, 130, 131, 132, 133, 134, 135, 136, 137, 138, 139, 140, 141, 142, 143, 144, 145, 146, 147, 148, 149, 150, 151, 152, 153, 154, 155, 156, 157, 158, 159, 160, 161, 162, 163, 164, 165, 166, 167, 168, 169, 170, 171, 172, 173, 174, 175, 176, 177, 178, 179, 180, 181, 182, 183, 184, 185, 186, 187, 188, 189, 190, 191, 192, 193, 194, 195, 196, 197, 198, 199, 200, 201, 202, 203, 204] [(4, .int .i64 (n2 : Int))]) (fun s2 => h.ext [.cells [.int .u8 l0.typ, .int .i64 l0.n, .int .u64 l0.time, .int .u8 l0.dot.actor.rep, .int .u32 l0.dot.actor.inc, .int .u64 l0.dot.seq, .str l0.text, .sl 5 (l0.items.map GItem.row), .sl 3 (l0.tombs.map GDot.row)], .cells [.int .u8 (0 : Int), .int .u32 (0 : Int), .int .u64 (0 : Int)]] []) hF (fun _ _ => by simp only [anys, upd, List.set_cons_succ, List.set_cons_zero]; try rfl) (wk.le (by exact (.drop (.eq (.drop (.drop (.cons (leV.of_eq rfl) (.d16 (.d16 (.d16 (.d16 (.d16 (.d16 (.d16 (.d16 (.d16 (.d16 (.d16 (.d16 (.d4 (.d4 leL.nil))))))))))))))))))))) ?_
   intro n2 s2 hi2 hF
   refine zk (zk (zd ?_))
   refine zc rfl (zf rfl gt4 (zb rfl)) (sk (sk st5)) ?_
   refine zc rfl (zi rfl fo47x5 gt1 rfl) (sk (sk st6)) ?_
   refine zc rfl (zt rfl ty45 (gk (gk gt6)) rfl (zr rfl) (zb rfl)) (sk (sk st7)) ?_
   refine ops_len rfl (yh rfl rfl rfl rfl el45 (gk (gk gt7)) lenMap) (sk (sk st8)) fun hn40 => ?_
   replace hn40 := lenN hn40
   refine zc rfl (zu rfl (gk (gk gt5)) (gk (gk gt8)) rfl) (sk (sk st9)) ?_
   refine ze (zj ?_)
   refine r_condL (gk (gk gt9)) hF (fun x2 o2 hl2 hx2 hF hK2 => ?_) (fun hF => ?_)
   ·skip
    refine r_skip (zj (zk (r_block (zk (zd ?_)))))
    refine zc rfl (zi rfl fo47x5 gt1 rfl) (sk (sk st12)) ?_
    refine zc rfl (zt rfl ty45 (gk (gk gt12)) rfl (zr rfl) (zb rfl)) (sk (sk st13)) ?_
    refine zc rfl (zf rfl gt4 (zb rfl)) (sk (sk st14)) ?_
    refine zc rfl (s_idxRow rfl el45 (gk (gk gt13)) (gk (gk gt14)) isl (idx_of hx2)) (sk (sk st15)) ?_
    refine zc rfl (yi rfl ty79.choose_spec.1 (gk (gk gt15)) (ldC_agX (cs' := [.int .u64 x2.time, .int .u8 x2.dot.actor.rep, .int .u32 x2.dot.actor.inc, .int .u64 x2.dot.seq, .str x2.text]) ty79.choose_spec.2 rfl rfl) (zb rfl)) (sk (sk st16)) ?_
    refine zc rfl (e_alloc (n := 2) rfl ze79 rfl) st5 ?_
    refine zc rfl (e_store (cs' := [.int .u64 x2.time, .int .u8 x2.dot.actor.rep, .int .u32 x2.dot.actor.inc, .int .u64 x2.dot.seq, .str x2.text]) rfl ty79.choose_spec.1 gt5 (gk (gk gt16)) (zb rfl) rfl rfl rfl rfl rfl) rfl ?_
    refine ze (zj (zk (zk (zd ?_))))
    refine zc rfl (zi rfl fo79x1 gt5 rfl) (sk (sk st17)) ?_
    refine zc rfl (zt rfl ty44.choose_spec.1 (gk (gk gt17)) rfl (ldC_agX (cs' := [.int .u8 x2.dot.actor.rep, .int .u32 x2.dot.actor.inc, .int .u64 x2.dot.seq]) ty44.choose_spec.2 rfl rfl) (zb rfl)) (sk (sk st18)) ?_
    refine bindF hF (fun v41 hv41 hF => ?_)
    refine yf rfl (yg rfl rfl rfl (zo (gk (gk gt18)) zw) (.cons (zb rfl) .nil)) (ok52 hv41) (sk (sk st19)) ?_
    refine zc rfl (s_un rfl (gk (gk gt19)) rfl) (sk (sk st20)) ?_
    refine zc rfl (zf rfl (gk (gk gt20)) (zb rfl)) (sk (sk st21)) ?_
    refine zp rfl (fun hb => zi rfl fo79x2 gt5 rfl) (sk (sk st22)) ?_
    refine zp rfl (fun hb => zt rfl ty9 (zn (gk (gk gt22)) hb) rfl (zr rfl) (zb rfl)) (sk (sk st23)) ?_
    refine ops_glen rfl (fun hb => s_lenStr rfl rfl rfl rfl ty9 (zn (gk (gk gt23)) hb)) (sk (sk st24)) fun hn42 => ?_
    refine zp rfl (fun hb => zu rfl (zn (gk (gk gt24)) hb) rfl rfl) (sk (sk st25)) ?_
    refine zc rfl (s_pick rfl (gk (gk gt21)) rfl (gk (gk gt25)) (pick_or (fun ht => gF ht))) (sk (sk st26)) ?_
    refine zc rfl (zf rfl (gk (gk gt26)) (zb rfl)) (sk (sk st27)) ?_
    refine zp rfl (fun hb => zi rfl fo47x0 gt1 rfl) (sk (sk st28)) ?_
    refine zp rfl (fun hb => zt rfl ty5 (zn (gk (gk gt28)) hb) rfl (zr rfl) (zb rfl)) (sk (sk st29)) ?_
    refine zp rfl (fun hb => zu rfl (zn (gk (gk gt29)) hb) rfl rfl) (sk (sk st30)) ?_
    refine zp rfl (fun hb => zf rfl (zn (gk (gk gt30)) hb) (zb rfl)) (sk (sk st31)) ?_
    refine zp (aG_gv rfl rfl rfl) (fun hb => zi rfl fo79x0 gt5 rfl) (sk (sk st32)) ?_
    refine zp (aG_gv rfl rfl rfl) (fun hb => zt rfl ty39 (zn (gk (gk gt32)) hb) rfl (zr rfl) (zb rfl)) (sk (sk st33)) ?_
    refine zp (aG_gv rfl rfl rfl) (fun hb => zu rfl (zn (gk (gk gt33)) hb) rfl rfl) (sk (sk st34)) ?_
    refine zp rfl (fun hb => s_pick rfl (zn (gk (gk gt31)) hb) (gk (gk gt34)) rfl (pick_and (fun ht => gT2 hb ht))) (sk (sk st35)) ?_
    refine zc rfl (s_pick rfl (gk (gk gt27)) rfl (gk (gk gt35)) (pick_or (fun ht => gF ht))) (sk (sk st36)) ?_
    refine zc rfl (zf rfl (gk (gk gt36)) (zb rfl)) (sk (sk st37)) ?_
    refine zp rfl (fun hb => zi rfl fo47x0 gt1 rfl) (sk (sk st38)) ?_
    refine zp rfl (fun hb => zt rfl ty5 (zn (gk (gk gt38)) hb) rfl (zr rfl) (zb rfl)) (sk (sk st39)) ?_
    refine zp rfl (fun hb => zu rfl (zn (gk (gk gt39)) hb) rfl rfl) (sk (sk (sk st0))) ?_
    refine zp rfl (fun hb => zf rfl (zn (gk (gk (gk gt0))) hb) (zb rfl)) (sk (sk (sk st1))) ?_
    refine zp (aG_gv rfl rfl rfl) (fun hb => zi rfl fo79x0 gt5 rfl) (sk (sk (sk st2))) ?_
    refine zp (aG_gv rfl rfl rfl) (fun hb => zt rfl ty39 (zn (gk (gk (gk gt2))) hb) rfl (zr rfl) (zb rfl)) (sk (sk (sk st3))) ?_
    refine zp (aG_gv rfl rfl rfl) (fun hb => zu rfl (zn (gk (gk (gk gt3))) hb) rfl rfl) (sk (sk (sk st4))) ?_
    refine zp (aG_gv rfl rfl rfl) (fun hb => zf rfl (zn (gk (gk (gk gt4))) hb) (zb rfl)) (sk (sk (sk st5))) ?_
    refine zp (aG_gv rfl rfl rfl) (fun hb => zi rfl fo79x0 gt5 rfl) (sk (sk (sk st6))) ?_
    refine zp (aG_gv rfl rfl rfl) (fun hb => zt rfl ty39 (zn (gk (gk (gk gt6))) hb) rfl (zr rfl) (zb rfl)) (sk (sk (sk st7))) ?_
    refine zp (aG_gv rfl rfl rfl) (fun hb => zu rfl (zn (gk (gk (gk gt7))) hb) rfl rfl) (sk (sk (sk st8))) ?_
    refine zp (aG_gv rfl rfl rfl) (fun hb => s_pick rfl (zn (gk (gk (gk gt5))) hb) rfl (gk (gk (gk gt8))) (pick_or (fun ht => gF2 hb ht))) (sk (sk (sk st9))) ?_
    refine zp rfl (fun hb => s_pick rfl (zn (gk (gk (gk gt1))) hb) (gk (gk (gk gt9))) rfl (pick_and (fun ht => gT2 hb ht))) (sk (sk (sk st10))) ?_
    refine zc rfl (s_pick rfl (gk (gk gt37)) rfl (gk (gk (gk gt10))) (pick_or (fun ht => gF ht))) (sk (sk (sk st11))) ?_
    refine zc rfl (zf rfl (gk (gk (gk gt11))) (zb rfl)) (sk (sk (sk st12))) ?_
    refine zp rfl (fun hb => zi rfl fo47x5 gt1 rfl) (sk (sk (sk st13))) ?_
    refine zp rfl (fun hb => zt rfl ty45 (zn (gk (gk (gk gt13))) hb) rfl (zr rfl) (zb rfl)) (sk (sk (sk st14))) ?_
    refine zp rfl (fun hb => zi rfl fo79x1 gt5 rfl) (sk (sk (sk st15))) ?_
    refine zp rfl (fun hb => zt rfl ty44.choose_spec.1 (zn (gk (gk (gk gt15))) hb) rfl (ldC_agX (cs' := [.int .u8 x2.dot.actor.rep, .int .u32 x2.dot.actor.inc, .int .u64 x2.dot.seq]) ty44.choose_spec.2 rfl rfl) (zb rfl)) (sk (sk (sk st16))) ?_
    refine gbindF hF (fun v43 hv43 hF => ?_)
    refine ops_gcall rfl (fun hb => yg rfl rfl rfl (zo (zn (gk (gk (gk gt14))) hb) (zo (zn (gk (gk (gk gt16))) hb) zw)) (.cons (zb rfl) (.cons (zb rfl) .nil))) (fun hb => ok53 (hv43 hb)) (sk (sk (sk st17))) ?_
    refine zp rfl (fun hb => zf rfl gt4 (zb rfl)) (sk (sk (sk st18))) ?_
    refine zp rfl (fun hb => zu rfl (zn (gk (gk (gk gt17))) hb) (zn (gk (gk (gk gt18))) hb) rfl) (sk (sk (sk st19))) ?_
    refine zc rfl (s_pick rfl (gk (gk (gk gt12))) rfl (gk (gk (gk gt19))) (pick_or (fun ht => gF ht))) (sk (sk (sk st20))) ?_
    refine zc rfl (zf rfl (gk (gk (gk gt20))) (zb rfl)) (sk (sk (sk st21))) ?_
    refine zp rfl (fun hb => zi rfl fo47x6 gt1 rfl) (sk (sk (sk st22))) ?_
    refine zp rfl (fun hb => zt rfl ty27 (zn (gk (gk (gk gt22))) hb) rfl (zr rfl) (zb rfl)) (sk (sk (sk st23))) ?_
    refine zp rfl (fun hb => zi rfl fo79x1 gt5 rfl) (sk (sk (sk st24))) ?_
    refine zp rfl (fun hb => zt rfl ty44.choose_spec.1 (zn (gk (gk (gk gt24))) hb) rfl (ldC_agX (cs' := [.int .u8 x2.dot.actor.rep, .int .u32 x2.dot.actor.inc, .int .u64 x2.dot.seq]) ty44.choose_spec.2 rfl rfl) (zb rfl)) (sk (sk (sk st25))) ?_
    refine gbindF hF (fun v44 hv44 hF => ?_)
    refine ops_gcall rfl (fun hb => yg rfl rfl rfl (zo (zn (gk (gk (gk gt23))) hb) (zo (zn (gk (gk (gk gt25))) hb) zw)) (.cons (zb rfl) (.cons (zb rfl) .nil))) (fun hb => ok54 (hv44 hb)) (sk (sk (sk st26))) ?_
    refine zc rfl (s_pick rfl (gk (gk (gk gt21))) rfl (gk (gk (gk gt26))) (pick_or (fun ht => gF ht))) (sk (sk (sk st27))) ?_
    refine ze (zj ?_)
    refine r_condF (gk (gk (gk gt27))) hF (fun hc45 hF => ?_) (fun hc45 hF => ?_)
    ·skip
     refine zk (zd ?_)
     refine zc rfl (zg rfl rfl (zb rfl)) st2 ?_
     refine ze (zj (r_ret (zx ?_)))
     refine yd ?_
     refine zx ?_
     refine q_loop_ret ?_
     obtain rfl := Option.some.inj hF
     replace hF := hK2
     refine yd ?_
     refine zx ?_
     obtain rfl := Option.some.inj hF
     refine zz rfl (yc gt2 yb) (zy (leV.refl _) rfl ?_)
     exact ⟨rfl, rfl⟩
    ·skip
     refine r_skip (zj (zk ?_))
     refine r_drawn [] [] trivial mixed (by kernel_rfl) ?_
     refine zq rfl rfl (zf rfl gt4 (zb rfl)) (sk (sk (sk st28))) ?_
     refine zq rfl rfl (zu rfl (gk (gk (gk gt28))) rfl rfl) (sk (sk (sk st29))) ?_
     refine zq rfl rfl (zf rfl (gk (gk (gk gt29))) (zb rfl)) (sk (sk (sk st30))) ?_
     refine ya rfl rfl (fun hb => zi rfl fo47x5 gt1 rfl) (sk (sk (sk st31))) ?_
     refine ya rfl rfl (fun hb => zt rfl ty45 (zn (gk (gk (gk gt31))) hb) rfl (zr rfl) (zb rfl)) (sk (sk (sk st32))) ?_
     refine ya rfl rfl (fun hb => zf rfl gt4 (zb rfl)) (sk (sk (sk st33))) ?_
     refine ya rfl rfl (fun hb => zu rfl (zn (gk (gk (gk gt33))) hb) rfl rfl) (sk (sk (sk st34))) ?_
     refine chkF hF (fun hg46 hF => ?_)
     refine ya rfl rfl (fun hb => s_gidxRow default rfl el45 (zn (gk (gk (gk gt32))) hb) (zn (gk (gk (gk gt34))) hb) isl (hg46 hb)) (sk (sk (sk st35))) ?_
     refine ya rfl rfl (fun hb => zi rfl fo79x0 (zn (gk (gk (gk gt35))) hb) rfl) (sk (sk (sk st36))) ?_
     refine ya rfl rfl (fun hb => yi rfl ty39 (zn (gk (gk (gk gt36))) hb) (zr rfl) (zb rfl)) (sk (sk (sk st37))) ?_
     refine ya rfl rfl (fun hb => zi rfl fo47x5 gt1 rfl) (sk (sk (sk st38))) ?_
     refine ya rfl rfl (fun hb => zt rfl ty45 (zn (gk (gk (gk gt38))) hb) rfl (zr rfl) (zb rfl)) (sk (sk (sk st39))) ?_
     refine ya rfl rfl (fun hb => zf rfl gt4 (zb rfl)) (sk (sk (sk (sk st0)))) ?_
     refine ya rfl rfl (fun hb => zu rfl (zn (gk (gk (gk (gk gt0)))) hb) rfl rfl) (sk (sk (sk (sk st1)))) ?_
     refine chkF hF (fun hg47 hF => ?_)
     refine ya rfl rfl (fun hb => s_gidxRow default rfl el45 (zn (gk (gk (gk gt39))) hb) (zn (gk (gk (gk (gk gt1)))) hb) isl (hg47 hb)) (sk (sk (sk (sk st2)))) ?_
     refine ya rfl rfl (fun hb => zi rfl fo79x1 (zn (gk (gk (gk (gk gt2)))) hb) rfl) (sk (sk (sk (sk st3)))) ?_
     refine ya rfl rfl (fun hb => yi rfl ty44.choose_spec.1 (zn (gk (gk (gk (gk gt3)))) hb) (ldC_agX (cs' := [.int .u8 (((l0.items).getD (IntKind.wrap .i64 ((n2 : Int) - (1 : Int))).toNat default).dot.actor.rep), .int .u32 (((l0.items).getD (IntKind.wrap .i64 ((n2 : Int) - (1 : Int))).toNat default).dot.actor.inc), .int .u64 (((l0.items).getD (IntKind.wrap .i64 ((n2 : Int) - (1 : Int))).toNat default).dot.seq)]) ty44.choose_spec.2 rfl rfl) (zb rfl)) (sk (sk (sk (sk st4)))) ?_
     refine ya rfl rfl (fun hb => zi rfl fo79x0 gt5 rfl) (sk (sk (sk (sk st5)))) ?_
     refine ya rfl rfl (fun hb => zt rfl ty39 (zn (gk (gk (gk (gk gt5)))) hb) rfl (zr rfl) (zb rfl)) (sk (sk (sk (sk st6)))) ?_
     refine ya rfl rfl (fun hb => zi rfl fo79x1 gt5 rfl) (sk (sk (sk (sk st7)))) ?_
     refine ya rfl rfl (fun hb => zt rfl ty44.choose_spec.1 (zn (gk (gk (gk (gk gt7)))) hb) rfl (ldC_agX (cs' := [.int .u8 x2.dot.actor.rep, .int .u32 x2.dot.actor.inc, .int .u64 x2.dot.seq]) ty44.choose_spec.2 rfl rfl) (zb rfl)) (sk (sk (sk (sk st8)))) ?_
     refine gbindF hF (fun v48 hv48 hF => ?_)
     refine draw_gcall rfl rfl (fun hb => yg rfl rfl rfl (zo (zn (gk (gk (gk gt37))) hb) (zo (zn (gk (gk (gk (gk gt4)))) hb) (zo (zn (gk (gk (gk (gk gt6)))) hb) (zo (zn (gk (gk (gk (gk gt8)))) hb) zw)))) (.cons (zb rfl) (.cons (zb rfl) (.cons (zb rfl) (.cons (zb rfl) .nil))))) (fun hb => ok55 (hv48 hb)) (sk (sk (sk (sk st9)))) ?_
     refine ya rfl rfl (fun hb => s_un rfl (zn (gk (gk (gk (gk gt9)))) hb) rfl) (sk (sk (sk (sk st10)))) ?_
     refine zq rfl rfl (s_pick rfl (gk (gk (gk gt30))) (gk (gk (gk (gk gt10)))) rfl (pick_and (fun ht => gT ht))) (sk (sk (sk (sk st11)))) ?_
     refine draw_nil ?_
     refine zj ?_
     refine r_condF (gk (gk (gk (gk gt11)))) hF (fun hc49 hF => ?_) (fun hc49 hF => ?_)
     ·skip
      refine zk (zd ?_)
      refine zc rfl (zg rfl rfl (zb rfl)) st2 ?_
      refine ze (zj (r_ret ?_))
      refine yd ?_
      refine zx ?_
      refine q_loop_ret ?_
      obtain rfl := Option.some.inj hF
      replace hF := hK2
      refine yd ?_
      refine zx ?_
      obtain rfl := Option.some.inj hF
      refine zz rfl (yc gt2 yb) (zy (leV.refl _) rfl ?_)
      exact ⟨rfl, rfl⟩
     ·skip
      refine r_skip (q_block (zj (zd ?_)))
      refine zc rfl (zf rfl gt4 (zb rfl)) (sk (sk st10)) ?_
      refine zc rfl (zu rfl (gk (gk gt10)) rfl rfl) (sk (sk st11)) ?_
      refine zc rfl (zg rfl (gk (gk gt11)) (zb rfl)) st4 ?_
      refine ze (q_loop ?_)
      obtain rfl := Option.some.inj hF
      exact ⟨(), hl2, hK2, wk.trans (wk.le (by exact (.drop (.eq (.drop (.drop (.cons (leV.of_eq (w64e (by omega) (by omega))) (.d16 (.d16 (.d16 (.d16 (.d16 (.d16 (.d16 (.d16 (.d16 (.d16 (.d16 (.d16 (.d4 (.d4 leL.nil))))))))))))))))))))) (wk_ext3 (by simp [lowL, AV.low]) rfl rfl (by simp [Blk.low, lowL, AV.low]))⟩
   ·skip
    refine r_exit ?_
    refine q_seq_exit ?_
    refine yj ?_
    refine q_block_hit ?_
    refine zj (zk (zk (zd ?_)))
    refine zc rfl (zg rfl rfl (zb rfl)) st6 ?_
    refine ze (zj (r_block ?_))
    refine yk (fun (n3 : Nat) (s3 : Unit) => anys [0, 2, 3, 4, 5, 7, 8, 9, 10, 11, 12, 13, 14, 15, 16, 17, 18, 19, 20, 21, 22, 23, 24, 25, 26, 27, 28, 29, 30, 31, 32, 33, 34, 35, 36, 37, 38, 39, 40, 41, 42, 43, 44, 45, 46, 47, 48, 49, 50, 51, 52, 53, 54, 55, 56, 57, 58, 59, 60, 61, 62, 63, 64, 65, 66, 67, 68, 69, 70, 71, 72, 73, 74, 75, 76, 77, 78, 79, 80, 81, 82, 83, 84, 85, 86, 87, 88, 89, 90, 91, 92, 93, 94, 95, 96, 97, 98, 99, 100, 101, 102, 103, 104, 105, 106, 107, 108, 109, 110, 111, 112, 113, 114, 115, 116, 117, 118, 119, 120, 121, 122, 123, 124, 125, 126, 127, 128, 129, 130, 131, 132, 133, 134, 135, 136, 137, 138, 139, 140, 141, 142, 143, 144, 145, 146, 147, 148, 149, 150, 151, 152, 153, 154, 155, 156, 157, 158, 159, 160, 161, 162, 163, 164, 165, 166, 167, 168, 169, 170, 171, 172, 173, 174, 175, 176, 177, 178, 179, 180, 181, 182, 183, 184, 185, 186, 187, 188, 189, 190, 191, 192, 193, 194, 195, 196, 197, 198, 199, 200, 201, 202, 203, 204] [(6, .int .i64 (n3 : Int))]) (fun s3 => h.ext [.cells [.int .u8 l0.typ, .int .i64 l0.n, .int .u64 l0.time, .int .u8 l0.dot.actor.rep, .int .u32 l0.dot.actor.inc, .int .u64 l0.dot.seq, .str l0.text, .sl 5 (l0.items.map GItem.row), .sl 3 (l0.tombs.map GDot.row)], .cells [.int .u8 (0 : Int), .int .u32 (0 : Int), .int .u64 (0 : Int)]] []) hF (fun _ _ => by simp only [anys, upd, List.set_cons_succ, List.set_cons_zero]; try rfl) (wk.le (by exact (.drop (.eq (.d4 (.cons (leV.of_eq rfl) (.d16 (.d16 (.d16 (.d16 (.d16 (.d16 (.d16 (.d16 (.d16 (.d16 (.d16 (.d16 (.d4 (.drop (.drop leL.nil))))))))))))))))))))) ?_
    intro n3 s3 hi3 hF
    refine zk (zk (zd ?_))
    refine zc rfl (zf rfl gt6 (zb rfl)) (sk (sk (sk (sk st12)))) ?_
    refine zc rfl (zi rfl fo47x6 gt1 rfl) (sk (sk (sk (sk st13)))) ?_
    refine zc rfl (zt rfl ty27 (gk (gk (gk (gk gt13)))) rfl (zr rfl) (zb rfl)) (sk (sk (sk (sk st14)))) ?_
    refine ops_len rfl (yh rfl rfl rfl rfl el27 (gk (gk (gk (gk gt14)))) lenMap) (sk (sk (sk (sk st15)))) fun hn72 => ?_
    replace hn72 := lenN hn72
    refine zc rfl (zu rfl (gk (gk (gk (gk gt12)))) (gk (gk (gk (gk gt15)))) rfl) (sk (sk (sk (sk st16)))) ?_
    refine ze (zj ?_)
    refine r_condL (gk (gk (gk (gk gt16)))) hF (fun x3 o3 hl3 hx3 hF hK3 => ?_) (fun hF => ?_)
    ·skip
     refine r_skip (zj (zk (r_block (zk ?_))))
     refine r_drawn [5] [] trivial mixed (by kernel_rfl) ?_
     refine zq rfl rfl (zi rfl fo47x6 gt1 rfl) (sk (sk (sk (sk st19)))) ?_
     refine zq rfl rfl (zt rfl ty27 (gk (gk (gk (gk gt19)))) rfl (zr rfl) (zb rfl)) (sk (sk (sk (sk st20)))) ?_
     refine zq rfl rfl (zf rfl gt6 (zb rfl)) (sk (sk (sk (sk st21)))) ?_
     refine zq rfl rfl (s_idxRow rfl el27 (gk (gk (gk (gk gt20)))) (gk (gk (gk (gk gt21)))) isl (idx_of hx3)) (sk (sk (sk (sk st22)))) ?_
     refine zq rfl rfl (yi rfl ty44.choose_spec.1 (gk (gk (gk (gk gt22)))) (ldC_agX (cs' := [.int .u8 x3.actor.rep, .int .u32 x3.actor.inc, .int .u64 x3.seq]) ty44.choose_spec.2 rfl rfl) (zb rfl)) (sk (sk (sk (sk st23)))) ?_
     refine bindF hF (fun v73 hv73 hF => ?_)
     refine draw_callN rfl rfl (fun _ => yg rfl rfl rfl (zo (gk (gk (gk (gk gt23)))) zw) (.cons (zb rfl) .nil)) (by rintro _ ⟨B2, T2, rfl, hk2⟩; exact ok52 hv73) (sk (sk (sk (sk st24)))) ?_
     refine zq rfl rfl (s_un rfl (gk (gk (gk (gk gt24)))) rfl) (sk (sk (sk (sk st25)))) ?_
     refine zq rfl rfl (zf rfl (gk (gk (gk (gk gt25)))) (zb rfl)) (sk (sk (sk (sk st26)))) ?_
     refine ya rfl rfl (fun hb => zf rfl gt6 (zb rfl)) (sk (sk (sk (sk st27)))) ?_
     refine ya rfl rfl (fun hb => zu rfl (zn (gk (gk (gk (gk gt27)))) hb) rfl rfl) (sk (sk (sk (sk st28)))) ?_
     refine ya rfl rfl (fun hb => zf rfl (zn (gk (gk (gk (gk gt28)))) hb) (zb rfl)) (sk (sk (sk (sk st29)))) ?_
     refine ya rfl (aG_gv rfl rfl rfl) (fun hb => zi rfl fo47x6 gt1 rfl) (sk (sk (sk (sk st30)))) ?_
     refine ya rfl (aG_gv rfl rfl rfl) (fun hb => zt rfl ty27 (zn (gk (gk (gk (gk gt30)))) hb) rfl (zr rfl) (zb rfl)) (sk (sk (sk (sk st31)))) ?_
     refine ya rfl (aG_gv rfl rfl rfl) (fun hb => zf rfl gt6 (zb rfl)) (sk (sk (sk (sk st32)))) ?_
     refine ya rfl (aG_gv rfl rfl rfl) (fun hb => zu rfl (zn (gk (gk (gk (gk gt32)))) hb) rfl rfl) (sk (sk (sk (sk st33)))) ?_
     refine chkF hF (fun hg74 hF => ?_)
     refine ya rfl (aG_gv rfl rfl rfl) (fun hb => s_gidxRow default rfl el27 (zn (gk (gk (gk (gk gt31)))) hb) (zn (gk (gk (gk (gk gt33)))) hb) isl (hg74 hb)) (sk (sk (sk (sk st34)))) ?_
     refine ya rfl (aG_gv rfl rfl rfl) (fun hb => yi rfl ty44.choose_spec.1 (zn (gk (gk (gk (gk gt34)))) hb) (ldC_agX (cs' := [.int .u8 (((l0.tombs).getD (IntKind.wrap .i64 ((n3 : Int) - (1 : Int))).toNat default).actor.rep), .int .u32 (((l0.tombs).getD (IntKind.wrap .i64 ((n3 : Int) - (1 : Int))).toNat default).actor.inc), .int .u64 (((l0.tombs).getD (IntKind.wrap .i64 ((n3 : Int) - (1 : Int))).toNat default).seq)]) ty44.choose_spec.2 rfl rfl) (zb rfl)) (sk (sk (sk (sk st35)))) ?_
     refine ya rfl (aG_gv rfl rfl rfl) (fun hb => zi rfl fo47x6 gt1 rfl) (sk (sk (sk (sk st36)))) ?_
     refine ya rfl (aG_gv rfl rfl rfl) (fun hb => zt rfl ty27 (zn (gk (gk (gk (gk gt36)))) hb) rfl (zr rfl) (zb rfl)) (sk (sk (sk (sk st37)))) ?_
     refine ya rfl (aG_gv rfl rfl rfl) (fun hb => zf rfl gt6 (zb rfl)) (sk (sk (sk (sk st38)))) ?_
     refine chkF hF (fun hg75 hF => ?_)
     refine ya rfl (aG_gv rfl rfl rfl) (fun hb => s_gidxRow default rfl el27 (zn (gk (gk (gk (gk gt37)))) hb) (zn (gk (gk (gk (gk gt38)))) hb) isl (hg75 hb)) (sk (sk (sk (sk st39)))) ?_
     refine ya rfl (aG_gv rfl rfl rfl) (fun hb => yi rfl ty44.choose_spec.1 (zn (gk (gk (gk (gk gt39)))) hb) (ldC_agX (cs' := [.int .u8 (((l0.tombs).getD (n3 : Int).toNat default).actor.rep), .int .u32 (((l0.tombs).getD (n3 : Int).toNat default).actor.inc), .int .u64 (((l0.tombs).getD (n3 : Int).toNat default).seq)]) ty44.choose_spec.2 rfl rfl) (zb rfl)) (sk (sk (sk (sk (sk st0))))) ?_
     refine gbindF hF (fun v76 hv76 hF => ?_)
     refine draw_gcall rfl (aG_gv rfl rfl rfl) (fun hb => yg rfl rfl rfl (zo (zn (gk (gk (gk (gk gt35)))) hb) (zo (zn (gk (gk (gk (gk (gk gt0))))) hb) zw)) (.cons (zb rfl) (.cons (zb rfl) .nil))) (fun hb => ok56 (hv76 hb)) (sk (sk (sk (sk (sk st1))))) ?_
     refine ya rfl (aG_gv rfl rfl rfl) (fun hb => s_un rfl (zn (gk (gk (gk (gk (gk gt1))))) hb) rfl) (sk (sk (sk (sk (sk st2))))) ?_
     refine ya rfl rfl (fun hb => s_pick rfl (zn (gk (gk (gk (gk gt29)))) hb) (gk (gk (gk (gk (gk gt2))))) rfl (pick_and (fun ht => gT2 hb ht))) (sk (sk (sk (sk (sk st3))))) ?_
     refine zq rfl rfl (s_pick rfl (gk (gk (gk (gk gt26)))) rfl (gk (gk (gk (gk (gk gt3))))) (pick_or (fun ht => gF ht))) (sk (sk (sk (sk (sk st4))))) ?_
     refine draw_nil ?_
     refine zj ?_
     refine r_condF (gk (gk (gk (gk (gk gt4))))) hF (fun hc77 hF => ?_) (fun hc77 hF => ?_)
     ·skip
      refine zk (zd ?_)
      refine zc rfl (zg rfl rfl (zb rfl)) st2 ?_
      refine ze (zj (r_ret ?_))
      refine yd ?_
      refine zx ?_
      refine q_loop_ret ?_
      obtain rfl := Option.some.inj hF
      replace hF := hK3
      refine yd ?_
      refine zx ?_
      obtain rfl := Option.some.inj hF
      refine zz rfl (yc gt2 yb) (zy (leV.refl _) rfl ?_)
      exact ⟨rfl, rfl⟩
     ·skip
      refine r_skip (q_block (zj (zd ?_)))
      refine zc rfl (zf rfl gt6 (zb rfl)) (sk (sk (sk (sk st17)))) ?_
      refine zc rfl (zu rfl (gk (gk (gk (gk gt17)))) rfl rfl) (sk (sk (sk (sk st18)))) ?_
      refine zc rfl (zg rfl (gk (gk (gk (gk gt18)))) (zb rfl)) st6 ?_
      refine ze (q_loop ?_)
      obtain rfl := Option.some.inj hF
      exact ⟨(), hl3, hK3, wk.le (by exact (.drop (.eq (.d4 (.cons (leV.of_eq (w64e (by omega) (by omega))) (.d16 (.d16 (.d16 (.d16 (.d16 (.d16 (.d16 (.d16 (.d16 (.d16 (.d16 (.d16 (.d4 (.drop (.drop leL.nil))))))))))))))))))))⟩
    ·skip
     refine r_exit ?_
     refine q_seq_exit ?_
     refine yj ?_
     refine q_block_hit ?_
     refine zj (zk (zd ?_))
     refine zc rfl (zg rfl rfl (zb rfl)) st2 ?_
     refine ze (zj (r_ret ?_))
     obtain rfl := Option.some.inj hF
     refine zz rfl (yc gt2 yb) (zy (leV.refl _) rfl ?_)
     exact ⟨rfl, rfl⟩
/-! varve/varveref07.may -/
theorem ok19N (n : Nat) : ∀ {t0 : (List GNode)} {deep1 : Int} {res : Bool} {h : AH} , ref07XmayN n t0 deep1 = some res → Spec Tryz.prog 19 [.sl 3 (t0.map GNode.row), .int .i64 deep1] h (fun rr hh => rr = .bool res ∧ hh = h) := by
 induction n with
 | zero => intro t0 deep1 res h  hF; simp [ref07XmayN] at hF
 | succ n ih =>
  intro t0 deep1 res h  hF
  unfold ref07XmayN at hF
  refine ye Tryz.func19 rfl (by kernel_rfl) (env := [.sl 3 (t0.map GNode.row), .int .i64 deep1, za, za, za, za, za, za, za, za, za, za, za, za, za, za, za, za, za, za, za, za, za, za, za, za, za, za, za, za, za, za, za, za, za, za, za, za, za, za, za, za, za, za, za, za, za, za, za, za, za, za, za, za, za, za, za, za, za, za, za, za, za, za, za, za, za, za, za, za, za, za, za, za, za, za, za, za, za, za, za, za, za, za, za, za, za, za, za, za, za, za, za, za, za]) (by rfl) ?_
  refine zk (zd ?_)
  refine zc rfl (zg rfl rfl (zb rfl)) st4 ?_
  refine ze (zj (zk (zk (zd ?_))))
  refine zc rfl (zg rfl rfl (zb rfl)) st5 ?_
  refine ze (zj (r_block ?_))
  refine yk (fun (n1 : Nat) (s1 : Unit) => anys [2, 3, 4, 6, 7, 8, 9, 10, 11, 12, 13, 14, 15, 16, 17, 18, 19, 20, 21, 22, 23, 24, 25, 26, 27, 28, 29, 30, 31, 32, 33, 34, 35, 36, 37, 38, 39, 40, 41, 42, 43, 44, 45, 46, 47, 48, 49, 50, 51, 52, 53, 54, 55, 56, 57, 58, 59, 60, 61, 62, 63, 64, 65, 66, 67, 68, 69, 70, 71, 72, 73, 74, 75, 76, 77, 78, 79, 80, 81, 82, 83, 84, 85, 86, 87, 88, 89, 90, 91, 92, 93, 94] [(5, .int .i64 (n1 : Int))]) (fun s1 => h.ext [] []) hF (fun _ _ => by simp only [anys, upd, List.set_cons_succ, List.set_cons_zero]; try rfl) (wk.le (by exact (.eq (.eq (.drop (.drop (.drop (.cons (leV.of_eq rfl) (.d16 (.d16 (.d16 (.d16 (.d16 (.d4 (.d4 (.drop leL.nil)))))))))))))))) ?_
  intro n1 s1 hi1 hF
  refine zk (zk (zd ?_))
  refine zc rfl (zf rfl gt5 (zb rfl)) st8 ?_
  refine zc rfl (zf rfl gt0 (zb rfl)) st9 ?_
  refine ops_len rfl (yh rfl rfl rfl rfl el24 gt9 lenMap) st10 fun hn30 => ?_
  replace hn30 := lenN hn30
  refine zc rfl (zu rfl gt8 gt10 rfl) st11 ?_
  refine ze (zj ?_)
  refine r_condL gt11 hF (fun x1 o1 hl1 hx1 hF hK1 => ?_) (fun hF => ?_)
  ·skip
   refine r_skip (zj (zk (r_block (zk (zd ?_)))))
   refine zc rfl (zf rfl gt0 (zb rfl)) st14 ?_
   refine zc rfl (zf rfl gt5 (zb rfl)) st15 ?_
   refine zc rfl (s_idxRowE rfl el24 gt14 gt15 isl (idx_of hx1) (GNode.row_eq _)) st16 ?_
   refine zc rfl (yi rfl ty68.choose_spec.1 gt16 (ldC_agX (cs' := [.str x1.name, .sl 9 (x1.leaves.map GLeaf.row), .sl 3 (x1.subs.map GNode.row)]) ty68.choose_spec.2 rfl rfl) (zb rfl)) st17 ?_
   refine zc rfl (e_alloc (n := 0) rfl ze68 rfl) st6 ?_
   refine zc rfl (e_store (cs' := [.str x1.name, .sl 9 (x1.leaves.map GLeaf.row), .sl 3 (x1.subs.map GNode.row)]) rfl ty68.choose_spec.1 gt6 gt17 (zb rfl) rfl rfl rfl rfl rfl) rfl ?_
   refine ze (zj (zk (zk ?_)))
   refine r_drawn [] [] trivial mixed (by kernel_rfl) ?_
   refine zq rfl rfl (zf rfl gt1 (zb rfl)) st18 ?_
   refine zq rfl rfl (zu rfl gt18 rfl rfl) st19 ?_
   refine zq rfl rfl (zf rfl gt19 (zb rfl)) st20 ?_
   refine ya rfl rfl (fun hb => zi rfl fo68x0 gt6 rfl) st21 ?_
   refine ya rfl rfl (fun hb => zt rfl ty9 (zn gt21 hb) rfl (zr rfl) (zb rfl)) st22 ?_
   refine gbindF hF (fun v31 hv31 hF => ?_)
   refine draw_gcall rfl rfl (fun hb => yg rfl rfl rfl (zo (zn gt22 hb) zw) (.cons (zb rfl) .nil)) (fun hb => ok33 (hv31 hb)) st23 ?_
   refine ya rfl rfl (fun hb => s_un rfl (zn gt23 hb) rfl) st24 ?_
   refine zq rfl rfl (s_pick rfl gt20 rfl gt24 (pick_or (fun ht => gF ht))) st25 ?_
   refine zq rfl rfl (zf rfl gt25 (zb rfl)) st26 ?_
   refine ya rfl rfl (fun hb => zf rfl gt5 (zb rfl)) st27 ?_
   refine ya rfl rfl (fun hb => zu rfl (zn gt27 hb) rfl rfl) st28 ?_
   refine ya rfl rfl (fun hb => zf rfl (zn gt28 hb) (zb rfl)) st29 ?_
   refine ya rfl (aG_gv rfl rfl rfl) (fun hb => zf rfl gt0 (zb rfl)) st30 ?_
   refine ya rfl (aG_gv rfl rfl rfl) (fun hb => zf rfl gt5 (zb rfl)) st31 ?_
   refine ya rfl (aG_gv rfl rfl rfl) (fun hb => zu rfl (zn gt31 hb) rfl rfl) st32 ?_
   refine chkF hF (fun hg32 hF => ?_)
   refine ya rfl (aG_gv rfl rfl rfl) (fun hb => s_gidxRowE default rfl el24 (zn gt30 hb) (zn gt32 hb) isl (hg32 hb) (GNode.row_eq _)) st33 ?_
   refine ya rfl (aG_gv rfl rfl rfl) (fun hb => zi rfl fo68x0 (zn gt33 hb) rfl) st34 ?_
   refine ya rfl (aG_gv rfl rfl rfl) (fun hb => yi rfl ty9 (zn gt34 hb) (zr rfl) (zb rfl)) st35 ?_
   refine ya rfl (aG_gv rfl rfl rfl) (fun hb => zi rfl fo68x0 gt6 rfl) st36 ?_
   refine ya rfl (aG_gv rfl rfl rfl) (fun hb => zt rfl ty9 (zn gt36 hb) rfl (zr rfl) (zb rfl)) st37 ?_
   refine ya rfl (aG_gv rfl rfl rfl) (fun hb => zu rfl (zn gt35 hb) (zn gt37 hb) rfl) st38 ?_
   refine ya rfl rfl (fun hb => s_pick rfl (zn gt29 hb) gt38 rfl (pick_and (fun ht => gT2 hb ht))) st39 ?_
   refine zq rfl rfl (s_pick rfl gt26 rfl gt39 (pick_or (fun ht => gF ht))) (sk st0) ?_
   refine zq rfl rfl (zf rfl (gk gt0) (zb rfl)) (sk st1) ?_
   refine ya rfl rfl (fun hb => zi rfl fo68x1 gt6 rfl) (sk st2) ?_
   refine ya rfl rfl (fun hb => zt rfl ty66 (zn (gk gt2) hb) rfl (zr rfl) (zb rfl)) (sk st3) ?_
   refine draw_glen rfl rfl (fun hb => yh rfl rfl rfl rfl el66 (zn (gk gt3) hb) lenMap) (sk st4) ?_
   refine ya rfl rfl (fun hb => zu rfl (zn (gk gt4) hb) rfl rfl) (sk st5) ?_
   refine ya rfl rfl (fun hb => zf rfl (zn (gk gt5) hb) (zb rfl)) (sk st6) ?_
   refine ya rfl (aG_gv rfl rfl rfl) (fun hb => zi rfl fo68x2 gt6 rfl) (sk st7) ?_
   refine ya rfl (aG_gv rfl rfl rfl) (fun hb => zt rfl ty24 (zn (gk gt7) hb) rfl (zr rfl) (zb rfl)) (sk st8) ?_
   refine draw_glen rfl (aG_gv rfl rfl rfl) (fun hb => yh rfl rfl rfl rfl el24 (zn (gk gt8) hb) lenMap) (sk st9) ?_
   refine ya rfl (aG_gv rfl rfl rfl) (fun hb => zu rfl (zn (gk gt9) hb) rfl rfl) (sk st10) ?_
   refine ya rfl rfl (fun hb => s_pick rfl (zn (gk gt6) hb) (gk gt10) rfl (pick_and (fun ht => gT2 hb ht))) (sk st11) ?_
   refine zq rfl rfl (s_pick rfl (gk gt1) rfl (gk gt11) (pick_or (fun ht => gF ht))) (sk st12) ?_
   refine zq rfl rfl (zf rfl (gk gt12) (zb rfl)) (sk st13) ?_
   refine ya rfl rfl (fun hb => zi rfl fo68x2 gt6 rfl) (sk st14) ?_
   refine ya rfl rfl (fun hb => zt rfl ty24 (zn (gk gt14) hb) rfl (zr rfl) (zb rfl)) (sk st15) ?_
   refine ya rfl rfl (fun hb => zf rfl gt1 (zb rfl)) (sk st16) ?_
   refine ya rfl rfl (fun hb => zu rfl (zn (gk gt16) hb) rfl rfl) (sk st17) ?_
   refine gbindF hF (fun v35 hv35 hF => ?_)
   refine draw_gcall rfl rfl (fun hb => yg rfl rfl rfl (zo (zn (gk gt15) hb) (zo (zn (gk gt17) hb) zw)) (.cons (zb rfl) (.cons (zb rfl) .nil))) (fun hb => ih (hv35 hb)) (sk st18) ?_
   refine ya rfl rfl (fun hb => s_un rfl (zn (gk gt18) hb) rfl) (sk st19) ?_
   refine zq rfl rfl (s_pick rfl (gk gt13) rfl (gk gt19) (pick_or (fun ht => gF ht))) (sk st20) ?_
   refine draw_nil ?_
   refine zj ?_
   refine r_condF (gk gt20) hF (fun hc36 hF => ?_) (fun hc36 hF => ?_)
   ·skip
    refine zk (zd ?_)
    refine zc rfl (zg rfl rfl (zb rfl)) st4 ?_
    refine ze (zj (r_ret (zx ?_)))
    refine yd ?_
    refine zx ?_
    refine q_loop_ret ?_
    obtain rfl := Option.some.inj hF
    replace hF := hK1
    refine yd ?_
    refine zx ?_
    obtain rfl := Option.some.inj hF
    refine zz rfl (yc gt4 yb) (zy (leV.refl _) rfl ?_)
    exact ⟨rfl, rfl⟩
   ·skip
    refine r_skip (zj (zk (zd ?_)))
    refine zc rfl (zg rfl rfl (zb rfl)) st7 ?_
    refine ze (zj (r_block ?_))
    refine yk (fun (n2 : Nat) (s2 : Unit) => anys [2, 3, 4, 8, 9, 10, 11, 12, 13, 14, 15, 16, 17, 18, 19, 20, 21, 22, 23, 24, 25, 26, 27, 28, 29, 30, 31, 32, 33, 34, 35, 36, 37, 38, 39, 40, 41, 42, 43, 44, 45, 46, 47, 48, 49, 50, 51, 52, 53, 54, 55, 56, 57, 58, 59, 60, 61, 62, 63, 64, 65, 66, 67, 68, 69, 70, 71, 72, 73, 74, 75, 76, 77, 78, 79, 80, 81, 82, 83, 84, 85, 86, 87, 88, 89, 90, 91, 92, 93, 94] [(7, .int .i64 (n2 : Int))]) (fun s2 => h.ext [.cells [.str x1.name, .sl 9 (x1.leaves.map GLeaf.row), .sl 3 (x1.subs.map GNode.row)]] []) hF (fun _ _ => by simp only [anys, upd, List.set_cons_succ, List.set_cons_zero]; try rfl) (wk.le (by exact (.eq (.eq (.drop (.drop (.drop (.eq (.eq (.cons (leV.of_eq rfl) (.d16 (.d16 (.d16 (.d16 (.d16 (.d4 (.drop (.drop (.drop leL.nil))))))))))))))))))) ?_
    intro n2 s2 hi2 hF
    refine zk (zk (zd ?_))
    refine zc rfl (zf rfl gt7 (zb rfl)) (sk st21) ?_
    refine zc rfl (zi rfl fo68x1 gt6 rfl) (sk st22) ?_
    refine zc rfl (zt rfl ty66 (gk gt22) rfl (zr rfl) (zb rfl)) (sk st23) ?_
    refine ops_len rfl (yh rfl rfl rfl rfl el66 (gk gt23) lenMap) (sk st24) fun hn49 => ?_
    replace hn49 := lenN hn49
    refine zc rfl (zu rfl (gk gt21) (gk gt24) rfl) (sk st25) ?_
    refine ze (zj ?_)
    refine r_condL (gk gt25) hF (fun x2 o2 hl2 hx2 hF hK2 => ?_) (fun hF => ?_)
    ·skip
     refine r_skip (zj (zk (r_block (zk ?_))))
     refine r_drawn [5] [] trivial mixed (by kernel_rfl) ?_
     refine zq rfl rfl (zi rfl fo68x1 gt6 rfl) (sk st28) ?_
     refine zq rfl rfl (zt rfl ty66 (gk gt28) rfl (zr rfl) (zb rfl)) (sk st29) ?_
     refine zq rfl rfl (zf rfl gt7 (zb rfl)) (sk st30) ?_
     refine zq rfl rfl (s_idxRow rfl el66 (gk gt29) (gk gt30) isl (idx_of hx2)) (sk st31) ?_
     refine zq rfl rfl (yi rfl ty47.choose_spec.1 (gk gt31) (ldC_agX (cs' := [.int .u8 x2.typ, .int .i64 x2.n, .int .u64 x2.time, .int .u8 x2.dot.actor.rep, .int .u32 x2.dot.actor.inc, .int .u64 x2.dot.seq, .str x2.text, .sl 5 (x2.items.map GItem.row), .sl 3 (x2.tombs.map GDot.row)]) ty47.choose_spec.2 rfl rfl) (zb rfl)) (sk st32) ?_
     refine bindF hF (fun v50 hv50 hF => ?_)
     refine draw_callN rfl rfl (fun _ => yg rfl rfl rfl (zo (gk gt32) zw) (.cons (zb rfl) .nil)) (by rintro _ ⟨B2, T2, rfl, hk2⟩; exact ok34 hv50) (sk st33) ?_
     refine zq rfl rfl (s_un rfl (gk gt33) rfl) (sk st34) ?_
     refine zq rfl rfl (zf rfl (gk gt34) (zb rfl)) (sk st35) ?_
     refine ya rfl rfl (fun hb => zf rfl gt7 (zb rfl)) (sk st36) ?_
     refine ya rfl rfl (fun hb => zu rfl (zn (gk gt36) hb) rfl rfl) (sk st37) ?_
     refine ya rfl rfl (fun hb => zf rfl (zn (gk gt37) hb) (zb rfl)) (sk st38) ?_
     refine ya rfl (aG_gv rfl rfl rfl) (fun hb => zi rfl fo68x1 gt6 rfl) (sk st39) ?_
     refine ya rfl (aG_gv rfl rfl rfl) (fun hb => zt rfl ty66 (zn (gk gt39) hb) rfl (zr rfl) (zb rfl)) (sk (sk st0)) ?_
     refine ya rfl (aG_gv rfl rfl rfl) (fun hb => zf rfl gt7 (zb rfl)) (sk (sk st1)) ?_
     refine ya rfl (aG_gv rfl rfl rfl) (fun hb => zu rfl (zn (gk (gk gt1)) hb) rfl rfl) (sk (sk st2)) ?_
     refine chkF hF (fun hg51 hF => ?_)
     refine ya rfl (aG_gv rfl rfl rfl) (fun hb => s_gidxRow default rfl el66 (zn (gk (gk gt0)) hb) (zn (gk (gk gt2)) hb) isl (hg51 hb)) (sk (sk st3)) ?_
     refine ya rfl (aG_gv rfl rfl rfl) (fun hb => zi rfl fo47x0 (zn (gk (gk gt3)) hb) rfl) (sk (sk st4)) ?_
     refine ya rfl (aG_gv rfl rfl rfl) (fun hb => yi rfl ty5 (zn (gk (gk gt4)) hb) (zr rfl) (zb rfl)) (sk (sk st5)) ?_
     refine ya rfl (aG_gv rfl rfl rfl) (fun hb => zi rfl fo68x1 gt6 rfl) (sk (sk st6)) ?_
     refine ya rfl (aG_gv rfl rfl rfl) (fun hb => zt rfl ty66 (zn (gk (gk gt6)) hb) rfl (zr rfl) (zb rfl)) (sk (sk st7)) ?_
     refine ya rfl (aG_gv rfl rfl rfl) (fun hb => zf rfl gt7 (zb rfl)) (sk (sk st8)) ?_
     refine chkF hF (fun hg52 hF => ?_)
     refine ya rfl (aG_gv rfl rfl rfl) (fun hb => s_gidxRow default rfl el66 (zn (gk (gk gt7)) hb) (zn (gk (gk gt8)) hb) isl (hg52 hb)) (sk (sk st9)) ?_
     refine ya rfl (aG_gv rfl rfl rfl) (fun hb => zi rfl fo47x0 (zn (gk (gk gt9)) hb) rfl) (sk (sk st10)) ?_
     refine ya rfl (aG_gv rfl rfl rfl) (fun hb => yi rfl ty5 (zn (gk (gk gt10)) hb) (zr rfl) (zb rfl)) (sk (sk st11)) ?_
     refine ya rfl (aG_gv rfl rfl rfl) (fun hb => zu rfl (zn (gk (gk gt5)) hb) (zn (gk (gk gt11)) hb) rfl) (sk (sk st12)) ?_
     refine ya rfl rfl (fun hb => s_pick rfl (zn (gk gt38) hb) (gk (gk gt12)) rfl (pick_and (fun ht => gT2 hb ht))) (sk (sk st13)) ?_
     refine zq rfl rfl (s_pick rfl (gk gt35) rfl (gk (gk gt13)) (pick_or (fun ht => gF ht))) (sk (sk st14)) ?_
     refine draw_nil ?_
     refine zj ?_
     refine r_condF (gk (gk gt14)) hF (fun hc53 hF => ?_) (fun hc53 hF => ?_)
     ·skip
      refine zk (zd ?_)
      refine zc rfl (zg rfl rfl (zb rfl)) st4 ?_
      refine ze (zj (r_ret ?_))
      refine yd ?_
      refine zx ?_
      refine q_loop_ret ?_
      obtain rfl := Option.some.inj hF
      replace hF := hK2
      refine yd ?_
      refine yd ?_
      refine zx ?_
      refine q_loop_ret ?_
      obtain rfl := Option.some.inj hF
      replace hF := hK1
      refine yd ?_
      refine zx ?_
      obtain rfl := Option.some.inj hF
      refine zz rfl (yc gt4 yb) (zy (leV.refl _) rfl ?_)
      exact ⟨rfl, rfl⟩
     ·skip
      refine r_skip (q_block (zj (zd ?_)))
      refine zc rfl (zf rfl gt7 (zb rfl)) (sk st26) ?_
      refine zc rfl (zu rfl (gk gt26) rfl rfl) (sk st27) ?_
      refine zc rfl (zg rfl (gk gt27) (zb rfl)) st7 ?_
      refine ze (q_loop ?_)
      obtain rfl := Option.some.inj hF
      exact ⟨(), hl2, hK2, wk.le (by exact (.eq (.eq (.drop (.drop (.drop (.eq (.eq (.cons (leV.of_eq (w64e (by omega) (by omega))) (.d16 (.d16 (.d16 (.d16 (.d16 (.d4 (.drop (.drop (.drop leL.nil))))))))))))))))))⟩
    ·skip
     refine r_exit ?_
     refine q_seq_exit ?_
     refine yj ?_
     refine q_block_hit ?_
     refine q_block (zj (zd ?_))
     refine zc rfl (zf rfl gt5 (zb rfl)) st12 ?_
     refine zc rfl (zu rfl gt12 rfl rfl) st13 ?_
     refine zc rfl (zg rfl gt13 (zb rfl)) st5 ?_
     refine ze (q_loop ?_)
     obtain rfl := Option.some.inj hF
     exact ⟨(), hl1, hK1, wk.trans (wk.le (by exact (.eq (.eq (.drop (.drop (.drop (.cons (leV.of_eq (w64e (by omega) (by omega))) (.d16 (.d16 (.d16 (.d16 (.d16 (.d4 (.d4 (.drop leL.nil)))))))))))))))) (wk_ext3 (by simp [lowL, AV.low]) rfl rfl (by simp [Blk.low, lowL, AV.low]))⟩
  ·skip
   refine r_exit ?_
   refine q_seq_exit ?_
   refine yj ?_
   refine q_block_hit ?_
   refine zj (zk (zd ?_))
   refine zc rfl (zg rfl rfl (zb rfl)) st4 ?_
   refine ze (zj (r_ret ?_))
   obtain rfl := Option.some.inj hF
   refine zz rfl (yc gt4 yb) (zy (leV.refl _) rfl ?_)
   exact ⟨rfl, rfl⟩
theorem ok19 {t0 : (List GNode)} {deep1 : Int} {res : Bool} {h : AH}  (hF : ref07Xmay t0 deep1 = some res) : Spec Tryz.prog 19 [.sl 3 (t0.map GNode.row), .int .i64 deep1] h (fun rr hh => rr = .bool res ∧ hh = h) := by
 obtain ⟨n, hn⟩ := anyN_is hF
 exact ok19N n  hn
/-! varve/varveref07.May -/
theorem ok7 {t0 : (List GNode)} {res : Bool} {h : AH}  (hF : ref07May t0 = some res) : Spec Tryz.prog 7 [.sl 3 (t0.map GNode.row)] h (fun rr hh => rr = .bool res ∧ hh = h) := by
 unfold ref07May at hF
 refine ye Tryz.func7 rfl (by kernel_rfl) (env := [.sl 3 (t0.map GNode.row), za, za, za, za]) (by rfl) ?_
 refine zk (zd ?_)
 refine zc rfl (zg rfl rfl (zb rfl)) st2 ?_
 refine ze (zj (zk (zd ?_)))
 refine zc rfl (zf rfl gt0 (zb rfl)) st3 ?_
 refine bindF hF (fun v1 hv1 hF => ?_)
 refine yf rfl (yg rfl rfl rfl (zo gt3 (zo rfl zw)) (.cons (zb rfl) (.cons (zb rfl) .nil))) (ok19 hv1) st4 ?_
 refine zc rfl (zg rfl gt4 (zb rfl)) st2 ?_
 refine ze (zj (r_ret ?_))
 obtain rfl := Option.some.inj hF
 refine zz rfl (yc gt2 yb) (zy (leV.refl _) rfl ?_)
 exact ⟨rfl, rfl⟩
/-! varve/op.MayPath 1 -/
theorem ok90 {s0 : Str} {res : Bool} {h : AH}  (hF : opMayPathC1 s0 = some res) : Spec Tryz.prog 90 [.str s0] h (fun rr hh => rr = .bool res ∧ hh = h) := by
 unfold opMayPathC1 at hF
 refine ye Tryz.func90 rfl (by kernel_rfl) (env := [.str s0, za, za, za, za, za]) (by rfl) ?_
 refine zk (zd ?_)
 refine zc rfl (zg rfl rfl (zb rfl)) st2 ?_
 refine ze (zj (zk (zd ?_)))
 refine zc rfl (zf rfl gt0 (zb rfl)) st3 ?_
 refine bindF hF (fun v1 hv1 hF => ?_)
 refine yf rfl (yg rfl rfl rfl (zo gt3 zw) (.cons (zb rfl) .nil)) (ok50 hv1) st4 ?_
 refine zc rfl (s_un rfl gt4 rfl) st5 ?_
 refine zc rfl (zg rfl gt5 (zb rfl)) st2 ?_
 refine ze (zj (r_ret ?_))
 obtain rfl := Option.some.inj hF
 refine zz rfl (yc gt2 yb) (zy (leV.refl _) rfl ?_)
 exact ⟨rfl, rfl⟩
/-! varve/op.MayPath -/
theorem ok58 {p0 : (List Str)} {res : Bool} {h : AH}  (hF : opMayPath p0 = some res) : Spec Tryz.prog 58 [.sl 1 (p0.map strRow)] h (fun rr hh => rr = .bool res ∧ hh = h) := by
 unfold opMayPath at hF
 refine ye Tryz.func58 rfl (by kernel_rfl) (env := [.sl 1 (p0.map strRow), za, za, za, za, za, za, za, za, za, za, za, za, za, za, za]) (by rfl) ?_
 refine zk (zd ?_)
 refine zc rfl (zg rfl rfl (zb rfl)) st2 ?_
 refine ze (zj (zk (zd ?_)))
 refine zc rfl (zf rfl gt0 (zb rfl)) st3 ?_
 refine ops_len rfl (yh rfl rfl rfl rfl el26 gt3 lenMap) st4 fun hn1 => ?_
 replace hn1 := lenN hn1
 refine zc rfl (zu rfl gt4 rfl rfl) st5 ?_
 refine zc rfl (zf rfl gt5 (zb rfl)) st6 ?_
 refine zp rfl (fun hb => zf rfl gt0 (zb rfl)) st7 ?_
 refine ops_glen rfl (fun hb => yh rfl rfl rfl rfl el26 (zn gt7 hb) lenMap) st8 fun hn2 => ?_
 refine zp rfl (fun hb => zu rfl (zn gt8 hb) rfl rfl) st9 ?_
 refine zc rfl (s_pick rfl gt6 gt9 rfl (pick_and (fun ht => gT ht))) st10 ?_
 refine zc rfl (zf rfl gt10 (zb rfl)) st11 ?_
 refine zp rfl (fun hb => zf rfl gt0 (zb rfl)) st12 ?_
 refine gbindF hF (fun v3 hv3 hF => ?_)
 refine ops_gcall rfl (fun hb => yg rfl rfl rfl (zo (zn gt12 hb) (zo rfl zw)) (.cons (zb rfl) (.cons (zb rfl) .nil))) (fun hb => ok51 (fun _ v L M hv => ok90  hv) (hv3 hb)) st13 ?_
 refine zp rfl (fun hb => s_un rfl (zn gt13 hb) rfl) st14 ?_
 refine zc rfl (s_pick rfl gt11 gt14 rfl (pick_and (fun ht => gT ht))) st15 ?_
 refine zc rfl (zg rfl gt15 (zb rfl)) st2 ?_
 refine ze (zj (r_ret ?_))
 obtain rfl := Option.some.inj hF
 refine zz rfl (yc gt2 yb) (zy (leV.refl _) rfl ?_)
 exact ⟨rfl, rfl⟩
/-! varve/paths.Match -/
theorem ok47 {p0 : (List Str)} {path1 : (List Str)} {res : Bool} {h : AH}  (hF : pathsMatch p0 path1 = some res) : Spec Tryz.prog 47 [.sl 1 (p0.map strRow), .sl 1 (path1.map strRow)] h (fun rr hh => rr = .bool res ∧ hh = h) := by
 unfold pathsMatch at hF
 refine ye Tryz.func47 rfl (by kernel_rfl) (env := [.sl 1 (p0.map strRow), .sl 1 (path1.map strRow), za, za, za, za, za, za, za, za, za, za, za, za, za, za, za, za, za, za, za, za, za, za, za, za, za, za, za, za, za, za, za, za, za, za, za, za, za, za, za, za, za, za, za, za, za, za, za, za, za, za, za, za, za, za, za, za]) (by rfl) ?_
 refine zk (zd ?_)
 refine zc rfl (zg rfl rfl (zb rfl)) st4 ?_
 refine ze (zj (zk (zd ?_)))
 refine zc rfl (zf rfl gt0 (zb rfl)) st10 ?_
 refine bindF hF (fun v1 hv1 hF => ?_)
 refine yf rfl (yg rfl rfl rfl (zo gt10 zw) (.cons (zb rfl) .nil)) (ok48 hv1) st11 ?_
 refine zc rfl (zf rfl gt11 (zb rfl)) st9 ?_
 refine zc rfl (s_extract rfl gt9 rfl (zb rfl)) st12 ?_
 refine zc rfl (s_extract rfl gt9 rfl (zb rfl)) st13 ?_
 refine zc rfl (zg rfl gt12 (zb rfl)) st5 ?_
 refine zc rfl (zg rfl gt13 (zb rfl)) st6 ?_
 refine ze (zj (zk (zk (zd ?_))))
 refine zc rfl (zf rfl gt0 (zb rfl)) st14 ?_
 refine bindF hF (fun v2 hv2 hF => ?_)
 refine yf rfl (yg rfl rfl rfl (zo gt14 zw) (.cons (zb rfl) .nil)) (ok32 hv2) st15 ?_
 refine zc rfl (s_un rfl gt15 rfl) st16 ?_
 refine zc rfl (zf rfl gt16 (zb rfl)) st17 ?_
 refine zp rfl (fun hb => zf rfl gt1 (zb rfl)) st18 ?_
 refine gbindF hF (fun v3 hv3 hF => ?_)
 refine ops_gcall rfl (fun hb => yg rfl rfl rfl (zo (zn gt18 hb) zw) (.cons (zb rfl) .nil)) (fun hb => ok58 (hv3 hb)) st19 ?_
 refine zp rfl (fun hb => s_un rfl (zn gt19 hb) rfl) st20 ?_
 refine zc rfl (s_pick rfl gt17 rfl gt20 (pick_or (fun ht => gF ht))) st21 ?_
 refine zc rfl (zf rfl gt21 (zb rfl)) st22 ?_
 refine zp rfl (fun hb => zf rfl gt1 (zb rfl)) st23 ?_
 refine ops_glen rfl (fun hb => yh rfl rfl rfl rfl el26 (zn gt23 hb) lenMap) st24 fun hn4 => ?_
 refine zp rfl (fun hb => zf rfl gt5 (zb rfl)) st25 ?_
 refine ops_glen rfl (fun hb => yh rfl rfl rfl rfl el26 (zn gt25 hb) lenMap) st26 fun hn5 => ?_
 refine zp rfl (fun hb => zu rfl (zn gt24 hb) (zn gt26 hb) rfl) st27 ?_
 refine zc rfl (s_pick rfl gt22 rfl gt27 (pick_or (fun ht => gF ht))) st28 ?_
 refine zc rfl (zf rfl gt28 (zb rfl)) st29 ?_
 refine zp rfl (fun hb => zf rfl gt1 (zb rfl)) st30 ?_
 refine ops_glen rfl (fun hb => yh rfl rfl rfl rfl el26 (zn gt30 hb) lenMap) st31 fun hn6 => ?_
 refine zp rfl (fun hb => zf rfl gt5 (zb rfl)) st32 ?_
 refine ops_glen rfl (fun hb => yh rfl rfl rfl rfl el26 (zn gt32 hb) lenMap) st33 fun hn7 => ?_
 refine zp rfl (fun hb => zu rfl (zn gt31 hb) (zn gt33 hb) rfl) st34 ?_
 refine zp rfl (fun hb => zf rfl (zn gt34 hb) (zb rfl)) st35 ?_
 refine zp (aG_gv rfl rfl rfl) (fun hb => zf rfl gt6 (zb rfl)) st36 ?_
 refine zp (aG_gv rfl rfl rfl) (fun hb => s_un rfl (zn gt36 hb) rfl) st37 ?_
 refine zp rfl (fun hb => s_pick rfl (zn gt35 hb) gt37 rfl (pick_and (fun ht => gT2 hb ht))) st38 ?_
 refine zc rfl (s_pick rfl gt29 rfl gt38 (pick_or (fun ht => gF ht))) st39 ?_
 refine ze (zj ?_)
 refine r_condF gt39 hF (fun hc8 hF => ?_) (fun hc8 hF => ?_)
 ·skip
  refine zk (zd ?_)
  refine zc rfl (zg rfl rfl (zb rfl)) st4 ?_
  refine ze (zj (r_ret (zx ?_)))
  obtain rfl := Option.some.inj hF
  refine zz rfl (yc gt4 yb) (zy (leV.refl _) rfl ?_)
  exact ⟨rfl, rfl⟩
 ·skip
  refine r_skip (zj (zk (zk (zd ?_))))
  refine zc rfl (zf rfl gt5 (zb rfl)) (sk st0) ?_
  refine ops_len rfl (yh rfl rfl rfl rfl el26 (gk gt0) lenMap) (sk st1) fun hn9 => ?_
  replace hn9 := lenN hn9
  refine zc rfl (zf rfl rfl (zb rfl)) (sk st2) ?_
  refine ze (zj (r_block ?_))
  refine yk (fun (n1 : Nat) (s1 : Unit) => anys [0, 2, 3, 4, 5, 6, 7, 8, 9, 10, 11, 12, 13, 14, 15, 16, 17, 18, 19, 20, 21, 22, 23, 24, 25, 26, 27, 28, 29, 30, 31, 32, 33, 34, 35, 36, 37, 38, 39, 43, 44, 45, 46, 47, 48, 49, 50, 51, 52, 53, 54, 55, 56, 57] [(42, .int .i64 (n1 : Int))]) (fun s1 => h.ext [] []) hF (fun _ _ => by simp only [anys, upd, List.set_cons_succ, List.set_cons_zero]; try rfl) (wk.le (by exact (.drop (.eq (.d16 (.d16 (.d4 (.drop (.drop (.eq (.eq (.cons (leV.of_eq rfl) (.d4 (.d4 (.d4 (.drop (.drop (.drop leL.nil)))))))))))))))))) ?_
  intro n1 s1 hi1 hF
  refine zk (zd ?_)
  refine zc rfl (zu rfl (gk gt2) (gk gt1) rfl) (sk st3) ?_
  refine ze (zj (zk ?_))
  refine r_condL (gk gt3) hF (fun x1 o1 hl1 hx1 hF hK1 => ?_) (fun hF => ?_)
  ·skip
   refine r_skip (zj (zk (r_block (zk (zd ?_)))))
   refine zc rfl (zf rfl (gk gt2) (zb rfl)) (sk st4) ?_
   refine zc rfl (s_idxRow rfl el26 (gk gt0) (gk gt2) isl (idx_of hx1)) (sk st5) ?_
   refine zc rfl (yi rfl ty9 (gk gt5) (zr rfl) (zb rfl)) (sk st6) ?_
   refine zc rfl (zg rfl (gk gt4) (zb rfl)) st7 ?_
   refine zc rfl (zg rfl (gk gt6) (zb rfl)) st8 ?_
   refine ze (zj (zk (zd ?_)))
   refine zc rfl (zf rfl gt8 (zb rfl)) (sk st7) ?_
   refine zc rfl (zu rfl (gk gt7) rfl rfl) (sk st8) ?_
   refine zc rfl (zf rfl (gk gt8) (zb rfl)) (sk st9) ?_
   refine zp rfl (fun hb => zf rfl gt8 (zb rfl)) (sk st10) ?_
   refine zp rfl (fun hb => zf rfl gt1 (zb rfl)) (sk st11) ?_
   refine zp rfl (fun hb => zf rfl gt7 (zb rfl)) (sk st12) ?_
   refine chkF hF (fun hg15 hF => ?_)
   refine zp rfl (fun hb => s_gidxRow default rfl el26 (zn (gk gt11) hb) (zn (gk gt12) hb) isl (hg15 hb)) (sk st13) ?_
   refine zp rfl (fun hb => yi rfl ty9 (zn (gk gt13) hb) (zr rfl) (zb rfl)) (sk st14) ?_
   refine zp rfl (fun hb => zu rfl (zn (gk gt10) hb) (zn (gk gt14) hb) rfl) (sk st15) ?_
   refine zc rfl (s_pick rfl (gk gt9) (gk gt15) rfl (pick_and (fun ht => gT ht))) (sk st16) ?_
   refine ze (zj ?_)
   refine r_condF (gk gt16) hF (fun hc16 hF => ?_) (fun hc16 hF => ?_)
   ·skip
    refine zk (zd ?_)
    refine zc rfl (zg rfl rfl (zb rfl)) st4 ?_
    refine ze (zj (r_ret ?_))
    refine yd ?_
    refine zx ?_
    refine q_loop_ret ?_
    obtain rfl := Option.some.inj hF
    replace hF := hK1
    refine yd ?_
    refine zx ?_
    obtain rfl := Option.some.inj hF
    refine zz rfl (yc gt4 yb) (zy (leV.refl _) rfl ?_)
    exact ⟨rfl, rfl⟩
   ·skip
    refine r_skip (q_block (zj (zd ?_)))
    refine zc rfl (zu rfl (gk gt2) rfl rfl) (sk st17) ?_
    refine zc rfl (zf rfl (gk gt17) (zb rfl)) (sk st2) ?_
    refine ze (q_loop ?_)
    obtain rfl := Option.some.inj hF
    exact ⟨(), hl1, hK1, wk.le (by exact (.drop (.eq (.d16 (.d16 (.d4 (.drop (.drop (.eq (.eq (.cons (leV.of_eq (w64e (by omega) (by omega))) (.d4 (.d4 (.d4 (.drop (.drop (.drop leL.nil)))))))))))))))))⟩
  ·skip
   refine r_exit ?_
   refine q_seq_exit ?_
   refine yj ?_
   refine q_block_hit ?_
   refine zj (zk (zd ?_))
   refine zc rfl (zg rfl rfl (zb rfl)) st4 ?_
   refine ze (zj (r_ret ?_))
   obtain rfl := Option.some.inj hF
   refine zz rfl (yc gt4 yb) (zy (leV.refl _) rfl ?_)
   exact ⟨rfl, rfl⟩
/-! varve/rights.last -/
theorem ok27 {l0 : (List GRule)} {rep1 : Int} {path2 : (List Str)} {is3 : (GRule → Option Bool)} {fis3 : FuncId} {ais3 kis3 : List AV} {res : Int} {h : AH} (his3 : ∀ x0 v (L : List Blk) (M : List Nat), is3 x0 = some v → Spec Tryz.prog fis3 (ais3 ++ [.agg [.int .u8 x0.rep, .sl 1 (x0.path.map strRow), .int .u8 x0.kinds, .bool x0.allow, .bool x0.read]] ++ kis3) (h.ext L M) (fun rr hh => rr = .bool v ∧ hh = h.ext L M)) (hF : rightsXlast l0 rep1 path2 is3 = some res) : Spec Tryz.prog 27 [.sl 5 (l0.map GRule.row), .int .u8 rep1, .sl 1 (path2.map strRow), .fn (.func fis3) ais3 kis3] h (fun rr hh => rr = .int .i64 res ∧ hh = h) := by
 unfold rightsXlast at hF
 refine spec_of_body_extC Tryz.func27 rfl (by kernel_rfl) (env := [.sl 5 (l0.map GRule.row), .int .u8 rep1, .sl 1 (path2.map strRow), .fn (.func fis3) ais3 kis3, za, za, za, za, za, za, za, za, za, za, za, za, za, za, za, za, za, za, za, za, za, za, za, za, za, za, za, za, za, za, za, za, za, za, za, za, za, za, za]) (by rfl) (fun hlow hC => ?_)
 simp only [lowL, AV.low, Bool.and_eq_true, Bool.true_and, and_true] at hlow
 have hlais3 : ∀ n m, h.blks.length ≤ n → h.toks.length ≤ m → lowL n m ais3 = true := fun n m h1 h2 => lowL_up h1 h2 _ (by simp [hlow])
 have hlkis3 : ∀ n m, h.blks.length ≤ n → h.toks.length ≤ m → lowL n m kis3 = true := fun n m h1 h2 => lowL_up h1 h2 _ (by simp [hlow])
 refine zk (zd ?_)
 refine zc rfl (zg rfl rfl (zb rfl)) st8 ?_
 refine ze (zj (zk (zk (zd ?_))))
 refine zc rfl (zf rfl gt0 (zb rfl)) st11 ?_
 refine ops_len rfl (yh rfl rfl rfl rfl el22 gt11 lenMap) st12 fun hn1 => ?_
 replace hn1 := lenN hn1
 refine zc rfl (zu rfl gt12 rfl rfl) st13 ?_
 refine zc rfl (zg rfl gt13 (zb rfl)) st9 ?_
 refine ze (zj (r_block ?_))
 refine r_loopWF (fun (s1 : Int) => anys [4, 5, 6, 7, 8, 10, 11, 12, 13, 14, 15, 16, 17, 18, 19, 20, 21, 22, 23, 24, 25, 26, 27, 28, 29, 30, 31, 32, 33, 34, 35, 36, 37, 38, 39, 40, 41, 42] [(9, .int .i64 s1)]) (fun s1 => h.ext [] []) hF (fun _ => by simp only [anys, upd, List.set_cons_succ, List.set_cons_zero]; try rfl) (wk.le (by exact (.eq (.eq (.eq (.eq (.d4 (.drop (.cons (leV.of_eq rfl) (.d16 (.d16 (.drop leL.nil)))))))))))) ?_
 intro n1 s1 o1 hF hK1
 refine zk (zk (zd ?_))
 refine zc rfl (zf rfl gt9 (zb rfl)) st14 ?_
 refine zc rfl (zu rfl gt14 rfl rfl) st15 ?_
 refine ze (zj ?_)
 refine r_condF gt15 hF (fun hc8 hF => ?_) (fun hc8 hF => ?_)
 ·skip
  refine r_skip (zj (zk (r_block (zk (zd ?_)))))
  refine zc rfl (zf rfl gt0 (zb rfl)) st18 ?_
  refine zc rfl (zf rfl gt9 (zb rfl)) st19 ?_
  refine bindF hF (fun y9 hy9 hF => ?_)
  refine zc rfl (s_idxRow rfl el22 gt18 gt19 isl hy9) st20 ?_
  refine zc rfl (yi rfl ty54.choose_spec.1 gt20 (ldC_agX (cs' := [.int .u8 y9.rep, .sl 1 (y9.path.map strRow), .int .u8 y9.kinds, .bool y9.allow, .bool y9.read]) ty54.choose_spec.2 rfl rfl) (zb rfl)) st21 ?_
  refine zc rfl (e_alloc (n := 0) rfl ze54 rfl) st10 ?_
  refine zc rfl (e_store (cs' := [.int .u8 y9.rep, .sl 1 (y9.path.map strRow), .int .u8 y9.kinds, .bool y9.allow, .bool y9.read]) rfl ty54.choose_spec.1 gt10 gt21 (zb rfl) rfl rfl rfl rfl rfl) rfl ?_
  refine ze (zj (zk (zd ?_)))
  refine zc rfl (zi rfl fo54x0 gt10 rfl) st22 ?_
  refine zc rfl (zt rfl ty5 gt22 rfl (zr rfl) (zb rfl)) st23 ?_
  refine zc rfl (zf rfl gt1 (zb rfl)) st24 ?_
  refine zc rfl (zu rfl gt23 gt24 rfl) st25 ?_
  refine zc rfl (zf rfl gt25 (zb rfl)) st26 ?_
  refine zp rfl (fun hb => zi rfl fo54x0 gt10 rfl) st27 ?_
  refine zp rfl (fun hb => zt rfl ty5 (zn gt27 hb) rfl (zr rfl) (zb rfl)) st28 ?_
  refine zp rfl (fun hb => zu rfl (zn gt28 hb) rfl rfl) st29 ?_
  refine zc rfl (s_pick rfl gt26 rfl gt29 (pick_or (fun ht => gF ht))) st30 ?_
  refine zc rfl (zf rfl gt30 (zb rfl)) st31 ?_
  refine zp rfl (fun hb => zf rfl gt3 (zb rfl)) st32 ?_
  refine zp rfl (fun hb => zt rfl ty54.choose_spec.1 gt10 rfl (ldC_agX (cs' := [.int .u8 y9.rep, .sl 1 (y9.path.map strRow), .int .u8 y9.kinds, .bool y9.allow, .bool y9.read]) ty54.choose_spec.2 rfl rfl) (zb rfl)) st33 ?_
  refine gbindF hF (fun v10 hv10 hF => ?_)
  refine ops_gcall rfl (fun hb => s_callC rfl rfl (zn gt32 hb) (zo (zn gt33 hb) zw) (.cons (zb rfl) .nil) rfl) (fun hb => his3 _ _ _ _ (hv10 hb)) st34 ?_
  refine zc rfl (s_pick rfl gt31 gt34 rfl (pick_and (fun ht => gT ht))) st35 ?_
  refine zc rfl (zf rfl gt35 (zb rfl)) st36 ?_
  refine zp rfl (fun hb => zi rfl fo54x1 gt10 rfl) st37 ?_
  refine zp rfl (fun hb => zt rfl ty26 (zn gt37 hb) rfl (zr rfl) (zb rfl)) st38 ?_
  refine zp rfl (fun hb => zf rfl gt2 (zb rfl)) st39 ?_
  refine gbindF hF (fun v11 hv11 hF => ?_)
  refine ops_gcall rfl (fun hb => yg rfl rfl rfl (zo (zn gt38 hb) (zo (zn gt39 hb) zw)) (.cons (zb rfl) (.cons (zb rfl) .nil))) (fun hb => ok47 (hv11 hb)) (sk st0) ?_
  refine zc rfl (s_pick rfl gt36 (gk gt0) rfl (pick_and (fun ht => gT ht))) (sk st1) ?_
  refine ze (zj ?_)
  refine r_condF (gk gt1) hF (fun hc12 hF => ?_) (fun hc12 hF => ?_)
  ·skip
   refine zk (zd ?_)
   refine zc rfl (zf rfl gt9 (zb rfl)) (sk st2) ?_
   refine zc rfl (zg rfl (gk gt2) (zb rfl)) st8 ?_
   refine ze (zj (r_ret ?_))
   refine yd ?_
   refine zx ?_
   refine q_loop_ret ?_
   obtain rfl := Option.some.inj hF
   replace hF := hK1
   refine yd ?_
   refine zx ?_
   obtain rfl := Option.some.inj hF
   refine zz rfl (yc gt8 yb) (zy (leV.refl _) rfl ?_)
   exact ⟨rfl, rfl⟩
  ·skip
   refine r_skip (q_block (zj (zd ?_)))
   refine zc rfl (zf rfl gt9 (zb rfl)) st16 ?_
   refine zc rfl (zu rfl gt16 rfl rfl) st17 ?_
   refine zc rfl (zg rfl gt17 (zb rfl)) st9 ?_
   refine ze (q_loop ?_)
   obtain rfl := Option.some.inj hF
   exact ⟨(IntKind.wrap .i64 (s1 - (1 : Int))), hK1, wk.trans (wk.le (by exact (.eq (.eq (.eq (.eq (.d4 (.drop (.cons (leV.of_eq rfl) (.d16 (.d16 (.drop leL.nil)))))))))))) (wk_ext3 (by simp [lowL, AV.low, hlais3, hlkis3]) rfl rfl (by simp [Blk.low, lowL, AV.low, hlais3, hlkis3]))⟩
 ·skip
  refine r_exit ?_
  refine q_seq_exit ?_
  refine yj ?_
  obtain rfl := Option.some.inj hF
  replace hF := hK1
  refine q_block_hit ?_
  refine zj (zk (zd ?_))
  refine zc rfl (zg rfl rfl (zb rfl)) st8 ?_
  refine ze (zj (r_ret ?_))
  obtain rfl := Option.some.inj hF
  refine zz rfl (yc gt8 yb) (zy (leV.refl _) rfl ?_)
  exact ⟨rfl, rfl⟩
/-! varve/op.plain -/
theorem ok88 {o0 : GOp} {res : Bool} {h : AH}  (hF : opXplain o0 = some res) : Spec Tryz.prog 88 [.agg [.int .u8 o0.kind, .sl 1 (o0.path.map strRow), .int .i64 o0.n, .str o0.text, .sl 3 (o0.dots.map GDot.row)]] h (fun rr hh => rr = .bool res ∧ hh = h) := by
 unfold opXplain at hF
 refine ye Tryz.func88 rfl (by kernel_rfl) (env := [.agg [.int .u8 o0.kind, .sl 1 (o0.path.map strRow), .int .i64 o0.n, .str o0.text, .sl 3 (o0.dots.map GDot.row)], za, za, za, za, za, za, za, za, za, za, za, za, za, za, za, za, za]) (by rfl) ?_
 refine zk (zd ?_)
 refine zc rfl (e_box (n := 0) rfl gt0 (zb rfl) rfl rfl) st1 ?_
 refine zc rfl (zg rfl rfl (zb rfl)) st2 ?_
 refine ze (zj (zk (zd ?_)))
 refine zc rfl (zi rfl fo29x2 gt1 rfl) st3 ?_
 refine zc rfl (zt rfl ty2 gt3 rfl (zr rfl) (zb rfl)) st4 ?_
 refine zc rfl (zu rfl gt4 rfl rfl) st5 ?_
 refine zc rfl (zf rfl gt5 (zb rfl)) st6 ?_
 refine zp rfl (fun hb => zi rfl fo29x3 gt1 rfl) st7 ?_
 refine zp rfl (fun hb => zt rfl ty9 (zn gt7 hb) rfl (zr rfl) (zb rfl)) st8 ?_
 refine ops_glen rfl (fun hb => s_lenStr rfl rfl rfl rfl ty9 (zn gt8 hb)) st9 fun hn1 => ?_
 refine zp rfl (fun hb => zu rfl (zn gt9 hb) rfl rfl) st10 ?_
 refine zc rfl (s_pick rfl gt6 gt10 rfl (pick_and (fun ht => gT ht))) st11 ?_
 refine zc rfl (zf rfl gt11 (zb rfl)) st12 ?_
 refine zp rfl (fun hb => zi rfl fo29x4 gt1 rfl) st13 ?_
 refine zp rfl (fun hb => zt rfl ty27 (zn gt13 hb) rfl (zr rfl) (zb rfl)) st14 ?_
 refine ops_glen rfl (fun hb => yh rfl rfl rfl rfl el27 (zn gt14 hb) lenMap) st15 fun hn2 => ?_
 refine zp rfl (fun hb => zu rfl (zn gt15 hb) rfl rfl) st16 ?_
 refine zc rfl (s_pick rfl gt12 gt16 rfl (pick_and (fun ht => gT ht))) st17 ?_
 refine zc rfl (zg rfl gt17 (zb rfl)) st2 ?_
 refine ze (zj (r_ret ?_))
 obtain rfl := Option.some.inj hF
 refine zz rfl (yc gt2 yb) (zy (leV.refl _) rfl ?_)
 exact ⟨rfl, rfl⟩
end Go.Vv
