/- Each function that the law reaches computes what its reading says; printed by a program. -/
import Derived.Test.YtlkpeiojgenhaaaVvZ
import Derived.Test.YtlkpeiojgenhaaaVvRd
import Derived.Test.YtlkpeiojgenhaaaD
import Derived.Test.YtlkpeiojgenhaaaProg
namespace Go.Vv
open Go Go.Proofs
set_option maxRecDepth 100000
set_option maxHeartbeats 1000000
set_option linter.unusedSimpArgs false
set_option linter.unusedVariables false
section
variable {v : AV} {r : List AV}
theorem gt0 {a0 : AV} : evo (a0 :: r) (.tmp 0) = some a0 := rfl
theorem st0 {a0 : AV} : dso (some 0) (a0 :: r) v = some (v :: r) := rfl
theorem gt1 {a0 a1 : AV} : evo (a0 :: a1 :: r) (.tmp 1) = some a1 := rfl
theorem st1 {a0 a1 : AV} : dso (some 1) (a0 :: a1 :: r) v = some (a0 :: v :: r) := rfl
theorem gt2 {a0 a1 a2 : AV} : evo (a0 :: a1 :: a2 :: r) (.tmp 2) = some a2 := rfl
theorem st2 {a0 a1 a2 : AV} : dso (some 2) (a0 :: a1 :: a2 :: r) v = some (a0 :: a1 :: v :: r) := rfl
theorem gt3 {a0 a1 a2 a3 : AV} : evo (a0 :: a1 :: a2 :: a3 :: r) (.tmp 3) = some a3 := rfl
theorem st3 {a0 a1 a2 a3 : AV} : dso (some 3) (a0 :: a1 :: a2 :: a3 :: r) v = some (a0 :: a1 :: a2 :: v :: r) := rfl
theorem gt4 {a0 a1 a2 a3 a4 : AV} : evo (a0 :: a1 :: a2 :: a3 :: a4 :: r) (.tmp 4) = some a4 := rfl
theorem st4 {a0 a1 a2 a3 a4 : AV} : dso (some 4) (a0 :: a1 :: a2 :: a3 :: a4 :: r) v = some (a0 :: a1 :: a2 :: a3 :: v :: r) := rfl
theorem gt5 {a0 a1 a2 a3 a4 a5 : AV} : evo (a0 :: a1 :: a2 :: a3 :: a4 :: a5 :: r) (.tmp 5) = some a5 := rfl
theorem st5 {a0 a1 a2 a3 a4 a5 : AV} : dso (some 5) (a0 :: a1 :: a2 :: a3 :: a4 :: a5 :: r) v = some (a0 :: a1 :: a2 :: a3 :: a4 :: v :: r) := rfl
theorem gt6 {a0 a1 a2 a3 a4 a5 a6 : AV} : evo (a0 :: a1 :: a2 :: a3 :: a4 :: a5 :: a6 :: r) (.tmp 6) = some a6 := rfl
theorem st6 {a0 a1 a2 a3 a4 a5 a6 : AV} : dso (some 6) (a0 :: a1 :: a2 :: a3 :: a4 :: a5 :: a6 :: r) v = some (a0 :: a1 :: a2 :: a3 :: a4 :: a5 :: v :: r) := rfl
theorem gt7 {a0 a1 a2 a3 a4 a5 a6 a7 : AV} : evo (a0 :: a1 :: a2 :: a3 :: a4 :: a5 :: a6 :: a7 :: r) (.tmp 7) = some a7 := rfl
theorem st7 {a0 a1 a2 a3 a4 a5 a6 a7 : AV} : dso (some 7) (a0 :: a1 :: a2 :: a3 :: a4 :: a5 :: a6 :: a7 :: r) v = some (a0 :: a1 :: a2 :: a3 :: a4 :: a5 :: a6 :: v :: r) := rfl
theorem gt8 {a0 a1 a2 a3 a4 a5 a6 a7 a8 : AV} : evo (a0 :: a1 :: a2 :: a3 :: a4 :: a5 :: a6 :: a7 :: a8 :: r) (.tmp 8) = some a8 := rfl
theorem st8 {a0 a1 a2 a3 a4 a5 a6 a7 a8 : AV} : dso (some 8) (a0 :: a1 :: a2 :: a3 :: a4 :: a5 :: a6 :: a7 :: a8 :: r) v = some (a0 :: a1 :: a2 :: a3 :: a4 :: a5 :: a6 :: a7 :: v :: r) := rfl
theorem gt9 {a0 a1 a2 a3 a4 a5 a6 a7 a8 a9 : AV} : evo (a0 :: a1 :: a2 :: a3 :: a4 :: a5 :: a6 :: a7 :: a8 :: a9 :: r) (.tmp 9) = some a9 := rfl
theorem st9 {a0 a1 a2 a3 a4 a5 a6 a7 a8 a9 : AV} : dso (some 9) (a0 :: a1 :: a2 :: a3 :: a4 :: a5 :: a6 :: a7 :: a8 :: a9 :: r) v = some (a0 :: a1 :: a2 :: a3 :: a4 :: a5 :: a6 :: a7 :: a8 :: v :: r) := rfl
theorem gt10 {a0 a1 a2 a3 a4 a5 a6 a7 a8 a9 a10 : AV} : evo (a0 :: a1 :: a2 :: a3 :: a4 :: a5 :: a6 :: a7 :: a8 :: a9 :: a10 :: r) (.tmp 10) = some a10 := rfl
theorem st10 {a0 a1 a2 a3 a4 a5 a6 a7 a8 a9 a10 : AV} : dso (some 10) (a0 :: a1 :: a2 :: a3 :: a4 :: a5 :: a6 :: a7 :: a8 :: a9 :: a10 :: r) v = some (a0 :: a1 :: a2 :: a3 :: a4 :: a5 :: a6 :: a7 :: a8 :: a9 :: v :: r) := rfl
theorem gt11 {a0 a1 a2 a3 a4 a5 a6 a7 a8 a9 a10 a11 : AV} : evo (a0 :: a1 :: a2 :: a3 :: a4 :: a5 :: a6 :: a7 :: a8 :: a9 :: a10 :: a11 :: r) (.tmp 11) = some a11 := rfl
theorem st11 {a0 a1 a2 a3 a4 a5 a6 a7 a8 a9 a10 a11 : AV} : dso (some 11) (a0 :: a1 :: a2 :: a3 :: a4 :: a5 :: a6 :: a7 :: a8 :: a9 :: a10 :: a11 :: r) v = some (a0 :: a1 :: a2 :: a3 :: a4 :: a5 :: a6 :: a7 :: a8 :: a9 :: a10 :: v :: r) := rfl
theorem gt12 {a0 a1 a2 a3 a4 a5 a6 a7 a8 a9 a10 a11 a12 : AV} : evo (a0 :: a1 :: a2 :: a3 :: a4 :: a5 :: a6 :: a7 :: a8 :: a9 :: a10 :: a11 :: a12 :: r) (.tmp 12) = some a12 := rfl
theorem st12 {a0 a1 a2 a3 a4 a5 a6 a7 a8 a9 a10 a11 a12 : AV} : dso (some 12) (a0 :: a1 :: a2 :: a3 :: a4 :: a5 :: a6 :: a7 :: a8 :: a9 :: a10 :: a11 :: a12 :: r) v = some (a0 :: a1 :: a2 :: a3 :: a4 :: a5 :: a6 :: a7 :: a8 :: a9 :: a10 :: a11 :: v :: r) := rfl
theorem gt13 {a0 a1 a2 a3 a4 a5 a6 a7 a8 a9 a10 a11 a12 a13 : AV} : evo (a0 :: a1 :: a2 :: a3 :: a4 :: a5 :: a6 :: a7 :: a8 :: a9 :: a10 :: a11 :: a12 :: a13 :: r) (.tmp 13) = some a13 := rfl
theorem st13 {a0 a1 a2 a3 a4 a5 a6 a7 a8 a9 a10 a11 a12 a13 : AV} : dso (some 13) (a0 :: a1 :: a2 :: a3 :: a4 :: a5 :: a6 :: a7 :: a8 :: a9 :: a10 :: a11 :: a12 :: a13 :: r) v = some (a0 :: a1 :: a2 :: a3 :: a4 :: a5 :: a6 :: a7 :: a8 :: a9 :: a10 :: a11 :: a12 :: v :: r) := rfl
theorem gt14 {a0 a1 a2 a3 a4 a5 a6 a7 a8 a9 a10 a11 a12 a13 a14 : AV} : evo (a0 :: a1 :: a2 :: a3 :: a4 :: a5 :: a6 :: a7 :: a8 :: a9 :: a10 :: a11 :: a12 :: a13 :: a14 :: r) (.tmp 14) = some a14 := rfl
theorem st14 {a0 a1 a2 a3 a4 a5 a6 a7 a8 a9 a10 a11 a12 a13 a14 : AV} : dso (some 14) (a0 :: a1 :: a2 :: a3 :: a4 :: a5 :: a6 :: a7 :: a8 :: a9 :: a10 :: a11 :: a12 :: a13 :: a14 :: r) v = some (a0 :: a1 :: a2 :: a3 :: a4 :: a5 :: a6 :: a7 :: a8 :: a9 :: a10 :: a11 :: a12 :: a13 :: v :: r) := rfl
theorem gt15 {a0 a1 a2 a3 a4 a5 a6 a7 a8 a9 a10 a11 a12 a13 a14 a15 : AV} : evo (a0 :: a1 :: a2 :: a3 :: a4 :: a5 :: a6 :: a7 :: a8 :: a9 :: a10 :: a11 :: a12 :: a13 :: a14 :: a15 :: r) (.tmp 15) = some a15 := rfl
theorem st15 {a0 a1 a2 a3 a4 a5 a6 a7 a8 a9 a10 a11 a12 a13 a14 a15 : AV} : dso (some 15) (a0 :: a1 :: a2 :: a3 :: a4 :: a5 :: a6 :: a7 :: a8 :: a9 :: a10 :: a11 :: a12 :: a13 :: a14 :: a15 :: r) v = some (a0 :: a1 :: a2 :: a3 :: a4 :: a5 :: a6 :: a7 :: a8 :: a9 :: a10 :: a11 :: a12 :: a13 :: a14 :: v :: r) := rfl
theorem gt16 {a0 a1 a2 a3 a4 a5 a6 a7 a8 a9 a10 a11 a12 a13 a14 a15 a16 : AV} : evo (a0 :: a1 :: a2 :: a3 :: a4 :: a5 :: a6 :: a7 :: a8 :: a9 :: a10 :: a11 :: a12 :: a13 :: a14 :: a15 :: a16 :: r) (.tmp 16) = some a16 := rfl
theorem st16 {a0 a1 a2 a3 a4 a5 a6 a7 a8 a9 a10 a11 a12 a13 a14 a15 a16 : AV} : dso (some 16) (a0 :: a1 :: a2 :: a3 :: a4 :: a5 :: a6 :: a7 :: a8 :: a9 :: a10 :: a11 :: a12 :: a13 :: a14 :: a15 :: a16 :: r) v = some (a0 :: a1 :: a2 :: a3 :: a4 :: a5 :: a6 :: a7 :: a8 :: a9 :: a10 :: a11 :: a12 :: a13 :: a14 :: a15 :: v :: r) := rfl
theorem gt17 {a0 a1 a2 a3 a4 a5 a6 a7 a8 a9 a10 a11 a12 a13 a14 a15 a16 a17 : AV} : evo (a0 :: a1 :: a2 :: a3 :: a4 :: a5 :: a6 :: a7 :: a8 :: a9 :: a10 :: a11 :: a12 :: a13 :: a14 :: a15 :: a16 :: a17 :: r) (.tmp 17) = some a17 := rfl
theorem st17 {a0 a1 a2 a3 a4 a5 a6 a7 a8 a9 a10 a11 a12 a13 a14 a15 a16 a17 : AV} : dso (some 17) (a0 :: a1 :: a2 :: a3 :: a4 :: a5 :: a6 :: a7 :: a8 :: a9 :: a10 :: a11 :: a12 :: a13 :: a14 :: a15 :: a16 :: a17 :: r) v = some (a0 :: a1 :: a2 :: a3 :: a4 :: a5 :: a6 :: a7 :: a8 :: a9 :: a10 :: a11 :: a12 :: a13 :: a14 :: a15 :: a16 :: v :: r) := rfl
theorem gt18 {a0 a1 a2 a3 a4 a5 a6 a7 a8 a9 a10 a11 a12 a13 a14 a15 a16 a17 a18 : AV} : evo (a0 :: a1 :: a2 :: a3 :: a4 :: a5 :: a6 :: a7 :: a8 :: a9 :: a10 :: a11 :: a12 :: a13 :: a14 :: a15 :: a16 :: a17 :: a18 :: r) (.tmp 18) = some a18 := rfl
theorem st18 {a0 a1 a2 a3 a4 a5 a6 a7 a8 a9 a10 a11 a12 a13 a14 a15 a16 a17 a18 : AV} : dso (some 18) (a0 :: a1 :: a2 :: a3 :: a4 :: a5 :: a6 :: a7 :: a8 :: a9 :: a10 :: a11 :: a12 :: a13 :: a14 :: a15 :: a16 :: a17 :: a18 :: r) v = some (a0 :: a1 :: a2 :: a3 :: a4 :: a5 :: a6 :: a7 :: a8 :: a9 :: a10 :: a11 :: a12 :: a13 :: a14 :: a15 :: a16 :: a17 :: v :: r) := rfl
theorem gt19 {a0 a1 a2 a3 a4 a5 a6 a7 a8 a9 a10 a11 a12 a13 a14 a15 a16 a17 a18 a19 : AV} : evo (a0 :: a1 :: a2 :: a3 :: a4 :: a5 :: a6 :: a7 :: a8 :: a9 :: a10 :: a11 :: a12 :: a13 :: a14 :: a15 :: a16 :: a17 :: a18 :: a19 :: r) (.tmp 19) = some a19 := rfl
theorem st19 {a0 a1 a2 a3 a4 a5 a6 a7 a8 a9 a10 a11 a12 a13 a14 a15 a16 a17 a18 a19 : AV} : dso (some 19) (a0 :: a1 :: a2 :: a3 :: a4 :: a5 :: a6 :: a7 :: a8 :: a9 :: a10 :: a11 :: a12 :: a13 :: a14 :: a15 :: a16 :: a17 :: a18 :: a19 :: r) v = some (a0 :: a1 :: a2 :: a3 :: a4 :: a5 :: a6 :: a7 :: a8 :: a9 :: a10 :: a11 :: a12 :: a13 :: a14 :: a15 :: a16 :: a17 :: a18 :: v :: r) := rfl
theorem gt20 {a0 a1 a2 a3 a4 a5 a6 a7 a8 a9 a10 a11 a12 a13 a14 a15 a16 a17 a18 a19 a20 : AV} : evo (a0 :: a1 :: a2 :: a3 :: a4 :: a5 :: a6 :: a7 :: a8 :: a9 :: a10 :: a11 :: a12 :: a13 :: a14 :: a15 :: a16 :: a17 :: a18 :: a19 :: a20 :: r) (.tmp 20) = some a20 := rfl
theorem st20 {a0 a1 a2 a3 a4 a5 a6 a7 a8 a9 a10 a11 a12 a13 a14 a15 a16 a17 a18 a19 a20 : AV} : dso (some 20) (a0 :: a1 :: a2 :: a3 :: a4 :: a5 :: a6 :: a7 :: a8 :: a9 :: a10 :: a11 :: a12 :: a13 :: a14 :: a15 :: a16 :: a17 :: a18 :: a19 :: a20 :: r) v = some (a0 :: a1 :: a2 :: a3 :: a4 :: a5 :: a6 :: a7 :: a8 :: a9 :: a10 :: a11 :: a12 :: a13 :: a14 :: a15 :: a16 :: a17 :: a18 :: a19 :: v :: r) := rfl
theorem gt21 {a0 a1 a2 a3 a4 a5 a6 a7 a8 a9 a10 a11 a12 a13 a14 a15 a16 a17 a18 a19 a20 a21 : AV} : evo (a0 :: a1 :: a2 :: a3 :: a4 :: a5 :: a6 :: a7 :: a8 :: a9 :: a10 :: a11 :: a12 :: a13 :: a14 :: a15 :: a16 :: a17 :: a18 :: a19 :: a20 :: a21 :: r) (.tmp 21) = some a21 := rfl
theorem st21 {a0 a1 a2 a3 a4 a5 a6 a7 a8 a9 a10 a11 a12 a13 a14 a15 a16 a17 a18 a19 a20 a21 : AV} : dso (some 21) (a0 :: a1 :: a2 :: a3 :: a4 :: a5 :: a6 :: a7 :: a8 :: a9 :: a10 :: a11 :: a12 :: a13 :: a14 :: a15 :: a16 :: a17 :: a18 :: a19 :: a20 :: a21 :: r) v = some (a0 :: a1 :: a2 :: a3 :: a4 :: a5 :: a6 :: a7 :: a8 :: a9 :: a10 :: a11 :: a12 :: a13 :: a14 :: a15 :: a16 :: a17 :: a18 :: a19 :: a20 :: v :: r) := rfl
theorem gt22 {a0 a1 a2 a3 a4 a5 a6 a7 a8 a9 a10 a11 a12 a13 a14 a15 a16 a17 a18 a19 a20 a21 a22 : AV} : evo (a0 :: a1 :: a2 :: a3 :: a4 :: a5 :: a6 :: a7 :: a8 :: a9 :: a10 :: a11 :: a12 :: a13 :: a14 :: a15 :: a16 :: a17 :: a18 :: a19 :: a20 :: a21 :: a22 :: r) (.tmp 22) = some a22 := rfl
theorem st22 {a0 a1 a2 a3 a4 a5 a6 a7 a8 a9 a10 a11 a12 a13 a14 a15 a16 a17 a18 a19 a20 a21 a22 : AV} : dso (some 22) (a0 :: a1 :: a2 :: a3 :: a4 :: a5 :: a6 :: a7 :: a8 :: a9 :: a10 :: a11 :: a12 :: a13 :: a14 :: a15 :: a16 :: a17 :: a18 :: a19 :: a20 :: a21 :: a22 :: r) v = some (a0 :: a1 :: a2 :: a3 :: a4 :: a5 :: a6 :: a7 :: a8 :: a9 :: a10 :: a11 :: a12 :: a13 :: a14 :: a15 :: a16 :: a17 :: a18 :: a19 :: a20 :: a21 :: v :: r) := rfl
theorem gt23 {a0 a1 a2 a3 a4 a5 a6 a7 a8 a9 a10 a11 a12 a13 a14 a15 a16 a17 a18 a19 a20 a21 a22 a23 : AV} : evo (a0 :: a1 :: a2 :: a3 :: a4 :: a5 :: a6 :: a7 :: a8 :: a9 :: a10 :: a11 :: a12 :: a13 :: a14 :: a15 :: a16 :: a17 :: a18 :: a19 :: a20 :: a21 :: a22 :: a23 :: r) (.tmp 23) = some a23 := rfl
theorem st23 {a0 a1 a2 a3 a4 a5 a6 a7 a8 a9 a10 a11 a12 a13 a14 a15 a16 a17 a18 a19 a20 a21 a22 a23 : AV} : dso (some 23) (a0 :: a1 :: a2 :: a3 :: a4 :: a5 :: a6 :: a7 :: a8 :: a9 :: a10 :: a11 :: a12 :: a13 :: a14 :: a15 :: a16 :: a17 :: a18 :: a19 :: a20 :: a21 :: a22 :: a23 :: r) v = some (a0 :: a1 :: a2 :: a3 :: a4 :: a5 :: a6 :: a7 :: a8 :: a9 :: a10 :: a11 :: a12 :: a13 :: a14 :: a15 :: a16 :: a17 :: a18 :: a19 :: a20 :: a21 :: a22 :: v :: r) := rfl
theorem gt24 {a0 a1 a2 a3 a4 a5 a6 a7 a8 a9 a10 a11 a12 a13 a14 a15 a16 a17 a18 a19 a20 a21 a22 a23 a24 : AV} : evo (a0 :: a1 :: a2 :: a3 :: a4 :: a5 :: a6 :: a7 :: a8 :: a9 :: a10 :: a11 :: a12 :: a13 :: a14 :: a15 :: a16 :: a17 :: a18 :: a19 :: a20 :: a21 :: a22 :: a23 :: a24 :: r) (.tmp 24) = some a24 := rfl
theorem st24 {a0 a1 a2 a3 a4 a5 a6 a7 a8 a9 a10 a11 a12 a13 a14 a15 a16 a17 a18 a19 a20 a21 a22 a23 a24 : AV} : dso (some 24) (a0 :: a1 :: a2 :: a3 :: a4 :: a5 :: a6 :: a7 :: a8 :: a9 :: a10 :: a11 :: a12 :: a13 :: a14 :: a15 :: a16 :: a17 :: a18 :: a19 :: a20 :: a21 :: a22 :: a23 :: a24 :: r) v = some (a0 :: a1 :: a2 :: a3 :: a4 :: a5 :: a6 :: a7 :: a8 :: a9 :: a10 :: a11 :: a12 :: a13 :: a14 :: a15 :: a16 :: a17 :: a18 :: a19 :: a20 :: a21 :: a22 :: a23 :: v :: r) := rfl
theorem gt25 {a0 a1 a2 a3 a4 a5 a6 a7 a8 a9 a10 a11 a12 a13 a14 a15 a16 a17 a18 a19 a20 a21 a22 a23 a24 a25 : AV} : evo (a0 :: a1 :: a2 :: a3 :: a4 :: a5 :: a6 :: a7 :: a8 :: a9 :: a10 :: a11 :: a12 :: a13 :: a14 :: a15 :: a16 :: a17 :: a18 :: a19 :: a20 :: a21 :: a22 :: a23 :: a24 :: a25 :: r) (.tmp 25) = some a25 := rfl
theorem st25 {a0 a1 a2 a3 a4 a5 a6 a7 a8 a9 a10 a11 a12 a13 a14 a15 a16 a17 a18 a19 a20 a21 a22 a23 a24 a25 : AV} : dso (some 25) (a0 :: a1 :: a2 :: a3 :: a4 :: a5 :: a6 :: a7 :: a8 :: a9 :: a10 :: a11 :: a12 :: a13 :: a14 :: a15 :: a16 :: a17 :: a18 :: a19 :: a20 :: a21 :: a22 :: a23 :: a24 :: a25 :: r) v = some (a0 :: a1 :: a2 :: a3 :: a4 :: a5 :: a6 :: a7 :: a8 :: a9 :: a10 :: a11 :: a12 :: a13 :: a14 :: a15 :: a16 :: a17 :: a18 :: a19 :: a20 :: a21 :: a22 :: a23 :: a24 :: v :: r) := rfl
theorem gt26 {a0 a1 a2 a3 a4 a5 a6 a7 a8 a9 a10 a11 a12 a13 a14 a15 a16 a17 a18 a19 a20 a21 a22 a23 a24 a25 a26 : AV} : evo (a0 :: a1 :: a2 :: a3 :: a4 :: a5 :: a6 :: a7 :: a8 :: a9 :: a10 :: a11 :: a12 :: a13 :: a14 :: a15 :: a16 :: a17 :: a18 :: a19 :: a20 :: a21 :: a22 :: a23 :: a24 :: a25 :: a26 :: r) (.tmp 26) = some a26 := rfl
theorem st26 {a0 a1 a2 a3 a4 a5 a6 a7 a8 a9 a10 a11 a12 a13 a14 a15 a16 a17 a18 a19 a20 a21 a22 a23 a24 a25 a26 : AV} : dso (some 26) (a0 :: a1 :: a2 :: a3 :: a4 :: a5 :: a6 :: a7 :: a8 :: a9 :: a10 :: a11 :: a12 :: a13 :: a14 :: a15 :: a16 :: a17 :: a18 :: a19 :: a20 :: a21 :: a22 :: a23 :: a24 :: a25 :: a26 :: r) v = some (a0 :: a1 :: a2 :: a3 :: a4 :: a5 :: a6 :: a7 :: a8 :: a9 :: a10 :: a11 :: a12 :: a13 :: a14 :: a15 :: a16 :: a17 :: a18 :: a19 :: a20 :: a21 :: a22 :: a23 :: a24 :: a25 :: v :: r) := rfl
theorem gt27 {a0 a1 a2 a3 a4 a5 a6 a7 a8 a9 a10 a11 a12 a13 a14 a15 a16 a17 a18 a19 a20 a21 a22 a23 a24 a25 a26 a27 : AV} : evo (a0 :: a1 :: a2 :: a3 :: a4 :: a5 :: a6 :: a7 :: a8 :: a9 :: a10 :: a11 :: a12 :: a13 :: a14 :: a15 :: a16 :: a17 :: a18 :: a19 :: a20 :: a21 :: a22 :: a23 :: a24 :: a25 :: a26 :: a27 :: r) (.tmp 27) = some a27 := rfl
theorem st27 {a0 a1 a2 a3 a4 a5 a6 a7 a8 a9 a10 a11 a12 a13 a14 a15 a16 a17 a18 a19 a20 a21 a22 a23 a24 a25 a26 a27 : AV} : dso (some 27) (a0 :: a1 :: a2 :: a3 :: a4 :: a5 :: a6 :: a7 :: a8 :: a9 :: a10 :: a11 :: a12 :: a13 :: a14 :: a15 :: a16 :: a17 :: a18 :: a19 :: a20 :: a21 :: a22 :: a23 :: a24 :: a25 :: a26 :: a27 :: r) v = some (a0 :: a1 :: a2 :: a3 :: a4 :: a5 :: a6 :: a7 :: a8 :: a9 :: a10 :: a11 :: a12 :: a13 :: a14 :: a15 :: a16 :: a17 :: a18 :: a19 :: a20 :: a21 :: a22 :: a23 :: a24 :: a25 :: a26 :: v :: r) := rfl
theorem gt28 {a0 a1 a2 a3 a4 a5 a6 a7 a8 a9 a10 a11 a12 a13 a14 a15 a16 a17 a18 a19 a20 a21 a22 a23 a24 a25 a26 a27 a28 : AV} : evo (a0 :: a1 :: a2 :: a3 :: a4 :: a5 :: a6 :: a7 :: a8 :: a9 :: a10 :: a11 :: a12 :: a13 :: a14 :: a15 :: a16 :: a17 :: a18 :: a19 :: a20 :: a21 :: a22 :: a23 :: a24 :: a25 :: a26 :: a27 :: a28 :: r) (.tmp 28) = some a28 := rfl
theorem st28 {a0 a1 a2 a3 a4 a5 a6 a7 a8 a9 a10 a11 a12 a13 a14 a15 a16 a17 a18 a19 a20 a21 a22 a23 a24 a25 a26 a27 a28 : AV} : dso (some 28) (a0 :: a1 :: a2 :: a3 :: a4 :: a5 :: a6 :: a7 :: a8 :: a9 :: a10 :: a11 :: a12 :: a13 :: a14 :: a15 :: a16 :: a17 :: a18 :: a19 :: a20 :: a21 :: a22 :: a23 :: a24 :: a25 :: a26 :: a27 :: a28 :: r) v = some (a0 :: a1 :: a2 :: a3 :: a4 :: a5 :: a6 :: a7 :: a8 :: a9 :: a10 :: a11 :: a12 :: a13 :: a14 :: a15 :: a16 :: a17 :: a18 :: a19 :: a20 :: a21 :: a22 :: a23 :: a24 :: a25 :: a26 :: a27 :: v :: r) := rfl
theorem gt29 {a0 a1 a2 a3 a4 a5 a6 a7 a8 a9 a10 a11 a12 a13 a14 a15 a16 a17 a18 a19 a20 a21 a22 a23 a24 a25 a26 a27 a28 a29 : AV} : evo (a0 :: a1 :: a2 :: a3 :: a4 :: a5 :: a6 :: a7 :: a8 :: a9 :: a10 :: a11 :: a12 :: a13 :: a14 :: a15 :: a16 :: a17 :: a18 :: a19 :: a20 :: a21 :: a22 :: a23 :: a24 :: a25 :: a26 :: a27 :: a28 :: a29 :: r) (.tmp 29) = some a29 := rfl
theorem st29 {a0 a1 a2 a3 a4 a5 a6 a7 a8 a9 a10 a11 a12 a13 a14 a15 a16 a17 a18 a19 a20 a21 a22 a23 a24 a25 a26 a27 a28 a29 : AV} : dso (some 29) (a0 :: a1 :: a2 :: a3 :: a4 :: a5 :: a6 :: a7 :: a8 :: a9 :: a10 :: a11 :: a12 :: a13 :: a14 :: a15 :: a16 :: a17 :: a18 :: a19 :: a20 :: a21 :: a22 :: a23 :: a24 :: a25 :: a26 :: a27 :: a28 :: a29 :: r) v = some (a0 :: a1 :: a2 :: a3 :: a4 :: a5 :: a6 :: a7 :: a8 :: a9 :: a10 :: a11 :: a12 :: a13 :: a14 :: a15 :: a16 :: a17 :: a18 :: a19 :: a20 :: a21 :: a22 :: a23 :: a24 :: a25 :: a26 :: a27 :: a28 :: v :: r) := rfl
theorem gt30 {a0 a1 a2 a3 a4 a5 a6 a7 a8 a9 a10 a11 a12 a13 a14 a15 a16 a17 a18 a19 a20 a21 a22 a23 a24 a25 a26 a27 a28 a29 a30 : AV} : evo (a0 :: a1 :: a2 :: a3 :: a4 :: a5 :: a6 :: a7 :: a8 :: a9 :: a10 :: a11 :: a12 :: a13 :: a14 :: a15 :: a16 :: a17 :: a18 :: a19 :: a20 :: a21 :: a22 :: a23 :: a24 :: a25 :: a26 :: a27 :: a28 :: a29 :: a30 :: r) (.tmp 30) = some a30 := rfl
theorem st30 {a0 a1 a2 a3 a4 a5 a6 a7 a8 a9 a10 a11 a12 a13 a14 a15 a16 a17 a18 a19 a20 a21 a22 a23 a24 a25 a26 a27 a28 a29 a30 : AV} : dso (some 30) (a0 :: a1 :: a2 :: a3 :: a4 :: a5 :: a6 :: a7 :: a8 :: a9 :: a10 :: a11 :: a12 :: a13 :: a14 :: a15 :: a16 :: a17 :: a18 :: a19 :: a20 :: a21 :: a22 :: a23 :: a24 :: a25 :: a26 :: a27 :: a28 :: a29 :: a30 :: r) v = some (a0 :: a1 :: a2 :: a3 :: a4 :: a5 :: a6 :: a7 :: a8 :: a9 :: a10 :: a11 :: a12 :: a13 :: a14 :: a15 :: a16 :: a17 :: a18 :: a19 :: a20 :: a21 :: a22 :: a23 :: a24 :: a25 :: a26 :: a27 :: a28 :: a29 :: v :: r) := rfl
theorem gt31 {a0 a1 a2 a3 a4 a5 a6 a7 a8 a9 a10 a11 a12 a13 a14 a15 a16 a17 a18 a19 a20 a21 a22 a23 a24 a25 a26 a27 a28 a29 a30 a31 : AV} : evo (a0 :: a1 :: a2 :: a3 :: a4 :: a5 :: a6 :: a7 :: a8 :: a9 :: a10 :: a11 :: a12 :: a13 :: a14 :: a15 :: a16 :: a17 :: a18 :: a19 :: a20 :: a21 :: a22 :: a23 :: a24 :: a25 :: a26 :: a27 :: a28 :: a29 :: a30 :: a31 :: r) (.tmp 31) = some a31 := rfl
theorem st31 {a0 a1 a2 a3 a4 a5 a6 a7 a8 a9 a10 a11 a12 a13 a14 a15 a16 a17 a18 a19 a20 a21 a22 a23 a24 a25 a26 a27 a28 a29 a30 a31 : AV} : dso (some 31) (a0 :: a1 :: a2 :: a3 :: a4 :: a5 :: a6 :: a7 :: a8 :: a9 :: a10 :: a11 :: a12 :: a13 :: a14 :: a15 :: a16 :: a17 :: a18 :: a19 :: a20 :: a21 :: a22 :: a23 :: a24 :: a25 :: a26 :: a27 :: a28 :: a29 :: a30 :: a31 :: r) v = some (a0 :: a1 :: a2 :: a3 :: a4 :: a5 :: a6 :: a7 :: a8 :: a9 :: a10 :: a11 :: a12 :: a13 :: a14 :: a15 :: a16 :: a17 :: a18 :: a19 :: a20 :: a21 :: a22 :: a23 :: a24 :: a25 :: a26 :: a27 :: a28 :: a29 :: a30 :: v :: r) := rfl
theorem gt32 {a0 a1 a2 a3 a4 a5 a6 a7 a8 a9 a10 a11 a12 a13 a14 a15 a16 a17 a18 a19 a20 a21 a22 a23 a24 a25 a26 a27 a28 a29 a30 a31 a32 : AV} : evo (a0 :: a1 :: a2 :: a3 :: a4 :: a5 :: a6 :: a7 :: a8 :: a9 :: a10 :: a11 :: a12 :: a13 :: a14 :: a15 :: a16 :: a17 :: a18 :: a19 :: a20 :: a21 :: a22 :: a23 :: a24 :: a25 :: a26 :: a27 :: a28 :: a29 :: a30 :: a31 :: a32 :: r) (.tmp 32) = some a32 := rfl
theorem st32 {a0 a1 a2 a3 a4 a5 a6 a7 a8 a9 a10 a11 a12 a13 a14 a15 a16 a17 a18 a19 a20 a21 a22 a23 a24 a25 a26 a27 a28 a29 a30 a31 a32 : AV} : dso (some 32) (a0 :: a1 :: a2 :: a3 :: a4 :: a5 :: a6 :: a7 :: a8 :: a9 :: a10 :: a11 :: a12 :: a13 :: a14 :: a15 :: a16 :: a17 :: a18 :: a19 :: a20 :: a21 :: a22 :: a23 :: a24 :: a25 :: a26 :: a27 :: a28 :: a29 :: a30 :: a31 :: a32 :: r) v = some (a0 :: a1 :: a2 :: a3 :: a4 :: a5 :: a6 :: a7 :: a8 :: a9 :: a10 :: a11 :: a12 :: a13 :: a14 :: a15 :: a16 :: a17 :: a18 :: a19 :: a20 :: a21 :: a22 :: a23 :: a24 :: a25 :: a26 :: a27 :: a28 :: a29 :: a30 :: a31 :: v :: r) := rfl
theorem gt33 {a0 a1 a2 a3 a4 a5 a6 a7 a8 a9 a10 a11 a12 a13 a14 a15 a16 a17 a18 a19 a20 a21 a22 a23 a24 a25 a26 a27 a28 a29 a30 a31 a32 a33 : AV} : evo (a0 :: a1 :: a2 :: a3 :: a4 :: a5 :: a6 :: a7 :: a8 :: a9 :: a10 :: a11 :: a12 :: a13 :: a14 :: a15 :: a16 :: a17 :: a18 :: a19 :: a20 :: a21 :: a22 :: a23 :: a24 :: a25 :: a26 :: a27 :: a28 :: a29 :: a30 :: a31 :: a32 :: a33 :: r) (.tmp 33) = some a33 := rfl
theorem st33 {a0 a1 a2 a3 a4 a5 a6 a7 a8 a9 a10 a11 a12 a13 a14 a15 a16 a17 a18 a19 a20 a21 a22 a23 a24 a25 a26 a27 a28 a29 a30 a31 a32 a33 : AV} : dso (some 33) (a0 :: a1 :: a2 :: a3 :: a4 :: a5 :: a6 :: a7 :: a8 :: a9 :: a10 :: a11 :: a12 :: a13 :: a14 :: a15 :: a16 :: a17 :: a18 :: a19 :: a20 :: a21 :: a22 :: a23 :: a24 :: a25 :: a26 :: a27 :: a28 :: a29 :: a30 :: a31 :: a32 :: a33 :: r) v = some (a0 :: a1 :: a2 :: a3 :: a4 :: a5 :: a6 :: a7 :: a8 :: a9 :: a10 :: a11 :: a12 :: a13 :: a14 :: a15 :: a16 :: a17 :: a18 :: a19 :: a20 :: a21 :: a22 :: a23 :: a24 :: a25 :: a26 :: a27 :: a28 :: a29 :: a30 :: a31 :: a32 :: v :: r) := rfl
theorem gt34 {a0 a1 a2 a3 a4 a5 a6 a7 a8 a9 a10 a11 a12 a13 a14 a15 a16 a17 a18 a19 a20 a21 a22 a23 a24 a25 a26 a27 a28 a29 a30 a31 a32 a33 a34 : AV} : evo (a0 :: a1 :: a2 :: a3 :: a4 :: a5 :: a6 :: a7 :: a8 :: a9 :: a10 :: a11 :: a12 :: a13 :: a14 :: a15 :: a16 :: a17 :: a18 :: a19 :: a20 :: a21 :: a22 :: a23 :: a24 :: a25 :: a26 :: a27 :: a28 :: a29 :: a30 :: a31 :: a32 :: a33 :: a34 :: r) (.tmp 34) = some a34 := rfl
theorem st34 {a0 a1 a2 a3 a4 a5 a6 a7 a8 a9 a10 a11 a12 a13 a14 a15 a16 a17 a18 a19 a20 a21 a22 a23 a24 a25 a26 a27 a28 a29 a30 a31 a32 a33 a34 : AV} : dso (some 34) (a0 :: a1 :: a2 :: a3 :: a4 :: a5 :: a6 :: a7 :: a8 :: a9 :: a10 :: a11 :: a12 :: a13 :: a14 :: a15 :: a16 :: a17 :: a18 :: a19 :: a20 :: a21 :: a22 :: a23 :: a24 :: a25 :: a26 :: a27 :: a28 :: a29 :: a30 :: a31 :: a32 :: a33 :: a34 :: r) v = some (a0 :: a1 :: a2 :: a3 :: a4 :: a5 :: a6 :: a7 :: a8 :: a9 :: a10 :: a11 :: a12 :: a13 :: a14 :: a15 :: a16 :: a17 :: a18 :: a19 :: a20 :: a21 :: a22 :: a23 :: a24 :: a25 :: a26 :: a27 :: a28 :: a29 :: a30 :: a31 :: a32 :: a33 :: v :: r) := rfl
theorem gt35 {a0 a1 a2 a3 a4 a5 a6 a7 a8 a9 a10 a11 a12 a13 a14 a15 a16 a17 a18 a19 a20 a21 a22 a23 a24 a25 a26 a27 a28 a29 a30 a31 a32 a33 a34 a35 : AV} : evo (a0 :: a1 :: a2 :: a3 :: a4 :: a5 :: a6 :: a7 :: a8 :: a9 :: a10 :: a11 :: a12 :: a13 :: a14 :: a15 :: a16 :: a17 :: a18 :: a19 :: a20 :: a21 :: a22 :: a23 :: a24 :: a25 :: a26 :: a27 :: a28 :: a29 :: a30 :: a31 :: a32 :: a33 :: a34 :: a35 :: r) (.tmp 35) = some a35 := rfl
theorem st35 {a0 a1 a2 a3 a4 a5 a6 a7 a8 a9 a10 a11 a12 a13 a14 a15 a16 a17 a18 a19 a20 a21 a22 a23 a24 a25 a26 a27 a28 a29 a30 a31 a32 a33 a34 a35 : AV} : dso (some 35) (a0 :: a1 :: a2 :: a3 :: a4 :: a5 :: a6 :: a7 :: a8 :: a9 :: a10 :: a11 :: a12 :: a13 :: a14 :: a15 :: a16 :: a17 :: a18 :: a19 :: a20 :: a21 :: a22 :: a23 :: a24 :: a25 :: a26 :: a27 :: a28 :: a29 :: a30 :: a31 :: a32 :: a33 :: a34 :: a35 :: r) v = some (a0 :: a1 :: a2 :: a3 :: a4 :: a5 :: a6 :: a7 :: a8 :: a9 :: a10 :: a11 :: a12 :: a13 :: a14 :: a15 :: a16 :: a17 :: a18 :: a19 :: a20 :: a21 :: a22 :: a23 :: a24 :: a25 :: a26 :: a27 :: a28 :: a29 :: a30 :: a31 :: a32 :: a33 :: a34 :: v :: r) := rfl
theorem gt36 {a0 a1 a2 a3 a4 a5 a6 a7 a8 a9 a10 a11 a12 a13 a14 a15 a16 a17 a18 a19 a20 a21 a22 a23 a24 a25 a26 a27 a28 a29 a30 a31 a32 a33 a34 a35 a36 : AV} : evo (a0 :: a1 :: a2 :: a3 :: a4 :: a5 :: a6 :: a7 :: a8 :: a9 :: a10 :: a11 :: a12 :: a13 :: a14 :: a15 :: a16 :: a17 :: a18 :: a19 :: a20 :: a21 :: a22 :: a23 :: a24 :: a25 :: a26 :: a27 :: a28 :: a29 :: a30 :: a31 :: a32 :: a33 :: a34 :: a35 :: a36 :: r) (.tmp 36) = some a36 := rfl
theorem st36 {a0 a1 a2 a3 a4 a5 a6 a7 a8 a9 a10 a11 a12 a13 a14 a15 a16 a17 a18 a19 a20 a21 a22 a23 a24 a25 a26 a27 a28 a29 a30 a31 a32 a33 a34 a35 a36 : AV} : dso (some 36) (a0 :: a1 :: a2 :: a3 :: a4 :: a5 :: a6 :: a7 :: a8 :: a9 :: a10 :: a11 :: a12 :: a13 :: a14 :: a15 :: a16 :: a17 :: a18 :: a19 :: a20 :: a21 :: a22 :: a23 :: a24 :: a25 :: a26 :: a27 :: a28 :: a29 :: a30 :: a31 :: a32 :: a33 :: a34 :: a35 :: a36 :: r) v = some (a0 :: a1 :: a2 :: a3 :: a4 :: a5 :: a6 :: a7 :: a8 :: a9 :: a10 :: a11 :: a12 :: a13 :: a14 :: a15 :: a16 :: a17 :: a18 :: a19 :: a20 :: a21 :: a22 :: a23 :: a24 :: a25 :: a26 :: a27 :: a28 :: a29 :: a30 :: a31 :: a32 :: a33 :: a34 :: a35 :: v :: r) := rfl
theorem gt37 {a0 a1 a2 a3 a4 a5 a6 a7 a8 a9 a10 a11 a12 a13 a14 a15 a16 a17 a18 a19 a20 a21 a22 a23 a24 a25 a26 a27 a28 a29 a30 a31 a32 a33 a34 a35 a36 a37 : AV} : evo (a0 :: a1 :: a2 :: a3 :: a4 :: a5 :: a6 :: a7 :: a8 :: a9 :: a10 :: a11 :: a12 :: a13 :: a14 :: a15 :: a16 :: a17 :: a18 :: a19 :: a20 :: a21 :: a22 :: a23 :: a24 :: a25 :: a26 :: a27 :: a28 :: a29 :: a30 :: a31 :: a32 :: a33 :: a34 :: a35 :: a36 :: a37 :: r) (.tmp 37) = some a37 := rfl
theorem st37 {a0 a1 a2 a3 a4 a5 a6 a7 a8 a9 a10 a11 a12 a13 a14 a15 a16 a17 a18 a19 a20 a21 a22 a23 a24 a25 a26 a27 a28 a29 a30 a31 a32 a33 a34 a35 a36 a37 : AV} : dso (some 37) (a0 :: a1 :: a2 :: a3 :: a4 :: a5 :: a6 :: a7 :: a8 :: a9 :: a10 :: a11 :: a12 :: a13 :: a14 :: a15 :: a16 :: a17 :: a18 :: a19 :: a20 :: a21 :: a22 :: a23 :: a24 :: a25 :: a26 :: a27 :: a28 :: a29 :: a30 :: a31 :: a32 :: a33 :: a34 :: a35 :: a36 :: a37 :: r) v = some (a0 :: a1 :: a2 :: a3 :: a4 :: a5 :: a6 :: a7 :: a8 :: a9 :: a10 :: a11 :: a12 :: a13 :: a14 :: a15 :: a16 :: a17 :: a18 :: a19 :: a20 :: a21 :: a22 :: a23 :: a24 :: a25 :: a26 :: a27 :: a28 :: a29 :: a30 :: a31 :: a32 :: a33 :: a34 :: a35 :: a36 :: v :: r) := rfl
theorem gt38 {a0 a1 a2 a3 a4 a5 a6 a7 a8 a9 a10 a11 a12 a13 a14 a15 a16 a17 a18 a19 a20 a21 a22 a23 a24 a25 a26 a27 a28 a29 a30 a31 a32 a33 a34 a35 a36 a37 a38 : AV} : evo (a0 :: a1 :: a2 :: a3 :: a4 :: a5 :: a6 :: a7 :: a8 :: a9 :: a10 :: a11 :: a12 :: a13 :: a14 :: a15 :: a16 :: a17 :: a18 :: a19 :: a20 :: a21 :: a22 :: a23 :: a24 :: a25 :: a26 :: a27 :: a28 :: a29 :: a30 :: a31 :: a32 :: a33 :: a34 :: a35 :: a36 :: a37 :: a38 :: r) (.tmp 38) = some a38 := rfl
theorem st38 {a0 a1 a2 a3 a4 a5 a6 a7 a8 a9 a10 a11 a12 a13 a14 a15 a16 a17 a18 a19 a20 a21 a22 a23 a24 a25 a26 a27 a28 a29 a30 a31 a32 a33 a34 a35 a36 a37 a38 : AV} : dso (some 38) (a0 :: a1 :: a2 :: a3 :: a4 :: a5 :: a6 :: a7 :: a8 :: a9 :: a10 :: a11 :: a12 :: a13 :: a14 :: a15 :: a16 :: a17 :: a18 :: a19 :: a20 :: a21 :: a22 :: a23 :: a24 :: a25 :: a26 :: a27 :: a28 :: a29 :: a30 :: a31 :: a32 :: a33 :: a34 :: a35 :: a36 :: a37 :: a38 :: r) v = some (a0 :: a1 :: a2 :: a3 :: a4 :: a5 :: a6 :: a7 :: a8 :: a9 :: a10 :: a11 :: a12 :: a13 :: a14 :: a15 :: a16 :: a17 :: a18 :: a19 :: a20 :: a21 :: a22 :: a23 :: a24 :: a25 :: a26 :: a27 :: a28 :: a29 :: a30 :: a31 :: a32 :: a33 :: a34 :: a35 :: a36 :: a37 :: v :: r) := rfl
theorem gt39 {a0 a1 a2 a3 a4 a5 a6 a7 a8 a9 a10 a11 a12 a13 a14 a15 a16 a17 a18 a19 a20 a21 a22 a23 a24 a25 a26 a27 a28 a29 a30 a31 a32 a33 a34 a35 a36 a37 a38 a39 : AV} : evo (a0 :: a1 :: a2 :: a3 :: a4 :: a5 :: a6 :: a7 :: a8 :: a9 :: a10 :: a11 :: a12 :: a13 :: a14 :: a15 :: a16 :: a17 :: a18 :: a19 :: a20 :: a21 :: a22 :: a23 :: a24 :: a25 :: a26 :: a27 :: a28 :: a29 :: a30 :: a31 :: a32 :: a33 :: a34 :: a35 :: a36 :: a37 :: a38 :: a39 :: r) (.tmp 39) = some a39 := rfl
theorem st39 {a0 a1 a2 a3 a4 a5 a6 a7 a8 a9 a10 a11 a12 a13 a14 a15 a16 a17 a18 a19 a20 a21 a22 a23 a24 a25 a26 a27 a28 a29 a30 a31 a32 a33 a34 a35 a36 a37 a38 a39 : AV} : dso (some 39) (a0 :: a1 :: a2 :: a3 :: a4 :: a5 :: a6 :: a7 :: a8 :: a9 :: a10 :: a11 :: a12 :: a13 :: a14 :: a15 :: a16 :: a17 :: a18 :: a19 :: a20 :: a21 :: a22 :: a23 :: a24 :: a25 :: a26 :: a27 :: a28 :: a29 :: a30 :: a31 :: a32 :: a33 :: a34 :: a35 :: a36 :: a37 :: a38 :: a39 :: r) v = some (a0 :: a1 :: a2 :: a3 :: a4 :: a5 :: a6 :: a7 :: a8 :: a9 :: a10 :: a11 :: a12 :: a13 :: a14 :: a15 :: a16 :: a17 :: a18 :: a19 :: a20 :: a21 :: a22 :: a23 :: a24 :: a25 :: a26 :: a27 :: a28 :: a29 :: a30 :: a31 :: a32 :: a33 :: a34 :: a35 :: a36 :: a37 :: a38 :: v :: r) := rfl
theorem gt40 {a0 a1 a2 a3 a4 a5 a6 a7 a8 a9 a10 a11 a12 a13 a14 a15 a16 a17 a18 a19 a20 a21 a22 a23 a24 a25 a26 a27 a28 a29 a30 a31 a32 a33 a34 a35 a36 a37 a38 a39 a40 : AV} : evo (a0 :: a1 :: a2 :: a3 :: a4 :: a5 :: a6 :: a7 :: a8 :: a9 :: a10 :: a11 :: a12 :: a13 :: a14 :: a15 :: a16 :: a17 :: a18 :: a19 :: a20 :: a21 :: a22 :: a23 :: a24 :: a25 :: a26 :: a27 :: a28 :: a29 :: a30 :: a31 :: a32 :: a33 :: a34 :: a35 :: a36 :: a37 :: a38 :: a39 :: a40 :: r) (.tmp 40) = some a40 := rfl
theorem st40 {a0 a1 a2 a3 a4 a5 a6 a7 a8 a9 a10 a11 a12 a13 a14 a15 a16 a17 a18 a19 a20 a21 a22 a23 a24 a25 a26 a27 a28 a29 a30 a31 a32 a33 a34 a35 a36 a37 a38 a39 a40 : AV} : dso (some 40) (a0 :: a1 :: a2 :: a3 :: a4 :: a5 :: a6 :: a7 :: a8 :: a9 :: a10 :: a11 :: a12 :: a13 :: a14 :: a15 :: a16 :: a17 :: a18 :: a19 :: a20 :: a21 :: a22 :: a23 :: a24 :: a25 :: a26 :: a27 :: a28 :: a29 :: a30 :: a31 :: a32 :: a33 :: a34 :: a35 :: a36 :: a37 :: a38 :: a39 :: a40 :: r) v = some (a0 :: a1 :: a2 :: a3 :: a4 :: a5 :: a6 :: a7 :: a8 :: a9 :: a10 :: a11 :: a12 :: a13 :: a14 :: a15 :: a16 :: a17 :: a18 :: a19 :: a20 :: a21 :: a22 :: a23 :: a24 :: a25 :: a26 :: a27 :: a28 :: a29 :: a30 :: a31 :: a32 :: a33 :: a34 :: a35 :: a36 :: a37 :: a38 :: a39 :: v :: r) := rfl
theorem gt41 {a0 a1 a2 a3 a4 a5 a6 a7 a8 a9 a10 a11 a12 a13 a14 a15 a16 a17 a18 a19 a20 a21 a22 a23 a24 a25 a26 a27 a28 a29 a30 a31 a32 a33 a34 a35 a36 a37 a38 a39 a40 a41 : AV} : evo (a0 :: a1 :: a2 :: a3 :: a4 :: a5 :: a6 :: a7 :: a8 :: a9 :: a10 :: a11 :: a12 :: a13 :: a14 :: a15 :: a16 :: a17 :: a18 :: a19 :: a20 :: a21 :: a22 :: a23 :: a24 :: a25 :: a26 :: a27 :: a28 :: a29 :: a30 :: a31 :: a32 :: a33 :: a34 :: a35 :: a36 :: a37 :: a38 :: a39 :: a40 :: a41 :: r) (.tmp 41) = some a41 := rfl
theorem st41 {a0 a1 a2 a3 a4 a5 a6 a7 a8 a9 a10 a11 a12 a13 a14 a15 a16 a17 a18 a19 a20 a21 a22 a23 a24 a25 a26 a27 a28 a29 a30 a31 a32 a33 a34 a35 a36 a37 a38 a39 a40 a41 : AV} : dso (some 41) (a0 :: a1 :: a2 :: a3 :: a4 :: a5 :: a6 :: a7 :: a8 :: a9 :: a10 :: a11 :: a12 :: a13 :: a14 :: a15 :: a16 :: a17 :: a18 :: a19 :: a20 :: a21 :: a22 :: a23 :: a24 :: a25 :: a26 :: a27 :: a28 :: a29 :: a30 :: a31 :: a32 :: a33 :: a34 :: a35 :: a36 :: a37 :: a38 :: a39 :: a40 :: a41 :: r) v = some (a0 :: a1 :: a2 :: a3 :: a4 :: a5 :: a6 :: a7 :: a8 :: a9 :: a10 :: a11 :: a12 :: a13 :: a14 :: a15 :: a16 :: a17 :: a18 :: a19 :: a20 :: a21 :: a22 :: a23 :: a24 :: a25 :: a26 :: a27 :: a28 :: a29 :: a30 :: a31 :: a32 :: a33 :: a34 :: a35 :: a36 :: a37 :: a38 :: a39 :: a40 :: v :: r) := rfl
theorem gt42 {a0 a1 a2 a3 a4 a5 a6 a7 a8 a9 a10 a11 a12 a13 a14 a15 a16 a17 a18 a19 a20 a21 a22 a23 a24 a25 a26 a27 a28 a29 a30 a31 a32 a33 a34 a35 a36 a37 a38 a39 a40 a41 a42 : AV} : evo (a0 :: a1 :: a2 :: a3 :: a4 :: a5 :: a6 :: a7 :: a8 :: a9 :: a10 :: a11 :: a12 :: a13 :: a14 :: a15 :: a16 :: a17 :: a18 :: a19 :: a20 :: a21 :: a22 :: a23 :: a24 :: a25 :: a26 :: a27 :: a28 :: a29 :: a30 :: a31 :: a32 :: a33 :: a34 :: a35 :: a36 :: a37 :: a38 :: a39 :: a40 :: a41 :: a42 :: r) (.tmp 42) = some a42 := rfl
theorem st42 {a0 a1 a2 a3 a4 a5 a6 a7 a8 a9 a10 a11 a12 a13 a14 a15 a16 a17 a18 a19 a20 a21 a22 a23 a24 a25 a26 a27 a28 a29 a30 a31 a32 a33 a34 a35 a36 a37 a38 a39 a40 a41 a42 : AV} : dso (some 42) (a0 :: a1 :: a2 :: a3 :: a4 :: a5 :: a6 :: a7 :: a8 :: a9 :: a10 :: a11 :: a12 :: a13 :: a14 :: a15 :: a16 :: a17 :: a18 :: a19 :: a20 :: a21 :: a22 :: a23 :: a24 :: a25 :: a26 :: a27 :: a28 :: a29 :: a30 :: a31 :: a32 :: a33 :: a34 :: a35 :: a36 :: a37 :: a38 :: a39 :: a40 :: a41 :: a42 :: r) v = some (a0 :: a1 :: a2 :: a3 :: a4 :: a5 :: a6 :: a7 :: a8 :: a9 :: a10 :: a11 :: a12 :: a13 :: a14 :: a15 :: a16 :: a17 :: a18 :: a19 :: a20 :: a21 :: a22 :: a23 :: a24 :: a25 :: a26 :: a27 :: a28 :: a29 :: a30 :: a31 :: a32 :: a33 :: a34 :: a35 :: a36 :: a37 :: a38 :: a39 :: a40 :: a41 :: v :: r) := rfl
theorem gt43 {a0 a1 a2 a3 a4 a5 a6 a7 a8 a9 a10 a11 a12 a13 a14 a15 a16 a17 a18 a19 a20 a21 a22 a23 a24 a25 a26 a27 a28 a29 a30 a31 a32 a33 a34 a35 a36 a37 a38 a39 a40 a41 a42 a43 : AV} : evo (a0 :: a1 :: a2 :: a3 :: a4 :: a5 :: a6 :: a7 :: a8 :: a9 :: a10 :: a11 :: a12 :: a13 :: a14 :: a15 :: a16 :: a17 :: a18 :: a19 :: a20 :: a21 :: a22 :: a23 :: a24 :: a25 :: a26 :: a27 :: a28 :: a29 :: a30 :: a31 :: a32 :: a33 :: a34 :: a35 :: a36 :: a37 :: a38 :: a39 :: a40 :: a41 :: a42 :: a43 :: r) (.tmp 43) = some a43 := rfl
theorem st43 {a0 a1 a2 a3 a4 a5 a6 a7 a8 a9 a10 a11 a12 a13 a14 a15 a16 a17 a18 a19 a20 a21 a22 a23 a24 a25 a26 a27 a28 a29 a30 a31 a32 a33 a34 a35 a36 a37 a38 a39 a40 a41 a42 a43 : AV} : dso (some 43) (a0 :: a1 :: a2 :: a3 :: a4 :: a5 :: a6 :: a7 :: a8 :: a9 :: a10 :: a11 :: a12 :: a13 :: a14 :: a15 :: a16 :: a17 :: a18 :: a19 :: a20 :: a21 :: a22 :: a23 :: a24 :: a25 :: a26 :: a27 :: a28 :: a29 :: a30 :: a31 :: a32 :: a33 :: a34 :: a35 :: a36 :: a37 :: a38 :: a39 :: a40 :: a41 :: a42 :: a43 :: r) v = some (a0 :: a1 :: a2 :: a3 :: a4 :: a5 :: a6 :: a7 :: a8 :: a9 :: a10 :: a11 :: a12 :: a13 :: a14 :: a15 :: a16 :: a17 :: a18 :: a19 :: a20 :: a21 :: a22 :: a23 :: a24 :: a25 :: a26 :: a27 :: a28 :: a29 :: a30 :: a31 :: a32 :: a33 :: a34 :: a35 :: a36 :: a37 :: a38 :: a39 :: a40 :: a41 :: a42 :: v :: r) := rfl
theorem gt44 {a0 a1 a2 a3 a4 a5 a6 a7 a8 a9 a10 a11 a12 a13 a14 a15 a16 a17 a18 a19 a20 a21 a22 a23 a24 a25 a26 a27 a28 a29 a30 a31 a32 a33 a34 a35 a36 a37 a38 a39 a40 a41 a42 a43 a44 : AV} : evo (a0 :: a1 :: a2 :: a3 :: a4 :: a5 :: a6 :: a7 :: a8 :: a9 :: a10 :: a11 :: a12 :: a13 :: a14 :: a15 :: a16 :: a17 :: a18 :: a19 :: a20 :: a21 :: a22 :: a23 :: a24 :: a25 :: a26 :: a27 :: a28 :: a29 :: a30 :: a31 :: a32 :: a33 :: a34 :: a35 :: a36 :: a37 :: a38 :: a39 :: a40 :: a41 :: a42 :: a43 :: a44 :: r) (.tmp 44) = some a44 := rfl
theorem st44 {a0 a1 a2 a3 a4 a5 a6 a7 a8 a9 a10 a11 a12 a13 a14 a15 a16 a17 a18 a19 a20 a21 a22 a23 a24 a25 a26 a27 a28 a29 a30 a31 a32 a33 a34 a35 a36 a37 a38 a39 a40 a41 a42 a43 a44 : AV} : dso (some 44) (a0 :: a1 :: a2 :: a3 :: a4 :: a5 :: a6 :: a7 :: a8 :: a9 :: a10 :: a11 :: a12 :: a13 :: a14 :: a15 :: a16 :: a17 :: a18 :: a19 :: a20 :: a21 :: a22 :: a23 :: a24 :: a25 :: a26 :: a27 :: a28 :: a29 :: a30 :: a31 :: a32 :: a33 :: a34 :: a35 :: a36 :: a37 :: a38 :: a39 :: a40 :: a41 :: a42 :: a43 :: a44 :: r) v = some (a0 :: a1 :: a2 :: a3 :: a4 :: a5 :: a6 :: a7 :: a8 :: a9 :: a10 :: a11 :: a12 :: a13 :: a14 :: a15 :: a16 :: a17 :: a18 :: a19 :: a20 :: a21 :: a22 :: a23 :: a24 :: a25 :: a26 :: a27 :: a28 :: a29 :: a30 :: a31 :: a32 :: a33 :: a34 :: a35 :: a36 :: a37 :: a38 :: a39 :: a40 :: a41 :: a42 :: a43 :: v :: r) := rfl
theorem gt45 {a0 a1 a2 a3 a4 a5 a6 a7 a8 a9 a10 a11 a12 a13 a14 a15 a16 a17 a18 a19 a20 a21 a22 a23 a24 a25 a26 a27 a28 a29 a30 a31 a32 a33 a34 a35 a36 a37 a38 a39 a40 a41 a42 a43 a44 a45 : AV} : evo (a0 :: a1 :: a2 :: a3 :: a4 :: a5 :: a6 :: a7 :: a8 :: a9 :: a10 :: a11 :: a12 :: a13 :: a14 :: a15 :: a16 :: a17 :: a18 :: a19 :: a20 :: a21 :: a22 :: a23 :: a24 :: a25 :: a26 :: a27 :: a28 :: a29 :: a30 :: a31 :: a32 :: a33 :: a34 :: a35 :: a36 :: a37 :: a38 :: a39 :: a40 :: a41 :: a42 :: a43 :: a44 :: a45 :: r) (.tmp 45) = some a45 := rfl
theorem st45 {a0 a1 a2 a3 a4 a5 a6 a7 a8 a9 a10 a11 a12 a13 a14 a15 a16 a17 a18 a19 a20 a21 a22 a23 a24 a25 a26 a27 a28 a29 a30 a31 a32 a33 a34 a35 a36 a37 a38 a39 a40 a41 a42 a43 a44 a45 : AV} : dso (some 45) (a0 :: a1 :: a2 :: a3 :: a4 :: a5 :: a6 :: a7 :: a8 :: a9 :: a10 :: a11 :: a12 :: a13 :: a14 :: a15 :: a16 :: a17 :: a18 :: a19 :: a20 :: a21 :: a22 :: a23 :: a24 :: a25 :: a26 :: a27 :: a28 :: a29 :: a30 :: a31 :: a32 :: a33 :: a34 :: a35 :: a36 :: a37 :: a38 :: a39 :: a40 :: a41 :: a42 :: a43 :: a44 :: a45 :: r) v = some (a0 :: a1 :: a2 :: a3 :: a4 :: a5 :: a6 :: a7 :: a8 :: a9 :: a10 :: a11 :: a12 :: a13 :: a14 :: a15 :: a16 :: a17 :: a18 :: a19 :: a20 :: a21 :: a22 :: a23 :: a24 :: a25 :: a26 :: a27 :: a28 :: a29 :: a30 :: a31 :: a32 :: a33 :: a34 :: a35 :: a36 :: a37 :: a38 :: a39 :: a40 :: a41 :: a42 :: a43 :: a44 :: v :: r) := rfl
theorem gt46 {a0 a1 a2 a3 a4 a5 a6 a7 a8 a9 a10 a11 a12 a13 a14 a15 a16 a17 a18 a19 a20 a21 a22 a23 a24 a25 a26 a27 a28 a29 a30 a31 a32 a33 a34 a35 a36 a37 a38 a39 a40 a41 a42 a43 a44 a45 a46 : AV} : evo (a0 :: a1 :: a2 :: a3 :: a4 :: a5 :: a6 :: a7 :: a8 :: a9 :: a10 :: a11 :: a12 :: a13 :: a14 :: a15 :: a16 :: a17 :: a18 :: a19 :: a20 :: a21 :: a22 :: a23 :: a24 :: a25 :: a26 :: a27 :: a28 :: a29 :: a30 :: a31 :: a32 :: a33 :: a34 :: a35 :: a36 :: a37 :: a38 :: a39 :: a40 :: a41 :: a42 :: a43 :: a44 :: a45 :: a46 :: r) (.tmp 46) = some a46 := rfl
theorem st46 {a0 a1 a2 a3 a4 a5 a6 a7 a8 a9 a10 a11 a12 a13 a14 a15 a16 a17 a18 a19 a20 a21 a22 a23 a24 a25 a26 a27 a28 a29 a30 a31 a32 a33 a34 a35 a36 a37 a38 a39 a40 a41 a42 a43 a44 a45 a46 : AV} : dso (some 46) (a0 :: a1 :: a2 :: a3 :: a4 :: a5 :: a6 :: a7 :: a8 :: a9 :: a10 :: a11 :: a12 :: a13 :: a14 :: a15 :: a16 :: a17 :: a18 :: a19 :: a20 :: a21 :: a22 :: a23 :: a24 :: a25 :: a26 :: a27 :: a28 :: a29 :: a30 :: a31 :: a32 :: a33 :: a34 :: a35 :: a36 :: a37 :: a38 :: a39 :: a40 :: a41 :: a42 :: a43 :: a44 :: a45 :: a46 :: r) v = some (a0 :: a1 :: a2 :: a3 :: a4 :: a5 :: a6 :: a7 :: a8 :: a9 :: a10 :: a11 :: a12 :: a13 :: a14 :: a15 :: a16 :: a17 :: a18 :: a19 :: a20 :: a21 :: a22 :: a23 :: a24 :: a25 :: a26 :: a27 :: a28 :: a29 :: a30 :: a31 :: a32 :: a33 :: a34 :: a35 :: a36 :: a37 :: a38 :: a39 :: a40 :: a41 :: a42 :: a43 :: a44 :: a45 :: v :: r) := rfl
theorem gt47 {a0 a1 a2 a3 a4 a5 a6 a7 a8 a9 a10 a11 a12 a13 a14 a15 a16 a17 a18 a19 a20 a21 a22 a23 a24 a25 a26 a27 a28 a29 a30 a31 a32 a33 a34 a35 a36 a37 a38 a39 a40 a41 a42 a43 a44 a45 a46 a47 : AV} : evo (a0 :: a1 :: a2 :: a3 :: a4 :: a5 :: a6 :: a7 :: a8 :: a9 :: a10 :: a11 :: a12 :: a13 :: a14 :: a15 :: a16 :: a17 :: a18 :: a19 :: a20 :: a21 :: a22 :: a23 :: a24 :: a25 :: a26 :: a27 :: a28 :: a29 :: a30 :: a31 :: a32 :: a33 :: a34 :: a35 :: a36 :: a37 :: a38 :: a39 :: a40 :: a41 :: a42 :: a43 :: a44 :: a45 :: a46 :: a47 :: r) (.tmp 47) = some a47 := rfl
theorem st47 {a0 a1 a2 a3 a4 a5 a6 a7 a8 a9 a10 a11 a12 a13 a14 a15 a16 a17 a18 a19 a20 a21 a22 a23 a24 a25 a26 a27 a28 a29 a30 a31 a32 a33 a34 a35 a36 a37 a38 a39 a40 a41 a42 a43 a44 a45 a46 a47 : AV} : dso (some 47) (a0 :: a1 :: a2 :: a3 :: a4 :: a5 :: a6 :: a7 :: a8 :: a9 :: a10 :: a11 :: a12 :: a13 :: a14 :: a15 :: a16 :: a17 :: a18 :: a19 :: a20 :: a21 :: a22 :: a23 :: a24 :: a25 :: a26 :: a27 :: a28 :: a29 :: a30 :: a31 :: a32 :: a33 :: a34 :: a35 :: a36 :: a37 :: a38 :: a39 :: a40 :: a41 :: a42 :: a43 :: a44 :: a45 :: a46 :: a47 :: r) v = some (a0 :: a1 :: a2 :: a3 :: a4 :: a5 :: a6 :: a7 :: a8 :: a9 :: a10 :: a11 :: a12 :: a13 :: a14 :: a15 :: a16 :: a17 :: a18 :: a19 :: a20 :: a21 :: a22 :: a23 :: a24 :: a25 :: a26 :: a27 :: a28 :: a29 :: a30 :: a31 :: a32 :: a33 :: a34 :: a35 :: a36 :: a37 :: a38 :: a39 :: a40 :: a41 :: a42 :: a43 :: a44 :: a45 :: a46 :: v :: r) := rfl
theorem gt48 {a0 a1 a2 a3 a4 a5 a6 a7 a8 a9 a10 a11 a12 a13 a14 a15 a16 a17 a18 a19 a20 a21 a22 a23 a24 a25 a26 a27 a28 a29 a30 a31 a32 a33 a34 a35 a36 a37 a38 a39 a40 a41 a42 a43 a44 a45 a46 a47 a48 : AV} : evo (a0 :: a1 :: a2 :: a3 :: a4 :: a5 :: a6 :: a7 :: a8 :: a9 :: a10 :: a11 :: a12 :: a13 :: a14 :: a15 :: a16 :: a17 :: a18 :: a19 :: a20 :: a21 :: a22 :: a23 :: a24 :: a25 :: a26 :: a27 :: a28 :: a29 :: a30 :: a31 :: a32 :: a33 :: a34 :: a35 :: a36 :: a37 :: a38 :: a39 :: a40 :: a41 :: a42 :: a43 :: a44 :: a45 :: a46 :: a47 :: a48 :: r) (.tmp 48) = some a48 := rfl
theorem st48 {a0 a1 a2 a3 a4 a5 a6 a7 a8 a9 a10 a11 a12 a13 a14 a15 a16 a17 a18 a19 a20 a21 a22 a23 a24 a25 a26 a27 a28 a29 a30 a31 a32 a33 a34 a35 a36 a37 a38 a39 a40 a41 a42 a43 a44 a45 a46 a47 a48 : AV} : dso (some 48) (a0 :: a1 :: a2 :: a3 :: a4 :: a5 :: a6 :: a7 :: a8 :: a9 :: a10 :: a11 :: a12 :: a13 :: a14 :: a15 :: a16 :: a17 :: a18 :: a19 :: a20 :: a21 :: a22 :: a23 :: a24 :: a25 :: a26 :: a27 :: a28 :: a29 :: a30 :: a31 :: a32 :: a33 :: a34 :: a35 :: a36 :: a37 :: a38 :: a39 :: a40 :: a41 :: a42 :: a43 :: a44 :: a45 :: a46 :: a47 :: a48 :: r) v = some (a0 :: a1 :: a2 :: a3 :: a4 :: a5 :: a6 :: a7 :: a8 :: a9 :: a10 :: a11 :: a12 :: a13 :: a14 :: a15 :: a16 :: a17 :: a18 :: a19 :: a20 :: a21 :: a22 :: a23 :: a24 :: a25 :: a26 :: a27 :: a28 :: a29 :: a30 :: a31 :: a32 :: a33 :: a34 :: a35 :: a36 :: a37 :: a38 :: a39 :: a40 :: a41 :: a42 :: a43 :: a44 :: a45 :: a46 :: a47 :: v :: r) := rfl
theorem gt49 {a0 a1 a2 a3 a4 a5 a6 a7 a8 a9 a10 a11 a12 a13 a14 a15 a16 a17 a18 a19 a20 a21 a22 a23 a24 a25 a26 a27 a28 a29 a30 a31 a32 a33 a34 a35 a36 a37 a38 a39 a40 a41 a42 a43 a44 a45 a46 a47 a48 a49 : AV} : evo (a0 :: a1 :: a2 :: a3 :: a4 :: a5 :: a6 :: a7 :: a8 :: a9 :: a10 :: a11 :: a12 :: a13 :: a14 :: a15 :: a16 :: a17 :: a18 :: a19 :: a20 :: a21 :: a22 :: a23 :: a24 :: a25 :: a26 :: a27 :: a28 :: a29 :: a30 :: a31 :: a32 :: a33 :: a34 :: a35 :: a36 :: a37 :: a38 :: a39 :: a40 :: a41 :: a42 :: a43 :: a44 :: a45 :: a46 :: a47 :: a48 :: a49 :: r) (.tmp 49) = some a49 := rfl
theorem st49 {a0 a1 a2 a3 a4 a5 a6 a7 a8 a9 a10 a11 a12 a13 a14 a15 a16 a17 a18 a19 a20 a21 a22 a23 a24 a25 a26 a27 a28 a29 a30 a31 a32 a33 a34 a35 a36 a37 a38 a39 a40 a41 a42 a43 a44 a45 a46 a47 a48 a49 : AV} : dso (some 49) (a0 :: a1 :: a2 :: a3 :: a4 :: a5 :: a6 :: a7 :: a8 :: a9 :: a10 :: a11 :: a12 :: a13 :: a14 :: a15 :: a16 :: a17 :: a18 :: a19 :: a20 :: a21 :: a22 :: a23 :: a24 :: a25 :: a26 :: a27 :: a28 :: a29 :: a30 :: a31 :: a32 :: a33 :: a34 :: a35 :: a36 :: a37 :: a38 :: a39 :: a40 :: a41 :: a42 :: a43 :: a44 :: a45 :: a46 :: a47 :: a48 :: a49 :: r) v = some (a0 :: a1 :: a2 :: a3 :: a4 :: a5 :: a6 :: a7 :: a8 :: a9 :: a10 :: a11 :: a12 :: a13 :: a14 :: a15 :: a16 :: a17 :: a18 :: a19 :: a20 :: a21 :: a22 :: a23 :: a24 :: a25 :: a26 :: a27 :: a28 :: a29 :: a30 :: a31 :: a32 :: a33 :: a34 :: a35 :: a36 :: a37 :: a38 :: a39 :: a40 :: a41 :: a42 :: a43 :: a44 :: a45 :: a46 :: a47 :: a48 :: v :: r) := rfl
theorem gt50 {a0 a1 a2 a3 a4 a5 a6 a7 a8 a9 a10 a11 a12 a13 a14 a15 a16 a17 a18 a19 a20 a21 a22 a23 a24 a25 a26 a27 a28 a29 a30 a31 a32 a33 a34 a35 a36 a37 a38 a39 a40 a41 a42 a43 a44 a45 a46 a47 a48 a49 a50 : AV} : evo (a0 :: a1 :: a2 :: a3 :: a4 :: a5 :: a6 :: a7 :: a8 :: a9 :: a10 :: a11 :: a12 :: a13 :: a14 :: a15 :: a16 :: a17 :: a18 :: a19 :: a20 :: a21 :: a22 :: a23 :: a24 :: a25 :: a26 :: a27 :: a28 :: a29 :: a30 :: a31 :: a32 :: a33 :: a34 :: a35 :: a36 :: a37 :: a38 :: a39 :: a40 :: a41 :: a42 :: a43 :: a44 :: a45 :: a46 :: a47 :: a48 :: a49 :: a50 :: r) (.tmp 50) = some a50 := rfl
theorem st50 {a0 a1 a2 a3 a4 a5 a6 a7 a8 a9 a10 a11 a12 a13 a14 a15 a16 a17 a18 a19 a20 a21 a22 a23 a24 a25 a26 a27 a28 a29 a30 a31 a32 a33 a34 a35 a36 a37 a38 a39 a40 a41 a42 a43 a44 a45 a46 a47 a48 a49 a50 : AV} : dso (some 50) (a0 :: a1 :: a2 :: a3 :: a4 :: a5 :: a6 :: a7 :: a8 :: a9 :: a10 :: a11 :: a12 :: a13 :: a14 :: a15 :: a16 :: a17 :: a18 :: a19 :: a20 :: a21 :: a22 :: a23 :: a24 :: a25 :: a26 :: a27 :: a28 :: a29 :: a30 :: a31 :: a32 :: a33 :: a34 :: a35 :: a36 :: a37 :: a38 :: a39 :: a40 :: a41 :: a42 :: a43 :: a44 :: a45 :: a46 :: a47 :: a48 :: a49 :: a50 :: r) v = some (a0 :: a1 :: a2 :: a3 :: a4 :: a5 :: a6 :: a7 :: a8 :: a9 :: a10 :: a11 :: a12 :: a13 :: a14 :: a15 :: a16 :: a17 :: a18 :: a19 :: a20 :: a21 :: a22 :: a23 :: a24 :: a25 :: a26 :: a27 :: a28 :: a29 :: a30 :: a31 :: a32 :: a33 :: a34 :: a35 :: a36 :: a37 :: a38 :: a39 :: a40 :: a41 :: a42 :: a43 :: a44 :: a45 :: a46 :: a47 :: a48 :: a49 :: v :: r) := rfl
theorem gt51 {a0 a1 a2 a3 a4 a5 a6 a7 a8 a9 a10 a11 a12 a13 a14 a15 a16 a17 a18 a19 a20 a21 a22 a23 a24 a25 a26 a27 a28 a29 a30 a31 a32 a33 a34 a35 a36 a37 a38 a39 a40 a41 a42 a43 a44 a45 a46 a47 a48 a49 a50 a51 : AV} : evo (a0 :: a1 :: a2 :: a3 :: a4 :: a5 :: a6 :: a7 :: a8 :: a9 :: a10 :: a11 :: a12 :: a13 :: a14 :: a15 :: a16 :: a17 :: a18 :: a19 :: a20 :: a21 :: a22 :: a23 :: a24 :: a25 :: a26 :: a27 :: a28 :: a29 :: a30 :: a31 :: a32 :: a33 :: a34 :: a35 :: a36 :: a37 :: a38 :: a39 :: a40 :: a41 :: a42 :: a43 :: a44 :: a45 :: a46 :: a47 :: a48 :: a49 :: a50 :: a51 :: r) (.tmp 51) = some a51 := rfl
theorem st51 {a0 a1 a2 a3 a4 a5 a6 a7 a8 a9 a10 a11 a12 a13 a14 a15 a16 a17 a18 a19 a20 a21 a22 a23 a24 a25 a26 a27 a28 a29 a30 a31 a32 a33 a34 a35 a36 a37 a38 a39 a40 a41 a42 a43 a44 a45 a46 a47 a48 a49 a50 a51 : AV} : dso (some 51) (a0 :: a1 :: a2 :: a3 :: a4 :: a5 :: a6 :: a7 :: a8 :: a9 :: a10 :: a11 :: a12 :: a13 :: a14 :: a15 :: a16 :: a17 :: a18 :: a19 :: a20 :: a21 :: a22 :: a23 :: a24 :: a25 :: a26 :: a27 :: a28 :: a29 :: a30 :: a31 :: a32 :: a33 :: a34 :: a35 :: a36 :: a37 :: a38 :: a39 :: a40 :: a41 :: a42 :: a43 :: a44 :: a45 :: a46 :: a47 :: a48 :: a49 :: a50 :: a51 :: r) v = some (a0 :: a1 :: a2 :: a3 :: a4 :: a5 :: a6 :: a7 :: a8 :: a9 :: a10 :: a11 :: a12 :: a13 :: a14 :: a15 :: a16 :: a17 :: a18 :: a19 :: a20 :: a21 :: a22 :: a23 :: a24 :: a25 :: a26 :: a27 :: a28 :: a29 :: a30 :: a31 :: a32 :: a33 :: a34 :: a35 :: a36 :: a37 :: a38 :: a39 :: a40 :: a41 :: a42 :: a43 :: a44 :: a45 :: a46 :: a47 :: a48 :: a49 :: a50 :: v :: r) := rfl
theorem gt52 {a0 a1 a2 a3 a4 a5 a6 a7 a8 a9 a10 a11 a12 a13 a14 a15 a16 a17 a18 a19 a20 a21 a22 a23 a24 a25 a26 a27 a28 a29 a30 a31 a32 a33 a34 a35 a36 a37 a38 a39 a40 a41 a42 a43 a44 a45 a46 a47 a48 a49 a50 a51 a52 : AV} : evo (a0 :: a1 :: a2 :: a3 :: a4 :: a5 :: a6 :: a7 :: a8 :: a9 :: a10 :: a11 :: a12 :: a13 :: a14 :: a15 :: a16 :: a17 :: a18 :: a19 :: a20 :: a21 :: a22 :: a23 :: a24 :: a25 :: a26 :: a27 :: a28 :: a29 :: a30 :: a31 :: a32 :: a33 :: a34 :: a35 :: a36 :: a37 :: a38 :: a39 :: a40 :: a41 :: a42 :: a43 :: a44 :: a45 :: a46 :: a47 :: a48 :: a49 :: a50 :: a51 :: a52 :: r) (.tmp 52) = some a52 := rfl
theorem st52 {a0 a1 a2 a3 a4 a5 a6 a7 a8 a9 a10 a11 a12 a13 a14 a15 a16 a17 a18 a19 a20 a21 a22 a23 a24 a25 a26 a27 a28 a29 a30 a31 a32 a33 a34 a35 a36 a37 a38 a39 a40 a41 a42 a43 a44 a45 a46 a47 a48 a49 a50 a51 a52 : AV} : dso (some 52) (a0 :: a1 :: a2 :: a3 :: a4 :: a5 :: a6 :: a7 :: a8 :: a9 :: a10 :: a11 :: a12 :: a13 :: a14 :: a15 :: a16 :: a17 :: a18 :: a19 :: a20 :: a21 :: a22 :: a23 :: a24 :: a25 :: a26 :: a27 :: a28 :: a29 :: a30 :: a31 :: a32 :: a33 :: a34 :: a35 :: a36 :: a37 :: a38 :: a39 :: a40 :: a41 :: a42 :: a43 :: a44 :: a45 :: a46 :: a47 :: a48 :: a49 :: a50 :: a51 :: a52 :: r) v = some (a0 :: a1 :: a2 :: a3 :: a4 :: a5 :: a6 :: a7 :: a8 :: a9 :: a10 :: a11 :: a12 :: a13 :: a14 :: a15 :: a16 :: a17 :: a18 :: a19 :: a20 :: a21 :: a22 :: a23 :: a24 :: a25 :: a26 :: a27 :: a28 :: a29 :: a30 :: a31 :: a32 :: a33 :: a34 :: a35 :: a36 :: a37 :: a38 :: a39 :: a40 :: a41 :: a42 :: a43 :: a44 :: a45 :: a46 :: a47 :: a48 :: a49 :: a50 :: a51 :: v :: r) := rfl
theorem gt53 {a0 a1 a2 a3 a4 a5 a6 a7 a8 a9 a10 a11 a12 a13 a14 a15 a16 a17 a18 a19 a20 a21 a22 a23 a24 a25 a26 a27 a28 a29 a30 a31 a32 a33 a34 a35 a36 a37 a38 a39 a40 a41 a42 a43 a44 a45 a46 a47 a48 a49 a50 a51 a52 a53 : AV} : evo (a0 :: a1 :: a2 :: a3 :: a4 :: a5 :: a6 :: a7 :: a8 :: a9 :: a10 :: a11 :: a12 :: a13 :: a14 :: a15 :: a16 :: a17 :: a18 :: a19 :: a20 :: a21 :: a22 :: a23 :: a24 :: a25 :: a26 :: a27 :: a28 :: a29 :: a30 :: a31 :: a32 :: a33 :: a34 :: a35 :: a36 :: a37 :: a38 :: a39 :: a40 :: a41 :: a42 :: a43 :: a44 :: a45 :: a46 :: a47 :: a48 :: a49 :: a50 :: a51 :: a52 :: a53 :: r) (.tmp 53) = some a53 := rfl
theorem st53 {a0 a1 a2 a3 a4 a5 a6 a7 a8 a9 a10 a11 a12 a13 a14 a15 a16 a17 a18 a19 a20 a21 a22 a23 a24 a25 a26 a27 a28 a29 a30 a31 a32 a33 a34 a35 a36 a37 a38 a39 a40 a41 a42 a43 a44 a45 a46 a47 a48 a49 a50 a51 a52 a53 : AV} : dso (some 53) (a0 :: a1 :: a2 :: a3 :: a4 :: a5 :: a6 :: a7 :: a8 :: a9 :: a10 :: a11 :: a12 :: a13 :: a14 :: a15 :: a16 :: a17 :: a18 :: a19 :: a20 :: a21 :: a22 :: a23 :: a24 :: a25 :: a26 :: a27 :: a28 :: a29 :: a30 :: a31 :: a32 :: a33 :: a34 :: a35 :: a36 :: a37 :: a38 :: a39 :: a40 :: a41 :: a42 :: a43 :: a44 :: a45 :: a46 :: a47 :: a48 :: a49 :: a50 :: a51 :: a52 :: a53 :: r) v = some (a0 :: a1 :: a2 :: a3 :: a4 :: a5 :: a6 :: a7 :: a8 :: a9 :: a10 :: a11 :: a12 :: a13 :: a14 :: a15 :: a16 :: a17 :: a18 :: a19 :: a20 :: a21 :: a22 :: a23 :: a24 :: a25 :: a26 :: a27 :: a28 :: a29 :: a30 :: a31 :: a32 :: a33 :: a34 :: a35 :: a36 :: a37 :: a38 :: a39 :: a40 :: a41 :: a42 :: a43 :: a44 :: a45 :: a46 :: a47 :: a48 :: a49 :: a50 :: a51 :: a52 :: v :: r) := rfl
theorem gt54 {a0 a1 a2 a3 a4 a5 a6 a7 a8 a9 a10 a11 a12 a13 a14 a15 a16 a17 a18 a19 a20 a21 a22 a23 a24 a25 a26 a27 a28 a29 a30 a31 a32 a33 a34 a35 a36 a37 a38 a39 a40 a41 a42 a43 a44 a45 a46 a47 a48 a49 a50 a51 a52 a53 a54 : AV} : evo (a0 :: a1 :: a2 :: a3 :: a4 :: a5 :: a6 :: a7 :: a8 :: a9 :: a10 :: a11 :: a12 :: a13 :: a14 :: a15 :: a16 :: a17 :: a18 :: a19 :: a20 :: a21 :: a22 :: a23 :: a24 :: a25 :: a26 :: a27 :: a28 :: a29 :: a30 :: a31 :: a32 :: a33 :: a34 :: a35 :: a36 :: a37 :: a38 :: a39 :: a40 :: a41 :: a42 :: a43 :: a44 :: a45 :: a46 :: a47 :: a48 :: a49 :: a50 :: a51 :: a52 :: a53 :: a54 :: r) (.tmp 54) = some a54 := rfl
theorem st54 {a0 a1 a2 a3 a4 a5 a6 a7 a8 a9 a10 a11 a12 a13 a14 a15 a16 a17 a18 a19 a20 a21 a22 a23 a24 a25 a26 a27 a28 a29 a30 a31 a32 a33 a34 a35 a36 a37 a38 a39 a40 a41 a42 a43 a44 a45 a46 a47 a48 a49 a50 a51 a52 a53 a54 : AV} : dso (some 54) (a0 :: a1 :: a2 :: a3 :: a4 :: a5 :: a6 :: a7 :: a8 :: a9 :: a10 :: a11 :: a12 :: a13 :: a14 :: a15 :: a16 :: a17 :: a18 :: a19 :: a20 :: a21 :: a22 :: a23 :: a24 :: a25 :: a26 :: a27 :: a28 :: a29 :: a30 :: a31 :: a32 :: a33 :: a34 :: a35 :: a36 :: a37 :: a38 :: a39 :: a40 :: a41 :: a42 :: a43 :: a44 :: a45 :: a46 :: a47 :: a48 :: a49 :: a50 :: a51 :: a52 :: a53 :: a54 :: r) v = some (a0 :: a1 :: a2 :: a3 :: a4 :: a5 :: a6 :: a7 :: a8 :: a9 :: a10 :: a11 :: a12 :: a13 :: a14 :: a15 :: a16 :: a17 :: a18 :: a19 :: a20 :: a21 :: a22 :: a23 :: a24 :: a25 :: a26 :: a27 :: a28 :: a29 :: a30 :: a31 :: a32 :: a33 :: a34 :: a35 :: a36 :: a37 :: a38 :: a39 :: a40 :: a41 :: a42 :: a43 :: a44 :: a45 :: a46 :: a47 :: a48 :: a49 :: a50 :: a51 :: a52 :: a53 :: v :: r) := rfl
theorem gt55 {a0 a1 a2 a3 a4 a5 a6 a7 a8 a9 a10 a11 a12 a13 a14 a15 a16 a17 a18 a19 a20 a21 a22 a23 a24 a25 a26 a27 a28 a29 a30 a31 a32 a33 a34 a35 a36 a37 a38 a39 a40 a41 a42 a43 a44 a45 a46 a47 a48 a49 a50 a51 a52 a53 a54 a55 : AV} : evo (a0 :: a1 :: a2 :: a3 :: a4 :: a5 :: a6 :: a7 :: a8 :: a9 :: a10 :: a11 :: a12 :: a13 :: a14 :: a15 :: a16 :: a17 :: a18 :: a19 :: a20 :: a21 :: a22 :: a23 :: a24 :: a25 :: a26 :: a27 :: a28 :: a29 :: a30 :: a31 :: a32 :: a33 :: a34 :: a35 :: a36 :: a37 :: a38 :: a39 :: a40 :: a41 :: a42 :: a43 :: a44 :: a45 :: a46 :: a47 :: a48 :: a49 :: a50 :: a51 :: a52 :: a53 :: a54 :: a55 :: r) (.tmp 55) = some a55 := rfl
theorem st55 {a0 a1 a2 a3 a4 a5 a6 a7 a8 a9 a10 a11 a12 a13 a14 a15 a16 a17 a18 a19 a20 a21 a22 a23 a24 a25 a26 a27 a28 a29 a30 a31 a32 a33 a34 a35 a36 a37 a38 a39 a40 a41 a42 a43 a44 a45 a46 a47 a48 a49 a50 a51 a52 a53 a54 a55 : AV} : dso (some 55) (a0 :: a1 :: a2 :: a3 :: a4 :: a5 :: a6 :: a7 :: a8 :: a9 :: a10 :: a11 :: a12 :: a13 :: a14 :: a15 :: a16 :: a17 :: a18 :: a19 :: a20 :: a21 :: a22 :: a23 :: a24 :: a25 :: a26 :: a27 :: a28 :: a29 :: a30 :: a31 :: a32 :: a33 :: a34 :: a35 :: a36 :: a37 :: a38 :: a39 :: a40 :: a41 :: a42 :: a43 :: a44 :: a45 :: a46 :: a47 :: a48 :: a49 :: a50 :: a51 :: a52 :: a53 :: a54 :: a55 :: r) v = some (a0 :: a1 :: a2 :: a3 :: a4 :: a5 :: a6 :: a7 :: a8 :: a9 :: a10 :: a11 :: a12 :: a13 :: a14 :: a15 :: a16 :: a17 :: a18 :: a19 :: a20 :: a21 :: a22 :: a23 :: a24 :: a25 :: a26 :: a27 :: a28 :: a29 :: a30 :: a31 :: a32 :: a33 :: a34 :: a35 :: a36 :: a37 :: a38 :: a39 :: a40 :: a41 :: a42 :: a43 :: a44 :: a45 :: a46 :: a47 :: a48 :: a49 :: a50 :: a51 :: a52 :: a53 :: a54 :: v :: r) := rfl
theorem gt56 {a0 a1 a2 a3 a4 a5 a6 a7 a8 a9 a10 a11 a12 a13 a14 a15 a16 a17 a18 a19 a20 a21 a22 a23 a24 a25 a26 a27 a28 a29 a30 a31 a32 a33 a34 a35 a36 a37 a38 a39 a40 a41 a42 a43 a44 a45 a46 a47 a48 a49 a50 a51 a52 a53 a54 a55 a56 : AV} : evo (a0 :: a1 :: a2 :: a3 :: a4 :: a5 :: a6 :: a7 :: a8 :: a9 :: a10 :: a11 :: a12 :: a13 :: a14 :: a15 :: a16 :: a17 :: a18 :: a19 :: a20 :: a21 :: a22 :: a23 :: a24 :: a25 :: a26 :: a27 :: a28 :: a29 :: a30 :: a31 :: a32 :: a33 :: a34 :: a35 :: a36 :: a37 :: a38 :: a39 :: a40 :: a41 :: a42 :: a43 :: a44 :: a45 :: a46 :: a47 :: a48 :: a49 :: a50 :: a51 :: a52 :: a53 :: a54 :: a55 :: a56 :: r) (.tmp 56) = some a56 := rfl
theorem st56 {a0 a1 a2 a3 a4 a5 a6 a7 a8 a9 a10 a11 a12 a13 a14 a15 a16 a17 a18 a19 a20 a21 a22 a23 a24 a25 a26 a27 a28 a29 a30 a31 a32 a33 a34 a35 a36 a37 a38 a39 a40 a41 a42 a43 a44 a45 a46 a47 a48 a49 a50 a51 a52 a53 a54 a55 a56 : AV} : dso (some 56) (a0 :: a1 :: a2 :: a3 :: a4 :: a5 :: a6 :: a7 :: a8 :: a9 :: a10 :: a11 :: a12 :: a13 :: a14 :: a15 :: a16 :: a17 :: a18 :: a19 :: a20 :: a21 :: a22 :: a23 :: a24 :: a25 :: a26 :: a27 :: a28 :: a29 :: a30 :: a31 :: a32 :: a33 :: a34 :: a35 :: a36 :: a37 :: a38 :: a39 :: a40 :: a41 :: a42 :: a43 :: a44 :: a45 :: a46 :: a47 :: a48 :: a49 :: a50 :: a51 :: a52 :: a53 :: a54 :: a55 :: a56 :: r) v = some (a0 :: a1 :: a2 :: a3 :: a4 :: a5 :: a6 :: a7 :: a8 :: a9 :: a10 :: a11 :: a12 :: a13 :: a14 :: a15 :: a16 :: a17 :: a18 :: a19 :: a20 :: a21 :: a22 :: a23 :: a24 :: a25 :: a26 :: a27 :: a28 :: a29 :: a30 :: a31 :: a32 :: a33 :: a34 :: a35 :: a36 :: a37 :: a38 :: a39 :: a40 :: a41 :: a42 :: a43 :: a44 :: a45 :: a46 :: a47 :: a48 :: a49 :: a50 :: a51 :: a52 :: a53 :: a54 :: a55 :: v :: r) := rfl
theorem gt57 {a0 a1 a2 a3 a4 a5 a6 a7 a8 a9 a10 a11 a12 a13 a14 a15 a16 a17 a18 a19 a20 a21 a22 a23 a24 a25 a26 a27 a28 a29 a30 a31 a32 a33 a34 a35 a36 a37 a38 a39 a40 a41 a42 a43 a44 a45 a46 a47 a48 a49 a50 a51 a52 a53 a54 a55 a56 a57 : AV} : evo (a0 :: a1 :: a2 :: a3 :: a4 :: a5 :: a6 :: a7 :: a8 :: a9 :: a10 :: a11 :: a12 :: a13 :: a14 :: a15 :: a16 :: a17 :: a18 :: a19 :: a20 :: a21 :: a22 :: a23 :: a24 :: a25 :: a26 :: a27 :: a28 :: a29 :: a30 :: a31 :: a32 :: a33 :: a34 :: a35 :: a36 :: a37 :: a38 :: a39 :: a40 :: a41 :: a42 :: a43 :: a44 :: a45 :: a46 :: a47 :: a48 :: a49 :: a50 :: a51 :: a52 :: a53 :: a54 :: a55 :: a56 :: a57 :: r) (.tmp 57) = some a57 := rfl
theorem st57 {a0 a1 a2 a3 a4 a5 a6 a7 a8 a9 a10 a11 a12 a13 a14 a15 a16 a17 a18 a19 a20 a21 a22 a23 a24 a25 a26 a27 a28 a29 a30 a31 a32 a33 a34 a35 a36 a37 a38 a39 a40 a41 a42 a43 a44 a45 a46 a47 a48 a49 a50 a51 a52 a53 a54 a55 a56 a57 : AV} : dso (some 57) (a0 :: a1 :: a2 :: a3 :: a4 :: a5 :: a6 :: a7 :: a8 :: a9 :: a10 :: a11 :: a12 :: a13 :: a14 :: a15 :: a16 :: a17 :: a18 :: a19 :: a20 :: a21 :: a22 :: a23 :: a24 :: a25 :: a26 :: a27 :: a28 :: a29 :: a30 :: a31 :: a32 :: a33 :: a34 :: a35 :: a36 :: a37 :: a38 :: a39 :: a40 :: a41 :: a42 :: a43 :: a44 :: a45 :: a46 :: a47 :: a48 :: a49 :: a50 :: a51 :: a52 :: a53 :: a54 :: a55 :: a56 :: a57 :: r) v = some (a0 :: a1 :: a2 :: a3 :: a4 :: a5 :: a6 :: a7 :: a8 :: a9 :: a10 :: a11 :: a12 :: a13 :: a14 :: a15 :: a16 :: a17 :: a18 :: a19 :: a20 :: a21 :: a22 :: a23 :: a24 :: a25 :: a26 :: a27 :: a28 :: a29 :: a30 :: a31 :: a32 :: a33 :: a34 :: a35 :: a36 :: a37 :: a38 :: a39 :: a40 :: a41 :: a42 :: a43 :: a44 :: a45 :: a46 :: a47 :: a48 :: a49 :: a50 :: a51 :: a52 :: a53 :: a54 :: a55 :: a56 :: v :: r) := rfl
theorem gt58 {a0 a1 a2 a3 a4 a5 a6 a7 a8 a9 a10 a11 a12 a13 a14 a15 a16 a17 a18 a19 a20 a21 a22 a23 a24 a25 a26 a27 a28 a29 a30 a31 a32 a33 a34 a35 a36 a37 a38 a39 a40 a41 a42 a43 a44 a45 a46 a47 a48 a49 a50 a51 a52 a53 a54 a55 a56 a57 a58 : AV} : evo (a0 :: a1 :: a2 :: a3 :: a4 :: a5 :: a6 :: a7 :: a8 :: a9 :: a10 :: a11 :: a12 :: a13 :: a14 :: a15 :: a16 :: a17 :: a18 :: a19 :: a20 :: a21 :: a22 :: a23 :: a24 :: a25 :: a26 :: a27 :: a28 :: a29 :: a30 :: a31 :: a32 :: a33 :: a34 :: a35 :: a36 :: a37 :: a38 :: a39 :: a40 :: a41 :: a42 :: a43 :: a44 :: a45 :: a46 :: a47 :: a48 :: a49 :: a50 :: a51 :: a52 :: a53 :: a54 :: a55 :: a56 :: a57 :: a58 :: r) (.tmp 58) = some a58 := rfl
theorem st58 {a0 a1 a2 a3 a4 a5 a6 a7 a8 a9 a10 a11 a12 a13 a14 a15 a16 a17 a18 a19 a20 a21 a22 a23 a24 a25 a26 a27 a28 a29 a30 a31 a32 a33 a34 a35 a36 a37 a38 a39 a40 a41 a42 a43 a44 a45 a46 a47 a48 a49 a50 a51 a52 a53 a54 a55 a56 a57 a58 : AV} : dso (some 58) (a0 :: a1 :: a2 :: a3 :: a4 :: a5 :: a6 :: a7 :: a8 :: a9 :: a10 :: a11 :: a12 :: a13 :: a14 :: a15 :: a16 :: a17 :: a18 :: a19 :: a20 :: a21 :: a22 :: a23 :: a24 :: a25 :: a26 :: a27 :: a28 :: a29 :: a30 :: a31 :: a32 :: a33 :: a34 :: a35 :: a36 :: a37 :: a38 :: a39 :: a40 :: a41 :: a42 :: a43 :: a44 :: a45 :: a46 :: a47 :: a48 :: a49 :: a50 :: a51 :: a52 :: a53 :: a54 :: a55 :: a56 :: a57 :: a58 :: r) v = some (a0 :: a1 :: a2 :: a3 :: a4 :: a5 :: a6 :: a7 :: a8 :: a9 :: a10 :: a11 :: a12 :: a13 :: a14 :: a15 :: a16 :: a17 :: a18 :: a19 :: a20 :: a21 :: a22 :: a23 :: a24 :: a25 :: a26 :: a27 :: a28 :: a29 :: a30 :: a31 :: a32 :: a33 :: a34 :: a35 :: a36 :: a37 :: a38 :: a39 :: a40 :: a41 :: a42 :: a43 :: a44 :: a45 :: a46 :: a47 :: a48 :: a49 :: a50 :: a51 :: a52 :: a53 :: a54 :: a55 :: a56 :: a57 :: v :: r) := rfl
theorem gt59 {a0 a1 a2 a3 a4 a5 a6 a7 a8 a9 a10 a11 a12 a13 a14 a15 a16 a17 a18 a19 a20 a21 a22 a23 a24 a25 a26 a27 a28 a29 a30 a31 a32 a33 a34 a35 a36 a37 a38 a39 a40 a41 a42 a43 a44 a45 a46 a47 a48 a49 a50 a51 a52 a53 a54 a55 a56 a57 a58 a59 : AV} : evo (a0 :: a1 :: a2 :: a3 :: a4 :: a5 :: a6 :: a7 :: a8 :: a9 :: a10 :: a11 :: a12 :: a13 :: a14 :: a15 :: a16 :: a17 :: a18 :: a19 :: a20 :: a21 :: a22 :: a23 :: a24 :: a25 :: a26 :: a27 :: a28 :: a29 :: a30 :: a31 :: a32 :: a33 :: a34 :: a35 :: a36 :: a37 :: a38 :: a39 :: a40 :: a41 :: a42 :: a43 :: a44 :: a45 :: a46 :: a47 :: a48 :: a49 :: a50 :: a51 :: a52 :: a53 :: a54 :: a55 :: a56 :: a57 :: a58 :: a59 :: r) (.tmp 59) = some a59 := rfl
theorem st59 {a0 a1 a2 a3 a4 a5 a6 a7 a8 a9 a10 a11 a12 a13 a14 a15 a16 a17 a18 a19 a20 a21 a22 a23 a24 a25 a26 a27 a28 a29 a30 a31 a32 a33 a34 a35 a36 a37 a38 a39 a40 a41 a42 a43 a44 a45 a46 a47 a48 a49 a50 a51 a52 a53 a54 a55 a56 a57 a58 a59 : AV} : dso (some 59) (a0 :: a1 :: a2 :: a3 :: a4 :: a5 :: a6 :: a7 :: a8 :: a9 :: a10 :: a11 :: a12 :: a13 :: a14 :: a15 :: a16 :: a17 :: a18 :: a19 :: a20 :: a21 :: a22 :: a23 :: a24 :: a25 :: a26 :: a27 :: a28 :: a29 :: a30 :: a31 :: a32 :: a33 :: a34 :: a35 :: a36 :: a37 :: a38 :: a39 :: a40 :: a41 :: a42 :: a43 :: a44 :: a45 :: a46 :: a47 :: a48 :: a49 :: a50 :: a51 :: a52 :: a53 :: a54 :: a55 :: a56 :: a57 :: a58 :: a59 :: r) v = some (a0 :: a1 :: a2 :: a3 :: a4 :: a5 :: a6 :: a7 :: a8 :: a9 :: a10 :: a11 :: a12 :: a13 :: a14 :: a15 :: a16 :: a17 :: a18 :: a19 :: a20 :: a21 :: a22 :: a23 :: a24 :: a25 :: a26 :: a27 :: a28 :: a29 :: a30 :: a31 :: a32 :: a33 :: a34 :: a35 :: a36 :: a37 :: a38 :: a39 :: a40 :: a41 :: a42 :: a43 :: a44 :: a45 :: a46 :: a47 :: a48 :: a49 :: a50 :: a51 :: a52 :: a53 :: a54 :: a55 :: a56 :: a57 :: a58 :: v :: r) := rfl
theorem gt60 {a0 a1 a2 a3 a4 a5 a6 a7 a8 a9 a10 a11 a12 a13 a14 a15 a16 a17 a18 a19 a20 a21 a22 a23 a24 a25 a26 a27 a28 a29 a30 a31 a32 a33 a34 a35 a36 a37 a38 a39 a40 a41 a42 a43 a44 a45 a46 a47 a48 a49 a50 a51 a52 a53 a54 a55 a56 a57 a58 a59 a60 : AV} : evo (a0 :: a1 :: a2 :: a3 :: a4 :: a5 :: a6 :: a7 :: a8 :: a9 :: a10 :: a11 :: a12 :: a13 :: a14 :: a15 :: a16 :: a17 :: a18 :: a19 :: a20 :: a21 :: a22 :: a23 :: a24 :: a25 :: a26 :: a27 :: a28 :: a29 :: a30 :: a31 :: a32 :: a33 :: a34 :: a35 :: a36 :: a37 :: a38 :: a39 :: a40 :: a41 :: a42 :: a43 :: a44 :: a45 :: a46 :: a47 :: a48 :: a49 :: a50 :: a51 :: a52 :: a53 :: a54 :: a55 :: a56 :: a57 :: a58 :: a59 :: a60 :: r) (.tmp 60) = some a60 := rfl
theorem st60 {a0 a1 a2 a3 a4 a5 a6 a7 a8 a9 a10 a11 a12 a13 a14 a15 a16 a17 a18 a19 a20 a21 a22 a23 a24 a25 a26 a27 a28 a29 a30 a31 a32 a33 a34 a35 a36 a37 a38 a39 a40 a41 a42 a43 a44 a45 a46 a47 a48 a49 a50 a51 a52 a53 a54 a55 a56 a57 a58 a59 a60 : AV} : dso (some 60) (a0 :: a1 :: a2 :: a3 :: a4 :: a5 :: a6 :: a7 :: a8 :: a9 :: a10 :: a11 :: a12 :: a13 :: a14 :: a15 :: a16 :: a17 :: a18 :: a19 :: a20 :: a21 :: a22 :: a23 :: a24 :: a25 :: a26 :: a27 :: a28 :: a29 :: a30 :: a31 :: a32 :: a33 :: a34 :: a35 :: a36 :: a37 :: a38 :: a39 :: a40 :: a41 :: a42 :: a43 :: a44 :: a45 :: a46 :: a47 :: a48 :: a49 :: a50 :: a51 :: a52 :: a53 :: a54 :: a55 :: a56 :: a57 :: a58 :: a59 :: a60 :: r) v = some (a0 :: a1 :: a2 :: a3 :: a4 :: a5 :: a6 :: a7 :: a8 :: a9 :: a10 :: a11 :: a12 :: a13 :: a14 :: a15 :: a16 :: a17 :: a18 :: a19 :: a20 :: a21 :: a22 :: a23 :: a24 :: a25 :: a26 :: a27 :: a28 :: a29 :: a30 :: a31 :: a32 :: a33 :: a34 :: a35 :: a36 :: a37 :: a38 :: a39 :: a40 :: a41 :: a42 :: a43 :: a44 :: a45 :: a46 :: a47 :: a48 :: a49 :: a50 :: a51 :: a52 :: a53 :: a54 :: a55 :: a56 :: a57 :: a58 :: a59 :: v :: r) := rfl
theorem gt61 {a0 a1 a2 a3 a4 a5 a6 a7 a8 a9 a10 a11 a12 a13 a14 a15 a16 a17 a18 a19 a20 a21 a22 a23 a24 a25 a26 a27 a28 a29 a30 a31 a32 a33 a34 a35 a36 a37 a38 a39 a40 a41 a42 a43 a44 a45 a46 a47 a48 a49 a50 a51 a52 a53 a54 a55 a56 a57 a58 a59 a60 a61 : AV} : evo (a0 :: a1 :: a2 :: a3 :: a4 :: a5 :: a6 :: a7 :: a8 :: a9 :: a10 :: a11 :: a12 :: a13 :: a14 :: a15 :: a16 :: a17 :: a18 :: a19 :: a20 :: a21 :: a22 :: a23 :: a24 :: a25 :: a26 :: a27 :: a28 :: a29 :: a30 :: a31 :: a32 :: a33 :: a34 :: a35 :: a36 :: a37 :: a38 :: a39 :: a40 :: a41 :: a42 :: a43 :: a44 :: a45 :: a46 :: a47 :: a48 :: a49 :: a50 :: a51 :: a52 :: a53 :: a54 :: a55 :: a56 :: a57 :: a58 :: a59 :: a60 :: a61 :: r) (.tmp 61) = some a61 := rfl
theorem st61 {a0 a1 a2 a3 a4 a5 a6 a7 a8 a9 a10 a11 a12 a13 a14 a15 a16 a17 a18 a19 a20 a21 a22 a23 a24 a25 a26 a27 a28 a29 a30 a31 a32 a33 a34 a35 a36 a37 a38 a39 a40 a41 a42 a43 a44 a45 a46 a47 a48 a49 a50 a51 a52 a53 a54 a55 a56 a57 a58 a59 a60 a61 : AV} : dso (some 61) (a0 :: a1 :: a2 :: a3 :: a4 :: a5 :: a6 :: a7 :: a8 :: a9 :: a10 :: a11 :: a12 :: a13 :: a14 :: a15 :: a16 :: a17 :: a18 :: a19 :: a20 :: a21 :: a22 :: a23 :: a24 :: a25 :: a26 :: a27 :: a28 :: a29 :: a30 :: a31 :: a32 :: a33 :: a34 :: a35 :: a36 :: a37 :: a38 :: a39 :: a40 :: a41 :: a42 :: a43 :: a44 :: a45 :: a46 :: a47 :: a48 :: a49 :: a50 :: a51 :: a52 :: a53 :: a54 :: a55 :: a56 :: a57 :: a58 :: a59 :: a60 :: a61 :: r) v = some (a0 :: a1 :: a2 :: a3 :: a4 :: a5 :: a6 :: a7 :: a8 :: a9 :: a10 :: a11 :: a12 :: a13 :: a14 :: a15 :: a16 :: a17 :: a18 :: a19 :: a20 :: a21 :: a22 :: a23 :: a24 :: a25 :: a26 :: a27 :: a28 :: a29 :: a30 :: a31 :: a32 :: a33 :: a34 :: a35 :: a36 :: a37 :: a38 :: a39 :: a40 :: a41 :: a42 :: a43 :: a44 :: a45 :: a46 :: a47 :: a48 :: a49 :: a50 :: a51 :: a52 :: a53 :: a54 :: a55 :: a56 :: a57 :: a58 :: a59 :: a60 :: v :: r) := rfl
theorem gt62 {a0 a1 a2 a3 a4 a5 a6 a7 a8 a9 a10 a11 a12 a13 a14 a15 a16 a17 a18 a19 a20 a21 a22 a23 a24 a25 a26 a27 a28 a29 a30 a31 a32 a33 a34 a35 a36 a37 a38 a39 a40 a41 a42 a43 a44 a45 a46 a47 a48 a49 a50 a51 a52 a53 a54 a55 a56 a57 a58 a59 a60 a61 a62 : AV} : evo (a0 :: a1 :: a2 :: a3 :: a4 :: a5 :: a6 :: a7 :: a8 :: a9 :: a10 :: a11 :: a12 :: a13 :: a14 :: a15 :: a16 :: a17 :: a18 :: a19 :: a20 :: a21 :: a22 :: a23 :: a24 :: a25 :: a26 :: a27 :: a28 :: a29 :: a30 :: a31 :: a32 :: a33 :: a34 :: a35 :: a36 :: a37 :: a38 :: a39 :: a40 :: a41 :: a42 :: a43 :: a44 :: a45 :: a46 :: a47 :: a48 :: a49 :: a50 :: a51 :: a52 :: a53 :: a54 :: a55 :: a56 :: a57 :: a58 :: a59 :: a60 :: a61 :: a62 :: r) (.tmp 62) = some a62 := rfl
theorem st62 {a0 a1 a2 a3 a4 a5 a6 a7 a8 a9 a10 a11 a12 a13 a14 a15 a16 a17 a18 a19 a20 a21 a22 a23 a24 a25 a26 a27 a28 a29 a30 a31 a32 a33 a34 a35 a36 a37 a38 a39 a40 a41 a42 a43 a44 a45 a46 a47 a48 a49 a50 a51 a52 a53 a54 a55 a56 a57 a58 a59 a60 a61 a62 : AV} : dso (some 62) (a0 :: a1 :: a2 :: a3 :: a4 :: a5 :: a6 :: a7 :: a8 :: a9 :: a10 :: a11 :: a12 :: a13 :: a14 :: a15 :: a16 :: a17 :: a18 :: a19 :: a20 :: a21 :: a22 :: a23 :: a24 :: a25 :: a26 :: a27 :: a28 :: a29 :: a30 :: a31 :: a32 :: a33 :: a34 :: a35 :: a36 :: a37 :: a38 :: a39 :: a40 :: a41 :: a42 :: a43 :: a44 :: a45 :: a46 :: a47 :: a48 :: a49 :: a50 :: a51 :: a52 :: a53 :: a54 :: a55 :: a56 :: a57 :: a58 :: a59 :: a60 :: a61 :: a62 :: r) v = some (a0 :: a1 :: a2 :: a3 :: a4 :: a5 :: a6 :: a7 :: a8 :: a9 :: a10 :: a11 :: a12 :: a13 :: a14 :: a15 :: a16 :: a17 :: a18 :: a19 :: a20 :: a21 :: a22 :: a23 :: a24 :: a25 :: a26 :: a27 :: a28 :: a29 :: a30 :: a31 :: a32 :: a33 :: a34 :: a35 :: a36 :: a37 :: a38 :: a39 :: a40 :: a41 :: a42 :: a43 :: a44 :: a45 :: a46 :: a47 :: a48 :: a49 :: a50 :: a51 :: a52 :: a53 :: a54 :: a55 :: a56 :: a57 :: a58 :: a59 :: a60 :: a61 :: v :: r) := rfl
theorem gt63 {a0 a1 a2 a3 a4 a5 a6 a7 a8 a9 a10 a11 a12 a13 a14 a15 a16 a17 a18 a19 a20 a21 a22 a23 a24 a25 a26 a27 a28 a29 a30 a31 a32 a33 a34 a35 a36 a37 a38 a39 a40 a41 a42 a43 a44 a45 a46 a47 a48 a49 a50 a51 a52 a53 a54 a55 a56 a57 a58 a59 a60 a61 a62 a63 : AV} : evo (a0 :: a1 :: a2 :: a3 :: a4 :: a5 :: a6 :: a7 :: a8 :: a9 :: a10 :: a11 :: a12 :: a13 :: a14 :: a15 :: a16 :: a17 :: a18 :: a19 :: a20 :: a21 :: a22 :: a23 :: a24 :: a25 :: a26 :: a27 :: a28 :: a29 :: a30 :: a31 :: a32 :: a33 :: a34 :: a35 :: a36 :: a37 :: a38 :: a39 :: a40 :: a41 :: a42 :: a43 :: a44 :: a45 :: a46 :: a47 :: a48 :: a49 :: a50 :: a51 :: a52 :: a53 :: a54 :: a55 :: a56 :: a57 :: a58 :: a59 :: a60 :: a61 :: a62 :: a63 :: r) (.tmp 63) = some a63 := rfl
theorem st63 {a0 a1 a2 a3 a4 a5 a6 a7 a8 a9 a10 a11 a12 a13 a14 a15 a16 a17 a18 a19 a20 a21 a22 a23 a24 a25 a26 a27 a28 a29 a30 a31 a32 a33 a34 a35 a36 a37 a38 a39 a40 a41 a42 a43 a44 a45 a46 a47 a48 a49 a50 a51 a52 a53 a54 a55 a56 a57 a58 a59 a60 a61 a62 a63 : AV} : dso (some 63) (a0 :: a1 :: a2 :: a3 :: a4 :: a5 :: a6 :: a7 :: a8 :: a9 :: a10 :: a11 :: a12 :: a13 :: a14 :: a15 :: a16 :: a17 :: a18 :: a19 :: a20 :: a21 :: a22 :: a23 :: a24 :: a25 :: a26 :: a27 :: a28 :: a29 :: a30 :: a31 :: a32 :: a33 :: a34 :: a35 :: a36 :: a37 :: a38 :: a39 :: a40 :: a41 :: a42 :: a43 :: a44 :: a45 :: a46 :: a47 :: a48 :: a49 :: a50 :: a51 :: a52 :: a53 :: a54 :: a55 :: a56 :: a57 :: a58 :: a59 :: a60 :: a61 :: a62 :: a63 :: r) v = some (a0 :: a1 :: a2 :: a3 :: a4 :: a5 :: a6 :: a7 :: a8 :: a9 :: a10 :: a11 :: a12 :: a13 :: a14 :: a15 :: a16 :: a17 :: a18 :: a19 :: a20 :: a21 :: a22 :: a23 :: a24 :: a25 :: a26 :: a27 :: a28 :: a29 :: a30 :: a31 :: a32 :: a33 :: a34 :: a35 :: a36 :: a37 :: a38 :: a39 :: a40 :: a41 :: a42 :: a43 :: a44 :: a45 :: a46 :: a47 :: a48 :: a49 :: a50 :: a51 :: a52 :: a53 :: a54 :: a55 :: a56 :: a57 :: a58 :: a59 :: a60 :: a61 :: a62 :: v :: r) := rfl
theorem gt64 {a0 a1 a2 a3 a4 a5 a6 a7 a8 a9 a10 a11 a12 a13 a14 a15 a16 a17 a18 a19 a20 a21 a22 a23 a24 a25 a26 a27 a28 a29 a30 a31 a32 a33 a34 a35 a36 a37 a38 a39 a40 a41 a42 a43 a44 a45 a46 a47 a48 a49 a50 a51 a52 a53 a54 a55 a56 a57 a58 a59 a60 a61 a62 a63 a64 : AV} : evo (a0 :: a1 :: a2 :: a3 :: a4 :: a5 :: a6 :: a7 :: a8 :: a9 :: a10 :: a11 :: a12 :: a13 :: a14 :: a15 :: a16 :: a17 :: a18 :: a19 :: a20 :: a21 :: a22 :: a23 :: a24 :: a25 :: a26 :: a27 :: a28 :: a29 :: a30 :: a31 :: a32 :: a33 :: a34 :: a35 :: a36 :: a37 :: a38 :: a39 :: a40 :: a41 :: a42 :: a43 :: a44 :: a45 :: a46 :: a47 :: a48 :: a49 :: a50 :: a51 :: a52 :: a53 :: a54 :: a55 :: a56 :: a57 :: a58 :: a59 :: a60 :: a61 :: a62 :: a63 :: a64 :: r) (.tmp 64) = some a64 := rfl
theorem st64 {a0 a1 a2 a3 a4 a5 a6 a7 a8 a9 a10 a11 a12 a13 a14 a15 a16 a17 a18 a19 a20 a21 a22 a23 a24 a25 a26 a27 a28 a29 a30 a31 a32 a33 a34 a35 a36 a37 a38 a39 a40 a41 a42 a43 a44 a45 a46 a47 a48 a49 a50 a51 a52 a53 a54 a55 a56 a57 a58 a59 a60 a61 a62 a63 a64 : AV} : dso (some 64) (a0 :: a1 :: a2 :: a3 :: a4 :: a5 :: a6 :: a7 :: a8 :: a9 :: a10 :: a11 :: a12 :: a13 :: a14 :: a15 :: a16 :: a17 :: a18 :: a19 :: a20 :: a21 :: a22 :: a23 :: a24 :: a25 :: a26 :: a27 :: a28 :: a29 :: a30 :: a31 :: a32 :: a33 :: a34 :: a35 :: a36 :: a37 :: a38 :: a39 :: a40 :: a41 :: a42 :: a43 :: a44 :: a45 :: a46 :: a47 :: a48 :: a49 :: a50 :: a51 :: a52 :: a53 :: a54 :: a55 :: a56 :: a57 :: a58 :: a59 :: a60 :: a61 :: a62 :: a63 :: a64 :: r) v = some (a0 :: a1 :: a2 :: a3 :: a4 :: a5 :: a6 :: a7 :: a8 :: a9 :: a10 :: a11 :: a12 :: a13 :: a14 :: a15 :: a16 :: a17 :: a18 :: a19 :: a20 :: a21 :: a22 :: a23 :: a24 :: a25 :: a26 :: a27 :: a28 :: a29 :: a30 :: a31 :: a32 :: a33 :: a34 :: a35 :: a36 :: a37 :: a38 :: a39 :: a40 :: a41 :: a42 :: a43 :: a44 :: a45 :: a46 :: a47 :: a48 :: a49 :: a50 :: a51 :: a52 :: a53 :: a54 :: a55 :: a56 :: a57 :: a58 :: a59 :: a60 :: a61 :: a62 :: a63 :: v :: r) := rfl
theorem gt65 {a0 a1 a2 a3 a4 a5 a6 a7 a8 a9 a10 a11 a12 a13 a14 a15 a16 a17 a18 a19 a20 a21 a22 a23 a24 a25 a26 a27 a28 a29 a30 a31 a32 a33 a34 a35 a36 a37 a38 a39 a40 a41 a42 a43 a44 a45 a46 a47 a48 a49 a50 a51 a52 a53 a54 a55 a56 a57 a58 a59 a60 a61 a62 a63 a64 a65 : AV} : evo (a0 :: a1 :: a2 :: a3 :: a4 :: a5 :: a6 :: a7 :: a8 :: a9 :: a10 :: a11 :: a12 :: a13 :: a14 :: a15 :: a16 :: a17 :: a18 :: a19 :: a20 :: a21 :: a22 :: a23 :: a24 :: a25 :: a26 :: a27 :: a28 :: a29 :: a30 :: a31 :: a32 :: a33 :: a34 :: a35 :: a36 :: a37 :: a38 :: a39 :: a40 :: a41 :: a42 :: a43 :: a44 :: a45 :: a46 :: a47 :: a48 :: a49 :: a50 :: a51 :: a52 :: a53 :: a54 :: a55 :: a56 :: a57 :: a58 :: a59 :: a60 :: a61 :: a62 :: a63 :: a64 :: a65 :: r) (.tmp 65) = some a65 := rfl
theorem st65 {a0 a1 a2 a3 a4 a5 a6 a7 a8 a9 a10 a11 a12 a13 a14 a15 a16 a17 a18 a19 a20 a21 a22 a23 a24 a25 a26 a27 a28 a29 a30 a31 a32 a33 a34 a35 a36 a37 a38 a39 a40 a41 a42 a43 a44 a45 a46 a47 a48 a49 a50 a51 a52 a53 a54 a55 a56 a57 a58 a59 a60 a61 a62 a63 a64 a65 : AV} : dso (some 65) (a0 :: a1 :: a2 :: a3 :: a4 :: a5 :: a6 :: a7 :: a8 :: a9 :: a10 :: a11 :: a12 :: a13 :: a14 :: a15 :: a16 :: a17 :: a18 :: a19 :: a20 :: a21 :: a22 :: a23 :: a24 :: a25 :: a26 :: a27 :: a28 :: a29 :: a30 :: a31 :: a32 :: a33 :: a34 :: a35 :: a36 :: a37 :: a38 :: a39 :: a40 :: a41 :: a42 :: a43 :: a44 :: a45 :: a46 :: a47 :: a48 :: a49 :: a50 :: a51 :: a52 :: a53 :: a54 :: a55 :: a56 :: a57 :: a58 :: a59 :: a60 :: a61 :: a62 :: a63 :: a64 :: a65 :: r) v = some (a0 :: a1 :: a2 :: a3 :: a4 :: a5 :: a6 :: a7 :: a8 :: a9 :: a10 :: a11 :: a12 :: a13 :: a14 :: a15 :: a16 :: a17 :: a18 :: a19 :: a20 :: a21 :: a22 :: a23 :: a24 :: a25 :: a26 :: a27 :: a28 :: a29 :: a30 :: a31 :: a32 :: a33 :: a34 :: a35 :: a36 :: a37 :: a38 :: a39 :: a40 :: a41 :: a42 :: a43 :: a44 :: a45 :: a46 :: a47 :: a48 :: a49 :: a50 :: a51 :: a52 :: a53 :: a54 :: a55 :: a56 :: a57 :: a58 :: a59 :: a60 :: a61 :: a62 :: a63 :: a64 :: v :: r) := rfl
theorem gt66 {a0 a1 a2 a3 a4 a5 a6 a7 a8 a9 a10 a11 a12 a13 a14 a15 a16 a17 a18 a19 a20 a21 a22 a23 a24 a25 a26 a27 a28 a29 a30 a31 a32 a33 a34 a35 a36 a37 a38 a39 a40 a41 a42 a43 a44 a45 a46 a47 a48 a49 a50 a51 a52 a53 a54 a55 a56 a57 a58 a59 a60 a61 a62 a63 a64 a65 a66 : AV} : evo (a0 :: a1 :: a2 :: a3 :: a4 :: a5 :: a6 :: a7 :: a8 :: a9 :: a10 :: a11 :: a12 :: a13 :: a14 :: a15 :: a16 :: a17 :: a18 :: a19 :: a20 :: a21 :: a22 :: a23 :: a24 :: a25 :: a26 :: a27 :: a28 :: a29 :: a30 :: a31 :: a32 :: a33 :: a34 :: a35 :: a36 :: a37 :: a38 :: a39 :: a40 :: a41 :: a42 :: a43 :: a44 :: a45 :: a46 :: a47 :: a48 :: a49 :: a50 :: a51 :: a52 :: a53 :: a54 :: a55 :: a56 :: a57 :: a58 :: a59 :: a60 :: a61 :: a62 :: a63 :: a64 :: a65 :: a66 :: r) (.tmp 66) = some a66 := rfl
theorem st66 {a0 a1 a2 a3 a4 a5 a6 a7 a8 a9 a10 a11 a12 a13 a14 a15 a16 a17 a18 a19 a20 a21 a22 a23 a24 a25 a26 a27 a28 a29 a30 a31 a32 a33 a34 a35 a36 a37 a38 a39 a40 a41 a42 a43 a44 a45 a46 a47 a48 a49 a50 a51 a52 a53 a54 a55 a56 a57 a58 a59 a60 a61 a62 a63 a64 a65 a66 : AV} : dso (some 66) (a0 :: a1 :: a2 :: a3 :: a4 :: a5 :: a6 :: a7 :: a8 :: a9 :: a10 :: a11 :: a12 :: a13 :: a14 :: a15 :: a16 :: a17 :: a18 :: a19 :: a20 :: a21 :: a22 :: a23 :: a24 :: a25 :: a26 :: a27 :: a28 :: a29 :: a30 :: a31 :: a32 :: a33 :: a34 :: a35 :: a36 :: a37 :: a38 :: a39 :: a40 :: a41 :: a42 :: a43 :: a44 :: a45 :: a46 :: a47 :: a48 :: a49 :: a50 :: a51 :: a52 :: a53 :: a54 :: a55 :: a56 :: a57 :: a58 :: a59 :: a60 :: a61 :: a62 :: a63 :: a64 :: a65 :: a66 :: r) v = some (a0 :: a1 :: a2 :: a3 :: a4 :: a5 :: a6 :: a7 :: a8 :: a9 :: a10 :: a11 :: a12 :: a13 :: a14 :: a15 :: a16 :: a17 :: a18 :: a19 :: a20 :: a21 :: a22 :: a23 :: a24 :: a25 :: a26 :: a27 :: a28 :: a29 :: a30 :: a31 :: a32 :: a33 :: a34 :: a35 :: a36 :: a37 :: a38 :: a39 :: a40 :: a41 :: a42 :: a43 :: a44 :: a45 :: a46 :: a47 :: a48 :: a49 :: a50 :: a51 :: a52 :: a53 :: a54 :: a55 :: a56 :: a57 :: a58 :: a59 :: a60 :: a61 :: a62 :: a63 :: a64 :: a65 :: v :: r) := rfl
theorem gt67 {a0 a1 a2 a3 a4 a5 a6 a7 a8 a9 a10 a11 a12 a13 a14 a15 a16 a17 a18 a19 a20 a21 a22 a23 a24 a25 a26 a27 a28 a29 a30 a31 a32 a33 a34 a35 a36 a37 a38 a39 a40 a41 a42 a43 a44 a45 a46 a47 a48 a49 a50 a51 a52 a53 a54 a55 a56 a57 a58 a59 a60 a61 a62 a63 a64 a65 a66 a67 : AV} : evo (a0 :: a1 :: a2 :: a3 :: a4 :: a5 :: a6 :: a7 :: a8 :: a9 :: a10 :: a11 :: a12 :: a13 :: a14 :: a15 :: a16 :: a17 :: a18 :: a19 :: a20 :: a21 :: a22 :: a23 :: a24 :: a25 :: a26 :: a27 :: a28 :: a29 :: a30 :: a31 :: a32 :: a33 :: a34 :: a35 :: a36 :: a37 :: a38 :: a39 :: a40 :: a41 :: a42 :: a43 :: a44 :: a45 :: a46 :: a47 :: a48 :: a49 :: a50 :: a51 :: a52 :: a53 :: a54 :: a55 :: a56 :: a57 :: a58 :: a59 :: a60 :: a61 :: a62 :: a63 :: a64 :: a65 :: a66 :: a67 :: r) (.tmp 67) = some a67 := rfl
theorem st67 {a0 a1 a2 a3 a4 a5 a6 a7 a8 a9 a10 a11 a12 a13 a14 a15 a16 a17 a18 a19 a20 a21 a22 a23 a24 a25 a26 a27 a28 a29 a30 a31 a32 a33 a34 a35 a36 a37 a38 a39 a40 a41 a42 a43 a44 a45 a46 a47 a48 a49 a50 a51 a52 a53 a54 a55 a56 a57 a58 a59 a60 a61 a62 a63 a64 a65 a66 a67 : AV} : dso (some 67) (a0 :: a1 :: a2 :: a3 :: a4 :: a5 :: a6 :: a7 :: a8 :: a9 :: a10 :: a11 :: a12 :: a13 :: a14 :: a15 :: a16 :: a17 :: a18 :: a19 :: a20 :: a21 :: a22 :: a23 :: a24 :: a25 :: a26 :: a27 :: a28 :: a29 :: a30 :: a31 :: a32 :: a33 :: a34 :: a35 :: a36 :: a37 :: a38 :: a39 :: a40 :: a41 :: a42 :: a43 :: a44 :: a45 :: a46 :: a47 :: a48 :: a49 :: a50 :: a51 :: a52 :: a53 :: a54 :: a55 :: a56 :: a57 :: a58 :: a59 :: a60 :: a61 :: a62 :: a63 :: a64 :: a65 :: a66 :: a67 :: r) v = some (a0 :: a1 :: a2 :: a3 :: a4 :: a5 :: a6 :: a7 :: a8 :: a9 :: a10 :: a11 :: a12 :: a13 :: a14 :: a15 :: a16 :: a17 :: a18 :: a19 :: a20 :: a21 :: a22 :: a23 :: a24 :: a25 :: a26 :: a27 :: a28 :: a29 :: a30 :: a31 :: a32 :: a33 :: a34 :: a35 :: a36 :: a37 :: a38 :: a39 :: a40 :: a41 :: a42 :: a43 :: a44 :: a45 :: a46 :: a47 :: a48 :: a49 :: a50 :: a51 :: a52 :: a53 :: a54 :: a55 :: a56 :: a57 :: a58 :: a59 :: a60 :: a61 :: a62 :: a63 :: a64 :: a65 :: a66 :: v :: r) := rfl
theorem gt68 {a0 a1 a2 a3 a4 a5 a6 a7 a8 a9 a10 a11 a12 a13 a14 a15 a16 a17 a18 a19 a20 a21 a22 a23 a24 a25 a26 a27 a28 a29 a30 a31 a32 a33 a34 a35 a36 a37 a38 a39 a40 a41 a42 a43 a44 a45 a46 a47 a48 a49 a50 a51 a52 a53 a54 a55 a56 a57 a58 a59 a60 a61 a62 a63 a64 a65 a66 a67 a68 : AV} : evo (a0 :: a1 :: a2 :: a3 :: a4 :: a5 :: a6 :: a7 :: a8 :: a9 :: a10 :: a11 :: a12 :: a13 :: a14 :: a15 :: a16 :: a17 :: a18 :: a19 :: a20 :: a21 :: a22 :: a23 :: a24 :: a25 :: a26 :: a27 :: a28 :: a29 :: a30 :: a31 :: a32 :: a33 :: a34 :: a35 :: a36 :: a37 :: a38 :: a39 :: a40 :: a41 :: a42 :: a43 :: a44 :: a45 :: a46 :: a47 :: a48 :: a49 :: a50 :: a51 :: a52 :: a53 :: a54 :: a55 :: a56 :: a57 :: a58 :: a59 :: a60 :: a61 :: a62 :: a63 :: a64 :: a65 :: a66 :: a67 :: a68 :: r) (.tmp 68) = some a68 := rfl
theorem st68 {a0 a1 a2 a3 a4 a5 a6 a7 a8 a9 a10 a11 a12 a13 a14 a15 a16 a17 a18 a19 a20 a21 a22 a23 a24 a25 a26 a27 a28 a29 a30 a31 a32 a33 a34 a35 a36 a37 a38 a39 a40 a41 a42 a43 a44 a45 a46 a47 a48 a49 a50 a51 a52 a53 a54 a55 a56 a57 a58 a59 a60 a61 a62 a63 a64 a65 a66 a67 a68 : AV} : dso (some 68) (a0 :: a1 :: a2 :: a3 :: a4 :: a5 :: a6 :: a7 :: a8 :: a9 :: a10 :: a11 :: a12 :: a13 :: a14 :: a15 :: a16 :: a17 :: a18 :: a19 :: a20 :: a21 :: a22 :: a23 :: a24 :: a25 :: a26 :: a27 :: a28 :: a29 :: a30 :: a31 :: a32 :: a33 :: a34 :: a35 :: a36 :: a37 :: a38 :: a39 :: a40 :: a41 :: a42 :: a43 :: a44 :: a45 :: a46 :: a47 :: a48 :: a49 :: a50 :: a51 :: a52 :: a53 :: a54 :: a55 :: a56 :: a57 :: a58 :: a59 :: a60 :: a61 :: a62 :: a63 :: a64 :: a65 :: a66 :: a67 :: a68 :: r) v = some (a0 :: a1 :: a2 :: a3 :: a4 :: a5 :: a6 :: a7 :: a8 :: a9 :: a10 :: a11 :: a12 :: a13 :: a14 :: a15 :: a16 :: a17 :: a18 :: a19 :: a20 :: a21 :: a22 :: a23 :: a24 :: a25 :: a26 :: a27 :: a28 :: a29 :: a30 :: a31 :: a32 :: a33 :: a34 :: a35 :: a36 :: a37 :: a38 :: a39 :: a40 :: a41 :: a42 :: a43 :: a44 :: a45 :: a46 :: a47 :: a48 :: a49 :: a50 :: a51 :: a52 :: a53 :: a54 :: a55 :: a56 :: a57 :: a58 :: a59 :: a60 :: a61 :: a62 :: a63 :: a64 :: a65 :: a66 :: a67 :: v :: r) := rfl
theorem gt69 {a0 a1 a2 a3 a4 a5 a6 a7 a8 a9 a10 a11 a12 a13 a14 a15 a16 a17 a18 a19 a20 a21 a22 a23 a24 a25 a26 a27 a28 a29 a30 a31 a32 a33 a34 a35 a36 a37 a38 a39 a40 a41 a42 a43 a44 a45 a46 a47 a48 a49 a50 a51 a52 a53 a54 a55 a56 a57 a58 a59 a60 a61 a62 a63 a64 a65 a66 a67 a68 a69 : AV} : evo (a0 :: a1 :: a2 :: a3 :: a4 :: a5 :: a6 :: a7 :: a8 :: a9 :: a10 :: a11 :: a12 :: a13 :: a14 :: a15 :: a16 :: a17 :: a18 :: a19 :: a20 :: a21 :: a22 :: a23 :: a24 :: a25 :: a26 :: a27 :: a28 :: a29 :: a30 :: a31 :: a32 :: a33 :: a34 :: a35 :: a36 :: a37 :: a38 :: a39 :: a40 :: a41 :: a42 :: a43 :: a44 :: a45 :: a46 :: a47 :: a48 :: a49 :: a50 :: a51 :: a52 :: a53 :: a54 :: a55 :: a56 :: a57 :: a58 :: a59 :: a60 :: a61 :: a62 :: a63 :: a64 :: a65 :: a66 :: a67 :: a68 :: a69 :: r) (.tmp 69) = some a69 := rfl
theorem st69 {a0 a1 a2 a3 a4 a5 a6 a7 a8 a9 a10 a11 a12 a13 a14 a15 a16 a17 a18 a19 a20 a21 a22 a23 a24 a25 a26 a27 a28 a29 a30 a31 a32 a33 a34 a35 a36 a37 a38 a39 a40 a41 a42 a43 a44 a45 a46 a47 a48 a49 a50 a51 a52 a53 a54 a55 a56 a57 a58 a59 a60 a61 a62 a63 a64 a65 a66 a67 a68 a69 : AV} : dso (some 69) (a0 :: a1 :: a2 :: a3 :: a4 :: a5 :: a6 :: a7 :: a8 :: a9 :: a10 :: a11 :: a12 :: a13 :: a14 :: a15 :: a16 :: a17 :: a18 :: a19 :: a20 :: a21 :: a22 :: a23 :: a24 :: a25 :: a26 :: a27 :: a28 :: a29 :: a30 :: a31 :: a32 :: a33 :: a34 :: a35 :: a36 :: a37 :: a38 :: a39 :: a40 :: a41 :: a42 :: a43 :: a44 :: a45 :: a46 :: a47 :: a48 :: a49 :: a50 :: a51 :: a52 :: a53 :: a54 :: a55 :: a56 :: a57 :: a58 :: a59 :: a60 :: a61 :: a62 :: a63 :: a64 :: a65 :: a66 :: a67 :: a68 :: a69 :: r) v = some (a0 :: a1 :: a2 :: a3 :: a4 :: a5 :: a6 :: a7 :: a8 :: a9 :: a10 :: a11 :: a12 :: a13 :: a14 :: a15 :: a16 :: a17 :: a18 :: a19 :: a20 :: a21 :: a22 :: a23 :: a24 :: a25 :: a26 :: a27 :: a28 :: a29 :: a30 :: a31 :: a32 :: a33 :: a34 :: a35 :: a36 :: a37 :: a38 :: a39 :: a40 :: a41 :: a42 :: a43 :: a44 :: a45 :: a46 :: a47 :: a48 :: a49 :: a50 :: a51 :: a52 :: a53 :: a54 :: a55 :: a56 :: a57 :: a58 :: a59 :: a60 :: a61 :: a62 :: a63 :: a64 :: a65 :: a66 :: a67 :: a68 :: v :: r) := rfl
theorem gt70 {a0 a1 a2 a3 a4 a5 a6 a7 a8 a9 a10 a11 a12 a13 a14 a15 a16 a17 a18 a19 a20 a21 a22 a23 a24 a25 a26 a27 a28 a29 a30 a31 a32 a33 a34 a35 a36 a37 a38 a39 a40 a41 a42 a43 a44 a45 a46 a47 a48 a49 a50 a51 a52 a53 a54 a55 a56 a57 a58 a59 a60 a61 a62 a63 a64 a65 a66 a67 a68 a69 a70 : AV} : evo (a0 :: a1 :: a2 :: a3 :: a4 :: a5 :: a6 :: a7 :: a8 :: a9 :: a10 :: a11 :: a12 :: a13 :: a14 :: a15 :: a16 :: a17 :: a18 :: a19 :: a20 :: a21 :: a22 :: a23 :: a24 :: a25 :: a26 :: a27 :: a28 :: a29 :: a30 :: a31 :: a32 :: a33 :: a34 :: a35 :: a36 :: a37 :: a38 :: a39 :: a40 :: a41 :: a42 :: a43 :: a44 :: a45 :: a46 :: a47 :: a48 :: a49 :: a50 :: a51 :: a52 :: a53 :: a54 :: a55 :: a56 :: a57 :: a58 :: a59 :: a60 :: a61 :: a62 :: a63 :: a64 :: a65 :: a66 :: a67 :: a68 :: a69 :: a70 :: r) (.tmp 70) = some a70 := rfl
theorem st70 {a0 a1 a2 a3 a4 a5 a6 a7 a8 a9 a10 a11 a12 a13 a14 a15 a16 a17 a18 a19 a20 a21 a22 a23 a24 a25 a26 a27 a28 a29 a30 a31 a32 a33 a34 a35 a36 a37 a38 a39 a40 a41 a42 a43 a44 a45 a46 a47 a48 a49 a50 a51 a52 a53 a54 a55 a56 a57 a58 a59 a60 a61 a62 a63 a64 a65 a66 a67 a68 a69 a70 : AV} : dso (some 70) (a0 :: a1 :: a2 :: a3 :: a4 :: a5 :: a6 :: a7 :: a8 :: a9 :: a10 :: a11 :: a12 :: a13 :: a14 :: a15 :: a16 :: a17 :: a18 :: a19 :: a20 :: a21 :: a22 :: a23 :: a24 :: a25 :: a26 :: a27 :: a28 :: a29 :: a30 :: a31 :: a32 :: a33 :: a34 :: a35 :: a36 :: a37 :: a38 :: a39 :: a40 :: a41 :: a42 :: a43 :: a44 :: a45 :: a46 :: a47 :: a48 :: a49 :: a50 :: a51 :: a52 :: a53 :: a54 :: a55 :: a56 :: a57 :: a58 :: a59 :: a60 :: a61 :: a62 :: a63 :: a64 :: a65 :: a66 :: a67 :: a68 :: a69 :: a70 :: r) v = some (a0 :: a1 :: a2 :: a3 :: a4 :: a5 :: a6 :: a7 :: a8 :: a9 :: a10 :: a11 :: a12 :: a13 :: a14 :: a15 :: a16 :: a17 :: a18 :: a19 :: a20 :: a21 :: a22 :: a23 :: a24 :: a25 :: a26 :: a27 :: a28 :: a29 :: a30 :: a31 :: a32 :: a33 :: a34 :: a35 :: a36 :: a37 :: a38 :: a39 :: a40 :: a41 :: a42 :: a43 :: a44 :: a45 :: a46 :: a47 :: a48 :: a49 :: a50 :: a51 :: a52 :: a53 :: a54 :: a55 :: a56 :: a57 :: a58 :: a59 :: a60 :: a61 :: a62 :: a63 :: a64 :: a65 :: a66 :: a67 :: a68 :: a69 :: v :: r) := rfl
theorem gt71 {a0 a1 a2 a3 a4 a5 a6 a7 a8 a9 a10 a11 a12 a13 a14 a15 a16 a17 a18 a19 a20 a21 a22 a23 a24 a25 a26 a27 a28 a29 a30 a31 a32 a33 a34 a35 a36 a37 a38 a39 a40 a41 a42 a43 a44 a45 a46 a47 a48 a49 a50 a51 a52 a53 a54 a55 a56 a57 a58 a59 a60 a61 a62 a63 a64 a65 a66 a67 a68 a69 a70 a71 : AV} : evo (a0 :: a1 :: a2 :: a3 :: a4 :: a5 :: a6 :: a7 :: a8 :: a9 :: a10 :: a11 :: a12 :: a13 :: a14 :: a15 :: a16 :: a17 :: a18 :: a19 :: a20 :: a21 :: a22 :: a23 :: a24 :: a25 :: a26 :: a27 :: a28 :: a29 :: a30 :: a31 :: a32 :: a33 :: a34 :: a35 :: a36 :: a37 :: a38 :: a39 :: a40 :: a41 :: a42 :: a43 :: a44 :: a45 :: a46 :: a47 :: a48 :: a49 :: a50 :: a51 :: a52 :: a53 :: a54 :: a55 :: a56 :: a57 :: a58 :: a59 :: a60 :: a61 :: a62 :: a63 :: a64 :: a65 :: a66 :: a67 :: a68 :: a69 :: a70 :: a71 :: r) (.tmp 71) = some a71 := rfl
theorem st71 {a0 a1 a2 a3 a4 a5 a6 a7 a8 a9 a10 a11 a12 a13 a14 a15 a16 a17 a18 a19 a20 a21 a22 a23 a24 a25 a26 a27 a28 a29 a30 a31 a32 a33 a34 a35 a36 a37 a38 a39 a40 a41 a42 a43 a44 a45 a46 a47 a48 a49 a50 a51 a52 a53 a54 a55 a56 a57 a58 a59 a60 a61 a62 a63 a64 a65 a66 a67 a68 a69 a70 a71 : AV} : dso (some 71) (a0 :: a1 :: a2 :: a3 :: a4 :: a5 :: a6 :: a7 :: a8 :: a9 :: a10 :: a11 :: a12 :: a13 :: a14 :: a15 :: a16 :: a17 :: a18 :: a19 :: a20 :: a21 :: a22 :: a23 :: a24 :: a25 :: a26 :: a27 :: a28 :: a29 :: a30 :: a31 :: a32 :: a33 :: a34 :: a35 :: a36 :: a37 :: a38 :: a39 :: a40 :: a41 :: a42 :: a43 :: a44 :: a45 :: a46 :: a47 :: a48 :: a49 :: a50 :: a51 :: a52 :: a53 :: a54 :: a55 :: a56 :: a57 :: a58 :: a59 :: a60 :: a61 :: a62 :: a63 :: a64 :: a65 :: a66 :: a67 :: a68 :: a69 :: a70 :: a71 :: r) v = some (a0 :: a1 :: a2 :: a3 :: a4 :: a5 :: a6 :: a7 :: a8 :: a9 :: a10 :: a11 :: a12 :: a13 :: a14 :: a15 :: a16 :: a17 :: a18 :: a19 :: a20 :: a21 :: a22 :: a23 :: a24 :: a25 :: a26 :: a27 :: a28 :: a29 :: a30 :: a31 :: a32 :: a33 :: a34 :: a35 :: a36 :: a37 :: a38 :: a39 :: a40 :: a41 :: a42 :: a43 :: a44 :: a45 :: a46 :: a47 :: a48 :: a49 :: a50 :: a51 :: a52 :: a53 :: a54 :: a55 :: a56 :: a57 :: a58 :: a59 :: a60 :: a61 :: a62 :: a63 :: a64 :: a65 :: a66 :: a67 :: a68 :: a69 :: a70 :: v :: r) := rfl
theorem gt72 {a0 a1 a2 a3 a4 a5 a6 a7 a8 a9 a10 a11 a12 a13 a14 a15 a16 a17 a18 a19 a20 a21 a22 a23 a24 a25 a26 a27 a28 a29 a30 a31 a32 a33 a34 a35 a36 a37 a38 a39 a40 a41 a42 a43 a44 a45 a46 a47 a48 a49 a50 a51 a52 a53 a54 a55 a56 a57 a58 a59 a60 a61 a62 a63 a64 a65 a66 a67 a68 a69 a70 a71 a72 : AV} : evo (a0 :: a1 :: a2 :: a3 :: a4 :: a5 :: a6 :: a7 :: a8 :: a9 :: a10 :: a11 :: a12 :: a13 :: a14 :: a15 :: a16 :: a17 :: a18 :: a19 :: a20 :: a21 :: a22 :: a23 :: a24 :: a25 :: a26 :: a27 :: a28 :: a29 :: a30 :: a31 :: a32 :: a33 :: a34 :: a35 :: a36 :: a37 :: a38 :: a39 :: a40 :: a41 :: a42 :: a43 :: a44 :: a45 :: a46 :: a47 :: a48 :: a49 :: a50 :: a51 :: a52 :: a53 :: a54 :: a55 :: a56 :: a57 :: a58 :: a59 :: a60 :: a61 :: a62 :: a63 :: a64 :: a65 :: a66 :: a67 :: a68 :: a69 :: a70 :: a71 :: a72 :: r) (.tmp 72) = some a72 := rfl
theorem st72 {a0 a1 a2 a3 a4 a5 a6 a7 a8 a9 a10 a11 a12 a13 a14 a15 a16 a17 a18 a19 a20 a21 a22 a23 a24 a25 a26 a27 a28 a29 a30 a31 a32 a33 a34 a35 a36 a37 a38 a39 a40 a41 a42 a43 a44 a45 a46 a47 a48 a49 a50 a51 a52 a53 a54 a55 a56 a57 a58 a59 a60 a61 a62 a63 a64 a65 a66 a67 a68 a69 a70 a71 a72 : AV} : dso (some 72) (a0 :: a1 :: a2 :: a3 :: a4 :: a5 :: a6 :: a7 :: a8 :: a9 :: a10 :: a11 :: a12 :: a13 :: a14 :: a15 :: a16 :: a17 :: a18 :: a19 :: a20 :: a21 :: a22 :: a23 :: a24 :: a25 :: a26 :: a27 :: a28 :: a29 :: a30 :: a31 :: a32 :: a33 :: a34 :: a35 :: a36 :: a37 :: a38 :: a39 :: a40 :: a41 :: a42 :: a43 :: a44 :: a45 :: a46 :: a47 :: a48 :: a49 :: a50 :: a51 :: a52 :: a53 :: a54 :: a55 :: a56 :: a57 :: a58 :: a59 :: a60 :: a61 :: a62 :: a63 :: a64 :: a65 :: a66 :: a67 :: a68 :: a69 :: a70 :: a71 :: a72 :: r) v = some (a0 :: a1 :: a2 :: a3 :: a4 :: a5 :: a6 :: a7 :: a8 :: a9 :: a10 :: a11 :: a12 :: a13 :: a14 :: a15 :: a16 :: a17 :: a18 :: a19 :: a20 :: a21 :: a22 :: a23 :: a24 :: a25 :: a26 :: a27 :: a28 :: a29 :: a30 :: a31 :: a32 :: a33 :: a34 :: a35 :: a36 :: a37 :: a38 :: a39 :: a40 :: a41 :: a42 :: a43 :: a44 :: a45 :: a46 :: a47 :: a48 :: a49 :: a50 :: a51 :: a52 :: a53 :: a54 :: a55 :: a56 :: a57 :: a58 :: a59 :: a60 :: a61 :: a62 :: a63 :: a64 :: a65 :: a66 :: a67 :: a68 :: a69 :: a70 :: a71 :: v :: r) := rfl
theorem gt73 {a0 a1 a2 a3 a4 a5 a6 a7 a8 a9 a10 a11 a12 a13 a14 a15 a16 a17 a18 a19 a20 a21 a22 a23 a24 a25 a26 a27 a28 a29 a30 a31 a32 a33 a34 a35 a36 a37 a38 a39 a40 a41 a42 a43 a44 a45 a46 a47 a48 a49 a50 a51 a52 a53 a54 a55 a56 a57 a58 a59 a60 a61 a62 a63 a64 a65 a66 a67 a68 a69 a70 a71 a72 a73 : AV} : evo (a0 :: a1 :: a2 :: a3 :: a4 :: a5 :: a6 :: a7 :: a8 :: a9 :: a10 :: a11 :: a12 :: a13 :: a14 :: a15 :: a16 :: a17 :: a18 :: a19 :: a20 :: a21 :: a22 :: a23 :: a24 :: a25 :: a26 :: a27 :: a28 :: a29 :: a30 :: a31 :: a32 :: a33 :: a34 :: a35 :: a36 :: a37 :: a38 :: a39 :: a40 :: a41 :: a42 :: a43 :: a44 :: a45 :: a46 :: a47 :: a48 :: a49 :: a50 :: a51 :: a52 :: a53 :: a54 :: a55 :: a56 :: a57 :: a58 :: a59 :: a60 :: a61 :: a62 :: a63 :: a64 :: a65 :: a66 :: a67 :: a68 :: a69 :: a70 :: a71 :: a72 :: a73 :: r) (.tmp 73) = some a73 := rfl
theorem st73 {a0 a1 a2 a3 a4 a5 a6 a7 a8 a9 a10 a11 a12 a13 a14 a15 a16 a17 a18 a19 a20 a21 a22 a23 a24 a25 a26 a27 a28 a29 a30 a31 a32 a33 a34 a35 a36 a37 a38 a39 a40 a41 a42 a43 a44 a45 a46 a47 a48 a49 a50 a51 a52 a53 a54 a55 a56 a57 a58 a59 a60 a61 a62 a63 a64 a65 a66 a67 a68 a69 a70 a71 a72 a73 : AV} : dso (some 73) (a0 :: a1 :: a2 :: a3 :: a4 :: a5 :: a6 :: a7 :: a8 :: a9 :: a10 :: a11 :: a12 :: a13 :: a14 :: a15 :: a16 :: a17 :: a18 :: a19 :: a20 :: a21 :: a22 :: a23 :: a24 :: a25 :: a26 :: a27 :: a28 :: a29 :: a30 :: a31 :: a32 :: a33 :: a34 :: a35 :: a36 :: a37 :: a38 :: a39 :: a40 :: a41 :: a42 :: a43 :: a44 :: a45 :: a46 :: a47 :: a48 :: a49 :: a50 :: a51 :: a52 :: a53 :: a54 :: a55 :: a56 :: a57 :: a58 :: a59 :: a60 :: a61 :: a62 :: a63 :: a64 :: a65 :: a66 :: a67 :: a68 :: a69 :: a70 :: a71 :: a72 :: a73 :: r) v = some (a0 :: a1 :: a2 :: a3 :: a4 :: a5 :: a6 :: a7 :: a8 :: a9 :: a10 :: a11 :: a12 :: a13 :: a14 :: a15 :: a16 :: a17 :: a18 :: a19 :: a20 :: a21 :: a22 :: a23 :: a24 :: a25 :: a26 :: a27 :: a28 :: a29 :: a30 :: a31 :: a32 :: a33 :: a34 :: a35 :: a36 :: a37 :: a38 :: a39 :: a40 :: a41 :: a42 :: a43 :: a44 :: a45 :: a46 :: a47 :: a48 :: a49 :: a50 :: a51 :: a52 :: a53 :: a54 :: a55 :: a56 :: a57 :: a58 :: a59 :: a60 :: a61 :: a62 :: a63 :: a64 :: a65 :: a66 :: a67 :: a68 :: a69 :: a70 :: a71 :: a72 :: v :: r) := rfl
theorem gt74 {a0 a1 a2 a3 a4 a5 a6 a7 a8 a9 a10 a11 a12 a13 a14 a15 a16 a17 a18 a19 a20 a21 a22 a23 a24 a25 a26 a27 a28 a29 a30 a31 a32 a33 a34 a35 a36 a37 a38 a39 a40 a41 a42 a43 a44 a45 a46 a47 a48 a49 a50 a51 a52 a53 a54 a55 a56 a57 a58 a59 a60 a61 a62 a63 a64 a65 a66 a67 a68 a69 a70 a71 a72 a73 a74 : AV} : evo (a0 :: a1 :: a2 :: a3 :: a4 :: a5 :: a6 :: a7 :: a8 :: a9 :: a10 :: a11 :: a12 :: a13 :: a14 :: a15 :: a16 :: a17 :: a18 :: a19 :: a20 :: a21 :: a22 :: a23 :: a24 :: a25 :: a26 :: a27 :: a28 :: a29 :: a30 :: a31 :: a32 :: a33 :: a34 :: a35 :: a36 :: a37 :: a38 :: a39 :: a40 :: a41 :: a42 :: a43 :: a44 :: a45 :: a46 :: a47 :: a48 :: a49 :: a50 :: a51 :: a52 :: a53 :: a54 :: a55 :: a56 :: a57 :: a58 :: a59 :: a60 :: a61 :: a62 :: a63 :: a64 :: a65 :: a66 :: a67 :: a68 :: a69 :: a70 :: a71 :: a72 :: a73 :: a74 :: r) (.tmp 74) = some a74 := rfl
theorem st74 {a0 a1 a2 a3 a4 a5 a6 a7 a8 a9 a10 a11 a12 a13 a14 a15 a16 a17 a18 a19 a20 a21 a22 a23 a24 a25 a26 a27 a28 a29 a30 a31 a32 a33 a34 a35 a36 a37 a38 a39 a40 a41 a42 a43 a44 a45 a46 a47 a48 a49 a50 a51 a52 a53 a54 a55 a56 a57 a58 a59 a60 a61 a62 a63 a64 a65 a66 a67 a68 a69 a70 a71 a72 a73 a74 : AV} : dso (some 74) (a0 :: a1 :: a2 :: a3 :: a4 :: a5 :: a6 :: a7 :: a8 :: a9 :: a10 :: a11 :: a12 :: a13 :: a14 :: a15 :: a16 :: a17 :: a18 :: a19 :: a20 :: a21 :: a22 :: a23 :: a24 :: a25 :: a26 :: a27 :: a28 :: a29 :: a30 :: a31 :: a32 :: a33 :: a34 :: a35 :: a36 :: a37 :: a38 :: a39 :: a40 :: a41 :: a42 :: a43 :: a44 :: a45 :: a46 :: a47 :: a48 :: a49 :: a50 :: a51 :: a52 :: a53 :: a54 :: a55 :: a56 :: a57 :: a58 :: a59 :: a60 :: a61 :: a62 :: a63 :: a64 :: a65 :: a66 :: a67 :: a68 :: a69 :: a70 :: a71 :: a72 :: a73 :: a74 :: r) v = some (a0 :: a1 :: a2 :: a3 :: a4 :: a5 :: a6 :: a7 :: a8 :: a9 :: a10 :: a11 :: a12 :: a13 :: a14 :: a15 :: a16 :: a17 :: a18 :: a19 :: a20 :: a21 :: a22 :: a23 :: a24 :: a25 :: a26 :: a27 :: a28 :: a29 :: a30 :: a31 :: a32 :: a33 :: a34 :: a35 :: a36 :: a37 :: a38 :: a39 :: a40 :: a41 :: a42 :: a43 :: a44 :: a45 :: a46 :: a47 :: a48 :: a49 :: a50 :: a51 :: a52 :: a53 :: a54 :: a55 :: a56 :: a57 :: a58 :: a59 :: a60 :: a61 :: a62 :: a63 :: a64 :: a65 :: a66 :: a67 :: a68 :: a69 :: a70 :: a71 :: a72 :: a73 :: v :: r) := rfl
theorem gt75 {a0 a1 a2 a3 a4 a5 a6 a7 a8 a9 a10 a11 a12 a13 a14 a15 a16 a17 a18 a19 a20 a21 a22 a23 a24 a25 a26 a27 a28 a29 a30 a31 a32 a33 a34 a35 a36 a37 a38 a39 a40 a41 a42 a43 a44 a45 a46 a47 a48 a49 a50 a51 a52 a53 a54 a55 a56 a57 a58 a59 a60 a61 a62 a63 a64 a65 a66 a67 a68 a69 a70 a71 a72 a73 a74 a75 : AV} : evo (a0 :: a1 :: a2 :: a3 :: a4 :: a5 :: a6 :: a7 :: a8 :: a9 :: a10 :: a11 :: a12 :: a13 :: a14 :: a15 :: a16 :: a17 :: a18 :: a19 :: a20 :: a21 :: a22 :: a23 :: a24 :: a25 :: a26 :: a27 :: a28 :: a29 :: a30 :: a31 :: a32 :: a33 :: a34 :: a35 :: a36 :: a37 :: a38 :: a39 :: a40 :: a41 :: a42 :: a43 :: a44 :: a45 :: a46 :: a47 :: a48 :: a49 :: a50 :: a51 :: a52 :: a53 :: a54 :: a55 :: a56 :: a57 :: a58 :: a59 :: a60 :: a61 :: a62 :: a63 :: a64 :: a65 :: a66 :: a67 :: a68 :: a69 :: a70 :: a71 :: a72 :: a73 :: a74 :: a75 :: r) (.tmp 75) = some a75 := rfl
theorem st75 {a0 a1 a2 a3 a4 a5 a6 a7 a8 a9 a10 a11 a12 a13 a14 a15 a16 a17 a18 a19 a20 a21 a22 a23 a24 a25 a26 a27 a28 a29 a30 a31 a32 a33 a34 a35 a36 a37 a38 a39 a40 a41 a42 a43 a44 a45 a46 a47 a48 a49 a50 a51 a52 a53 a54 a55 a56 a57 a58 a59 a60 a61 a62 a63 a64 a65 a66 a67 a68 a69 a70 a71 a72 a73 a74 a75 : AV} : dso (some 75) (a0 :: a1 :: a2 :: a3 :: a4 :: a5 :: a6 :: a7 :: a8 :: a9 :: a10 :: a11 :: a12 :: a13 :: a14 :: a15 :: a16 :: a17 :: a18 :: a19 :: a20 :: a21 :: a22 :: a23 :: a24 :: a25 :: a26 :: a27 :: a28 :: a29 :: a30 :: a31 :: a32 :: a33 :: a34 :: a35 :: a36 :: a37 :: a38 :: a39 :: a40 :: a41 :: a42 :: a43 :: a44 :: a45 :: a46 :: a47 :: a48 :: a49 :: a50 :: a51 :: a52 :: a53 :: a54 :: a55 :: a56 :: a57 :: a58 :: a59 :: a60 :: a61 :: a62 :: a63 :: a64 :: a65 :: a66 :: a67 :: a68 :: a69 :: a70 :: a71 :: a72 :: a73 :: a74 :: a75 :: r) v = some (a0 :: a1 :: a2 :: a3 :: a4 :: a5 :: a6 :: a7 :: a8 :: a9 :: a10 :: a11 :: a12 :: a13 :: a14 :: a15 :: a16 :: a17 :: a18 :: a19 :: a20 :: a21 :: a22 :: a23 :: a24 :: a25 :: a26 :: a27 :: a28 :: a29 :: a30 :: a31 :: a32 :: a33 :: a34 :: a35 :: a36 :: a37 :: a38 :: a39 :: a40 :: a41 :: a42 :: a43 :: a44 :: a45 :: a46 :: a47 :: a48 :: a49 :: a50 :: a51 :: a52 :: a53 :: a54 :: a55 :: a56 :: a57 :: a58 :: a59 :: a60 :: a61 :: a62 :: a63 :: a64 :: a65 :: a66 :: a67 :: a68 :: a69 :: a70 :: a71 :: a72 :: a73 :: a74 :: v :: r) := rfl
theorem gt76 {a0 a1 a2 a3 a4 a5 a6 a7 a8 a9 a10 a11 a12 a13 a14 a15 a16 a17 a18 a19 a20 a21 a22 a23 a24 a25 a26 a27 a28 a29 a30 a31 a32 a33 a34 a35 a36 a37 a38 a39 a40 a41 a42 a43 a44 a45 a46 a47 a48 a49 a50 a51 a52 a53 a54 a55 a56 a57 a58 a59 a60 a61 a62 a63 a64 a65 a66 a67 a68 a69 a70 a71 a72 a73 a74 a75 a76 : AV} : evo (a0 :: a1 :: a2 :: a3 :: a4 :: a5 :: a6 :: a7 :: a8 :: a9 :: a10 :: a11 :: a12 :: a13 :: a14 :: a15 :: a16 :: a17 :: a18 :: a19 :: a20 :: a21 :: a22 :: a23 :: a24 :: a25 :: a26 :: a27 :: a28 :: a29 :: a30 :: a31 :: a32 :: a33 :: a34 :: a35 :: a36 :: a37 :: a38 :: a39 :: a40 :: a41 :: a42 :: a43 :: a44 :: a45 :: a46 :: a47 :: a48 :: a49 :: a50 :: a51 :: a52 :: a53 :: a54 :: a55 :: a56 :: a57 :: a58 :: a59 :: a60 :: a61 :: a62 :: a63 :: a64 :: a65 :: a66 :: a67 :: a68 :: a69 :: a70 :: a71 :: a72 :: a73 :: a74 :: a75 :: a76 :: r) (.tmp 76) = some a76 := rfl
theorem st76 {a0 a1 a2 a3 a4 a5 a6 a7 a8 a9 a10 a11 a12 a13 a14 a15 a16 a17 a18 a19 a20 a21 a22 a23 a24 a25 a26 a27 a28 a29 a30 a31 a32 a33 a34 a35 a36 a37 a38 a39 a40 a41 a42 a43 a44 a45 a46 a47 a48 a49 a50 a51 a52 a53 a54 a55 a56 a57 a58 a59 a60 a61 a62 a63 a64 a65 a66 a67 a68 a69 a70 a71 a72 a73 a74 a75 a76 : AV} : dso (some 76) (a0 :: a1 :: a2 :: a3 :: a4 :: a5 :: a6 :: a7 :: a8 :: a9 :: a10 :: a11 :: a12 :: a13 :: a14 :: a15 :: a16 :: a17 :: a18 :: a19 :: a20 :: a21 :: a22 :: a23 :: a24 :: a25 :: a26 :: a27 :: a28 :: a29 :: a30 :: a31 :: a32 :: a33 :: a34 :: a35 :: a36 :: a37 :: a38 :: a39 :: a40 :: a41 :: a42 :: a43 :: a44 :: a45 :: a46 :: a47 :: a48 :: a49 :: a50 :: a51 :: a52 :: a53 :: a54 :: a55 :: a56 :: a57 :: a58 :: a59 :: a60 :: a61 :: a62 :: a63 :: a64 :: a65 :: a66 :: a67 :: a68 :: a69 :: a70 :: a71 :: a72 :: a73 :: a74 :: a75 :: a76 :: r) v = some (a0 :: a1 :: a2 :: a3 :: a4 :: a5 :: a6 :: a7 :: a8 :: a9 :: a10 :: a11 :: a12 :: a13 :: a14 :: a15 :: a16 :: a17 :: a18 :: a19 :: a20 :: a21 :: a22 :: a23 :: a24 :: a25 :: a26 :: a27 :: a28 :: a29 :: a30 :: a31 :: a32 :: a33 :: a34 :: a35 :: a36 :: a37 :: a38 :: a39 :: a40 :: a41 :: a42 :: a43 :: a44 :: a45 :: a46 :: a47 :: a48 :: a49 :: a50 :: a51 :: a52 :: a53 :: a54 :: a55 :: a56 :: a57 :: a58 :: a59 :: a60 :: a61 :: a62 :: a63 :: a64 :: a65 :: a66 :: a67 :: a68 :: a69 :: a70 :: a71 :: a72 :: a73 :: a74 :: a75 :: v :: r) := rfl
theorem gt77 {a0 a1 a2 a3 a4 a5 a6 a7 a8 a9 a10 a11 a12 a13 a14 a15 a16 a17 a18 a19 a20 a21 a22 a23 a24 a25 a26 a27 a28 a29 a30 a31 a32 a33 a34 a35 a36 a37 a38 a39 a40 a41 a42 a43 a44 a45 a46 a47 a48 a49 a50 a51 a52 a53 a54 a55 a56 a57 a58 a59 a60 a61 a62 a63 a64 a65 a66 a67 a68 a69 a70 a71 a72 a73 a74 a75 a76 a77 : AV} : evo (a0 :: a1 :: a2 :: a3 :: a4 :: a5 :: a6 :: a7 :: a8 :: a9 :: a10 :: a11 :: a12 :: a13 :: a14 :: a15 :: a16 :: a17 :: a18 :: a19 :: a20 :: a21 :: a22 :: a23 :: a24 :: a25 :: a26 :: a27 :: a28 :: a29 :: a30 :: a31 :: a32 :: a33 :: a34 :: a35 :: a36 :: a37 :: a38 :: a39 :: a40 :: a41 :: a42 :: a43 :: a44 :: a45 :: a46 :: a47 :: a48 :: a49 :: a50 :: a51 :: a52 :: a53 :: a54 :: a55 :: a56 :: a57 :: a58 :: a59 :: a60 :: a61 :: a62 :: a63 :: a64 :: a65 :: a66 :: a67 :: a68 :: a69 :: a70 :: a71 :: a72 :: a73 :: a74 :: a75 :: a76 :: a77 :: r) (.tmp 77) = some a77 := rfl
theorem st77 {a0 a1 a2 a3 a4 a5 a6 a7 a8 a9 a10 a11 a12 a13 a14 a15 a16 a17 a18 a19 a20 a21 a22 a23 a24 a25 a26 a27 a28 a29 a30 a31 a32 a33 a34 a35 a36 a37 a38 a39 a40 a41 a42 a43 a44 a45 a46 a47 a48 a49 a50 a51 a52 a53 a54 a55 a56 a57 a58 a59 a60 a61 a62 a63 a64 a65 a66 a67 a68 a69 a70 a71 a72 a73 a74 a75 a76 a77 : AV} : dso (some 77) (a0 :: a1 :: a2 :: a3 :: a4 :: a5 :: a6 :: a7 :: a8 :: a9 :: a10 :: a11 :: a12 :: a13 :: a14 :: a15 :: a16 :: a17 :: a18 :: a19 :: a20 :: a21 :: a22 :: a23 :: a24 :: a25 :: a26 :: a27 :: a28 :: a29 :: a30 :: a31 :: a32 :: a33 :: a34 :: a35 :: a36 :: a37 :: a38 :: a39 :: a40 :: a41 :: a42 :: a43 :: a44 :: a45 :: a46 :: a47 :: a48 :: a49 :: a50 :: a51 :: a52 :: a53 :: a54 :: a55 :: a56 :: a57 :: a58 :: a59 :: a60 :: a61 :: a62 :: a63 :: a64 :: a65 :: a66 :: a67 :: a68 :: a69 :: a70 :: a71 :: a72 :: a73 :: a74 :: a75 :: a76 :: a77 :: r) v = some (a0 :: a1 :: a2 :: a3 :: a4 :: a5 :: a6 :: a7 :: a8 :: a9 :: a10 :: a11 :: a12 :: a13 :: a14 :: a15 :: a16 :: a17 :: a18 :: a19 :: a20 :: a21 :: a22 :: a23 :: a24 :: a25 :: a26 :: a27 :: a28 :: a29 :: a30 :: a31 :: a32 :: a33 :: a34 :: a35 :: a36 :: a37 :: a38 :: a39 :: a40 :: a41 :: a42 :: a43 :: a44 :: a45 :: a46 :: a47 :: a48 :: a49 :: a50 :: a51 :: a52 :: a53 :: a54 :: a55 :: a56 :: a57 :: a58 :: a59 :: a60 :: a61 :: a62 :: a63 :: a64 :: a65 :: a66 :: a67 :: a68 :: a69 :: a70 :: a71 :: a72 :: a73 :: a74 :: a75 :: a76 :: v :: r) := rfl
end
def fvOp : Nat → AV
  | 1 => .fn (.func 95) [] []
  | 2 => .fn (.func 96) [] []
  | 3 => .fn (.func 97) [] []
  | _ => .nilf
def fnOp : Nat → FuncId
  | 1 => 95
  | 2 => 96
  | 3 => 97
  | _ => 0
theorem fvlOp (c n m : Nat) : (fvOp c).low n m = true := by unfold fvOp; split <;> rfl
theorem fvtOp (P : Program) (t : TypeId) (c : Nat) : tyfix P t (fvOp c) = fvOp c := by unfold fvOp; split <;> rfl
def GRule.row (x : GRule) : List AV := [.int .u8 x.rep, .sl 1 (x.path.map strRow), .int .u8 x.kinds, .bool x.allow, .bool x.read]
def GActor.row (x : GActor) : List AV := [.int .u8 x.rep, .int .u32 x.inc]
def GDot.row (x : GDot) : List AV := [.int .u8 x.actor.rep, .int .u32 x.actor.inc, .int .u64 x.seq]
def GOp.row (x : GOp) : List AV := [.int .u8 x.kind, .sl 1 (x.path.map strRow), .int .i64 x.n, .str x.text, .sl 3 (x.dots.map GDot.row)]
def GOpKind.row (x : GOpKind) : List AV := [.int .u8 x.leaf, fvOp x.may]
theorem el45 : El Try.prog 45 3 1 := mkEl Try.underlying45 (by kernel_rfl)
theorem ty3 : Ty Try.prog 3 (.int .i64) 1 := mkTy Try.underlying3 (by kernel_rfl)
theorem el42 : El Try.prog 42 48 5 := mkEl Try.underlying42 (by kernel_rfl)
theorem fo48x1 : Fo Try.prog 48 1 1 28 1 := mkFo (by kernel_rfl) (by kernel_rfl)
theorem ty28 : Ty Try.prog 28 (.slice 9) 1 := mkTy Try.underlying28 (by kernel_rfl)
theorem el28 : El Try.prog 28 9 1 := mkEl Try.underlying28 (by kernel_rfl)
theorem ty9 : Ty Try.prog 9 .string 1 := mkTy Try.underlying9 (by kernel_rfl)
theorem fo31x4 : Fo Try.prog 31 4 4 29 1 := mkFo (by kernel_rfl) (by kernel_rfl)
theorem ty29 : Ty Try.prog 29 (.slice 27) 1 := mkTy Try.underlying29 (by kernel_rfl)
theorem el29 : El Try.prog 29 27 3 := mkEl Try.underlying29 (by kernel_rfl)
theorem fo31x1 : Fo Try.prog 31 1 1 28 1 := mkFo (by kernel_rfl) (by kernel_rfl)
theorem fo31x3 : Fo Try.prog 31 3 3 9 1 := mkFo (by kernel_rfl) (by kernel_rfl)
theorem ty48 : ∃ d, Ty Try.prog 48 d 5 ∧ isAggD d = true := ⟨_, mkTy Try.underlying48 (by kernel_rfl), by kernel_rfl⟩
theorem ty4 : Ty Try.prog 4 .bool 1 := mkTy Try.underlying4 (by kernel_rfl)
theorem fo48x0 : Fo Try.prog 48 0 0 5 1 := mkFo (by kernel_rfl) (by kernel_rfl)
theorem ty5 : Ty Try.prog 5 (.int .u8) 1 := mkTy Try.underlying5 (by kernel_rfl)
theorem fo48x2 : Fo Try.prog 48 2 2 5 1 := mkFo (by kernel_rfl) (by kernel_rfl)
theorem ze48 : zeroC Try.prog 48 = some [.int .u8 0, .osl none 1 [], .int .u8 0, .bool false, .bool false] := by kernel_rfl
theorem fo31x0 : Fo Try.prog 31 0 0 5 1 := mkFo (by kernel_rfl) (by kernel_rfl)
theorem fo31x2 : Fo Try.prog 31 2 2 2 1 := mkFo (by kernel_rfl) (by kernel_rfl)
theorem ty2 : Ty Try.prog 2 (.int .i64) 1 := mkTy Try.underlying2 (by kernel_rfl)
theorem fo24x0 : Fo Try.prog 24 0 0 5 1 := mkFo (by kernel_rfl) (by kernel_rfl)
theorem fo24x1 : Fo Try.prog 24 1 1 22 1 := mkFo (by kernel_rfl) (by kernel_rfl)
theorem ty22 : Ty Try.prog 22 (.int .u32) 1 := mkTy Try.underlying22 (by kernel_rfl)
theorem fo27x0 : Fo Try.prog 27 0 0 24 2 := mkFo (by kernel_rfl) (by kernel_rfl)
theorem ty24 : ∃ d, Ty Try.prog 24 d 2 ∧ isAggD d = true := ⟨_, mkTy Try.underlying24 (by kernel_rfl), by kernel_rfl⟩
theorem fo27x1 : Fo Try.prog 27 1 2 25 1 := mkFo (by kernel_rfl) (by kernel_rfl)
theorem ty25 : Ty Try.prog 25 (.int .u64) 1 := mkTy Try.underlying25 (by kernel_rfl)
theorem mixed : Try.prog.follows .mixedOrders = true := by kernel_rfl
theorem ze3 : zeroC Try.prog 3 = some [.int .i64 0] := by kernel_rfl
theorem ty27 : ∃ d, Ty Try.prog 27 d 3 ∧ isAggD d = true := ⟨_, mkTy Try.underlying27 (by kernel_rfl), by kernel_rfl⟩
theorem ze27 : zeroC Try.prog 27 = some [.int .u8 0, .int .u32 0, .int .u64 0] := by kernel_rfl
theorem ze92 : zeroC Try.prog 92 = some [.int .u8 0, .nilf] := by kernel_rfl
noncomputable def sf92 : Array Field := match Try.prog.underlying 92 with | some (.struct fs) => fs | _ => #[]
theorem su92 : Try.prog.underlying 92 = some (.struct sf92) := by kernel_rfl
theorem pl92 : placesL Try.prog sf92 = some [(0, 1), (1, 1)] := by kernel_rfl
theorem ty130 : Ty Try.prog 130 (.array 6 92) 12 := mkTy Try.underlying130 (by kernel_rfl)
theorem ze130 : zeroC Try.prog 130 = some [.int .u8 0, .nilf, .int .u8 0, .nilf, .int .u8 0, .nilf, .int .u8 0, .nilf, .int .u8 0, .nilf, .int .u8 0, .nilf] := by kernel_rfl
theorem ty92 : ∃ d, Ty Try.prog 92 d 2 ∧ isAggD d = true := ⟨_, mkTy Try.underlying92 (by kernel_rfl), by kernel_rfl⟩
theorem fo92x1 : Fo Try.prog 92 1 1 34 1 := mkFo (by kernel_rfl) (by kernel_rfl)
theorem ty34 : Ty Try.prog 34 (.func #[31] #[4] false) 1 := mkTy Try.underlying34 (by kernel_rfl)
theorem ty31 : ∃ d, Ty Try.prog 31 d 5 ∧ isAggD d = true := ⟨_, mkTy Try.underlying31 (by kernel_rfl), by kernel_rfl⟩
theorem fo48x3 : Fo Try.prog 48 3 3 4 1 := mkFo (by kernel_rfl) (by kernel_rfl)
theorem ze9 : zeroC Try.prog 9 = some [.str []] := by kernel_rfl
noncomputable def sf48 : Array Field := match Try.prog.underlying 48 with | some (.struct fs) => fs | _ => #[]
theorem su48 : Try.prog.underlying 48 = some (.struct sf48) := by kernel_rfl
theorem pl48 : placesL Try.prog sf48 = some [(0, 1), (1, 1), (2, 1), (3, 1), (4, 1)] := by kernel_rfl
noncomputable def sf31 : Array Field := match Try.prog.underlying 31 with | some (.struct fs) => fs | _ => #[]
theorem su31 : Try.prog.underlying 31 = some (.struct sf31) := by kernel_rfl
theorem ze31 : zeroC Try.prog 31 = some [.int .u8 0, .osl none 1 [], .int .i64 0, .str [], .osl none 3 []] := by kernel_rfl
theorem pl31 : placesL Try.prog sf31 = some [(0, 1), (1, 1), (2, 1), (3, 1), (4, 1)] := by kernel_rfl
theorem fo48x4 : Fo Try.prog 48 4 4 4 1 := mkFo (by kernel_rfl) (by kernel_rfl)
/-! cmp.Or[int] -/
theorem ok131 {vals0 : (List Int)} {res : Int} {h : AH}  (hF : cmpOrInt vals0 = some res) : Spec Try.prog 131 [.sl 1 (vals0.map (intRow .i64))] h (fun rr hh => rr = .int .i64 res ∧ hh = h) := by
  unfold cmpOrInt at hF
  refine spec_of_body_ext Try.func131 rfl (by kernel_rfl) (env := [.sl 1 (vals0.map (intRow .i64)), aundef, aundef, aundef, aundef, aundef, aundef, aundef, aundef, aundef, aundef, aundef, aundef, aundef, aundef, aundef, aundef, aundef]) (by rfl) ?_
  refine r_seq ?_
  refine r_region ?_
  refine ops_ok rfl (s_assign rfl rfl (tyo_ok rfl)) st2 ?_
  refine ops_nil ?_
  refine q_seq ?_
  refine r_seq ?_
  refine r_region ?_
  refine ops_ok rfl (s_assign rfl rfl (tyo_ok rfl)) st3 ?_
  refine ops_nil ?_
  refine q_seq ?_
  refine r_seq ?_
  refine r_seq ?_
  refine r_region ?_
  refine ops_ok rfl (s_move rfl gt0 (tyo_ok rfl)) st6 ?_
  refine ops_len rfl (s_lenSl rfl rfl rfl rfl el45 gt6 lenMap) st7 fun hn1 => ?_
  replace hn1 := lenN hn1
  refine ops_ok rfl (s_move rfl rfl (tyo_ok rfl)) st8 ?_
  refine ops_nil ?_
  refine q_seq ?_
  refine r_block ?_
  refine r_loopLF (fun (n1 : Nat) (s1 : Unit) => [(0, .any), (1, .any), (2, .any), (4, .any), (5, .any), (8, .int .i64 (n1 : Int)), (9, .any), (10, .any), (11, .any), (12, .any), (13, .any), (14, .any), (15, .any), (16, .any), (17, .any)]) (fun s1 => h.ext [] []) hF (fun _ _ => by simp only [upd, List.set_cons_succ, List.set_cons_zero]; try rfl) (wk.le (by exact (.drop (.drop (.drop (.eq (.drop (.drop (.eq (.eq (.cons (leV.of_eq rfl) (.drop (.drop (.drop (.drop (.drop (.drop (.drop (.drop (.drop leL.nil)))))))))))))))))))) ?_
  intro n1 s1 hi1 hF
  refine r_seq ?_
  refine r_region ?_
  refine ops_ok rfl (s_bin rfl gt8 gt7 rfl) st9 ?_
  refine ops_nil ?_
  refine q_seq ?_
  refine r_seq ?_
  refine r_condL gt9 hF (fun x1 o1 hl1 hx1 hF hK1 => ?_) (fun hF => ?_)
  · skip
    refine r_skip ?_
    refine q_seq ?_
    refine r_seq ?_
    refine r_block ?_
    refine r_seq ?_
    refine r_region ?_
    refine ops_ok rfl (s_idxRow rfl el45 gt6 gt8 isl (idx_of hx1)) st10 ?_
    refine ops_ok rfl (f_load rfl ty3 gt10 (ldC_one rfl) (tyo_ok rfl)) st11 ?_
    refine ops_ok rfl (s_assign rfl gt11 (tyo_ok rfl)) st5 ?_
    refine ops_nil ?_
    refine q_seq ?_
    refine r_seq ?_
    refine r_region ?_
    refine ops_ok rfl (s_move rfl gt5 (tyo_ok rfl)) st12 ?_
    refine ops_ok rfl (s_move rfl gt3 (tyo_ok rfl)) st13 ?_
    refine ops_ok rfl (s_bin rfl gt12 gt13 rfl) st14 ?_
    refine ops_nil ?_
    refine q_seq ?_
    refine r_condF gt14 hF (fun hc6 hF => ?_) (fun hc6 hF => ?_)
    · skip
      refine r_seq ?_
      refine r_region ?_
      refine ops_ok rfl (s_move rfl gt5 (tyo_ok rfl)) st15 ?_
      refine ops_ok rfl (s_assign rfl gt15 (tyo_ok rfl)) st2 ?_
      refine ops_nil ?_
      refine q_seq ?_
      refine r_ret ?_
      refine q_block_ret ?_
      refine q_seq_ret ?_
      refine q_loop_ret ?_
      obtain rfl := Option.some.inj hF
      replace hF := hK1
      refine q_block_ret ?_
      refine q_seq_ret ?_
      obtain rfl := Option.some.inj hF
      refine q_retL1 rfl (rl_tmp gt2 rl_nil) (fin_ext (leV.refl _) rfl ?_)
      exact ⟨rfl, rfl⟩
    · skip
      refine r_skip ?_
      refine q_block ?_
      refine q_seq ?_
      refine r_region ?_
      refine ops_ok rfl (s_bin rfl gt8 rfl rfl) st16 ?_
      refine ops_ok rfl (s_move rfl gt16 (tyo_ok rfl)) st8 ?_
      refine ops_nil ?_
      refine q_loop ?_
      obtain rfl := Option.some.inj hF
      exact ⟨(), hl1, hK1, wk.le (by exact (.drop (.drop (.drop (.eq (.drop (.drop (.eq (.eq (.cons (leV.of_eq (w64e (by omega) (by omega))) (.drop (.drop (.drop (.drop (.drop (.drop (.drop (.drop (.drop leL.nil)))))))))))))))))))⟩
  · skip
    refine r_exit ?_
    refine q_seq_exit ?_
    refine q_loop_exit ?_
    refine q_block_hit ?_
    refine q_seq ?_
    refine r_seq ?_
    refine r_region ?_
    refine ops_ok rfl (s_move rfl gt3 (tyo_ok rfl)) st17 ?_
    refine ops_ok rfl (s_assign rfl gt17 (tyo_ok rfl)) st2 ?_
    refine ops_nil ?_
    refine q_seq ?_
    refine r_ret ?_
    obtain rfl := Option.some.inj hF
    refine q_retL1 rfl (rl_tmp gt2 rl_nil) (fin_ext (leV.refl _) rfl ?_)
    exact ⟨rfl, rfl⟩
/-! varve/varveref42.Great -/
theorem ok60 {l0 : (List GRule)} {res : Bool} {h : AH}  (hF : ref42Great l0 = some res) : Spec Try.prog 60 [.sl 5 (l0.map GRule.row)] h (fun rr hh => rr = .bool res ∧ hh = h) := by
  unfold ref42Great at hF
  refine spec_of_body_ext Try.func60 rfl (by kernel_rfl) (env := [.sl 5 (l0.map GRule.row), aundef, aundef, aundef, aundef, aundef, aundef, aundef, aundef, aundef, aundef, aundef, aundef, aundef, aundef, aundef, aundef, aundef, aundef, aundef, aundef, aundef, aundef, aundef, aundef, aundef, aundef, aundef, aundef, aundef, aundef, aundef, aundef, aundef, aundef, aundef, aundef, aundef, aundef, aundef, aundef]) (by rfl) ?_
  refine r_seq ?_
  refine r_region ?_
  refine ops_ok rfl (s_assign rfl rfl (tyo_ok rfl)) st2 ?_
  refine ops_nil ?_
  refine q_seq ?_
  refine r_seq ?_
  refine r_seq ?_
  refine r_region ?_
  refine ops_ok rfl (s_assign rfl rfl (tyo_ok rfl)) st3 ?_
  refine ops_nil ?_
  refine q_seq ?_
  refine r_block ?_
  refine r_loopLF (fun (n1 : Nat) (s1 : Unit) => [(1, .any), (2, .any), (3, .int .i64 (n1 : Int)), (4, .any), (5, .any), (6, .any), (7, .any), (8, .any), (9, .any), (10, .any), (11, .any), (12, .any), (13, .any), (14, .any), (15, .any), (16, .any), (17, .any), (18, .any), (19, .any), (20, .any), (21, .any), (22, .any), (23, .any), (24, .any), (25, .any), (26, .any), (27, .any), (28, .any), (29, .any), (30, .any), (31, .any), (32, .any), (33, .any), (34, .any), (35, .any), (36, .any), (37, .any), (38, .any), (39, .any), (40, .any)]) (fun s1 => h.ext [] []) hF (fun _ _ => by simp only [upd, List.set_cons_succ, List.set_cons_zero]; try rfl) (wk.le (by exact (.eq (.drop (.drop (.cons (leV.of_eq rfl) (.drop (.drop (.drop (.drop (.drop (.drop (.drop (.drop (.drop (.drop (.drop (.drop (.drop (.drop (.drop (.drop (.drop (.drop (.drop (.drop (.drop (.drop (.drop (.drop (.drop (.drop (.drop (.drop (.drop (.drop (.drop (.drop (.drop (.drop (.drop (.drop (.drop leL.nil))))))))))))))))))))))))))))))))))))))))))) ?_
  intro n1 s1 hi1 hF
  refine r_seq ?_
  refine r_seq ?_
  refine r_region ?_
  refine ops_ok rfl (s_move rfl gt3 (tyo_ok rfl)) st5 ?_
  refine ops_ok rfl (s_move rfl gt0 (tyo_ok rfl)) st6 ?_
  refine ops_len rfl (s_lenSl rfl rfl rfl rfl el42 gt6 lenMap) st7 fun hn26 => ?_
  replace hn26 := lenN hn26
  refine ops_ok rfl (s_bin rfl gt5 gt7 rfl) st8 ?_
  refine ops_nil ?_
  refine q_seq ?_
  refine r_condL gt8 hF (fun x1 o1 hl1 hx1 hF hK1 => ?_) (fun hF => ?_)
  · skip
    refine r_skip ?_
    refine q_seq ?_
    refine r_seq ?_
    refine r_block ?_
    refine r_seq ?_
    refine r_seq ?_
    refine r_region ?_
    refine ops_ok rfl (s_move rfl gt0 (tyo_ok rfl)) st11 ?_
    refine ops_ok rfl (s_move rfl gt3 (tyo_ok rfl)) st12 ?_
    refine ops_ok rfl (s_idxRow rfl el42 gt11 gt12 isl (idx_of hx1)) st13 ?_
    refine ops_ok rfl (s_fieldAddr rfl fo48x1 gt13 rfl) st14 ?_
    refine ops_ok rfl (f_load rfl ty28 gt14 (ldC_one rfl) (tyo_ok rfl)) st15 ?_
    refine ops_len rfl (s_lenSl rfl rfl rfl rfl el28 gt15 lenMap) st16 fun hn27 => ?_
    replace hn27 := lenN hn27
    refine ops_ok rfl (s_bin rfl gt16 rfl rfl) st17 ?_
    refine ops_nil ?_
    refine q_seq ?_
    refine r_condF gt17 hF (fun hc28 hF => ?_) (fun hc28 hF => ?_)
    · skip
      refine r_seq ?_
      refine r_region ?_
      refine ops_ok rfl (s_assign rfl rfl (tyo_ok rfl)) st2 ?_
      refine ops_nil ?_
      refine q_seq ?_
      refine r_ret ?_
      refine q_seq_ret ?_
      refine q_block_ret ?_
      refine q_seq_ret ?_
      refine q_loop_ret ?_
      obtain rfl := Option.some.inj hF
      replace hF := hK1
      refine q_block_ret ?_
      refine q_seq_ret ?_
      obtain rfl := Option.some.inj hF
      refine q_retL1 rfl (rl_tmp gt2 rl_nil) (fin_ext (leV.refl _) rfl ?_)
      exact ⟨rfl, rfl⟩
    · skip
      refine r_skip ?_
      refine q_seq ?_
      refine r_seq ?_
      refine r_region ?_
      refine ops_ok rfl (s_assign rfl rfl (tyo_ok rfl)) st4 ?_
      refine ops_nil ?_
      refine q_seq ?_
      refine r_block ?_
      refine r_loopLF (fun (n2 : Nat) (s2 : Unit) => [(1, .any), (2, .any), (4, .int .i64 (n2 : Int)), (5, .any), (6, .any), (7, .any), (8, .any), (9, .any), (10, .any), (11, .any), (12, .any), (13, .any), (14, .any), (15, .any), (16, .any), (17, .any), (18, .any), (19, .any), (20, .any), (21, .any), (22, .any), (23, .any), (24, .any), (25, .any), (26, .any), (27, .any), (28, .any), (29, .any), (30, .any), (31, .any), (32, .any), (33, .any), (34, .any), (35, .any), (36, .any), (37, .any), (38, .any), (39, .any), (40, .any)]) (fun s2 => h.ext [] []) hF (fun _ _ => by simp only [upd, List.set_cons_succ, List.set_cons_zero]; try rfl) (wk.le (by exact (.eq (.drop (.drop (.eq (.cons (leV.of_eq rfl) (.drop (.drop (.drop (.drop (.drop (.drop (.drop (.drop (.drop (.drop (.drop (.drop (.drop (.drop (.drop (.drop (.drop (.drop (.drop (.drop (.drop (.drop (.drop (.drop (.drop (.drop (.drop (.drop (.drop (.drop (.drop (.drop (.drop (.drop (.drop (.drop leL.nil))))))))))))))))))))))))))))))))))))))))))) ?_
      intro n2 s2 hi2 hF
      refine r_seq ?_
      refine r_seq ?_
      refine r_region ?_
      refine ops_ok rfl (s_move rfl gt4 (tyo_ok rfl)) st18 ?_
      refine ops_ok rfl (s_move rfl gt0 (tyo_ok rfl)) st19 ?_
      refine ops_ok rfl (s_move rfl gt3 (tyo_ok rfl)) st20 ?_
      refine ops_ok rfl (s_idxRow rfl el42 gt19 gt20 isl (idx_of hx1)) st21 ?_
      refine ops_ok rfl (s_fieldAddr rfl fo48x1 gt21 rfl) st22 ?_
      refine ops_ok rfl (f_load rfl ty28 gt22 (ldC_one rfl) (tyo_ok rfl)) st23 ?_
      refine ops_len rfl (s_lenSl rfl rfl rfl rfl el28 gt23 lenMap) st24 fun hn36 => ?_
      replace hn36 := lenN hn36
      refine ops_ok rfl (s_bin rfl gt18 gt24 rfl) st25 ?_
      refine ops_nil ?_
      refine q_seq ?_
      refine r_condL gt25 hF (fun x2 o2 hl2 hx2 hF hK2 => ?_) (fun hF => ?_)
      · skip
        refine r_skip ?_
        refine q_seq ?_
        refine r_seq ?_
        refine r_block ?_
        refine r_seq ?_
        refine r_region ?_
        refine ops_ok rfl (s_move rfl gt0 (tyo_ok rfl)) st28 ?_
        refine ops_ok rfl (s_move rfl gt3 (tyo_ok rfl)) st29 ?_
        refine ops_ok rfl (s_idxRow rfl el42 gt28 gt29 isl (idx_of hx1)) st30 ?_
        refine ops_ok rfl (s_fieldAddr rfl fo48x1 gt30 rfl) st31 ?_
        refine ops_ok rfl (f_load rfl ty28 gt31 (ldC_one rfl) (tyo_ok rfl)) st32 ?_
        refine ops_ok rfl (s_move rfl gt4 (tyo_ok rfl)) st33 ?_
        refine ops_ok rfl (s_idxRow rfl el28 gt32 gt33 isl (idx_of hx2)) st34 ?_
        refine ops_ok rfl (f_load rfl ty9 gt34 (ldC_one rfl) (tyo_ok rfl)) st35 ?_
        refine ops_len rfl (s_lenStr rfl rfl rfl rfl ty9 gt35) st36 fun hn37 => ?_
        replace hn37 := lenN hn37
        refine ops_ok rfl (s_bin rfl gt36 rfl rfl) st37 ?_
        refine ops_nil ?_
        refine q_seq ?_
        refine r_condF gt37 hF (fun hc38 hF => ?_) (fun hc38 hF => ?_)
        · skip
          refine r_seq ?_
          refine r_region ?_
          refine ops_ok rfl (s_assign rfl rfl (tyo_ok rfl)) st2 ?_
          refine ops_nil ?_
          refine q_seq ?_
          refine r_ret ?_
          refine q_block_ret ?_
          refine q_seq_ret ?_
          refine q_loop_ret ?_
          obtain rfl := Option.some.inj hF
          replace hF := hK2
          refine q_block_ret ?_
          refine q_block_ret ?_
          refine q_seq_ret ?_
          refine q_loop_ret ?_
          obtain rfl := Option.some.inj hF
          replace hF := hK1
          refine q_block_ret ?_
          refine q_seq_ret ?_
          obtain rfl := Option.some.inj hF
          refine q_retL1 rfl (rl_tmp gt2 rl_nil) (fin_ext (leV.refl _) rfl ?_)
          exact ⟨rfl, rfl⟩
        · skip
          refine r_skip ?_
          refine q_block ?_
          refine q_seq ?_
          refine r_region ?_
          refine ops_ok rfl (s_move rfl gt4 (tyo_ok rfl)) st26 ?_
          refine ops_ok rfl (s_bin rfl gt26 rfl rfl) st27 ?_
          refine ops_ok rfl (s_assign rfl gt27 (tyo_ok rfl)) st4 ?_
          refine ops_nil ?_
          refine q_loop ?_
          obtain rfl := Option.some.inj hF
          exact ⟨(), hl2, hK2, wk.le (by exact (.eq (.drop (.drop (.eq (.cons (leV.of_eq (w64e (by omega) (by omega))) (.drop (.drop (.drop (.drop (.drop (.drop (.drop (.drop (.drop (.drop (.drop (.drop (.drop (.drop (.drop (.drop (.drop (.drop (.drop (.drop (.drop (.drop (.drop (.drop (.drop (.drop (.drop (.drop (.drop (.drop (.drop (.drop (.drop (.drop (.drop (.drop leL.nil))))))))))))))))))))))))))))))))))))))))))⟩
      · skip
        refine r_exit ?_
        refine q_seq_exit ?_
        refine q_loop_exit ?_
        refine q_block_hit ?_
        refine q_block ?_
        refine q_seq ?_
        refine r_region ?_
        refine ops_ok rfl (s_move rfl gt3 (tyo_ok rfl)) st9 ?_
        refine ops_ok rfl (s_bin rfl gt9 rfl rfl) st10 ?_
        refine ops_ok rfl (s_assign rfl gt10 (tyo_ok rfl)) st3 ?_
        refine ops_nil ?_
        refine q_loop ?_
        obtain rfl := Option.some.inj hF
        exact ⟨(), hl1, hK1, wk.le (by exact (.eq (.drop (.drop (.cons (leV.of_eq (w64e (by omega) (by omega))) (.drop (.drop (.drop (.drop (.drop (.drop (.drop (.drop (.drop (.drop (.drop (.drop (.drop (.drop (.drop (.drop (.drop (.drop (.drop (.drop (.drop (.drop (.drop (.drop (.drop (.drop (.drop (.drop (.drop (.drop (.drop (.drop (.drop (.drop (.drop (.drop (.drop leL.nil))))))))))))))))))))))))))))))))))))))))))⟩
  · skip
    refine r_exit ?_
    refine q_seq_exit ?_
    refine q_loop_exit ?_
    refine q_block_hit ?_
    refine q_seq ?_
    refine r_seq ?_
    refine r_region ?_
    refine ops_ok rfl (s_move rfl gt0 (tyo_ok rfl)) st38 ?_
    refine ops_len rfl (s_lenSl rfl rfl rfl rfl el42 gt38 lenMap) st39 fun hn39 => ?_
    replace hn39 := lenN hn39
    refine ops_ok rfl (s_bin rfl gt39 rfl rfl) st40 ?_
    refine ops_ok rfl (s_assign rfl gt40 (tyo_ok rfl)) st2 ?_
    refine ops_nil ?_
    refine q_seq ?_
    refine r_ret ?_
    obtain rfl := Option.some.inj hF
    refine q_retL1 rfl (rl_tmp gt2 rl_nil) (fin_ext (leV.refl _) rfl ?_)
    exact ⟨rfl, rfl⟩
/-! varve/varvelaw42.great -/
theorem ok23 {l0 : (List GRule)} {o1 : GOp} {res : Bool} {h : AH}  (hF : law42Xgreat l0 o1 = some res) : Spec Try.prog 23 [.sl 5 (l0.map GRule.row), .agg [.int .u8 o1.kind, .sl 1 (o1.path.map strRow), .int .i64 o1.n, .str o1.text, .sl 3 (o1.dots.map GDot.row)]] h (fun rr hh => rr = .bool res ∧ hh = h) := by
  unfold law42Xgreat at hF
  refine spec_of_body_ext Try.func23 rfl (by kernel_rfl) (env := [.sl 5 (l0.map GRule.row), .agg [.int .u8 o1.kind, .sl 1 (o1.path.map strRow), .int .i64 o1.n, .str o1.text, .sl 3 (o1.dots.map GDot.row)], aundef, aundef, aundef, aundef, aundef, aundef, aundef, aundef, aundef, aundef, aundef, aundef, aundef, aundef, aundef, aundef, aundef, aundef, aundef, aundef, aundef, aundef, aundef]) (by rfl) ?_
  refine r_seq ?_
  refine r_region ?_
  refine ops_ok rfl (e_box (n := 0) rfl gt1 (tyo_ok rfl) rfl rfl) st3 ?_
  refine ops_ok rfl (s_assign rfl rfl (tyo_ok rfl)) st4 ?_
  refine ops_nil ?_
  refine q_seq ?_
  refine r_seq ?_
  refine r_region ?_
  refine ops_ok rfl (s_move rfl gt0 (tyo_ok rfl)) st5 ?_
  refine bindF hF (fun v1 hv1 hF => ?_)
  refine ops_callP rfl (s_call0 rfl rfl rfl (argo_cons gt5 argo_nil) (.cons (tyo_ok rfl) .nil)) (ok60 hv1) st6 ?_
  refine ops_ok rfl (s_move rfl gt6 (tyo_ok rfl)) st7 ?_
  refine ops_gv rfl (fun hb => s_fieldAddr rfl fo31x4 gt3 rfl) st8 ?_
  refine ops_gv rfl (fun hb => e_load rfl ty29 (evo_gv gt8 hb) rfl (ldC_one rfl) (tyo_ok rfl)) st9 ?_
  refine ops_glen rfl (fun hb => s_lenSl rfl rfl rfl rfl el29 (evo_gv gt9 hb) lenMap) st10 fun hn2 => ?_
  refine ops_gv rfl (fun hb => s_bin rfl (evo_gv gt10 hb) rfl rfl) st11 ?_
  refine ops_ok rfl (s_pick rfl gt7 rfl gt11 (pick_or (fun ht => gF ht))) st12 ?_
  refine ops_ok rfl (s_move rfl gt12 (tyo_ok rfl)) st13 ?_
  refine ops_gv rfl (fun hb => s_fieldAddr rfl fo31x1 gt3 rfl) st14 ?_
  refine ops_gv rfl (fun hb => e_load rfl ty28 (evo_gv gt14 hb) rfl (ldC_one rfl) (tyo_ok rfl)) st15 ?_
  refine ops_glen rfl (fun hb => s_lenSl rfl rfl rfl rfl el28 (evo_gv gt15 hb) lenMap) st16 fun hn3 => ?_
  refine ops_gv rfl (fun hb => s_bin rfl (evo_gv gt16 hb) rfl rfl) st17 ?_
  refine ops_ok rfl (s_pick rfl gt13 rfl gt17 (pick_or (fun ht => gF ht))) st18 ?_
  refine ops_ok rfl (s_move rfl gt18 (tyo_ok rfl)) st19 ?_
  refine ops_gv rfl (fun hb => s_fieldAddr rfl fo31x3 gt3 rfl) st20 ?_
  refine ops_gv rfl (fun hb => e_load rfl ty9 (evo_gv gt20 hb) rfl (ldC_one rfl) (tyo_ok rfl)) st21 ?_
  refine ops_glen rfl (fun hb => s_lenStr rfl rfl rfl rfl ty9 (evo_gv gt21 hb)) st22 fun hn4 => ?_
  refine ops_gv rfl (fun hb => s_bin rfl (evo_gv gt22 hb) rfl rfl) st23 ?_
  refine ops_ok rfl (s_pick rfl gt19 rfl gt23 (pick_or (fun ht => gF ht))) st24 ?_
  refine ops_ok rfl (s_assign rfl gt24 (tyo_ok rfl)) st4 ?_
  refine ops_nil ?_
  refine q_seq ?_
  refine r_ret ?_
  obtain rfl := Option.some.inj hF
  refine q_retL1 rfl (rl_tmp gt4 rl_nil) (fin_ext (leV.refl _) rfl ?_)
  exact ⟨rfl, rfl⟩
/-! slices.IndexFunc[[]varve/api.Rule,varve/api.Rule] -/
theorem ok100 {s0 : (List GRule)} {f1 : (GRule → Option Bool)} {ff1 : FuncId} {af1 kf1 : List AV} {res : Int} {h : AH} (hf1 : ∀ x0 v (L : List Blk) (M : List Nat), f1 x0 = some v → Spec Try.prog ff1 (af1 ++ [.agg [.int .u8 x0.rep, .sl 1 (x0.path.map strRow), .int .u8 x0.kinds, .bool x0.allow, .bool x0.read]] ++ kf1) (h.ext L M) (fun rr hh => rr = .bool v ∧ hh = h.ext L M)) (hF : slicesIndexFuncRule s0 f1 = some res) : Spec Try.prog 100 [.sl 5 (s0.map GRule.row), .fn (.func ff1) af1 kf1] h (fun rr hh => rr = .int .i64 res ∧ hh = h) := by
  unfold slicesIndexFuncRule at hF
  refine spec_of_body_extL Try.func100 rfl (by kernel_rfl) (env := [.sl 5 (s0.map GRule.row), .fn (.func ff1) af1 kf1, aundef, aundef, aundef, aundef, aundef, aundef, aundef, aundef, aundef, aundef, aundef, aundef, aundef, aundef, aundef, aundef, aundef]) (by rfl) (fun hlow => ?_)
  simp only [lowL, AV.low, Bool.and_eq_true, Bool.true_and, and_true] at hlow
  have hlaf1 : ∀ n m, h.blks.length ≤ n → h.toks.length ≤ m → lowL n m af1 = true := fun n m h1 h2 => lowL_up h1 h2 _ (by simp [hlow])
  have hlkf1 : ∀ n m, h.blks.length ≤ n → h.toks.length ≤ m → lowL n m kf1 = true := fun n m h1 h2 => lowL_up h1 h2 _ (by simp [hlow])
  refine r_seq ?_
  refine r_region ?_
  refine ops_ok rfl (s_assign rfl rfl (tyo_ok rfl)) st4 ?_
  refine ops_nil ?_
  refine q_seq ?_
  refine r_seq ?_
  refine r_seq ?_
  refine r_region ?_
  refine ops_ok rfl (s_move rfl gt0 (tyo_ok rfl)) st6 ?_
  refine ops_len rfl (s_lenSl rfl rfl rfl rfl el42 gt6 lenMap) st7 fun hn1 => ?_
  replace hn1 := lenN hn1
  refine ops_ok rfl (s_move rfl rfl (tyo_ok rfl)) st8 ?_
  refine ops_nil ?_
  refine q_seq ?_
  refine r_block ?_
  refine r_loopLF (fun (n1 : Nat) (s1 : Unit) => [(2, .any), (3, .any), (4, .any), (5, .any), (6, .any), (8, .int .i64 (n1 : Int)), (9, .any), (10, .any), (11, .any), (12, .any), (13, .any), (14, .any), (15, .any), (16, .any), (17, .any), (18, .any)]) (fun s1 => h.ext [] []) hF (fun _ _ => by simp only [upd, List.set_cons_succ, List.set_cons_zero]; try rfl) (wk.le (by exact (.eq (.eq (.drop (.drop (.drop (.drop (.drop (.eq (.cons (leV.of_eq rfl) (.drop (.drop (.drop (.drop (.drop (.drop (.drop (.drop (.drop (.drop leL.nil))))))))))))))))))))) ?_
  intro n1 s1 hi1 hF
  refine r_seq ?_
  refine r_region ?_
  refine ops_ok rfl (s_bin rfl gt8 gt7 rfl) st9 ?_
  refine ops_nil ?_
  refine q_seq ?_
  refine r_seq ?_
  refine r_condL gt9 hF (fun x1 o1 hl1 hx1 hF hK1 => ?_) (fun hF => ?_)
  · skip
    refine r_skip ?_
    refine q_seq ?_
    refine r_seq ?_
    refine r_block ?_
    refine r_seq ?_
    refine r_region ?_
    refine ops_ok rfl (s_move rfl gt8 (tyo_ok rfl)) st10 ?_
    refine ops_ok rfl (s_assign rfl gt10 (tyo_ok rfl)) st5 ?_
    refine ops_nil ?_
    refine q_seq ?_
    refine r_seq ?_
    refine r_region ?_
    refine ops_ok rfl (s_move rfl gt1 (tyo_ok rfl)) st11 ?_
    refine ops_ok rfl (s_move rfl gt0 (tyo_ok rfl)) st12 ?_
    refine ops_ok rfl (s_move rfl gt5 (tyo_ok rfl)) st13 ?_
    refine ops_ok rfl (s_idxRow rfl el42 gt12 gt13 isl (idx_of hx1)) st14 ?_
    refine ops_ok rfl (f_load rfl ty48.choose_spec.1 gt14 (ldC_agX (cs' := [.int .u8 x1.rep, .sl 1 (x1.path.map strRow), .int .u8 x1.kinds, .bool x1.allow, .bool x1.read]) ty48.choose_spec.2 rfl rfl) (tyo_ok rfl)) st15 ?_
    refine bindF hF (fun v7 hv7 hF => ?_)
    refine ops_callP rfl (s_callC rfl rfl gt11 (argo_cons gt15 argo_nil) (.cons (tyo_ok rfl) .nil) rfl) (hf1 _ _ _ _ hv7) st16 ?_
    refine ops_nil ?_
    refine q_seq ?_
    refine r_condF gt16 hF (fun hc8 hF => ?_) (fun hc8 hF => ?_)
    · skip
      refine r_seq ?_
      refine r_region ?_
      refine ops_ok rfl (s_move rfl gt5 (tyo_ok rfl)) st17 ?_
      refine ops_ok rfl (s_assign rfl gt17 (tyo_ok rfl)) st4 ?_
      refine ops_nil ?_
      refine q_seq ?_
      refine r_ret ?_
      refine q_block_ret ?_
      refine q_seq_ret ?_
      refine q_loop_ret ?_
      obtain rfl := Option.some.inj hF
      replace hF := hK1
      refine q_block_ret ?_
      refine q_seq_ret ?_
      obtain rfl := Option.some.inj hF
      refine q_retL1 rfl (rl_tmp gt4 rl_nil) (fin_ext (leV.refl _) rfl ?_)
      exact ⟨rfl, rfl⟩
    · skip
      refine r_skip ?_
      refine q_block ?_
      refine q_seq ?_
      refine r_region ?_
      refine ops_ok rfl (s_bin rfl gt8 rfl rfl) st18 ?_
      refine ops_ok rfl (s_move rfl gt18 (tyo_ok rfl)) st8 ?_
      refine ops_nil ?_
      refine q_loop ?_
      obtain rfl := Option.some.inj hF
      exact ⟨(), hl1, hK1, wk.le (by exact (.eq (.eq (.drop (.drop (.drop (.drop (.drop (.eq (.cons (leV.of_eq (w64e (by omega) (by omega))) (.drop (.drop (.drop (.drop (.drop (.drop (.drop (.drop (.drop (.drop leL.nil))))))))))))))))))))⟩
  · skip
    refine r_exit ?_
    refine q_seq_exit ?_
    refine q_loop_exit ?_
    refine q_block_hit ?_
    refine q_seq ?_
    refine r_seq ?_
    refine r_region ?_
    refine ops_ok rfl (s_assign rfl rfl (tyo_ok rfl)) st4 ?_
    refine ops_nil ?_
    refine q_seq ?_
    refine r_ret ?_
    obtain rfl := Option.some.inj hF
    refine q_retL1 rfl (rl_tmp gt4 rl_nil) (fin_ext (leV.refl _) rfl ?_)
    exact ⟨rfl, rfl⟩
/-! slices.ContainsFunc[[]varve/api.Rule,varve/api.Rule] -/
theorem ok61 {s0 : (List GRule)} {f1 : (GRule → Option Bool)} {ff1 : FuncId} {af1 kf1 : List AV} {res : Bool} {h : AH} (hf1 : ∀ x0 v (L : List Blk) (M : List Nat), f1 x0 = some v → Spec Try.prog ff1 (af1 ++ [.agg [.int .u8 x0.rep, .sl 1 (x0.path.map strRow), .int .u8 x0.kinds, .bool x0.allow, .bool x0.read]] ++ kf1) (h.ext L M) (fun rr hh => rr = .bool v ∧ hh = h.ext L M)) (hF : slicesContainsFuncRule s0 f1 = some res) : Spec Try.prog 61 [.sl 5 (s0.map GRule.row), .fn (.func ff1) af1 kf1] h (fun rr hh => rr = .bool res ∧ hh = h) := by
  unfold slicesContainsFuncRule at hF
  refine spec_of_body_extL Try.func61 rfl (by kernel_rfl) (env := [.sl 5 (s0.map GRule.row), .fn (.func ff1) af1 kf1, aundef, aundef, aundef, aundef, aundef, aundef, aundef]) (by rfl) (fun hlow => ?_)
  simp only [lowL, AV.low, Bool.and_eq_true, Bool.true_and, and_true] at hlow
  have hlaf1 : ∀ n m, h.blks.length ≤ n → h.toks.length ≤ m → lowL n m af1 = true := fun n m h1 h2 => lowL_up h1 h2 _ (by simp [hlow])
  have hlkf1 : ∀ n m, h.blks.length ≤ n → h.toks.length ≤ m → lowL n m kf1 = true := fun n m h1 h2 => lowL_up h1 h2 _ (by simp [hlow])
  refine r_seq ?_
  refine r_region ?_
  refine ops_ok rfl (s_assign rfl rfl (tyo_ok rfl)) st4 ?_
  refine ops_nil ?_
  refine q_seq ?_
  refine r_seq ?_
  refine r_region ?_
  refine ops_ok rfl (s_move rfl gt0 (tyo_ok rfl)) st5 ?_
  refine ops_ok rfl (s_move rfl gt1 (tyo_ok rfl)) st6 ?_
  refine bindF hF (fun v1 hv1 hF => ?_)
  refine ops_callP rfl (s_call0 rfl rfl rfl (argo_cons gt5 (argo_cons gt6 argo_nil)) (.cons (tyo_ok rfl) (.cons (tyo_ok rfl) .nil))) (ok100 (fun x0 v L M hv => by rw [ext_ext]; exact hf1 x0 v _ _ hv) hv1) st7 ?_
  refine ops_ok rfl (s_bin rfl gt7 rfl rfl) st8 ?_
  refine ops_ok rfl (s_assign rfl gt8 (tyo_ok rfl)) st4 ?_
  refine ops_nil ?_
  refine q_seq ?_
  refine r_ret ?_
  obtain rfl := Option.some.inj hF
  refine q_retL1 rfl (rl_tmp gt4 rl_nil) (fin_ext (leV.refl _) rfl ?_)
  exact ⟨rfl, rfl⟩
/-! varve/op.IsName 1 -/
theorem ok50 {r0 : Int} {res : Bool} {h : AH}  (hF : opIsNameC1 r0 = some res) : Spec Try.prog 50 [.int .i32 r0] h (fun rr hh => rr = .bool res ∧ hh = h) := by
  unfold opIsNameC1 at hF
  refine spec_of_body_ext Try.func50 rfl (by kernel_rfl) (env := [.int .i32 r0, aundef, aundef, aundef, aundef, aundef, aundef, aundef, aundef, aundef, aundef, aundef, aundef, aundef, aundef, aundef, aundef, aundef, aundef, aundef, aundef, aundef, aundef, aundef, aundef]) (by rfl) ?_
  refine r_seq ?_
  refine r_region ?_
  refine ops_ok rfl (s_assign rfl rfl (tyo_ok rfl)) st2 ?_
  refine ops_nil ?_
  refine q_seq ?_
  refine r_seq ?_
  refine r_region ?_
  refine ops_ok rfl (s_move rfl gt0 (tyo_ok rfl)) st3 ?_
  refine ops_ok rfl (s_bin rfl gt3 rfl rfl) st4 ?_
  refine ops_ok rfl (s_move rfl gt4 (tyo_ok rfl)) st5 ?_
  refine ops_gv rfl (fun hb => s_move rfl gt0 (tyo_ok rfl)) st6 ?_
  refine ops_gv rfl (fun hb => s_bin rfl (evo_gv gt6 hb) rfl rfl) st7 ?_
  refine ops_ok rfl (s_pick rfl gt5 rfl gt7 (pick_or (fun ht => gF ht))) st8 ?_
  refine ops_ok rfl (s_move rfl gt8 (tyo_ok rfl)) st9 ?_
  refine ops_gv rfl (fun hb => s_move rfl gt0 (tyo_ok rfl)) st10 ?_
  refine ops_gv rfl (fun hb => s_bin rfl (evo_gv gt10 hb) rfl rfl) st11 ?_
  refine ops_gv rfl (fun hb => s_move rfl (evo_gv gt11 hb) (tyo_ok rfl)) st12 ?_
  refine ops_gv (aG_gv rfl rfl rfl) (fun hb => s_move rfl gt0 (tyo_ok rfl)) st13 ?_
  refine ops_gv (aG_gv rfl rfl rfl) (fun hb => s_bin rfl (evo_gv gt13 hb) rfl rfl) st14 ?_
  refine ops_gv rfl (fun hb => s_pick rfl (evo_gv gt12 hb) rfl gt14 (pick_or (fun ht => gF2 hb ht))) st15 ?_
  refine ops_ok rfl (s_pick rfl gt9 gt15 rfl (pick_and (fun ht => gT ht))) st16 ?_
  refine ops_ok rfl (s_move rfl gt16 (tyo_ok rfl)) st17 ?_
  refine ops_gv rfl (fun hb => s_move rfl gt0 (tyo_ok rfl)) st18 ?_
  refine ops_gv rfl (fun hb => s_bin rfl (evo_gv gt18 hb) rfl rfl) st19 ?_
  refine ops_gv rfl (fun hb => s_move rfl (evo_gv gt19 hb) (tyo_ok rfl)) st20 ?_
  refine ops_gv (aG_gv rfl rfl rfl) (fun hb => s_move rfl gt0 (tyo_ok rfl)) st21 ?_
  refine ops_gv (aG_gv rfl rfl rfl) (fun hb => s_bin rfl (evo_gv gt21 hb) rfl rfl) st22 ?_
  refine ops_gv rfl (fun hb => s_pick rfl (evo_gv gt20 hb) rfl gt22 (pick_or (fun ht => gF2 hb ht))) st23 ?_
  refine ops_ok rfl (s_pick rfl gt17 gt23 rfl (pick_and (fun ht => gT ht))) st24 ?_
  refine ops_ok rfl (s_assign rfl gt24 (tyo_ok rfl)) st2 ?_
  refine ops_nil ?_
  refine q_seq ?_
  refine r_ret ?_
  obtain rfl := Option.some.inj hF
  refine q_retL1 rfl (rl_tmp gt2 rl_nil) (fin_ext (leV.refl _) rfl ?_)
  exact ⟨rfl, rfl⟩
/-! strings.indexFunc -/
theorem ok115 {s0 : Str} {f1 : (Int → Option Bool)} {ff1 : FuncId} {af1 kf1 : List AV} {truth2 : Bool} {res : Int} {h : AH} (hf1 : ∀ x0 v (L : List Blk) (M : List Nat), f1 x0 = some v → Spec Try.prog ff1 (af1 ++ [.int .i32 x0] ++ kf1) (h.ext L M) (fun rr hh => rr = .bool v ∧ hh = h.ext L M)) (hF : stringsXindexFunc s0 f1 truth2 = some res) : Spec Try.prog 115 [.str s0, .fn (.func ff1) af1 kf1, .bool truth2] h (fun rr hh => rr = .int .i64 res ∧ hh = h) := by
  unfold stringsXindexFunc at hF
  refine spec_of_body_extL Try.func115 rfl (by kernel_rfl) (env := [.str s0, .fn (.func ff1) af1 kf1, .bool truth2, aundef, aundef, aundef, aundef, aundef, aundef, aundef, aundef, aundef, aundef, aundef, aundef, aundef, aundef, aundef, aundef, aundef, aundef]) (by rfl) (fun hlow => ?_)
  simp only [lowL, AV.low, Bool.and_eq_true, Bool.true_and, and_true] at hlow
  have hlaf1 : ∀ n m, h.blks.length ≤ n → h.toks.length ≤ m → lowL n m af1 = true := fun n m h1 h2 => lowL_up h1 h2 _ (by simp [hlow])
  have hlkf1 : ∀ n m, h.blks.length ≤ n → h.toks.length ≤ m → lowL n m kf1 = true := fun n m h1 h2 => lowL_up h1 h2 _ (by simp [hlow])
  refine r_seq ?_
  refine r_region ?_
  refine ops_ok rfl (s_assign rfl rfl (tyo_ok rfl)) st6 ?_
  refine ops_nil ?_
  refine q_seq ?_
  refine r_seq ?_
  refine r_seq ?_
  refine r_region ?_
  refine ops_ok rfl (s_move rfl gt0 (tyo_ok rfl)) st9 ?_
  refine ops_ok rfl (e_range (n := 0) rfl ty9 gt9 rfl) st10 ?_
  refine ops_nil ?_
  refine q_seq ?_
  refine r_block ?_
  refine r_loopWF (fun (s1 : Nat) => [(0, .any), (3, .any), (4, .any), (5, .any), (6, .any), (7, .any), (8, .any), (9, .any), (11, .any), (12, .any), (13, .any), (14, .any), (15, .any), (16, .any), (17, .any), (18, .any), (19, .any), (20, .any)]) (fun s1 => h.ext [.siter s0 s1] []) hF (fun _ => by simp only [upd, List.set_cons_succ, List.set_cons_zero]; try rfl) (wk.le (by exact (.drop (.eq (.eq (.drop (.drop (.drop (.drop (.drop (.drop (.drop (.eq (.drop (.drop (.drop (.drop (.drop (.drop (.drop (.drop (.drop (.drop leL.nil))))))))))))))))))))))) ?_
  intro n1 s1 o1 hF hK1
  refine r_seq ?_
  refine r_region ?_
  refine ops_nextF rfl rfl gt10 rfl st11 st11 hF (fun hp5 hF => ?_) (fun hF => ?_)
  · skip
    refine ops_ok rfl (s_extract rfl gt11 rfl (tyo_ok rfl)) st12 ?_
    refine ops_nil ?_
    refine q_seq ?_
    refine r_seq ?_
    refine r_cond gt12 (fun _ => ?_) (fun hh => by cases hh)
    refine r_skip ?_
    refine q_seq ?_
    refine r_block ?_
    refine r_seq ?_
    refine r_region ?_
    refine ops_ok rfl (s_extract rfl gt11 rfl (tyo_ok rfl)) st13 ?_
    refine ops_ok rfl (s_extract rfl gt11 rfl (tyo_ok rfl)) st14 ?_
    refine ops_ok rfl (s_assign rfl gt13 (tyo_ok rfl)) st7 ?_
    refine ops_ok rfl (s_assign rfl gt14 (tyo_ok rfl)) st8 ?_
    refine ops_nil ?_
    refine q_seq ?_
    refine r_seq ?_
    refine r_region ?_
    refine ops_ok rfl (s_move rfl gt1 (tyo_ok rfl)) st15 ?_
    refine ops_ok rfl (s_move rfl gt8 (tyo_ok rfl)) st16 ?_
    refine bindF hF (fun v6 hv6 hF => ?_)
    refine ops_callP rfl (s_callC rfl rfl gt15 (argo_cons gt16 argo_nil) (.cons (tyo_ok rfl) .nil) rfl) (hf1 _ _ _ _ hv6) st17 ?_
    refine ops_ok rfl (s_move rfl gt2 (tyo_ok rfl)) st18 ?_
    refine ops_ok rfl (s_bin rfl gt17 gt18 (bin_boolE ty4)) st19 ?_
    refine ops_nil ?_
    refine q_seq ?_
    refine r_condF gt19 hF (fun hc7 hF => ?_) (fun hc7 hF => ?_)
    · skip
      refine r_seq ?_
      refine r_region ?_
      refine ops_ok rfl (s_move rfl gt7 (tyo_ok rfl)) st20 ?_
      refine ops_ok rfl (s_assign rfl gt20 (tyo_ok rfl)) st6 ?_
      refine ops_nil ?_
      refine q_seq ?_
      refine r_ret ?_
      refine q_block_ret ?_
      refine q_loop_ret ?_
      obtain rfl := Option.some.inj hF
      replace hF := hK1
      refine q_block_ret ?_
      refine q_seq_ret ?_
      obtain rfl := Option.some.inj hF
      refine q_retL1 rfl (rl_tmp gt6 rl_nil) (fin_ext (leV.refl _) rfl ?_)
      exact ⟨rfl, rfl⟩
    · skip
      refine r_skip ?_
      refine q_block ?_
      refine q_loop ?_
      obtain rfl := Option.some.inj hF
      exact ⟨(s1 + (dec s0 s1).2), hK1, wk.le (by exact (.drop (.eq (.eq (.drop (.drop (.drop (.drop (.drop (.drop (.drop (.eq (.drop (.drop (.drop (.drop (.drop (.drop (.drop (.drop (.drop (.drop leL.nil))))))))))))))))))))))⟩
  · skip
    refine ops_ok rfl (s_extract rfl gt11 rfl (tyo_ok rfl)) st12 ?_
    refine ops_nil ?_
    refine q_seq ?_
    refine r_seq ?_
    refine r_cond gt12 (fun hh => by cases hh) (fun _ => ?_)
    refine r_exit ?_
    refine q_seq_exit ?_
    refine q_loop_exit ?_
    obtain rfl := Option.some.inj hF
    replace hF := hK1
    refine q_block_hit ?_
    refine q_seq ?_
    refine r_seq ?_
    refine r_region ?_
    refine ops_ok rfl (s_assign rfl rfl (tyo_ok rfl)) st6 ?_
    refine ops_nil ?_
    refine q_seq ?_
    refine r_ret ?_
    obtain rfl := Option.some.inj hF
    refine q_retL1 rfl (rl_tmp gt6 rl_nil) (fin_ext (leV.refl _) rfl ?_)
    exact ⟨rfl, rfl⟩
/-! strings.IndexFunc -/
theorem ok93 {s0 : Str} {f1 : (Int → Option Bool)} {ff1 : FuncId} {af1 kf1 : List AV} {res : Int} {h : AH} (hf1 : ∀ x0 v (L : List Blk) (M : List Nat), f1 x0 = some v → Spec Try.prog ff1 (af1 ++ [.int .i32 x0] ++ kf1) (h.ext L M) (fun rr hh => rr = .bool v ∧ hh = h.ext L M)) (hF : stringsIndexFunc s0 f1 = some res) : Spec Try.prog 93 [.str s0, .fn (.func ff1) af1 kf1] h (fun rr hh => rr = .int .i64 res ∧ hh = h) := by
  unfold stringsIndexFunc at hF
  refine spec_of_body_extL Try.func93 rfl (by kernel_rfl) (env := [.str s0, .fn (.func ff1) af1 kf1, aundef, aundef, aundef, aundef, aundef, aundef]) (by rfl) (fun hlow => ?_)
  simp only [lowL, AV.low, Bool.and_eq_true, Bool.true_and, and_true] at hlow
  have hlaf1 : ∀ n m, h.blks.length ≤ n → h.toks.length ≤ m → lowL n m af1 = true := fun n m h1 h2 => lowL_up h1 h2 _ (by simp [hlow])
  have hlkf1 : ∀ n m, h.blks.length ≤ n → h.toks.length ≤ m → lowL n m kf1 = true := fun n m h1 h2 => lowL_up h1 h2 _ (by simp [hlow])
  refine r_seq ?_
  refine r_region ?_
  refine ops_ok rfl (s_assign rfl rfl (tyo_ok rfl)) st4 ?_
  refine ops_nil ?_
  refine q_seq ?_
  refine r_seq ?_
  refine r_region ?_
  refine ops_ok rfl (s_move rfl gt0 (tyo_ok rfl)) st5 ?_
  refine ops_ok rfl (s_move rfl gt1 (tyo_ok rfl)) st6 ?_
  refine bindF hF (fun v1 hv1 hF => ?_)
  refine ops_callP rfl (s_call0 rfl rfl rfl (argo_cons gt5 (argo_cons gt6 (argo_cons rfl argo_nil))) (.cons (tyo_ok rfl) (.cons (tyo_ok rfl) (.cons (tyo_ok rfl) .nil)))) (ok115 (fun x0 v L M hv => by rw [ext_ext]; exact hf1 x0 v _ _ hv) hv1) st7 ?_
  refine ops_ok rfl (s_assign rfl gt7 (tyo_ok rfl)) st4 ?_
  refine ops_nil ?_
  refine q_seq ?_
  refine r_ret ?_
  obtain rfl := Option.some.inj hF
  refine q_retL1 rfl (rl_tmp gt4 rl_nil) (fin_ext (leV.refl _) rfl ?_)
  exact ⟨rfl, rfl⟩
/-! strings.ContainsFunc -/
theorem ok51 {s0 : Str} {f1 : (Int → Option Bool)} {ff1 : FuncId} {af1 kf1 : List AV} {res : Bool} {h : AH} (hf1 : ∀ x0 v (L : List Blk) (M : List Nat), f1 x0 = some v → Spec Try.prog ff1 (af1 ++ [.int .i32 x0] ++ kf1) (h.ext L M) (fun rr hh => rr = .bool v ∧ hh = h.ext L M)) (hF : stringsContainsFunc s0 f1 = some res) : Spec Try.prog 51 [.str s0, .fn (.func ff1) af1 kf1] h (fun rr hh => rr = .bool res ∧ hh = h) := by
  unfold stringsContainsFunc at hF
  refine spec_of_body_extL Try.func51 rfl (by kernel_rfl) (env := [.str s0, .fn (.func ff1) af1 kf1, aundef, aundef, aundef, aundef, aundef, aundef, aundef]) (by rfl) (fun hlow => ?_)
  simp only [lowL, AV.low, Bool.and_eq_true, Bool.true_and, and_true] at hlow
  have hlaf1 : ∀ n m, h.blks.length ≤ n → h.toks.length ≤ m → lowL n m af1 = true := fun n m h1 h2 => lowL_up h1 h2 _ (by simp [hlow])
  have hlkf1 : ∀ n m, h.blks.length ≤ n → h.toks.length ≤ m → lowL n m kf1 = true := fun n m h1 h2 => lowL_up h1 h2 _ (by simp [hlow])
  refine r_seq ?_
  refine r_region ?_
  refine ops_ok rfl (s_assign rfl rfl (tyo_ok rfl)) st4 ?_
  refine ops_nil ?_
  refine q_seq ?_
  refine r_seq ?_
  refine r_region ?_
  refine ops_ok rfl (s_move rfl gt0 (tyo_ok rfl)) st5 ?_
  refine ops_ok rfl (s_move rfl gt1 (tyo_ok rfl)) st6 ?_
  refine bindF hF (fun v1 hv1 hF => ?_)
  refine ops_callP rfl (s_call0 rfl rfl rfl (argo_cons gt5 (argo_cons gt6 argo_nil)) (.cons (tyo_ok rfl) (.cons (tyo_ok rfl) .nil))) (ok93 (fun x0 v L M hv => by rw [ext_ext]; exact hf1 x0 v _ _ hv) hv1) st7 ?_
  refine ops_ok rfl (s_bin rfl gt7 rfl rfl) st8 ?_
  refine ops_ok rfl (s_assign rfl gt8 (tyo_ok rfl)) st4 ?_
  refine ops_nil ?_
  refine q_seq ?_
  refine r_ret ?_
  obtain rfl := Option.some.inj hF
  refine q_retL1 rfl (rl_tmp gt4 rl_nil) (fin_ext (leV.refl _) rfl ?_)
  exact ⟨rfl, rfl⟩
/-! varve/op.IsName -/
theorem ok11 {s0 : Str} {res : Bool} {h : AH}  (hF : opIsName s0 = some res) : Spec Try.prog 11 [.str s0] h (fun rr hh => rr = .bool res ∧ hh = h) := by
  unfold opIsName at hF
  refine spec_of_body_ext Try.func11 rfl (by kernel_rfl) (env := [.str s0, aundef, aundef, aundef, aundef, aundef, aundef, aundef, aundef, aundef, aundef, aundef, aundef, aundef, aundef, aundef, aundef, aundef]) (by rfl) ?_
  refine r_seq ?_
  refine r_region ?_
  refine ops_ok rfl (s_assign rfl rfl (tyo_ok rfl)) st2 ?_
  refine ops_nil ?_
  refine q_seq ?_
  refine r_seq ?_
  refine r_region ?_
  refine ops_ok rfl (s_assign rfl rfl (tyo_ok rfl)) st3 ?_
  refine ops_nil ?_
  refine q_seq ?_
  refine r_seq ?_
  refine r_region ?_
  refine ops_ok rfl (s_move rfl gt0 (tyo_ok rfl)) st4 ?_
  refine ops_len rfl (s_lenStr rfl rfl rfl rfl ty9 gt4) st5 fun hn1 => ?_
  replace hn1 := lenN hn1
  refine ops_ok rfl (s_bin rfl gt5 rfl rfl) st6 ?_
  refine ops_ok rfl (s_move rfl gt6 (tyo_ok rfl)) st7 ?_
  refine ops_gv rfl (fun hb => s_move rfl gt0 (tyo_ok rfl)) st8 ?_
  refine ops_glen rfl (fun hb => s_lenStr rfl rfl rfl rfl ty9 (evo_gv gt8 hb)) st9 fun hn2 => ?_
  refine ops_gv rfl (fun hb => s_bin rfl (evo_gv gt9 hb) rfl rfl) st10 ?_
  refine ops_ok rfl (s_pick rfl gt7 gt10 rfl (pick_and (fun ht => gT ht))) st11 ?_
  refine ops_ok rfl (s_move rfl gt11 (tyo_ok rfl)) st12 ?_
  refine ops_gv rfl (fun hb => s_move rfl gt0 (tyo_ok rfl)) st13 ?_
  refine ops_gv rfl (fun hb => s_move rfl gt3 (tyo_ok rfl)) st14 ?_
  refine gbindF hF (fun v3 hv3 hF => ?_)
  refine ops_gcall rfl (fun hb => s_call0 rfl rfl rfl (argo_cons (evo_gv gt13 hb) (argo_cons (evo_gv gt14 hb) argo_nil)) (.cons (tyo_ok rfl) (.cons (tyo_ok rfl) .nil))) (fun hb => ok51 (fun _ v L M hv => ok50  hv) (hv3 hb)) st15 ?_
  refine ops_gv rfl (fun hb => s_un rfl (evo_gv gt15 hb) rfl) st16 ?_
  refine ops_ok rfl (s_pick rfl gt12 gt16 rfl (pick_and (fun ht => gT ht))) st17 ?_
  refine ops_ok rfl (s_assign rfl gt17 (tyo_ok rfl)) st2 ?_
  refine ops_nil ?_
  refine q_seq ?_
  refine r_ret ?_
  obtain rfl := Option.some.inj hF
  refine q_retL1 rfl (rl_tmp gt2 rl_nil) (fin_ext (leV.refl _) rfl ?_)
  exact ⟨rfl, rfl⟩
/-! varve/paths.MayPattern 1 -/
theorem ok72 {s0 : Str} {res : Bool} {h : AH}  (hF : pathsMayPatternC1 s0 = some res) : Spec Try.prog 72 [.str s0] h (fun rr hh => rr = .bool res ∧ hh = h) := by
  unfold pathsMayPatternC1 at hF
  refine spec_of_body_ext Try.func72 rfl (by kernel_rfl) (env := [.str s0, aundef, aundef, aundef, aundef, aundef, aundef, aundef, aundef, aundef]) (by rfl) ?_
  refine r_seq ?_
  refine r_region ?_
  refine ops_ok rfl (s_assign rfl rfl (tyo_ok rfl)) st2 ?_
  refine ops_nil ?_
  refine q_seq ?_
  refine r_seq ?_
  refine r_region ?_
  refine ops_ok rfl (s_move rfl gt0 (tyo_ok rfl)) st3 ?_
  refine ops_ok rfl (s_bin rfl gt3 rfl rfl) st4 ?_
  refine ops_ok rfl (s_move rfl gt4 (tyo_ok rfl)) st5 ?_
  refine ops_gv rfl (fun hb => s_move rfl gt0 (tyo_ok rfl)) st6 ?_
  refine gbindF hF (fun v1 hv1 hF => ?_)
  refine ops_gcall rfl (fun hb => s_call0 rfl rfl rfl (argo_cons (evo_gv gt6 hb) argo_nil) (.cons (tyo_ok rfl) .nil)) (fun hb => ok11 (hv1 hb)) st7 ?_
  refine ops_gv rfl (fun hb => s_un rfl (evo_gv gt7 hb) rfl) st8 ?_
  refine ops_ok rfl (s_pick rfl gt5 gt8 rfl (pick_and (fun ht => gT ht))) st9 ?_
  refine ops_ok rfl (s_assign rfl gt9 (tyo_ok rfl)) st2 ?_
  refine ops_nil ?_
  refine q_seq ?_
  refine r_ret ?_
  obtain rfl := Option.some.inj hF
  refine q_retL1 rfl (rl_tmp gt2 rl_nil) (fin_ext (leV.refl _) rfl ?_)
  exact ⟨rfl, rfl⟩
/-! slices.IndexFunc[[]string,string] -/
theorem ok94 {s0 : (List Str)} {f1 : (Str → Option Bool)} {ff1 : FuncId} {af1 kf1 : List AV} {res : Int} {h : AH} (hf1 : ∀ x0 v (L : List Blk) (M : List Nat), f1 x0 = some v → Spec Try.prog ff1 (af1 ++ [.str x0] ++ kf1) (h.ext L M) (fun rr hh => rr = .bool v ∧ hh = h.ext L M)) (hF : slicesIndexFuncString s0 f1 = some res) : Spec Try.prog 94 [.sl 1 (s0.map strRow), .fn (.func ff1) af1 kf1] h (fun rr hh => rr = .int .i64 res ∧ hh = h) := by
  unfold slicesIndexFuncString at hF
  refine spec_of_body_extL Try.func94 rfl (by kernel_rfl) (env := [.sl 1 (s0.map strRow), .fn (.func ff1) af1 kf1, aundef, aundef, aundef, aundef, aundef, aundef, aundef, aundef, aundef, aundef, aundef, aundef, aundef, aundef, aundef, aundef, aundef]) (by rfl) (fun hlow => ?_)
  simp only [lowL, AV.low, Bool.and_eq_true, Bool.true_and, and_true] at hlow
  have hlaf1 : ∀ n m, h.blks.length ≤ n → h.toks.length ≤ m → lowL n m af1 = true := fun n m h1 h2 => lowL_up h1 h2 _ (by simp [hlow])
  have hlkf1 : ∀ n m, h.blks.length ≤ n → h.toks.length ≤ m → lowL n m kf1 = true := fun n m h1 h2 => lowL_up h1 h2 _ (by simp [hlow])
  refine r_seq ?_
  refine r_region ?_
  refine ops_ok rfl (s_assign rfl rfl (tyo_ok rfl)) st4 ?_
  refine ops_nil ?_
  refine q_seq ?_
  refine r_seq ?_
  refine r_seq ?_
  refine r_region ?_
  refine ops_ok rfl (s_move rfl gt0 (tyo_ok rfl)) st6 ?_
  refine ops_len rfl (s_lenSl rfl rfl rfl rfl el28 gt6 lenMap) st7 fun hn1 => ?_
  replace hn1 := lenN hn1
  refine ops_ok rfl (s_move rfl rfl (tyo_ok rfl)) st8 ?_
  refine ops_nil ?_
  refine q_seq ?_
  refine r_block ?_
  refine r_loopLF (fun (n1 : Nat) (s1 : Unit) => [(2, .any), (3, .any), (4, .any), (5, .any), (6, .any), (8, .int .i64 (n1 : Int)), (9, .any), (10, .any), (11, .any), (12, .any), (13, .any), (14, .any), (15, .any), (16, .any), (17, .any), (18, .any)]) (fun s1 => h.ext [] []) hF (fun _ _ => by simp only [upd, List.set_cons_succ, List.set_cons_zero]; try rfl) (wk.le (by exact (.eq (.eq (.drop (.drop (.drop (.drop (.drop (.eq (.cons (leV.of_eq rfl) (.drop (.drop (.drop (.drop (.drop (.drop (.drop (.drop (.drop (.drop leL.nil))))))))))))))))))))) ?_
  intro n1 s1 hi1 hF
  refine r_seq ?_
  refine r_region ?_
  refine ops_ok rfl (s_bin rfl gt8 gt7 rfl) st9 ?_
  refine ops_nil ?_
  refine q_seq ?_
  refine r_seq ?_
  refine r_condL gt9 hF (fun x1 o1 hl1 hx1 hF hK1 => ?_) (fun hF => ?_)
  · skip
    refine r_skip ?_
    refine q_seq ?_
    refine r_seq ?_
    refine r_block ?_
    refine r_seq ?_
    refine r_region ?_
    refine ops_ok rfl (s_move rfl gt8 (tyo_ok rfl)) st10 ?_
    refine ops_ok rfl (s_assign rfl gt10 (tyo_ok rfl)) st5 ?_
    refine ops_nil ?_
    refine q_seq ?_
    refine r_seq ?_
    refine r_region ?_
    refine ops_ok rfl (s_move rfl gt1 (tyo_ok rfl)) st11 ?_
    refine ops_ok rfl (s_move rfl gt0 (tyo_ok rfl)) st12 ?_
    refine ops_ok rfl (s_move rfl gt5 (tyo_ok rfl)) st13 ?_
    refine ops_ok rfl (s_idxRow rfl el28 gt12 gt13 isl (idx_of hx1)) st14 ?_
    refine ops_ok rfl (f_load rfl ty9 gt14 (ldC_one rfl) (tyo_ok rfl)) st15 ?_
    refine bindF hF (fun v7 hv7 hF => ?_)
    refine ops_callP rfl (s_callC rfl rfl gt11 (argo_cons gt15 argo_nil) (.cons (tyo_ok rfl) .nil) rfl) (hf1 _ _ _ _ hv7) st16 ?_
    refine ops_nil ?_
    refine q_seq ?_
    refine r_condF gt16 hF (fun hc8 hF => ?_) (fun hc8 hF => ?_)
    · skip
      refine r_seq ?_
      refine r_region ?_
      refine ops_ok rfl (s_move rfl gt5 (tyo_ok rfl)) st17 ?_
      refine ops_ok rfl (s_assign rfl gt17 (tyo_ok rfl)) st4 ?_
      refine ops_nil ?_
      refine q_seq ?_
      refine r_ret ?_
      refine q_block_ret ?_
      refine q_seq_ret ?_
      refine q_loop_ret ?_
      obtain rfl := Option.some.inj hF
      replace hF := hK1
      refine q_block_ret ?_
      refine q_seq_ret ?_
      obtain rfl := Option.some.inj hF
      refine q_retL1 rfl (rl_tmp gt4 rl_nil) (fin_ext (leV.refl _) rfl ?_)
      exact ⟨rfl, rfl⟩
    · skip
      refine r_skip ?_
      refine q_block ?_
      refine q_seq ?_
      refine r_region ?_
      refine ops_ok rfl (s_bin rfl gt8 rfl rfl) st18 ?_
      refine ops_ok rfl (s_move rfl gt18 (tyo_ok rfl)) st8 ?_
      refine ops_nil ?_
      refine q_loop ?_
      obtain rfl := Option.some.inj hF
      exact ⟨(), hl1, hK1, wk.le (by exact (.eq (.eq (.drop (.drop (.drop (.drop (.drop (.eq (.cons (leV.of_eq (w64e (by omega) (by omega))) (.drop (.drop (.drop (.drop (.drop (.drop (.drop (.drop (.drop (.drop leL.nil))))))))))))))))))))⟩
  · skip
    refine r_exit ?_
    refine q_seq_exit ?_
    refine q_loop_exit ?_
    refine q_block_hit ?_
    refine q_seq ?_
    refine r_seq ?_
    refine r_region ?_
    refine ops_ok rfl (s_assign rfl rfl (tyo_ok rfl)) st4 ?_
    refine ops_nil ?_
    refine q_seq ?_
    refine r_ret ?_
    obtain rfl := Option.some.inj hF
    refine q_retL1 rfl (rl_tmp gt4 rl_nil) (fin_ext (leV.refl _) rfl ?_)
    exact ⟨rfl, rfl⟩
/-! slices.ContainsFunc[[]string,string] -/
theorem ok52 {s0 : (List Str)} {f1 : (Str → Option Bool)} {ff1 : FuncId} {af1 kf1 : List AV} {res : Bool} {h : AH} (hf1 : ∀ x0 v (L : List Blk) (M : List Nat), f1 x0 = some v → Spec Try.prog ff1 (af1 ++ [.str x0] ++ kf1) (h.ext L M) (fun rr hh => rr = .bool v ∧ hh = h.ext L M)) (hF : slicesContainsFuncString s0 f1 = some res) : Spec Try.prog 52 [.sl 1 (s0.map strRow), .fn (.func ff1) af1 kf1] h (fun rr hh => rr = .bool res ∧ hh = h) := by
  unfold slicesContainsFuncString at hF
  refine spec_of_body_extL Try.func52 rfl (by kernel_rfl) (env := [.sl 1 (s0.map strRow), .fn (.func ff1) af1 kf1, aundef, aundef, aundef, aundef, aundef, aundef, aundef]) (by rfl) (fun hlow => ?_)
  simp only [lowL, AV.low, Bool.and_eq_true, Bool.true_and, and_true] at hlow
  have hlaf1 : ∀ n m, h.blks.length ≤ n → h.toks.length ≤ m → lowL n m af1 = true := fun n m h1 h2 => lowL_up h1 h2 _ (by simp [hlow])
  have hlkf1 : ∀ n m, h.blks.length ≤ n → h.toks.length ≤ m → lowL n m kf1 = true := fun n m h1 h2 => lowL_up h1 h2 _ (by simp [hlow])
  refine r_seq ?_
  refine r_region ?_
  refine ops_ok rfl (s_assign rfl rfl (tyo_ok rfl)) st4 ?_
  refine ops_nil ?_
  refine q_seq ?_
  refine r_seq ?_
  refine r_region ?_
  refine ops_ok rfl (s_move rfl gt0 (tyo_ok rfl)) st5 ?_
  refine ops_ok rfl (s_move rfl gt1 (tyo_ok rfl)) st6 ?_
  refine bindF hF (fun v1 hv1 hF => ?_)
  refine ops_callP rfl (s_call0 rfl rfl rfl (argo_cons gt5 (argo_cons gt6 argo_nil)) (.cons (tyo_ok rfl) (.cons (tyo_ok rfl) .nil))) (ok94 (fun x0 v L M hv => by rw [ext_ext]; exact hf1 x0 v _ _ hv) hv1) st7 ?_
  refine ops_ok rfl (s_bin rfl gt7 rfl rfl) st8 ?_
  refine ops_ok rfl (s_assign rfl gt8 (tyo_ok rfl)) st4 ?_
  refine ops_nil ?_
  refine q_seq ?_
  refine r_ret ?_
  obtain rfl := Option.some.inj hF
  refine q_retL1 rfl (rl_tmp gt4 rl_nil) (fin_ext (leV.refl _) rfl ?_)
  exact ⟨rfl, rfl⟩
/-! varve/paths.parts -/
theorem ok71 {p0 : (List Str)} {res : ((List Str) × Bool)} {h : AH}  (hF : pathsXparts p0 = some res) : Spec Try.prog 71 [.sl 1 (p0.map strRow)] h (fun rr hh => rr = .tup [.sl 1 (res.1.map strRow), .bool res.2] ∧ hh = h) := by
  unfold pathsXparts at hF
  refine spec_of_body_ext Try.func71 rfl (by kernel_rfl) (env := [.sl 1 (p0.map strRow), aundef, aundef, aundef, aundef, aundef, aundef, aundef, aundef, aundef, aundef, aundef, aundef, aundef, aundef, aundef, aundef, aundef, aundef, aundef, aundef, aundef]) (by rfl) ?_
  refine r_seq ?_
  refine r_region ?_
  refine ops_ok rfl (s_assign rfl rfl (ty_nil el28)) st2 ?_
  refine ops_ok rfl (s_assign rfl rfl (tyo_ok rfl)) st3 ?_
  refine ops_nil ?_
  refine q_seq ?_
  refine r_seq ?_
  refine r_seq ?_
  refine r_region ?_
  refine ops_ok rfl (s_move rfl gt0 (tyo_ok rfl)) st5 ?_
  refine ops_len rfl (s_lenSl rfl rfl rfl rfl el28 gt5 lenMap) st6 fun hn1 => ?_
  replace hn1 := lenN hn1
  refine ops_ok rfl (s_assign rfl gt6 (tyo_ok rfl)) st4 ?_
  refine ops_nil ?_
  refine q_seq ?_
  refine r_seq ?_
  refine r_region ?_
  refine ops_ok rfl (s_move rfl gt4 (tyo_ok rfl)) st7 ?_
  refine ops_ok rfl (s_bin rfl gt7 rfl rfl) st8 ?_
  refine ops_ok rfl (s_move rfl gt8 (tyo_ok rfl)) st9 ?_
  refine ops_gv rfl (fun hb => s_move rfl gt0 (tyo_ok rfl)) st10 ?_
  refine ops_gv rfl (fun hb => s_move rfl gt4 (tyo_ok rfl)) st11 ?_
  refine ops_gv rfl (fun hb => s_bin rfl (evo_gv gt11 hb) rfl rfl) st12 ?_
  refine chkF hF (fun hg2 hF => ?_)
  refine ops_gv rfl (fun hb => s_gidxRow default rfl el28 (evo_gv gt10 hb) (evo_gv gt12 hb) isl (hg2 hb)) st13 ?_
  refine ops_gv rfl (fun hb => f_load rfl ty9 (evo_gv gt13 hb) (ldC_one rfl) (tyo_ok rfl)) st14 ?_
  refine ops_gv rfl (fun hb => s_bin rfl (evo_gv gt14 hb) rfl rfl) st15 ?_
  refine ops_ok rfl (s_pick rfl gt9 gt15 rfl (pick_and (fun ht => gT ht))) st16 ?_
  refine ops_nil ?_
  refine q_seq ?_
  refine r_condF gt16 hF (fun hc3 hF => ?_) (fun hc3 hF => ?_)
  · skip
    refine r_seq ?_
    refine r_region ?_
    refine ops_ok rfl (s_move rfl gt0 (tyo_ok rfl)) st17 ?_
    refine ops_ok rfl (s_move rfl gt4 (tyo_ok rfl)) st18 ?_
    refine ops_ok rfl (s_bin rfl gt18 rfl rfl) st19 ?_
    refine bindF hF (fun m4 hm4 hF => ?_)
    refine ops_ok rfl (s_slcSl rfl el28 gt17 (.inl rfl) .none (.some gt19) hm4) st20 ?_
    refine ops_ok rfl (s_assign rfl gt20 (tyo_ok rfl)) st2 ?_
    refine ops_ok rfl (s_assign rfl rfl (tyo_ok rfl)) st3 ?_
    refine ops_nil ?_
    refine q_seq ?_
    refine r_ret ?_
    refine q_seq_ret ?_
    obtain rfl := Option.some.inj hF
    refine q_retL rfl (rl_tmp gt2 (rl_tmp gt3 rl_nil)) (fin_ext (leV.refl _) rfl ?_)
    exact ⟨rfl, rfl⟩
  · skip
    refine r_skip ?_
    refine q_seq ?_
    refine r_seq ?_
    refine r_region ?_
    refine ops_ok rfl (s_move rfl gt0 (tyo_ok rfl)) st21 ?_
    refine ops_ok rfl (s_assign rfl gt21 (tyo_ok rfl)) st2 ?_
    refine ops_ok rfl (s_assign rfl rfl (tyo_ok rfl)) st3 ?_
    refine ops_nil ?_
    refine q_seq ?_
    refine r_ret ?_
    obtain rfl := Option.some.inj hF
    refine q_retL rfl (rl_tmp gt2 (rl_tmp gt3 rl_nil)) (fin_ext (leV.refl _) rfl ?_)
    exact ⟨rfl, rfl⟩
/-! varve/paths.MayPattern -/
theorem ok32 {p0 : (List Str)} {res : Bool} {h : AH}  (hF : pathsMayPattern p0 = some res) : Spec Try.prog 32 [.sl 1 (p0.map strRow)] h (fun rr hh => rr = .bool res ∧ hh = h) := by
  unfold pathsMayPattern at hF
  refine spec_of_body_ext Try.func32 rfl (by kernel_rfl) (env := [.sl 1 (p0.map strRow), aundef, aundef, aundef, aundef, aundef, aundef, aundef, aundef, aundef, aundef, aundef, aundef, aundef, aundef, aundef, aundef, aundef, aundef, aundef, aundef, aundef, aundef, aundef, aundef, aundef, aundef, aundef]) (by rfl) ?_
  refine r_seq ?_
  refine r_region ?_
  refine ops_ok rfl (s_assign rfl rfl (tyo_ok rfl)) st2 ?_
  refine ops_nil ?_
  refine q_seq ?_
  refine r_seq ?_
  refine r_region ?_
  refine ops_ok rfl (s_move rfl gt0 (tyo_ok rfl)) st7 ?_
  refine bindF hF (fun v1 hv1 hF => ?_)
  refine ops_callP rfl (s_call0 rfl rfl rfl (argo_cons gt7 argo_nil) (.cons (tyo_ok rfl) .nil)) (ok71 hv1) st8 ?_
  refine ops_ok rfl (s_move rfl gt8 (tyo_ok rfl)) st6 ?_
  refine ops_ok rfl (s_extract rfl gt6 rfl (tyo_ok rfl)) st9 ?_
  refine ops_ok rfl (s_extract rfl gt6 rfl (tyo_ok rfl)) st10 ?_
  refine ops_ok rfl (s_assign rfl gt9 (tyo_ok rfl)) st3 ?_
  refine ops_ok rfl (s_assign rfl gt10 (tyo_ok rfl)) st4 ?_
  refine ops_nil ?_
  refine q_seq ?_
  refine r_seq ?_
  refine r_region ?_
  refine ops_ok rfl (s_assign rfl rfl (tyo_ok rfl)) st5 ?_
  refine ops_nil ?_
  refine q_seq ?_
  refine r_seq ?_
  refine r_region ?_
  refine ops_ok rfl (s_move rfl gt3 (tyo_ok rfl)) st11 ?_
  refine ops_len rfl (s_lenSl rfl rfl rfl rfl el28 gt11 lenMap) st12 fun hn2 => ?_
  replace hn2 := lenN hn2
  refine ops_ok rfl (s_bin rfl gt12 rfl rfl) st13 ?_
  refine ops_ok rfl (s_move rfl gt13 (tyo_ok rfl)) st14 ?_
  refine ops_gv rfl (fun hb => s_move rfl gt4 (tyo_ok rfl)) st15 ?_
  refine ops_ok rfl (s_pick rfl gt14 rfl gt15 (pick_or (fun ht => gF ht))) st16 ?_
  refine ops_ok rfl (s_move rfl gt16 (tyo_ok rfl)) st17 ?_
  refine ops_gv rfl (fun hb => s_move rfl gt3 (tyo_ok rfl)) st18 ?_
  refine ops_glen rfl (fun hb => s_lenSl rfl rfl rfl rfl el28 (evo_gv gt18 hb) lenMap) st19 fun hn3 => ?_
  refine ops_gv rfl (fun hb => s_bin rfl (evo_gv gt19 hb) rfl rfl) st20 ?_
  refine ops_ok rfl (s_pick rfl gt17 gt20 rfl (pick_and (fun ht => gT ht))) st21 ?_
  refine ops_ok rfl (s_move rfl gt21 (tyo_ok rfl)) st22 ?_
  refine ops_gv rfl (fun hb => s_move rfl gt3 (tyo_ok rfl)) st23 ?_
  refine ops_gv rfl (fun hb => s_move rfl gt5 (tyo_ok rfl)) st24 ?_
  refine gbindF hF (fun v4 hv4 hF => ?_)
  refine ops_gcall rfl (fun hb => s_call0 rfl rfl rfl (argo_cons (evo_gv gt23 hb) (argo_cons (evo_gv gt24 hb) argo_nil)) (.cons (tyo_ok rfl) (.cons (tyo_ok rfl) .nil))) (fun hb => ok52 (fun _ v L M hv => ok72  hv) (hv4 hb)) st25 ?_
  refine ops_gv rfl (fun hb => s_un rfl (evo_gv gt25 hb) rfl) st26 ?_
  refine ops_ok rfl (s_pick rfl gt22 gt26 rfl (pick_and (fun ht => gT ht))) st27 ?_
  refine ops_ok rfl (s_assign rfl gt27 (tyo_ok rfl)) st2 ?_
  refine ops_nil ?_
  refine q_seq ?_
  refine r_ret ?_
  obtain rfl := Option.some.inj hF
  refine q_retL1 rfl (rl_tmp gt2 rl_nil) (fin_ext (leV.refl _) rfl ?_)
  exact ⟨rfl, rfl⟩
/-! varve/rights.mayOne -/
theorem ok63 {x0 : GRule} {res : Bool} {h : AH}  (hF : rightsXmayOne x0 = some res) : Spec Try.prog 63 [.agg [.int .u8 x0.rep, .sl 1 (x0.path.map strRow), .int .u8 x0.kinds, .bool x0.allow, .bool x0.read]] h (fun rr hh => rr = .bool res ∧ hh = h) := by
  unfold rightsXmayOne at hF
  refine spec_of_body_ext Try.func63 rfl (by kernel_rfl) (env := [.agg [.int .u8 x0.rep, .sl 1 (x0.path.map strRow), .int .u8 x0.kinds, .bool x0.allow, .bool x0.read], aundef, aundef, aundef, aundef, aundef, aundef, aundef, aundef, aundef, aundef, aundef, aundef, aundef, aundef, aundef, aundef, aundef, aundef, aundef, aundef, aundef]) (by rfl) ?_
  refine r_seq ?_
  refine r_region ?_
  refine ops_ok rfl (e_box (n := 0) rfl gt0 (tyo_ok rfl) rfl rfl) st1 ?_
  refine ops_ok rfl (s_assign rfl rfl (tyo_ok rfl)) st2 ?_
  refine ops_nil ?_
  refine q_seq ?_
  refine r_seq ?_
  refine r_region ?_
  refine ops_ok rfl (s_fieldAddr rfl fo48x0 gt1 rfl) st3 ?_
  refine ops_ok rfl (e_load rfl ty5 gt3 rfl (ldC_one rfl) (tyo_ok rfl)) st4 ?_
  refine ops_ok rfl (s_bin rfl gt4 rfl rfl) st5 ?_
  refine ops_ok rfl (s_move rfl gt5 (tyo_ok rfl)) st6 ?_
  refine ops_gv rfl (fun hb => s_fieldAddr rfl fo48x0 gt1 rfl) st7 ?_
  refine ops_gv rfl (fun hb => e_load rfl ty5 (evo_gv gt7 hb) rfl (ldC_one rfl) (tyo_ok rfl)) st8 ?_
  refine ops_gv rfl (fun hb => s_bin rfl (evo_gv gt8 hb) rfl rfl) st9 ?_
  refine ops_ok rfl (s_pick rfl gt6 rfl gt9 (pick_or (fun ht => gF ht))) st10 ?_
  refine ops_ok rfl (s_move rfl gt10 (tyo_ok rfl)) st11 ?_
  refine ops_gv rfl (fun hb => s_fieldAddr rfl fo48x1 gt1 rfl) st12 ?_
  refine ops_gv rfl (fun hb => e_load rfl ty28 (evo_gv gt12 hb) rfl (ldC_one rfl) (tyo_ok rfl)) st13 ?_
  refine gbindF hF (fun v1 hv1 hF => ?_)
  refine ops_gcall rfl (fun hb => s_call0 rfl rfl rfl (argo_cons (evo_gv gt13 hb) argo_nil) (.cons (tyo_ok rfl) .nil)) (fun hb => ok32 (hv1 hb)) st14 ?_
  refine ops_ok rfl (s_pick rfl gt11 gt14 rfl (pick_and (fun ht => gT ht))) st15 ?_
  refine ops_ok rfl (s_move rfl gt15 (tyo_ok rfl)) st16 ?_
  refine ops_gv rfl (fun hb => s_fieldAddr rfl fo48x2 gt1 rfl) st17 ?_
  refine ops_gv rfl (fun hb => e_load rfl ty5 (evo_gv gt17 hb) rfl (ldC_one rfl) (tyo_ok rfl)) st18 ?_
  refine ops_gv rfl (fun hb => s_bin rfl (evo_gv gt18 hb) rfl rfl) st19 ?_
  refine ops_gv rfl (fun hb => s_bin rfl (evo_gv gt19 hb) rfl rfl) st20 ?_
  refine ops_ok rfl (s_pick rfl gt16 gt20 rfl (pick_and (fun ht => gT ht))) st21 ?_
  refine ops_ok rfl (s_assign rfl gt21 (tyo_ok rfl)) st2 ?_
  refine ops_nil ?_
  refine q_seq ?_
  refine r_ret ?_
  obtain rfl := Option.some.inj hF
  refine q_retL1 rfl (rl_tmp gt2 rl_nil) (fin_ext (leV.refl _) rfl ?_)
  exact ⟨rfl, rfl⟩
/-! varve/rights.May 1 -/
theorem ok62 {x0 : GRule} {res : Bool} {h : AH}  (hF : rightsMayC1 x0 = some res) : Spec Try.prog 62 [.agg [.int .u8 x0.rep, .sl 1 (x0.path.map strRow), .int .u8 x0.kinds, .bool x0.allow, .bool x0.read]] h (fun rr hh => rr = .bool res ∧ hh = h) := by
  unfold rightsMayC1 at hF
  refine spec_of_body_ext Try.func62 rfl (by kernel_rfl) (env := [.agg [.int .u8 x0.rep, .sl 1 (x0.path.map strRow), .int .u8 x0.kinds, .bool x0.allow, .bool x0.read], aundef, aundef, aundef, aundef, aundef]) (by rfl) ?_
  refine r_seq ?_
  refine r_region ?_
  refine ops_ok rfl (e_box (n := 0) rfl gt0 (tyo_ok rfl) rfl rfl) st1 ?_
  refine ops_ok rfl (s_assign rfl rfl (tyo_ok rfl)) st2 ?_
  refine ops_nil ?_
  refine q_seq ?_
  refine r_seq ?_
  refine r_region ?_
  refine ops_ok rfl (e_load rfl ty48.choose_spec.1 gt1 rfl (ldC_agX (cs' := [.int .u8 x0.rep, .sl 1 (x0.path.map strRow), .int .u8 x0.kinds, .bool x0.allow, .bool x0.read]) ty48.choose_spec.2 rfl rfl) (tyo_ok rfl)) st3 ?_
  refine bindF hF (fun v1 hv1 hF => ?_)
  refine ops_callP rfl (s_call0 rfl rfl rfl (argo_cons gt3 argo_nil) (.cons (tyo_ok rfl) .nil)) (ok63 hv1) st4 ?_
  refine ops_ok rfl (s_un rfl gt4 rfl) st5 ?_
  refine ops_ok rfl (s_assign rfl gt5 (tyo_ok rfl)) st2 ?_
  refine ops_nil ?_
  refine q_seq ?_
  refine r_ret ?_
  obtain rfl := Option.some.inj hF
  refine q_retL1 rfl (rl_tmp gt2 rl_nil) (fin_ext (leV.refl _) rfl ?_)
  exact ⟨rfl, rfl⟩
/-! varve/rights.May -/
theorem ok24 {l0 : (List GRule)} {res : Bool} {h : AH}  (hF : rightsMay l0 = some res) : Spec Try.prog 24 [.sl 5 (l0.map GRule.row)] h (fun rr hh => rr = .bool res ∧ hh = h) := by
  unfold rightsMay at hF
  refine spec_of_body_ext Try.func24 rfl (by kernel_rfl) (env := [.sl 5 (l0.map GRule.row), aundef, aundef, aundef, aundef, aundef, aundef, aundef, aundef, aundef, aundef]) (by rfl) ?_
  refine r_seq ?_
  refine r_region ?_
  refine ops_ok rfl (s_assign rfl rfl (tyo_ok rfl)) st2 ?_
  refine ops_nil ?_
  refine q_seq ?_
  refine r_seq ?_
  refine r_region ?_
  refine ops_ok rfl (s_move rfl gt0 (tyo_ok rfl)) st3 ?_
  refine ops_len rfl (s_lenSl rfl rfl rfl rfl el42 gt3 lenMap) st4 fun hn1 => ?_
  replace hn1 := lenN hn1
  refine ops_ok rfl (s_bin rfl gt4 rfl rfl) st5 ?_
  refine ops_ok rfl (s_move rfl gt5 (tyo_ok rfl)) st6 ?_
  refine ops_gv rfl (fun hb => s_move rfl gt0 (tyo_ok rfl)) st7 ?_
  refine gbindF hF (fun v2 hv2 hF => ?_)
  refine ops_gcall rfl (fun hb => s_call0 rfl rfl rfl (argo_cons (evo_gv gt7 hb) (argo_cons rfl argo_nil)) (.cons (tyo_ok rfl) (.cons (tyo_ok rfl) .nil))) (fun hb => ok61 (fun _ v L M hv => ok62  hv) (hv2 hb)) st8 ?_
  refine ops_gv rfl (fun hb => s_un rfl (evo_gv gt8 hb) rfl) st9 ?_
  refine ops_ok rfl (s_pick rfl gt6 gt9 rfl (pick_and (fun ht => gT ht))) st10 ?_
  refine ops_ok rfl (s_assign rfl gt10 (tyo_ok rfl)) st2 ?_
  refine ops_nil ?_
  refine q_seq ?_
  refine r_ret ?_
  obtain rfl := Option.some.inj hF
  refine q_retL1 rfl (rl_tmp gt2 rl_nil) (fin_ext (leV.refl _) rfl ?_)
  exact ⟨rfl, rfl⟩
/-! varve/op.MayPath 1 -/
theorem ok53 {s0 : Str} {res : Bool} {h : AH}  (hF : opMayPathC1 s0 = some res) : Spec Try.prog 53 [.str s0] h (fun rr hh => rr = .bool res ∧ hh = h) := by
  unfold opMayPathC1 at hF
  refine spec_of_body_ext Try.func53 rfl (by kernel_rfl) (env := [.str s0, aundef, aundef, aundef, aundef, aundef]) (by rfl) ?_
  refine r_seq ?_
  refine r_region ?_
  refine ops_ok rfl (s_assign rfl rfl (tyo_ok rfl)) st2 ?_
  refine ops_nil ?_
  refine q_seq ?_
  refine r_seq ?_
  refine r_region ?_
  refine ops_ok rfl (s_move rfl gt0 (tyo_ok rfl)) st3 ?_
  refine bindF hF (fun v1 hv1 hF => ?_)
  refine ops_callP rfl (s_call0 rfl rfl rfl (argo_cons gt3 argo_nil) (.cons (tyo_ok rfl) .nil)) (ok11 hv1) st4 ?_
  refine ops_ok rfl (s_un rfl gt4 rfl) st5 ?_
  refine ops_ok rfl (s_assign rfl gt5 (tyo_ok rfl)) st2 ?_
  refine ops_nil ?_
  refine q_seq ?_
  refine r_ret ?_
  obtain rfl := Option.some.inj hF
  refine q_retL1 rfl (rl_tmp gt2 rl_nil) (fin_ext (leV.refl _) rfl ?_)
  exact ⟨rfl, rfl⟩
/-! varve/op.MayPath -/
theorem ok13 {p0 : (List Str)} {res : Bool} {h : AH}  (hF : opMayPath p0 = some res) : Spec Try.prog 13 [.sl 1 (p0.map strRow)] h (fun rr hh => rr = .bool res ∧ hh = h) := by
  unfold opMayPath at hF
  refine spec_of_body_ext Try.func13 rfl (by kernel_rfl) (env := [.sl 1 (p0.map strRow), aundef, aundef, aundef, aundef, aundef, aundef, aundef, aundef, aundef, aundef, aundef, aundef, aundef, aundef, aundef]) (by rfl) ?_
  refine r_seq ?_
  refine r_region ?_
  refine ops_ok rfl (s_assign rfl rfl (tyo_ok rfl)) st2 ?_
  refine ops_nil ?_
  refine q_seq ?_
  refine r_seq ?_
  refine r_region ?_
  refine ops_ok rfl (s_move rfl gt0 (tyo_ok rfl)) st3 ?_
  refine ops_len rfl (s_lenSl rfl rfl rfl rfl el28 gt3 lenMap) st4 fun hn1 => ?_
  replace hn1 := lenN hn1
  refine ops_ok rfl (s_bin rfl gt4 rfl rfl) st5 ?_
  refine ops_ok rfl (s_move rfl gt5 (tyo_ok rfl)) st6 ?_
  refine ops_gv rfl (fun hb => s_move rfl gt0 (tyo_ok rfl)) st7 ?_
  refine ops_glen rfl (fun hb => s_lenSl rfl rfl rfl rfl el28 (evo_gv gt7 hb) lenMap) st8 fun hn2 => ?_
  refine ops_gv rfl (fun hb => s_bin rfl (evo_gv gt8 hb) rfl rfl) st9 ?_
  refine ops_ok rfl (s_pick rfl gt6 gt9 rfl (pick_and (fun ht => gT ht))) st10 ?_
  refine ops_ok rfl (s_move rfl gt10 (tyo_ok rfl)) st11 ?_
  refine ops_gv rfl (fun hb => s_move rfl gt0 (tyo_ok rfl)) st12 ?_
  refine gbindF hF (fun v3 hv3 hF => ?_)
  refine ops_gcall rfl (fun hb => s_call0 rfl rfl rfl (argo_cons (evo_gv gt12 hb) (argo_cons rfl argo_nil)) (.cons (tyo_ok rfl) (.cons (tyo_ok rfl) .nil))) (fun hb => ok52 (fun _ v L M hv => ok53  hv) (hv3 hb)) st13 ?_
  refine ops_gv rfl (fun hb => s_un rfl (evo_gv gt13 hb) rfl) st14 ?_
  refine ops_ok rfl (s_pick rfl gt11 gt14 rfl (pick_and (fun ht => gT ht))) st15 ?_
  refine ops_ok rfl (s_assign rfl gt15 (tyo_ok rfl)) st2 ?_
  refine ops_nil ?_
  refine q_seq ?_
  refine r_ret ?_
  obtain rfl := Option.some.inj hF
  refine q_retL1 rfl (rl_tmp gt2 rl_nil) (fin_ext (leV.refl _) rfl ?_)
  exact ⟨rfl, rfl⟩
/-! varve/paths.Match -/
theorem ok38 {p0 : (List Str)} {path1 : (List Str)} {res : Bool} {h : AH}  (hF : pathsMatch p0 path1 = some res) : Spec Try.prog 38 [.sl 1 (p0.map strRow), .sl 1 (path1.map strRow)] h (fun rr hh => rr = .bool res ∧ hh = h) := by
  unfold pathsMatch at hF
  refine spec_of_body_ext Try.func38 rfl (by kernel_rfl) (env := [.sl 1 (p0.map strRow), .sl 1 (path1.map strRow), aundef, aundef, aundef, aundef, aundef, aundef, aundef, aundef, aundef, aundef, aundef, aundef, aundef, aundef, aundef, aundef, aundef, aundef, aundef, aundef, aundef, aundef, aundef, aundef, aundef, aundef, aundef, aundef, aundef, aundef, aundef, aundef, aundef, aundef, aundef, aundef, aundef, aundef, aundef, aundef, aundef, aundef, aundef, aundef, aundef, aundef, aundef, aundef, aundef, aundef, aundef, aundef, aundef, aundef, aundef, aundef]) (by rfl) ?_
  refine r_seq ?_
  refine r_region ?_
  refine ops_ok rfl (s_assign rfl rfl (tyo_ok rfl)) st4 ?_
  refine ops_nil ?_
  refine q_seq ?_
  refine r_seq ?_
  refine r_region ?_
  refine ops_ok rfl (s_move rfl gt0 (tyo_ok rfl)) st10 ?_
  refine bindF hF (fun v1 hv1 hF => ?_)
  refine ops_callP rfl (s_call0 rfl rfl rfl (argo_cons gt10 argo_nil) (.cons (tyo_ok rfl) .nil)) (ok71 hv1) st11 ?_
  refine ops_ok rfl (s_move rfl gt11 (tyo_ok rfl)) st9 ?_
  refine ops_ok rfl (s_extract rfl gt9 rfl (tyo_ok rfl)) st12 ?_
  refine ops_ok rfl (s_extract rfl gt9 rfl (tyo_ok rfl)) st13 ?_
  refine ops_ok rfl (s_assign rfl gt12 (tyo_ok rfl)) st5 ?_
  refine ops_ok rfl (s_assign rfl gt13 (tyo_ok rfl)) st6 ?_
  refine ops_nil ?_
  refine q_seq ?_
  refine r_seq ?_
  refine r_seq ?_
  refine r_region ?_
  refine ops_ok rfl (s_move rfl gt0 (tyo_ok rfl)) st14 ?_
  refine bindF hF (fun v2 hv2 hF => ?_)
  refine ops_callP rfl (s_call0 rfl rfl rfl (argo_cons gt14 argo_nil) (.cons (tyo_ok rfl) .nil)) (ok32 hv2) st15 ?_
  refine ops_ok rfl (s_un rfl gt15 rfl) st16 ?_
  refine ops_ok rfl (s_move rfl gt16 (tyo_ok rfl)) st17 ?_
  refine ops_gv rfl (fun hb => s_move rfl gt1 (tyo_ok rfl)) st18 ?_
  refine gbindF hF (fun v3 hv3 hF => ?_)
  refine ops_gcall rfl (fun hb => s_call0 rfl rfl rfl (argo_cons (evo_gv gt18 hb) argo_nil) (.cons (tyo_ok rfl) .nil)) (fun hb => ok13 (hv3 hb)) st19 ?_
  refine ops_gv rfl (fun hb => s_un rfl (evo_gv gt19 hb) rfl) st20 ?_
  refine ops_ok rfl (s_pick rfl gt17 rfl gt20 (pick_or (fun ht => gF ht))) st21 ?_
  refine ops_ok rfl (s_move rfl gt21 (tyo_ok rfl)) st22 ?_
  refine ops_gv rfl (fun hb => s_move rfl gt1 (tyo_ok rfl)) st23 ?_
  refine ops_glen rfl (fun hb => s_lenSl rfl rfl rfl rfl el28 (evo_gv gt23 hb) lenMap) st24 fun hn4 => ?_
  refine ops_gv rfl (fun hb => s_move rfl gt5 (tyo_ok rfl)) st25 ?_
  refine ops_glen rfl (fun hb => s_lenSl rfl rfl rfl rfl el28 (evo_gv gt25 hb) lenMap) st26 fun hn5 => ?_
  refine ops_gv rfl (fun hb => s_bin rfl (evo_gv gt24 hb) (evo_gv gt26 hb) rfl) st27 ?_
  refine ops_ok rfl (s_pick rfl gt22 rfl gt27 (pick_or (fun ht => gF ht))) st28 ?_
  refine ops_ok rfl (s_move rfl gt28 (tyo_ok rfl)) st29 ?_
  refine ops_gv rfl (fun hb => s_move rfl gt1 (tyo_ok rfl)) st30 ?_
  refine ops_glen rfl (fun hb => s_lenSl rfl rfl rfl rfl el28 (evo_gv gt30 hb) lenMap) st31 fun hn6 => ?_
  refine ops_gv rfl (fun hb => s_move rfl gt5 (tyo_ok rfl)) st32 ?_
  refine ops_glen rfl (fun hb => s_lenSl rfl rfl rfl rfl el28 (evo_gv gt32 hb) lenMap) st33 fun hn7 => ?_
  refine ops_gv rfl (fun hb => s_bin rfl (evo_gv gt31 hb) (evo_gv gt33 hb) rfl) st34 ?_
  refine ops_gv rfl (fun hb => s_move rfl (evo_gv gt34 hb) (tyo_ok rfl)) st35 ?_
  refine ops_gv (aG_gv rfl rfl rfl) (fun hb => s_move rfl gt6 (tyo_ok rfl)) st36 ?_
  refine ops_gv (aG_gv rfl rfl rfl) (fun hb => s_un rfl (evo_gv gt36 hb) rfl) st37 ?_
  refine ops_gv rfl (fun hb => s_pick rfl (evo_gv gt35 hb) gt37 rfl (pick_and (fun ht => gT2 hb ht))) st38 ?_
  refine ops_ok rfl (s_pick rfl gt29 rfl gt38 (pick_or (fun ht => gF ht))) st39 ?_
  refine ops_nil ?_
  refine q_seq ?_
  refine r_condF gt39 hF (fun hc8 hF => ?_) (fun hc8 hF => ?_)
  · skip
    refine r_seq ?_
    refine r_region ?_
    refine ops_ok rfl (s_assign rfl rfl (tyo_ok rfl)) st4 ?_
    refine ops_nil ?_
    refine q_seq ?_
    refine r_ret ?_
    refine q_seq_ret ?_
    obtain rfl := Option.some.inj hF
    refine q_retL1 rfl (rl_tmp gt4 rl_nil) (fin_ext (leV.refl _) rfl ?_)
    exact ⟨rfl, rfl⟩
  · skip
    refine r_skip ?_
    refine q_seq ?_
    refine r_seq ?_
    refine r_seq ?_
    refine r_region ?_
    refine ops_ok rfl (s_move rfl gt5 (tyo_ok rfl)) st40 ?_
    refine ops_len rfl (s_lenSl rfl rfl rfl rfl el28 gt40 lenMap) st41 fun hn9 => ?_
    replace hn9 := lenN hn9
    refine ops_ok rfl (s_move rfl rfl (tyo_ok rfl)) st42 ?_
    refine ops_nil ?_
    refine q_seq ?_
    refine r_block ?_
    refine r_loopLF (fun (n1 : Nat) (s1 : Unit) => [(0, .any), (2, .any), (3, .any), (4, .any), (5, .any), (6, .any), (7, .any), (8, .any), (9, .any), (10, .any), (11, .any), (12, .any), (13, .any), (14, .any), (15, .any), (16, .any), (17, .any), (18, .any), (19, .any), (20, .any), (21, .any), (22, .any), (23, .any), (24, .any), (25, .any), (26, .any), (27, .any), (28, .any), (29, .any), (30, .any), (31, .any), (32, .any), (33, .any), (34, .any), (35, .any), (36, .any), (37, .any), (38, .any), (39, .any), (42, .int .i64 (n1 : Int)), (43, .any), (44, .any), (45, .any), (46, .any), (47, .any), (48, .any), (49, .any), (50, .any), (51, .any), (52, .any), (53, .any), (54, .any), (55, .any), (56, .any), (57, .any)]) (fun s1 => h.ext [] []) hF (fun _ _ => by simp only [upd, List.set_cons_succ, List.set_cons_zero]; try rfl) (wk.le (by exact (.drop (.eq (.drop (.drop (.drop (.drop (.drop (.drop (.drop (.drop (.drop (.drop (.drop (.drop (.drop (.drop (.drop (.drop (.drop (.drop (.drop (.drop (.drop (.drop (.drop (.drop (.drop (.drop (.drop (.drop (.drop (.drop (.drop (.drop (.drop (.drop (.drop (.drop (.drop (.drop (.eq (.eq (.cons (leV.of_eq rfl) (.drop (.drop (.drop (.drop (.drop (.drop (.drop (.drop (.drop (.drop (.drop (.drop (.drop (.drop (.drop leL.nil)))))))))))))))))))))))))))))))))))))))))))))))))))))))))))) ?_
    intro n1 s1 hi1 hF
    refine r_seq ?_
    refine r_region ?_
    refine ops_ok rfl (s_bin rfl gt42 gt41 rfl) st43 ?_
    refine ops_nil ?_
    refine q_seq ?_
    refine r_seq ?_
    refine r_condL gt43 hF (fun x1 o1 hl1 hx1 hF hK1 => ?_) (fun hF => ?_)
    · skip
      refine r_skip ?_
      refine q_seq ?_
      refine r_seq ?_
      refine r_block ?_
      refine r_seq ?_
      refine r_region ?_
      refine ops_ok rfl (s_move rfl gt42 (tyo_ok rfl)) st44 ?_
      refine ops_ok rfl (s_idxRow rfl el28 gt40 gt42 isl (idx_of hx1)) st45 ?_
      refine ops_ok rfl (f_load rfl ty9 gt45 (ldC_one rfl) (tyo_ok rfl)) st46 ?_
      refine ops_ok rfl (s_assign rfl gt44 (tyo_ok rfl)) st7 ?_
      refine ops_ok rfl (s_assign rfl gt46 (tyo_ok rfl)) st8 ?_
      refine ops_nil ?_
      refine q_seq ?_
      refine r_seq ?_
      refine r_region ?_
      refine ops_ok rfl (s_move rfl gt8 (tyo_ok rfl)) st47 ?_
      refine ops_ok rfl (s_bin rfl gt47 rfl rfl) st48 ?_
      refine ops_ok rfl (s_move rfl gt48 (tyo_ok rfl)) st49 ?_
      refine ops_gv rfl (fun hb => s_move rfl gt8 (tyo_ok rfl)) st50 ?_
      refine ops_gv rfl (fun hb => s_move rfl gt1 (tyo_ok rfl)) st51 ?_
      refine ops_gv rfl (fun hb => s_move rfl gt7 (tyo_ok rfl)) st52 ?_
      refine chkF hF (fun hg15 hF => ?_)
      refine ops_gv rfl (fun hb => s_gidxRow default rfl el28 (evo_gv gt51 hb) (evo_gv gt52 hb) isl (hg15 hb)) st53 ?_
      refine ops_gv rfl (fun hb => f_load rfl ty9 (evo_gv gt53 hb) (ldC_one rfl) (tyo_ok rfl)) st54 ?_
      refine ops_gv rfl (fun hb => s_bin rfl (evo_gv gt50 hb) (evo_gv gt54 hb) rfl) st55 ?_
      refine ops_ok rfl (s_pick rfl gt49 gt55 rfl (pick_and (fun ht => gT ht))) st56 ?_
      refine ops_nil ?_
      refine q_seq ?_
      refine r_condF gt56 hF (fun hc16 hF => ?_) (fun hc16 hF => ?_)
      · skip
        refine r_seq ?_
        refine r_region ?_
        refine ops_ok rfl (s_assign rfl rfl (tyo_ok rfl)) st4 ?_
        refine ops_nil ?_
        refine q_seq ?_
        refine r_ret ?_
        refine q_block_ret ?_
        refine q_seq_ret ?_
        refine q_loop_ret ?_
        obtain rfl := Option.some.inj hF
        replace hF := hK1
        refine q_block_ret ?_
        refine q_seq_ret ?_
        obtain rfl := Option.some.inj hF
        refine q_retL1 rfl (rl_tmp gt4 rl_nil) (fin_ext (leV.refl _) rfl ?_)
        exact ⟨rfl, rfl⟩
      · skip
        refine r_skip ?_
        refine q_block ?_
        refine q_seq ?_
        refine r_region ?_
        refine ops_ok rfl (s_bin rfl gt42 rfl rfl) st57 ?_
        refine ops_ok rfl (s_move rfl gt57 (tyo_ok rfl)) st42 ?_
        refine ops_nil ?_
        refine q_loop ?_
        obtain rfl := Option.some.inj hF
        exact ⟨(), hl1, hK1, wk.le (by exact (.drop (.eq (.drop (.drop (.drop (.drop (.drop (.drop (.drop (.drop (.drop (.drop (.drop (.drop (.drop (.drop (.drop (.drop (.drop (.drop (.drop (.drop (.drop (.drop (.drop (.drop (.drop (.drop (.drop (.drop (.drop (.drop (.drop (.drop (.drop (.drop (.drop (.drop (.drop (.drop (.eq (.eq (.cons (leV.of_eq (w64e (by omega) (by omega))) (.drop (.drop (.drop (.drop (.drop (.drop (.drop (.drop (.drop (.drop (.drop (.drop (.drop (.drop (.drop leL.nil)))))))))))))))))))))))))))))))))))))))))))))))))))))))))))⟩
    · skip
      refine r_exit ?_
      refine q_seq_exit ?_
      refine q_loop_exit ?_
      refine q_block_hit ?_
      refine q_seq ?_
      refine r_seq ?_
      refine r_region ?_
      refine ops_ok rfl (s_assign rfl rfl (tyo_ok rfl)) st4 ?_
      refine ops_nil ?_
      refine q_seq ?_
      refine r_ret ?_
      obtain rfl := Option.some.inj hF
      refine q_retL1 rfl (rl_tmp gt4 rl_nil) (fin_ext (leV.refl _) rfl ?_)
      exact ⟨rfl, rfl⟩
/-! varve/rights.last -/
theorem ok68 {l0 : (List GRule)} {rep1 : Int} {path2 : (List Str)} {is3 : (GRule → Option Bool)} {fis3 : FuncId} {ais3 kis3 : List AV} {res : Int} {h : AH} (his3 : ∀ x0 v (L : List Blk) (M : List Nat), is3 x0 = some v → Spec Try.prog fis3 (ais3 ++ [.agg [.int .u8 x0.rep, .sl 1 (x0.path.map strRow), .int .u8 x0.kinds, .bool x0.allow, .bool x0.read]] ++ kis3) (h.ext L M) (fun rr hh => rr = .bool v ∧ hh = h.ext L M)) (hF : rightsXlast l0 rep1 path2 is3 = some res) : Spec Try.prog 68 [.sl 5 (l0.map GRule.row), .int .u8 rep1, .sl 1 (path2.map strRow), .fn (.func fis3) ais3 kis3] h (fun rr hh => rr = .int .i64 res ∧ hh = h) := by
  unfold rightsXlast at hF
  refine spec_of_body_extL Try.func68 rfl (by kernel_rfl) (env := [.sl 5 (l0.map GRule.row), .int .u8 rep1, .sl 1 (path2.map strRow), .fn (.func fis3) ais3 kis3, aundef, aundef, aundef, aundef, aundef, aundef, aundef, aundef, aundef, aundef, aundef, aundef, aundef, aundef, aundef, aundef, aundef, aundef, aundef, aundef, aundef, aundef, aundef, aundef, aundef, aundef, aundef, aundef, aundef, aundef, aundef, aundef, aundef, aundef, aundef, aundef, aundef, aundef, aundef]) (by rfl) (fun hlow => ?_)
  simp only [lowL, AV.low, Bool.and_eq_true, Bool.true_and, and_true] at hlow
  have hlais3 : ∀ n m, h.blks.length ≤ n → h.toks.length ≤ m → lowL n m ais3 = true := fun n m h1 h2 => lowL_up h1 h2 _ (by simp [hlow])
  have hlkis3 : ∀ n m, h.blks.length ≤ n → h.toks.length ≤ m → lowL n m kis3 = true := fun n m h1 h2 => lowL_up h1 h2 _ (by simp [hlow])
  refine r_seq ?_
  refine r_region ?_
  refine ops_ok rfl (s_assign rfl rfl (tyo_ok rfl)) st8 ?_
  refine ops_nil ?_
  refine q_seq ?_
  refine r_seq ?_
  refine r_seq ?_
  refine r_region ?_
  refine ops_ok rfl (s_move rfl gt0 (tyo_ok rfl)) st11 ?_
  refine ops_len rfl (s_lenSl rfl rfl rfl rfl el42 gt11 lenMap) st12 fun hn1 => ?_
  replace hn1 := lenN hn1
  refine ops_ok rfl (s_bin rfl gt12 rfl rfl) st13 ?_
  refine ops_ok rfl (s_assign rfl gt13 (tyo_ok rfl)) st9 ?_
  refine ops_nil ?_
  refine q_seq ?_
  refine r_block ?_
  refine r_loopWF (fun (s1 : Int) => [(4, .any), (5, .any), (6, .any), (7, .any), (8, .any), (9, .int .i64 s1), (10, .any), (11, .any), (12, .any), (13, .any), (14, .any), (15, .any), (16, .any), (17, .any), (18, .any), (19, .any), (20, .any), (21, .any), (22, .any), (23, .any), (24, .any), (25, .any), (26, .any), (27, .any), (28, .any), (29, .any), (30, .any), (31, .any), (32, .any), (33, .any), (34, .any), (35, .any), (36, .any), (37, .any), (38, .any), (39, .any), (40, .any), (41, .any), (42, .any)]) (fun s1 => h.ext [] []) hF (fun _ => by simp only [upd, List.set_cons_succ, List.set_cons_zero]; try rfl) (wk.le (by exact (.eq (.eq (.eq (.eq (.drop (.drop (.drop (.drop (.drop (.cons (leV.of_eq rfl) (.drop (.drop (.drop (.drop (.drop (.drop (.drop (.drop (.drop (.drop (.drop (.drop (.drop (.drop (.drop (.drop (.drop (.drop (.drop (.drop (.drop (.drop (.drop (.drop (.drop (.drop (.drop (.drop (.drop (.drop (.drop (.drop (.drop leL.nil))))))))))))))))))))))))))))))))))))))))))))) ?_
  intro n1 s1 o1 hF hK1
  refine r_seq ?_
  refine r_seq ?_
  refine r_region ?_
  refine ops_ok rfl (s_move rfl gt9 (tyo_ok rfl)) st14 ?_
  refine ops_ok rfl (s_bin rfl gt14 rfl rfl) st15 ?_
  refine ops_nil ?_
  refine q_seq ?_
  refine r_condF gt15 hF (fun hc8 hF => ?_) (fun hc8 hF => ?_)
  · skip
    refine r_skip ?_
    refine q_seq ?_
    refine r_seq ?_
    refine r_block ?_
    refine r_seq ?_
    refine r_region ?_
    refine ops_ok rfl (s_move rfl gt0 (tyo_ok rfl)) st18 ?_
    refine ops_ok rfl (s_move rfl gt9 (tyo_ok rfl)) st19 ?_
    refine bindF hF (fun y9 hy9 hF => ?_)
    refine ops_ok rfl (s_idxRow rfl el42 gt18 gt19 isl hy9) st20 ?_
    refine ops_ok rfl (f_load rfl ty48.choose_spec.1 gt20 (ldC_agX (cs' := [.int .u8 y9.rep, .sl 1 (y9.path.map strRow), .int .u8 y9.kinds, .bool y9.allow, .bool y9.read]) ty48.choose_spec.2 rfl rfl) (tyo_ok rfl)) st21 ?_
    refine ops_ok rfl (e_alloc (n := 0) rfl ze48 rfl) st10 ?_
    refine ops_ok rfl (e_store (cs' := [.int .u8 y9.rep, .sl 1 (y9.path.map strRow), .int .u8 y9.kinds, .bool y9.allow, .bool y9.read]) rfl ty48.choose_spec.1 gt10 gt21 (tyo_ok rfl) rfl rfl rfl rfl rfl) rfl ?_
    refine ops_nil ?_
    refine q_seq ?_
    refine r_seq ?_
    refine r_region ?_
    refine ops_ok rfl (s_fieldAddr rfl fo48x0 gt10 rfl) st22 ?_
    refine ops_ok rfl (e_load rfl ty5 gt22 rfl (ldC_one rfl) (tyo_ok rfl)) st23 ?_
    refine ops_ok rfl (s_move rfl gt1 (tyo_ok rfl)) st24 ?_
    refine ops_ok rfl (s_bin rfl gt23 gt24 rfl) st25 ?_
    refine ops_ok rfl (s_move rfl gt25 (tyo_ok rfl)) st26 ?_
    refine ops_gv rfl (fun hb => s_fieldAddr rfl fo48x0 gt10 rfl) st27 ?_
    refine ops_gv rfl (fun hb => e_load rfl ty5 (evo_gv gt27 hb) rfl (ldC_one rfl) (tyo_ok rfl)) st28 ?_
    refine ops_gv rfl (fun hb => s_bin rfl (evo_gv gt28 hb) rfl rfl) st29 ?_
    refine ops_ok rfl (s_pick rfl gt26 rfl gt29 (pick_or (fun ht => gF ht))) st30 ?_
    refine ops_ok rfl (s_move rfl gt30 (tyo_ok rfl)) st31 ?_
    refine ops_gv rfl (fun hb => s_move rfl gt3 (tyo_ok rfl)) st32 ?_
    refine ops_gv rfl (fun hb => e_load rfl ty48.choose_spec.1 gt10 rfl (ldC_agX (cs' := [.int .u8 y9.rep, .sl 1 (y9.path.map strRow), .int .u8 y9.kinds, .bool y9.allow, .bool y9.read]) ty48.choose_spec.2 rfl rfl) (tyo_ok rfl)) st33 ?_
    refine gbindF hF (fun v10 hv10 hF => ?_)
    refine ops_gcall rfl (fun hb => s_callC rfl rfl (evo_gv gt32 hb) (argo_cons (evo_gv gt33 hb) argo_nil) (.cons (tyo_ok rfl) .nil) rfl) (fun hb => his3 _ _ _ _ (hv10 hb)) st34 ?_
    refine ops_ok rfl (s_pick rfl gt31 gt34 rfl (pick_and (fun ht => gT ht))) st35 ?_
    refine ops_ok rfl (s_move rfl gt35 (tyo_ok rfl)) st36 ?_
    refine ops_gv rfl (fun hb => s_fieldAddr rfl fo48x1 gt10 rfl) st37 ?_
    refine ops_gv rfl (fun hb => e_load rfl ty28 (evo_gv gt37 hb) rfl (ldC_one rfl) (tyo_ok rfl)) st38 ?_
    refine ops_gv rfl (fun hb => s_move rfl gt2 (tyo_ok rfl)) st39 ?_
    refine gbindF hF (fun v11 hv11 hF => ?_)
    refine ops_gcall rfl (fun hb => s_call0 rfl rfl rfl (argo_cons (evo_gv gt38 hb) (argo_cons (evo_gv gt39 hb) argo_nil)) (.cons (tyo_ok rfl) (.cons (tyo_ok rfl) .nil))) (fun hb => ok38 (hv11 hb)) st40 ?_
    refine ops_ok rfl (s_pick rfl gt36 gt40 rfl (pick_and (fun ht => gT ht))) st41 ?_
    refine ops_nil ?_
    refine q_seq ?_
    refine r_condF gt41 hF (fun hc12 hF => ?_) (fun hc12 hF => ?_)
    · skip
      refine r_seq ?_
      refine r_region ?_
      refine ops_ok rfl (s_move rfl gt9 (tyo_ok rfl)) st42 ?_
      refine ops_ok rfl (s_assign rfl gt42 (tyo_ok rfl)) st8 ?_
      refine ops_nil ?_
      refine q_seq ?_
      refine r_ret ?_
      refine q_block_ret ?_
      refine q_seq_ret ?_
      refine q_loop_ret ?_
      obtain rfl := Option.some.inj hF
      replace hF := hK1
      refine q_block_ret ?_
      refine q_seq_ret ?_
      obtain rfl := Option.some.inj hF
      refine q_retL1 rfl (rl_tmp gt8 rl_nil) (fin_ext (leV.refl _) rfl ?_)
      exact ⟨rfl, rfl⟩
    · skip
      refine r_skip ?_
      refine q_block ?_
      refine q_seq ?_
      refine r_region ?_
      refine ops_ok rfl (s_move rfl gt9 (tyo_ok rfl)) st16 ?_
      refine ops_ok rfl (s_bin rfl gt16 rfl rfl) st17 ?_
      refine ops_ok rfl (s_assign rfl gt17 (tyo_ok rfl)) st9 ?_
      refine ops_nil ?_
      refine q_loop ?_
      obtain rfl := Option.some.inj hF
      exact ⟨(IntKind.wrap .i64 (s1 - (1 : Int))), hK1, wk.trans (wk.le (by exact (.eq (.eq (.eq (.eq (.drop (.drop (.drop (.drop (.drop (.cons (leV.of_eq rfl) (.drop (.drop (.drop (.drop (.drop (.drop (.drop (.drop (.drop (.drop (.drop (.drop (.drop (.drop (.drop (.drop (.drop (.drop (.drop (.drop (.drop (.drop (.drop (.drop (.drop (.drop (.drop (.drop (.drop (.drop (.drop (.drop (.drop leL.nil))))))))))))))))))))))))))))))))))))))))))))) (wk_ext3 (by simp [lowL, AV.low, hlais3, hlkis3]) rfl rfl (by simp [Blk.low, lowL, AV.low, hlais3, hlkis3]))⟩
  · skip
    refine r_exit ?_
    refine q_seq_exit ?_
    refine q_loop_exit ?_
    obtain rfl := Option.some.inj hF
    replace hF := hK1
    refine q_block_hit ?_
    refine q_seq ?_
    refine r_seq ?_
    refine r_region ?_
    refine ops_ok rfl (s_assign rfl rfl (tyo_ok rfl)) st8 ?_
    refine ops_nil ?_
    refine q_seq ?_
    refine r_ret ?_
    obtain rfl := Option.some.inj hF
    refine q_retL1 rfl (rl_tmp gt8 rl_nil) (fin_ext (leV.refl _) rfl ?_)
    exact ⟨rfl, rfl⟩
/-! varve/rights.Why 1 -/
theorem ok101 {x0 : GRule} {c0 : GOp} {i0 : Nat} {res : Bool} {h : AH} (hb0 : h.blk i0 = some (.cells [.int .u8 c0.kind, .sl 1 (c0.path.map strRow), .int .i64 c0.n, .str c0.text, .sl 3 (c0.dots.map GDot.row)])) (hF : rightsWhyC1 x0 c0 = some res) : Spec Try.prog 101 [.agg [.int .u8 x0.rep, .sl 1 (x0.path.map strRow), .int .u8 x0.kinds, .bool x0.allow, .bool x0.read], .ptr i0 0] h (fun rr hh => rr = .bool res ∧ hh = h) := by
  unfold rightsWhyC1 at hF
  refine spec_of_body_ext Try.func101 rfl (by kernel_rfl) (env := [.agg [.int .u8 x0.rep, .sl 1 (x0.path.map strRow), .int .u8 x0.kinds, .bool x0.allow, .bool x0.read], .ptr i0 0, aundef, aundef, aundef, aundef, aundef, aundef, aundef, aundef, aundef]) (by rfl) ?_
  refine r_seq ?_
  refine r_region ?_
  refine ops_ok rfl (e_box (n := 0) rfl gt0 (tyo_ok rfl) rfl rfl) st2 ?_
  refine ops_ok rfl (s_assign rfl rfl (tyo_ok rfl)) st3 ?_
  refine ops_nil ?_
  refine q_seq ?_
  refine r_seq ?_
  refine r_region ?_
  refine ops_ok rfl (s_fieldAddr rfl fo48x2 gt2 rfl) st4 ?_
  refine ops_ok rfl (e_load rfl ty5 gt4 rfl (ldC_one rfl) (tyo_ok rfl)) st5 ?_
  refine ops_ok rfl (s_fieldAddr rfl fo31x0 gt1 rfl) st6 ?_
  refine ops_ok rfl (b_load rfl ty5 gt6 hb0 (ldC_one rfl) (tyo_ok rfl)) st7 ?_
  refine chkF hF (fun hm1 hF => ?_)
  refine ops_ok rfl (s_bin rfl gt5 gt7 (if_neg hm1)) st8 ?_
  refine ops_ok rfl (s_bin rfl gt8 rfl rfl) st9 ?_
  refine ops_ok rfl (s_bin rfl gt9 rfl rfl) st10 ?_
  refine ops_ok rfl (s_assign rfl gt10 (tyo_ok rfl)) st3 ?_
  refine ops_nil ?_
  refine q_seq ?_
  refine r_ret ?_
  obtain rfl := Option.some.inj hF
  refine q_retL1 rfl (rl_tmp gt3 rl_nil) (fin_ext (leV.refl _) rfl ?_)
  exact ⟨rfl, rfl⟩
/-! varve/op.plain -/
theorem ok96 {o0 : GOp} {res : Bool} {h : AH}  (hF : opXplain o0 = some res) : Spec Try.prog 96 [.agg [.int .u8 o0.kind, .sl 1 (o0.path.map strRow), .int .i64 o0.n, .str o0.text, .sl 3 (o0.dots.map GDot.row)]] h (fun rr hh => rr = .bool res ∧ hh = h) := by
  unfold opXplain at hF
  refine spec_of_body_ext Try.func96 rfl (by kernel_rfl) (env := [.agg [.int .u8 o0.kind, .sl 1 (o0.path.map strRow), .int .i64 o0.n, .str o0.text, .sl 3 (o0.dots.map GDot.row)], aundef, aundef, aundef, aundef, aundef, aundef, aundef, aundef, aundef, aundef, aundef, aundef, aundef, aundef, aundef, aundef, aundef]) (by rfl) ?_
  refine r_seq ?_
  refine r_region ?_
  refine ops_ok rfl (e_box (n := 0) rfl gt0 (tyo_ok rfl) rfl rfl) st1 ?_
  refine ops_ok rfl (s_assign rfl rfl (tyo_ok rfl)) st2 ?_
  refine ops_nil ?_
  refine q_seq ?_
  refine r_seq ?_
  refine r_region ?_
  refine ops_ok rfl (s_fieldAddr rfl fo31x2 gt1 rfl) st3 ?_
  refine ops_ok rfl (e_load rfl ty2 gt3 rfl (ldC_one rfl) (tyo_ok rfl)) st4 ?_
  refine ops_ok rfl (s_bin rfl gt4 rfl rfl) st5 ?_
  refine ops_ok rfl (s_move rfl gt5 (tyo_ok rfl)) st6 ?_
  refine ops_gv rfl (fun hb => s_fieldAddr rfl fo31x3 gt1 rfl) st7 ?_
  refine ops_gv rfl (fun hb => e_load rfl ty9 (evo_gv gt7 hb) rfl (ldC_one rfl) (tyo_ok rfl)) st8 ?_
  refine ops_glen rfl (fun hb => s_lenStr rfl rfl rfl rfl ty9 (evo_gv gt8 hb)) st9 fun hn1 => ?_
  refine ops_gv rfl (fun hb => s_bin rfl (evo_gv gt9 hb) rfl rfl) st10 ?_
  refine ops_ok rfl (s_pick rfl gt6 gt10 rfl (pick_and (fun ht => gT ht))) st11 ?_
  refine ops_ok rfl (s_move rfl gt11 (tyo_ok rfl)) st12 ?_
  refine ops_gv rfl (fun hb => s_fieldAddr rfl fo31x4 gt1 rfl) st13 ?_
  refine ops_gv rfl (fun hb => e_load rfl ty29 (evo_gv gt13 hb) rfl (ldC_one rfl) (tyo_ok rfl)) st14 ?_
  refine ops_glen rfl (fun hb => s_lenSl rfl rfl rfl rfl el29 (evo_gv gt14 hb) lenMap) st15 fun hn2 => ?_
  refine ops_gv rfl (fun hb => s_bin rfl (evo_gv gt15 hb) rfl rfl) st16 ?_
  refine ops_ok rfl (s_pick rfl gt12 gt16 rfl (pick_and (fun ht => gT ht))) st17 ?_
  refine ops_ok rfl (s_assign rfl gt17 (tyo_ok rfl)) st2 ?_
  refine ops_nil ?_
  refine q_seq ?_
  refine r_ret ?_
  obtain rfl := Option.some.inj hF
  refine q_retL1 rfl (rl_tmp gt2 rl_nil) (fin_ext (leV.refl _) rfl ?_)
  exact ⟨rfl, rfl⟩
/-! varve/dot.MayActor -/
theorem ok99 {a0 : GActor} {res : Bool} {h : AH}  (hF : dotMayActor a0 = some res) : Spec Try.prog 99 [.agg [.int .u8 a0.rep, .int .u32 a0.inc]] h (fun rr hh => rr = .bool res ∧ hh = h) := by
  unfold dotMayActor at hF
  refine spec_of_body_ext Try.func99 rfl (by kernel_rfl) (env := [.agg [.int .u8 a0.rep, .int .u32 a0.inc], aundef, aundef, aundef, aundef, aundef, aundef, aundef, aundef, aundef, aundef, aundef, aundef, aundef, aundef, aundef]) (by rfl) ?_
  refine r_seq ?_
  refine r_region ?_
  refine ops_ok rfl (e_box (n := 0) rfl gt0 (tyo_ok rfl) rfl rfl) st1 ?_
  refine ops_ok rfl (s_assign rfl rfl (tyo_ok rfl)) st2 ?_
  refine ops_nil ?_
  refine q_seq ?_
  refine r_seq ?_
  refine r_region ?_
  refine ops_ok rfl (s_fieldAddr rfl fo24x0 gt1 rfl) st3 ?_
  refine ops_ok rfl (e_load rfl ty5 gt3 rfl (ldC_one rfl) (tyo_ok rfl)) st4 ?_
  refine ops_ok rfl (s_bin rfl gt4 rfl rfl) st5 ?_
  refine ops_ok rfl (s_move rfl gt5 (tyo_ok rfl)) st6 ?_
  refine ops_gv rfl (fun hb => s_fieldAddr rfl fo24x1 gt1 rfl) st7 ?_
  refine ops_gv rfl (fun hb => e_load rfl ty22 (evo_gv gt7 hb) rfl (ldC_one rfl) (tyo_ok rfl)) st8 ?_
  refine ops_gv rfl (fun hb => s_bin rfl (evo_gv gt8 hb) rfl rfl) st9 ?_
  refine ops_ok rfl (s_pick rfl gt6 gt9 rfl (pick_and (fun ht => gT ht))) st10 ?_
  refine ops_ok rfl (s_move rfl gt10 (tyo_ok rfl)) st11 ?_
  refine ops_gv rfl (fun hb => s_fieldAddr rfl fo24x1 gt1 rfl) st12 ?_
  refine ops_gv rfl (fun hb => e_load rfl ty22 (evo_gv gt12 hb) rfl (ldC_one rfl) (tyo_ok rfl)) st13 ?_
  refine ops_gv rfl (fun hb => s_bin rfl (evo_gv gt13 hb) rfl rfl) st14 ?_
  refine ops_ok rfl (s_pick rfl gt11 gt14 rfl (pick_and (fun ht => gT ht))) st15 ?_
  refine ops_ok rfl (s_assign rfl gt15 (tyo_ok rfl)) st2 ?_
  refine ops_nil ?_
  refine q_seq ?_
  refine r_ret ?_
  obtain rfl := Option.some.inj hF
  refine q_retL1 rfl (rl_tmp gt2 rl_nil) (fin_ext (leV.refl _) rfl ?_)
  exact ⟨rfl, rfl⟩
/-! varve/dot.May -/
theorem ok57 {d0 : GDot} {res : Bool} {h : AH}  (hF : dotMay d0 = some res) : Spec Try.prog 57 [.agg [.int .u8 d0.actor.rep, .int .u32 d0.actor.inc, .int .u64 d0.seq]] h (fun rr hh => rr = .bool res ∧ hh = h) := by
  unfold dotMay at hF
  refine spec_of_body_ext Try.func57 rfl (by kernel_rfl) (env := [.agg [.int .u8 d0.actor.rep, .int .u32 d0.actor.inc, .int .u64 d0.seq], aundef, aundef, aundef, aundef, aundef, aundef, aundef, aundef, aundef, aundef, aundef, aundef, aundef, aundef, aundef]) (by rfl) ?_
  refine r_seq ?_
  refine r_region ?_
  refine ops_ok rfl (e_box (n := 0) rfl gt0 (tyo_ok rfl) rfl rfl) st1 ?_
  refine ops_ok rfl (s_assign rfl rfl (tyo_ok rfl)) st2 ?_
  refine ops_nil ?_
  refine q_seq ?_
  refine r_seq ?_
  refine r_region ?_
  refine ops_ok rfl (s_fieldAddr rfl fo27x0 gt1 rfl) st3 ?_
  refine ops_ok rfl (e_load rfl ty24.choose_spec.1 gt3 rfl (ldC_agX (cs' := [.int .u8 d0.actor.rep, .int .u32 d0.actor.inc]) ty24.choose_spec.2 rfl rfl) (tyo_ok rfl)) st4 ?_
  refine bindF hF (fun v1 hv1 hF => ?_)
  refine ops_callP rfl (s_call0 rfl rfl rfl (argo_cons gt4 argo_nil) (.cons (tyo_ok rfl) .nil)) (ok99 hv1) st5 ?_
  refine ops_ok rfl (s_move rfl gt5 (tyo_ok rfl)) st6 ?_
  refine ops_gv rfl (fun hb => s_fieldAddr rfl fo27x1 gt1 rfl) st7 ?_
  refine ops_gv rfl (fun hb => e_load rfl ty25 (evo_gv gt7 hb) rfl (ldC_one rfl) (tyo_ok rfl)) st8 ?_
  refine ops_gv rfl (fun hb => s_bin rfl (evo_gv gt8 hb) rfl rfl) st9 ?_
  refine ops_ok rfl (s_pick rfl gt6 gt9 rfl (pick_and (fun ht => gT ht))) st10 ?_
  refine ops_ok rfl (s_move rfl gt10 (tyo_ok rfl)) st11 ?_
  refine ops_gv rfl (fun hb => s_fieldAddr rfl fo27x1 gt1 rfl) st12 ?_
  refine ops_gv rfl (fun hb => e_load rfl ty25 (evo_gv gt12 hb) rfl (ldC_one rfl) (tyo_ok rfl)) st13 ?_
  refine ops_gv rfl (fun hb => s_bin rfl (evo_gv gt13 hb) rfl rfl) st14 ?_
  refine ops_ok rfl (s_pick rfl gt11 gt14 rfl (pick_and (fun ht => gT ht))) st15 ?_
  refine ops_ok rfl (s_assign rfl gt15 (tyo_ok rfl)) st2 ?_
  refine ops_nil ?_
  refine q_seq ?_
  refine r_ret ?_
  obtain rfl := Option.some.inj hF
  refine q_retL1 rfl (rl_tmp gt2 rl_nil) (fin_ext (leV.refl _) rfl ?_)
  exact ⟨rfl, rfl⟩
/-! cmp.isNaN[uint8] -/
theorem ok155 {x0 : Int} {res : Bool} {h : AH}  (hF : cmpXisNaNUint8 x0 = some res) : Spec Try.prog 155 [.int .u8 x0] h (fun rr hh => rr = .bool res ∧ hh = h) := by
  unfold cmpXisNaNUint8 at hF
  refine spec_of_body_ext Try.func155 rfl (by kernel_rfl) (env := [.int .u8 x0, aundef, aundef, aundef, aundef, aundef]) (by rfl) ?_
  refine r_seq ?_
  refine r_region ?_
  refine ops_ok rfl (s_assign rfl rfl (tyo_ok rfl)) st2 ?_
  refine ops_nil ?_
  refine q_seq ?_
  refine r_seq ?_
  refine r_region ?_
  refine ops_ok rfl (s_move rfl gt0 (tyo_ok rfl)) st3 ?_
  refine ops_ok rfl (s_move rfl gt0 (tyo_ok rfl)) st4 ?_
  refine ops_ok rfl (s_bin rfl gt3 gt4 rfl) st5 ?_
  refine ops_ok rfl (s_assign rfl gt5 (tyo_ok rfl)) st2 ?_
  refine ops_nil ?_
  refine q_seq ?_
  refine r_ret ?_
  obtain rfl := Option.some.inj hF
  refine q_retL1 rfl (rl_tmp gt2 rl_nil) (fin_ext (leV.refl _) rfl ?_)
  exact ⟨rfl, rfl⟩
/-! cmp.Compare[uint8] -/
theorem ok144 {x0 : Int} {y1 : Int} {res : Int} {h : AH}  (hF : cmpCompareUint8 x0 y1 = some res) : Spec Try.prog 144 [.int .u8 x0, .int .u8 y1] h (fun rr hh => rr = .int .i64 res ∧ hh = h) := by
  unfold cmpCompareUint8 at hF
  refine spec_of_body_ext Try.func144 rfl (by kernel_rfl) (env := [.int .u8 x0, .int .u8 y1, aundef, aundef, aundef, aundef, aundef, aundef, aundef, aundef, aundef, aundef, aundef, aundef, aundef, aundef, aundef, aundef, aundef, aundef]) (by rfl) ?_
  refine r_seq ?_
  refine r_region ?_
  refine ops_ok rfl (s_assign rfl rfl (tyo_ok rfl)) st4 ?_
  refine ops_nil ?_
  refine q_seq ?_
  refine r_seq ?_
  refine r_region ?_
  refine ops_ok rfl (s_move rfl gt0 (tyo_ok rfl)) st7 ?_
  refine bindF hF (fun v1 hv1 hF => ?_)
  refine ops_callP rfl (s_call0 rfl rfl rfl (argo_cons gt7 argo_nil) (.cons (tyo_ok rfl) .nil)) (ok155 hv1) st8 ?_
  refine ops_ok rfl (s_assign rfl gt8 (tyo_ok rfl)) st5 ?_
  refine ops_nil ?_
  refine q_seq ?_
  refine r_seq ?_
  refine r_region ?_
  refine ops_ok rfl (s_move rfl gt1 (tyo_ok rfl)) st9 ?_
  refine bindF hF (fun v2 hv2 hF => ?_)
  refine ops_callP rfl (s_call0 rfl rfl rfl (argo_cons gt9 argo_nil) (.cons (tyo_ok rfl) .nil)) (ok155 hv2) st10 ?_
  refine ops_ok rfl (s_assign rfl gt10 (tyo_ok rfl)) st6 ?_
  refine ops_nil ?_
  refine q_seq ?_
  refine r_seq ?_
  refine r_seq ?_
  refine r_region ?_
  refine ops_ok rfl (s_move rfl gt5 (tyo_ok rfl)) st11 ?_
  refine ops_nil ?_
  refine q_seq ?_
  refine r_condF gt11 hF (fun hc3 hF => ?_) (fun hc3 hF => ?_)
  · skip
    refine r_seq ?_
    refine r_seq ?_
    refine r_region ?_
    refine ops_ok rfl (s_move rfl gt6 (tyo_ok rfl)) st12 ?_
    refine ops_nil ?_
    refine q_seq ?_
    refine r_condF gt12 hF (fun hc4 hF => ?_) (fun hc4 hF => ?_)
    · skip
      refine r_seq ?_
      refine r_region ?_
      refine ops_ok rfl (s_assign rfl rfl (tyo_ok rfl)) st4 ?_
      refine ops_nil ?_
      refine q_seq ?_
      refine r_ret ?_
      refine q_seq_ret ?_
      refine q_seq_ret ?_
      obtain rfl := Option.some.inj hF
      refine q_retL1 rfl (rl_tmp gt4 rl_nil) (fin_ext (leV.refl _) rfl ?_)
      exact ⟨rfl, rfl⟩
    · skip
      refine r_skip ?_
      refine q_seq ?_
      refine r_seq ?_
      refine r_region ?_
      refine ops_ok rfl (s_assign rfl rfl (tyo_ok rfl)) st4 ?_
      refine ops_nil ?_
      refine q_seq ?_
      refine r_ret ?_
      refine q_seq_ret ?_
      obtain rfl := Option.some.inj hF
      refine q_retL1 rfl (rl_tmp gt4 rl_nil) (fin_ext (leV.refl _) rfl ?_)
      exact ⟨rfl, rfl⟩
  · skip
    refine r_skip ?_
    refine q_seq ?_
    refine r_seq ?_
    refine r_seq ?_
    refine r_region ?_
    refine ops_ok rfl (s_move rfl gt6 (tyo_ok rfl)) st13 ?_
    refine ops_nil ?_
    refine q_seq ?_
    refine r_condF gt13 hF (fun hc5 hF => ?_) (fun hc5 hF => ?_)
    · skip
      refine r_seq ?_
      refine r_region ?_
      refine ops_ok rfl (s_assign rfl rfl (tyo_ok rfl)) st4 ?_
      refine ops_nil ?_
      refine q_seq ?_
      refine r_ret ?_
      refine q_seq_ret ?_
      obtain rfl := Option.some.inj hF
      refine q_retL1 rfl (rl_tmp gt4 rl_nil) (fin_ext (leV.refl _) rfl ?_)
      exact ⟨rfl, rfl⟩
    · skip
      refine r_skip ?_
      refine q_seq ?_
      refine r_seq ?_
      refine r_seq ?_
      refine r_region ?_
      refine ops_ok rfl (s_move rfl gt0 (tyo_ok rfl)) st14 ?_
      refine ops_ok rfl (s_move rfl gt1 (tyo_ok rfl)) st15 ?_
      refine ops_ok rfl (s_bin rfl gt14 gt15 rfl) st16 ?_
      refine ops_nil ?_
      refine q_seq ?_
      refine r_condF gt16 hF (fun hc6 hF => ?_) (fun hc6 hF => ?_)
      · skip
        refine r_seq ?_
        refine r_region ?_
        refine ops_ok rfl (s_assign rfl rfl (tyo_ok rfl)) st4 ?_
        refine ops_nil ?_
        refine q_seq ?_
        refine r_ret ?_
        refine q_seq_ret ?_
        obtain rfl := Option.some.inj hF
        refine q_retL1 rfl (rl_tmp gt4 rl_nil) (fin_ext (leV.refl _) rfl ?_)
        exact ⟨rfl, rfl⟩
      · skip
        refine r_skip ?_
        refine q_seq ?_
        refine r_seq ?_
        refine r_seq ?_
        refine r_region ?_
        refine ops_ok rfl (s_move rfl gt0 (tyo_ok rfl)) st17 ?_
        refine ops_ok rfl (s_move rfl gt1 (tyo_ok rfl)) st18 ?_
        refine ops_ok rfl (s_bin rfl gt17 gt18 rfl) st19 ?_
        refine ops_nil ?_
        refine q_seq ?_
        refine r_condF gt19 hF (fun hc7 hF => ?_) (fun hc7 hF => ?_)
        · skip
          refine r_seq ?_
          refine r_region ?_
          refine ops_ok rfl (s_assign rfl rfl (tyo_ok rfl)) st4 ?_
          refine ops_nil ?_
          refine q_seq ?_
          refine r_ret ?_
          refine q_seq_ret ?_
          obtain rfl := Option.some.inj hF
          refine q_retL1 rfl (rl_tmp gt4 rl_nil) (fin_ext (leV.refl _) rfl ?_)
          exact ⟨rfl, rfl⟩
        · skip
          refine r_skip ?_
          refine q_seq ?_
          refine r_seq ?_
          refine r_region ?_
          refine ops_ok rfl (s_assign rfl rfl (tyo_ok rfl)) st4 ?_
          refine ops_nil ?_
          refine q_seq ?_
          refine r_ret ?_
          obtain rfl := Option.some.inj hF
          refine q_retL1 rfl (rl_tmp gt4 rl_nil) (fin_ext (leV.refl _) rfl ?_)
          exact ⟨rfl, rfl⟩
/-! cmp.isNaN[uint32] -/
theorem ok156 {x0 : Int} {res : Bool} {h : AH}  (hF : cmpXisNaNUint32 x0 = some res) : Spec Try.prog 156 [.int .u32 x0] h (fun rr hh => rr = .bool res ∧ hh = h) := by
  unfold cmpXisNaNUint32 at hF
  refine spec_of_body_ext Try.func156 rfl (by kernel_rfl) (env := [.int .u32 x0, aundef, aundef, aundef, aundef, aundef]) (by rfl) ?_
  refine r_seq ?_
  refine r_region ?_
  refine ops_ok rfl (s_assign rfl rfl (tyo_ok rfl)) st2 ?_
  refine ops_nil ?_
  refine q_seq ?_
  refine r_seq ?_
  refine r_region ?_
  refine ops_ok rfl (s_move rfl gt0 (tyo_ok rfl)) st3 ?_
  refine ops_ok rfl (s_move rfl gt0 (tyo_ok rfl)) st4 ?_
  refine ops_ok rfl (s_bin rfl gt3 gt4 rfl) st5 ?_
  refine ops_ok rfl (s_assign rfl gt5 (tyo_ok rfl)) st2 ?_
  refine ops_nil ?_
  refine q_seq ?_
  refine r_ret ?_
  obtain rfl := Option.some.inj hF
  refine q_retL1 rfl (rl_tmp gt2 rl_nil) (fin_ext (leV.refl _) rfl ?_)
  exact ⟨rfl, rfl⟩
/-! cmp.Compare[uint32] -/
theorem ok145 {x0 : Int} {y1 : Int} {res : Int} {h : AH}  (hF : cmpCompareUint32 x0 y1 = some res) : Spec Try.prog 145 [.int .u32 x0, .int .u32 y1] h (fun rr hh => rr = .int .i64 res ∧ hh = h) := by
  unfold cmpCompareUint32 at hF
  refine spec_of_body_ext Try.func145 rfl (by kernel_rfl) (env := [.int .u32 x0, .int .u32 y1, aundef, aundef, aundef, aundef, aundef, aundef, aundef, aundef, aundef, aundef, aundef, aundef, aundef, aundef, aundef, aundef, aundef, aundef]) (by rfl) ?_
  refine r_seq ?_
  refine r_region ?_
  refine ops_ok rfl (s_assign rfl rfl (tyo_ok rfl)) st4 ?_
  refine ops_nil ?_
  refine q_seq ?_
  refine r_seq ?_
  refine r_region ?_
  refine ops_ok rfl (s_move rfl gt0 (tyo_ok rfl)) st7 ?_
  refine bindF hF (fun v1 hv1 hF => ?_)
  refine ops_callP rfl (s_call0 rfl rfl rfl (argo_cons gt7 argo_nil) (.cons (tyo_ok rfl) .nil)) (ok156 hv1) st8 ?_
  refine ops_ok rfl (s_assign rfl gt8 (tyo_ok rfl)) st5 ?_
  refine ops_nil ?_
  refine q_seq ?_
  refine r_seq ?_
  refine r_region ?_
  refine ops_ok rfl (s_move rfl gt1 (tyo_ok rfl)) st9 ?_
  refine bindF hF (fun v2 hv2 hF => ?_)
  refine ops_callP rfl (s_call0 rfl rfl rfl (argo_cons gt9 argo_nil) (.cons (tyo_ok rfl) .nil)) (ok156 hv2) st10 ?_
  refine ops_ok rfl (s_assign rfl gt10 (tyo_ok rfl)) st6 ?_
  refine ops_nil ?_
  refine q_seq ?_
  refine r_seq ?_
  refine r_seq ?_
  refine r_region ?_
  refine ops_ok rfl (s_move rfl gt5 (tyo_ok rfl)) st11 ?_
  refine ops_nil ?_
  refine q_seq ?_
  refine r_condF gt11 hF (fun hc3 hF => ?_) (fun hc3 hF => ?_)
  · skip
    refine r_seq ?_
    refine r_seq ?_
    refine r_region ?_
    refine ops_ok rfl (s_move rfl gt6 (tyo_ok rfl)) st12 ?_
    refine ops_nil ?_
    refine q_seq ?_
    refine r_condF gt12 hF (fun hc4 hF => ?_) (fun hc4 hF => ?_)
    · skip
      refine r_seq ?_
      refine r_region ?_
      refine ops_ok rfl (s_assign rfl rfl (tyo_ok rfl)) st4 ?_
      refine ops_nil ?_
      refine q_seq ?_
      refine r_ret ?_
      refine q_seq_ret ?_
      refine q_seq_ret ?_
      obtain rfl := Option.some.inj hF
      refine q_retL1 rfl (rl_tmp gt4 rl_nil) (fin_ext (leV.refl _) rfl ?_)
      exact ⟨rfl, rfl⟩
    · skip
      refine r_skip ?_
      refine q_seq ?_
      refine r_seq ?_
      refine r_region ?_
      refine ops_ok rfl (s_assign rfl rfl (tyo_ok rfl)) st4 ?_
      refine ops_nil ?_
      refine q_seq ?_
      refine r_ret ?_
      refine q_seq_ret ?_
      obtain rfl := Option.some.inj hF
      refine q_retL1 rfl (rl_tmp gt4 rl_nil) (fin_ext (leV.refl _) rfl ?_)
      exact ⟨rfl, rfl⟩
  · skip
    refine r_skip ?_
    refine q_seq ?_
    refine r_seq ?_
    refine r_seq ?_
    refine r_region ?_
    refine ops_ok rfl (s_move rfl gt6 (tyo_ok rfl)) st13 ?_
    refine ops_nil ?_
    refine q_seq ?_
    refine r_condF gt13 hF (fun hc5 hF => ?_) (fun hc5 hF => ?_)
    · skip
      refine r_seq ?_
      refine r_region ?_
      refine ops_ok rfl (s_assign rfl rfl (tyo_ok rfl)) st4 ?_
      refine ops_nil ?_
      refine q_seq ?_
      refine r_ret ?_
      refine q_seq_ret ?_
      obtain rfl := Option.some.inj hF
      refine q_retL1 rfl (rl_tmp gt4 rl_nil) (fin_ext (leV.refl _) rfl ?_)
      exact ⟨rfl, rfl⟩
    · skip
      refine r_skip ?_
      refine q_seq ?_
      refine r_seq ?_
      refine r_seq ?_
      refine r_region ?_
      refine ops_ok rfl (s_move rfl gt0 (tyo_ok rfl)) st14 ?_
      refine ops_ok rfl (s_move rfl gt1 (tyo_ok rfl)) st15 ?_
      refine ops_ok rfl (s_bin rfl gt14 gt15 rfl) st16 ?_
      refine ops_nil ?_
      refine q_seq ?_
      refine r_condF gt16 hF (fun hc6 hF => ?_) (fun hc6 hF => ?_)
      · skip
        refine r_seq ?_
        refine r_region ?_
        refine ops_ok rfl (s_assign rfl rfl (tyo_ok rfl)) st4 ?_
        refine ops_nil ?_
        refine q_seq ?_
        refine r_ret ?_
        refine q_seq_ret ?_
        obtain rfl := Option.some.inj hF
        refine q_retL1 rfl (rl_tmp gt4 rl_nil) (fin_ext (leV.refl _) rfl ?_)
        exact ⟨rfl, rfl⟩
      · skip
        refine r_skip ?_
        refine q_seq ?_
        refine r_seq ?_
        refine r_seq ?_
        refine r_region ?_
        refine ops_ok rfl (s_move rfl gt0 (tyo_ok rfl)) st17 ?_
        refine ops_ok rfl (s_move rfl gt1 (tyo_ok rfl)) st18 ?_
        refine ops_ok rfl (s_bin rfl gt17 gt18 rfl) st19 ?_
        refine ops_nil ?_
        refine q_seq ?_
        refine r_condF gt19 hF (fun hc7 hF => ?_) (fun hc7 hF => ?_)
        · skip
          refine r_seq ?_
          refine r_region ?_
          refine ops_ok rfl (s_assign rfl rfl (tyo_ok rfl)) st4 ?_
          refine ops_nil ?_
          refine q_seq ?_
          refine r_ret ?_
          refine q_seq_ret ?_
          obtain rfl := Option.some.inj hF
          refine q_retL1 rfl (rl_tmp gt4 rl_nil) (fin_ext (leV.refl _) rfl ?_)
          exact ⟨rfl, rfl⟩
        · skip
          refine r_skip ?_
          refine q_seq ?_
          refine r_seq ?_
          refine r_region ?_
          refine ops_ok rfl (s_assign rfl rfl (tyo_ok rfl)) st4 ?_
          refine ops_nil ?_
          refine q_seq ?_
          refine r_ret ?_
          obtain rfl := Option.some.inj hF
          refine q_retL1 rfl (rl_tmp gt4 rl_nil) (fin_ext (leV.refl _) rfl ?_)
          exact ⟨rfl, rfl⟩
/-! varve/dot.compare -/
theorem ok132 {a0 : GActor} {b1 : GActor} {res : Int} {h : AH}  (hF : dotXcompare a0 b1 = some res) : Spec Try.prog 132 [.agg [.int .u8 a0.rep, .int .u32 a0.inc], .agg [.int .u8 b1.rep, .int .u32 b1.inc]] h (fun rr hh => rr = .int .i64 res ∧ hh = h) := by
  unfold dotXcompare at hF
  refine spec_of_body_ext Try.func132 rfl (by kernel_rfl) (env := [.agg [.int .u8 a0.rep, .int .u32 a0.inc], .agg [.int .u8 b1.rep, .int .u32 b1.inc], aundef, aundef, aundef, aundef, aundef, aundef, aundef, aundef, aundef, aundef, aundef, aundef, aundef, aundef, aundef]) (by rfl) ?_
  refine r_seq ?_
  refine r_region ?_
  refine ops_ok rfl (e_box (n := 0) rfl gt0 (tyo_ok rfl) rfl rfl) st2 ?_
  refine ops_ok rfl (e_box (n := 1) rfl gt1 (tyo_ok rfl) rfl rfl) st3 ?_
  refine ops_ok rfl (s_assign rfl rfl (tyo_ok rfl)) st4 ?_
  refine ops_nil ?_
  refine q_seq ?_
  refine r_seq ?_
  refine r_drawn mixed (by kernel_rfl) ?_
  refine draw_ok rfl (s_fieldAddr rfl fo24x0 gt2 rfl) st5 ?_
  refine draw_ok rfl (e_load rfl ty5 gt5 rfl (ldC_one rfl) (tyo_ok rfl)) st6 ?_
  refine draw_ok rfl (s_fieldAddr rfl fo24x0 gt3 rfl) st7 ?_
  refine draw_ok rfl (e_load rfl ty5 gt7 rfl (ldC_one rfl) (tyo_ok rfl)) st8 ?_
  refine bindF hF (fun v1 hv1 hF => ?_)
  refine draw_call rfl (s_call0 rfl rfl rfl (argo_cons gt6 (argo_cons gt8 argo_nil)) (.cons (tyo_ok rfl) (.cons (tyo_ok rfl) .nil))) (ok144 hv1) st9 ?_
  refine draw_ok rfl (s_fieldAddr rfl fo24x1 gt2 rfl) st10 ?_
  refine draw_ok rfl (e_load rfl ty22 gt10 rfl (ldC_one rfl) (tyo_ok rfl)) st11 ?_
  refine draw_ok rfl (s_fieldAddr rfl fo24x1 gt3 rfl) st12 ?_
  refine draw_ok rfl (e_load rfl ty22 gt12 rfl (ldC_one rfl) (tyo_ok rfl)) st13 ?_
  refine bindF hF (fun v2 hv2 hF => ?_)
  refine draw_call rfl (s_call0 rfl rfl rfl (argo_cons gt11 (argo_cons gt13 argo_nil)) (.cons (tyo_ok rfl) (.cons (tyo_ok rfl) .nil))) (ok145 hv2) st14 ?_
  refine draw_ok rfl (s_buildSlice (es := ([v1, v2] : List Int).map (intRow .i64)) rfl el45 ze3 rfl rfl (parto_cons gt9 (parto_cons gt14 parto_nil)) (.cons (tyo_ok rfl) (.cons (tyo_ok rfl) .nil)) rfl rfl rfl) st15 ?_
  refine bindF hF (fun v3 hv3 hF => ?_)
  refine draw_call rfl (s_call0 rfl rfl rfl (argo_cons gt15 argo_nil) (.cons (tyo_ok rfl) .nil)) ((ok131 hv3).le (.cons (leV.osl _ _ _) leL.nil)) st16 ?_
  refine draw_ok rfl (s_assign rfl gt16 (tyo_ok rfl)) st4 ?_
  refine draw_nil ?_
  refine q_seq ?_
  refine r_ret ?_
  obtain rfl := Option.some.inj hF
  refine q_retL1 rfl (rl_tmp gt4 rl_nil) (fin_ext (leV.refl _) rfl ?_)
  exact ⟨rfl, rfl⟩
/-! cmp.isNaN[uint64] -/
theorem ok146 {x0 : Int} {res : Bool} {h : AH}  (hF : cmpXisNaNUint64 x0 = some res) : Spec Try.prog 146 [.int .u64 x0] h (fun rr hh => rr = .bool res ∧ hh = h) := by
  unfold cmpXisNaNUint64 at hF
  refine spec_of_body_ext Try.func146 rfl (by kernel_rfl) (env := [.int .u64 x0, aundef, aundef, aundef, aundef, aundef]) (by rfl) ?_
  refine r_seq ?_
  refine r_region ?_
  refine ops_ok rfl (s_assign rfl rfl (tyo_ok rfl)) st2 ?_
  refine ops_nil ?_
  refine q_seq ?_
  refine r_seq ?_
  refine r_region ?_
  refine ops_ok rfl (s_move rfl gt0 (tyo_ok rfl)) st3 ?_
  refine ops_ok rfl (s_move rfl gt0 (tyo_ok rfl)) st4 ?_
  refine ops_ok rfl (s_bin rfl gt3 gt4 rfl) st5 ?_
  refine ops_ok rfl (s_assign rfl gt5 (tyo_ok rfl)) st2 ?_
  refine ops_nil ?_
  refine q_seq ?_
  refine r_ret ?_
  obtain rfl := Option.some.inj hF
  refine q_retL1 rfl (rl_tmp gt2 rl_nil) (fin_ext (leV.refl _) rfl ?_)
  exact ⟨rfl, rfl⟩
/-! cmp.Compare[uint64] -/
theorem ok133 {x0 : Int} {y1 : Int} {res : Int} {h : AH}  (hF : cmpCompareUint64 x0 y1 = some res) : Spec Try.prog 133 [.int .u64 x0, .int .u64 y1] h (fun rr hh => rr = .int .i64 res ∧ hh = h) := by
  unfold cmpCompareUint64 at hF
  refine spec_of_body_ext Try.func133 rfl (by kernel_rfl) (env := [.int .u64 x0, .int .u64 y1, aundef, aundef, aundef, aundef, aundef, aundef, aundef, aundef, aundef, aundef, aundef, aundef, aundef, aundef, aundef, aundef, aundef, aundef]) (by rfl) ?_
  refine r_seq ?_
  refine r_region ?_
  refine ops_ok rfl (s_assign rfl rfl (tyo_ok rfl)) st4 ?_
  refine ops_nil ?_
  refine q_seq ?_
  refine r_seq ?_
  refine r_region ?_
  refine ops_ok rfl (s_move rfl gt0 (tyo_ok rfl)) st7 ?_
  refine bindF hF (fun v1 hv1 hF => ?_)
  refine ops_callP rfl (s_call0 rfl rfl rfl (argo_cons gt7 argo_nil) (.cons (tyo_ok rfl) .nil)) (ok146 hv1) st8 ?_
  refine ops_ok rfl (s_assign rfl gt8 (tyo_ok rfl)) st5 ?_
  refine ops_nil ?_
  refine q_seq ?_
  refine r_seq ?_
  refine r_region ?_
  refine ops_ok rfl (s_move rfl gt1 (tyo_ok rfl)) st9 ?_
  refine bindF hF (fun v2 hv2 hF => ?_)
  refine ops_callP rfl (s_call0 rfl rfl rfl (argo_cons gt9 argo_nil) (.cons (tyo_ok rfl) .nil)) (ok146 hv2) st10 ?_
  refine ops_ok rfl (s_assign rfl gt10 (tyo_ok rfl)) st6 ?_
  refine ops_nil ?_
  refine q_seq ?_
  refine r_seq ?_
  refine r_seq ?_
  refine r_region ?_
  refine ops_ok rfl (s_move rfl gt5 (tyo_ok rfl)) st11 ?_
  refine ops_nil ?_
  refine q_seq ?_
  refine r_condF gt11 hF (fun hc3 hF => ?_) (fun hc3 hF => ?_)
  · skip
    refine r_seq ?_
    refine r_seq ?_
    refine r_region ?_
    refine ops_ok rfl (s_move rfl gt6 (tyo_ok rfl)) st12 ?_
    refine ops_nil ?_
    refine q_seq ?_
    refine r_condF gt12 hF (fun hc4 hF => ?_) (fun hc4 hF => ?_)
    · skip
      refine r_seq ?_
      refine r_region ?_
      refine ops_ok rfl (s_assign rfl rfl (tyo_ok rfl)) st4 ?_
      refine ops_nil ?_
      refine q_seq ?_
      refine r_ret ?_
      refine q_seq_ret ?_
      refine q_seq_ret ?_
      obtain rfl := Option.some.inj hF
      refine q_retL1 rfl (rl_tmp gt4 rl_nil) (fin_ext (leV.refl _) rfl ?_)
      exact ⟨rfl, rfl⟩
    · skip
      refine r_skip ?_
      refine q_seq ?_
      refine r_seq ?_
      refine r_region ?_
      refine ops_ok rfl (s_assign rfl rfl (tyo_ok rfl)) st4 ?_
      refine ops_nil ?_
      refine q_seq ?_
      refine r_ret ?_
      refine q_seq_ret ?_
      obtain rfl := Option.some.inj hF
      refine q_retL1 rfl (rl_tmp gt4 rl_nil) (fin_ext (leV.refl _) rfl ?_)
      exact ⟨rfl, rfl⟩
  · skip
    refine r_skip ?_
    refine q_seq ?_
    refine r_seq ?_
    refine r_seq ?_
    refine r_region ?_
    refine ops_ok rfl (s_move rfl gt6 (tyo_ok rfl)) st13 ?_
    refine ops_nil ?_
    refine q_seq ?_
    refine r_condF gt13 hF (fun hc5 hF => ?_) (fun hc5 hF => ?_)
    · skip
      refine r_seq ?_
      refine r_region ?_
      refine ops_ok rfl (s_assign rfl rfl (tyo_ok rfl)) st4 ?_
      refine ops_nil ?_
      refine q_seq ?_
      refine r_ret ?_
      refine q_seq_ret ?_
      obtain rfl := Option.some.inj hF
      refine q_retL1 rfl (rl_tmp gt4 rl_nil) (fin_ext (leV.refl _) rfl ?_)
      exact ⟨rfl, rfl⟩
    · skip
      refine r_skip ?_
      refine q_seq ?_
      refine r_seq ?_
      refine r_seq ?_
      refine r_region ?_
      refine ops_ok rfl (s_move rfl gt0 (tyo_ok rfl)) st14 ?_
      refine ops_ok rfl (s_move rfl gt1 (tyo_ok rfl)) st15 ?_
      refine ops_ok rfl (s_bin rfl gt14 gt15 rfl) st16 ?_
      refine ops_nil ?_
      refine q_seq ?_
      refine r_condF gt16 hF (fun hc6 hF => ?_) (fun hc6 hF => ?_)
      · skip
        refine r_seq ?_
        refine r_region ?_
        refine ops_ok rfl (s_assign rfl rfl (tyo_ok rfl)) st4 ?_
        refine ops_nil ?_
        refine q_seq ?_
        refine r_ret ?_
        refine q_seq_ret ?_
        obtain rfl := Option.some.inj hF
        refine q_retL1 rfl (rl_tmp gt4 rl_nil) (fin_ext (leV.refl _) rfl ?_)
        exact ⟨rfl, rfl⟩
      · skip
        refine r_skip ?_
        refine q_seq ?_
        refine r_seq ?_
        refine r_seq ?_
        refine r_region ?_
        refine ops_ok rfl (s_move rfl gt0 (tyo_ok rfl)) st17 ?_
        refine ops_ok rfl (s_move rfl gt1 (tyo_ok rfl)) st18 ?_
        refine ops_ok rfl (s_bin rfl gt17 gt18 rfl) st19 ?_
        refine ops_nil ?_
        refine q_seq ?_
        refine r_condF gt19 hF (fun hc7 hF => ?_) (fun hc7 hF => ?_)
        · skip
          refine r_seq ?_
          refine r_region ?_
          refine ops_ok rfl (s_assign rfl rfl (tyo_ok rfl)) st4 ?_
          refine ops_nil ?_
          refine q_seq ?_
          refine r_ret ?_
          refine q_seq_ret ?_
          obtain rfl := Option.some.inj hF
          refine q_retL1 rfl (rl_tmp gt4 rl_nil) (fin_ext (leV.refl _) rfl ?_)
          exact ⟨rfl, rfl⟩
        · skip
          refine r_skip ?_
          refine q_seq ?_
          refine r_seq ?_
          refine r_region ?_
          refine ops_ok rfl (s_assign rfl rfl (tyo_ok rfl)) st4 ?_
          refine ops_nil ?_
          refine q_seq ?_
          refine r_ret ?_
          obtain rfl := Option.some.inj hF
          refine q_retL1 rfl (rl_tmp gt4 rl_nil) (fin_ext (leV.refl _) rfl ?_)
          exact ⟨rfl, rfl⟩
/-! varve/dot.Compare -/
theorem ok116 {a0 : GDot} {b1 : GDot} {res : Int} {h : AH}  (hF : dotCompare a0 b1 = some res) : Spec Try.prog 116 [.agg [.int .u8 a0.actor.rep, .int .u32 a0.actor.inc, .int .u64 a0.seq], .agg [.int .u8 b1.actor.rep, .int .u32 b1.actor.inc, .int .u64 b1.seq]] h (fun rr hh => rr = .int .i64 res ∧ hh = h) := by
  unfold dotCompare at hF
  refine spec_of_body_ext Try.func116 rfl (by kernel_rfl) (env := [.agg [.int .u8 a0.actor.rep, .int .u32 a0.actor.inc, .int .u64 a0.seq], .agg [.int .u8 b1.actor.rep, .int .u32 b1.actor.inc, .int .u64 b1.seq], aundef, aundef, aundef, aundef, aundef, aundef, aundef, aundef, aundef, aundef, aundef, aundef, aundef, aundef, aundef]) (by rfl) ?_
  refine r_seq ?_
  refine r_region ?_
  refine ops_ok rfl (e_box (n := 0) rfl gt0 (tyo_ok rfl) rfl rfl) st2 ?_
  refine ops_ok rfl (e_box (n := 1) rfl gt1 (tyo_ok rfl) rfl rfl) st3 ?_
  refine ops_ok rfl (s_assign rfl rfl (tyo_ok rfl)) st4 ?_
  refine ops_nil ?_
  refine q_seq ?_
  refine r_seq ?_
  refine r_drawn mixed (by kernel_rfl) ?_
  refine draw_ok rfl (s_fieldAddr rfl fo27x0 gt2 rfl) st5 ?_
  refine draw_ok rfl (e_load rfl ty24.choose_spec.1 gt5 rfl (ldC_agX (cs' := [.int .u8 a0.actor.rep, .int .u32 a0.actor.inc]) ty24.choose_spec.2 rfl rfl) (tyo_ok rfl)) st6 ?_
  refine draw_ok rfl (s_fieldAddr rfl fo27x0 gt3 rfl) st7 ?_
  refine draw_ok rfl (e_load rfl ty24.choose_spec.1 gt7 rfl (ldC_agX (cs' := [.int .u8 b1.actor.rep, .int .u32 b1.actor.inc]) ty24.choose_spec.2 rfl rfl) (tyo_ok rfl)) st8 ?_
  refine bindF hF (fun v1 hv1 hF => ?_)
  refine draw_call rfl (s_call0 rfl rfl rfl (argo_cons gt6 (argo_cons gt8 argo_nil)) (.cons (tyo_ok rfl) (.cons (tyo_ok rfl) .nil))) (ok132 hv1) st9 ?_
  refine draw_ok rfl (s_fieldAddr rfl fo27x1 gt2 rfl) st10 ?_
  refine draw_ok rfl (e_load rfl ty25 gt10 rfl (ldC_one rfl) (tyo_ok rfl)) st11 ?_
  refine draw_ok rfl (s_fieldAddr rfl fo27x1 gt3 rfl) st12 ?_
  refine draw_ok rfl (e_load rfl ty25 gt12 rfl (ldC_one rfl) (tyo_ok rfl)) st13 ?_
  refine bindF hF (fun v2 hv2 hF => ?_)
  refine draw_call rfl (s_call0 rfl rfl rfl (argo_cons gt11 (argo_cons gt13 argo_nil)) (.cons (tyo_ok rfl) (.cons (tyo_ok rfl) .nil))) (ok133 hv2) st14 ?_
  refine draw_ok rfl (s_buildSlice (es := ([v1, v2] : List Int).map (intRow .i64)) rfl el45 ze3 rfl rfl (parto_cons gt9 (parto_cons gt14 parto_nil)) (.cons (tyo_ok rfl) (.cons (tyo_ok rfl) .nil)) rfl rfl rfl) st15 ?_
  refine bindF hF (fun v3 hv3 hF => ?_)
  refine draw_call rfl (s_call0 rfl rfl rfl (argo_cons gt15 argo_nil) (.cons (tyo_ok rfl) .nil)) ((ok131 hv3).le (.cons (leV.osl _ _ _) leL.nil)) st16 ?_
  refine draw_ok rfl (s_assign rfl gt16 (tyo_ok rfl)) st4 ?_
  refine draw_nil ?_
  refine q_seq ?_
  refine r_ret ?_
  obtain rfl := Option.some.inj hF
  refine q_retL1 rfl (rl_tmp gt4 rl_nil) (fin_ext (leV.refl _) rfl ?_)
  exact ⟨rfl, rfl⟩
/-! varve/op.drops -/
theorem ok97 {o0 : GOp} {res : Bool} {h : AH}  (hF : opXdrops o0 = some res) : Spec Try.prog 97 [.agg [.int .u8 o0.kind, .sl 1 (o0.path.map strRow), .int .i64 o0.n, .str o0.text, .sl 3 (o0.dots.map GDot.row)]] h (fun rr hh => rr = .bool res ∧ hh = h) := by
  unfold opXdrops at hF
  refine spec_of_body_ext Try.func97 rfl (by kernel_rfl) (env := [.agg [.int .u8 o0.kind, .sl 1 (o0.path.map strRow), .int .i64 o0.n, .str o0.text, .sl 3 (o0.dots.map GDot.row)], aundef, aundef, aundef, aundef, aundef, aundef, aundef, aundef, aundef, aundef, aundef, aundef, aundef, aundef, aundef, aundef, aundef, aundef, aundef, aundef, aundef, aundef, aundef, aundef, aundef, aundef, aundef, aundef, aundef, aundef, aundef, aundef, aundef, aundef, aundef, aundef, aundef, aundef, aundef, aundef, aundef, aundef, aundef, aundef, aundef, aundef]) (by rfl) ?_
  refine r_seq ?_
  refine r_region ?_
  refine ops_ok rfl (e_box (n := 0) rfl gt0 (tyo_ok rfl) rfl rfl) st1 ?_
  refine ops_ok rfl (s_assign rfl rfl (tyo_ok rfl)) st2 ?_
  refine ops_nil ?_
  refine q_seq ?_
  refine r_seq ?_
  refine r_seq ?_
  refine r_region ?_
  refine ops_ok rfl (s_fieldAddr rfl fo31x2 gt1 rfl) st5 ?_
  refine ops_ok rfl (e_load rfl ty2 gt5 rfl (ldC_one rfl) (tyo_ok rfl)) st6 ?_
  refine ops_ok rfl (s_bin rfl gt6 rfl rfl) st7 ?_
  refine ops_ok rfl (s_move rfl gt7 (tyo_ok rfl)) st8 ?_
  refine ops_gv rfl (fun hb => s_fieldAddr rfl fo31x3 gt1 rfl) st9 ?_
  refine ops_gv rfl (fun hb => e_load rfl ty9 (evo_gv gt9 hb) rfl (ldC_one rfl) (tyo_ok rfl)) st10 ?_
  refine ops_glen rfl (fun hb => s_lenStr rfl rfl rfl rfl ty9 (evo_gv gt10 hb)) st11 fun hn1 => ?_
  refine ops_gv rfl (fun hb => s_bin rfl (evo_gv gt11 hb) rfl rfl) st12 ?_
  refine ops_ok rfl (s_pick rfl gt8 rfl gt12 (pick_or (fun ht => gF ht))) st13 ?_
  refine ops_ok rfl (s_move rfl gt13 (tyo_ok rfl)) st14 ?_
  refine ops_gv rfl (fun hb => s_fieldAddr rfl fo31x4 gt1 rfl) st15 ?_
  refine ops_gv rfl (fun hb => e_load rfl ty29 (evo_gv gt15 hb) rfl (ldC_one rfl) (tyo_ok rfl)) st16 ?_
  refine ops_glen rfl (fun hb => s_lenSl rfl rfl rfl rfl el29 (evo_gv gt16 hb) lenMap) st17 fun hn2 => ?_
  refine ops_gv rfl (fun hb => s_bin rfl (evo_gv gt17 hb) rfl rfl) st18 ?_
  refine ops_ok rfl (s_pick rfl gt14 rfl gt18 (pick_or (fun ht => gF ht))) st19 ?_
  refine ops_nil ?_
  refine q_seq ?_
  refine r_condF gt19 hF (fun hc3 hF => ?_) (fun hc3 hF => ?_)
  · skip
    refine r_seq ?_
    refine r_region ?_
    refine ops_ok rfl (s_assign rfl rfl (tyo_ok rfl)) st2 ?_
    refine ops_nil ?_
    refine q_seq ?_
    refine r_ret ?_
    refine q_seq_ret ?_
    obtain rfl := Option.some.inj hF
    refine q_retL1 rfl (rl_tmp gt2 rl_nil) (fin_ext (leV.refl _) rfl ?_)
    exact ⟨rfl, rfl⟩
  · skip
    refine r_skip ?_
    refine q_seq ?_
    refine r_seq ?_
    refine r_seq ?_
    refine r_region ?_
    refine ops_ok rfl (s_fieldAddr rfl fo31x4 gt1 rfl) st20 ?_
    refine ops_ok rfl (e_load rfl ty29 gt20 rfl (ldC_one rfl) (tyo_ok rfl)) st21 ?_
    refine ops_len rfl (s_lenSl rfl rfl rfl rfl el29 gt21 lenMap) st22 fun hn4 => ?_
    replace hn4 := lenN hn4
    refine ops_ok rfl (s_move rfl rfl (tyo_ok rfl)) st23 ?_
    refine ops_nil ?_
    refine q_seq ?_
    refine r_block ?_
    refine r_loopLF (fun (n1 : Nat) (s1 : Unit) => [(0, .any), (2, .any), (3, .any), (4, .any), (5, .any), (6, .any), (7, .any), (8, .any), (9, .any), (10, .any), (11, .any), (12, .any), (13, .any), (14, .any), (15, .any), (16, .any), (17, .any), (18, .any), (19, .any), (20, .any), (23, .int .i64 (n1 : Int)), (24, .any), (25, .any), (26, .any), (27, .any), (28, .any), (29, .any), (30, .any), (31, .any), (32, .any), (33, .any), (34, .any), (35, .any), (36, .any), (37, .any), (38, .any), (39, .any), (40, .any), (41, .any), (42, .any), (43, .any), (44, .any), (45, .any), (46, .any)]) (fun s1 => h.ext [.cells [.int .u8 o0.kind, .sl 1 (o0.path.map strRow), .int .i64 o0.n, .str o0.text, .sl 3 (o0.dots.map GDot.row)]] []) hF (fun _ _ => by simp only [upd, List.set_cons_succ, List.set_cons_zero]; try rfl) (wk.le (by exact (.drop (.eq (.drop (.drop (.drop (.drop (.drop (.drop (.drop (.drop (.drop (.drop (.drop (.drop (.drop (.drop (.drop (.drop (.drop (.drop (.drop (.eq (.eq (.cons (leV.of_eq rfl) (.drop (.drop (.drop (.drop (.drop (.drop (.drop (.drop (.drop (.drop (.drop (.drop (.drop (.drop (.drop (.drop (.drop (.drop (.drop (.drop (.drop (.drop (.drop leL.nil))))))))))))))))))))))))))))))))))))))))))))))))) ?_
    intro n1 s1 hi1 hF
    refine r_seq ?_
    refine r_region ?_
    refine ops_ok rfl (s_bin rfl gt23 gt22 rfl) st24 ?_
    refine ops_nil ?_
    refine q_seq ?_
    refine r_seq ?_
    refine r_condL gt24 hF (fun x1 o1 hl1 hx1 hF hK1 => ?_) (fun hF => ?_)
    · skip
      refine r_skip ?_
      refine q_seq ?_
      refine r_seq ?_
      refine r_block ?_
      refine r_seq ?_
      refine r_region ?_
      refine ops_ok rfl (s_move rfl gt23 (tyo_ok rfl)) st25 ?_
      refine ops_ok rfl (s_idxRow rfl el29 gt21 gt23 isl (idx_of hx1)) st26 ?_
      refine ops_ok rfl (f_load rfl ty27.choose_spec.1 gt26 (ldC_agX (cs' := [.int .u8 x1.actor.rep, .int .u32 x1.actor.inc, .int .u64 x1.seq]) ty27.choose_spec.2 rfl rfl) (tyo_ok rfl)) st27 ?_
      refine ops_ok rfl (e_alloc (n := 1) rfl ze27 rfl) st4 ?_
      refine ops_ok rfl (s_assign rfl gt25 (tyo_ok rfl)) st3 ?_
      refine ops_ok rfl (e_store (cs' := [.int .u8 x1.actor.rep, .int .u32 x1.actor.inc, .int .u64 x1.seq]) rfl ty27.choose_spec.1 gt4 gt27 (tyo_ok rfl) rfl rfl rfl rfl rfl) rfl ?_
      refine ops_nil ?_
      refine q_seq ?_
      refine r_seq ?_
      refine r_drawn mixed (by kernel_rfl) ?_
      refine draw_ok rfl (e_load rfl ty27.choose_spec.1 gt4 rfl (ldC_agX (cs' := [.int .u8 x1.actor.rep, .int .u32 x1.actor.inc, .int .u64 x1.seq]) ty27.choose_spec.2 rfl rfl) (tyo_ok rfl)) st28 ?_
      refine bindF hF (fun v17 hv17 hF => ?_)
      refine draw_call rfl (s_call0 rfl rfl rfl (argo_cons gt28 argo_nil) (.cons (tyo_ok rfl) .nil)) (ok57 hv17) st29 ?_
      refine draw_ok rfl (s_un rfl gt29 rfl) st30 ?_
      refine draw_ok rfl (s_move rfl gt30 (tyo_ok rfl)) st31 ?_
      refine draw_gv rfl (fun hb => s_move rfl gt3 (tyo_ok rfl)) st32 ?_
      refine draw_gv rfl (fun hb => s_bin rfl (evo_gv gt32 hb) rfl rfl) st33 ?_
      refine draw_gv rfl (fun hb => s_move rfl (evo_gv gt33 hb) (tyo_ok rfl)) st34 ?_
      refine draw_gv (aG_gv rfl rfl rfl) (fun hb => s_fieldAddr rfl fo31x4 gt1 rfl) st35 ?_
      refine draw_gv (aG_gv rfl rfl rfl) (fun hb => e_load rfl ty29 (evo_gv gt35 hb) rfl (ldC_one rfl) (tyo_ok rfl)) st36 ?_
      refine draw_gv (aG_gv rfl rfl rfl) (fun hb => s_move rfl gt3 (tyo_ok rfl)) st37 ?_
      refine draw_gv (aG_gv rfl rfl rfl) (fun hb => s_bin rfl (evo_gv gt37 hb) rfl rfl) st38 ?_
      refine chkF hF (fun hg18 hF => ?_)
      refine draw_gv (aG_gv rfl rfl rfl) (fun hb => s_gidxRow default rfl el29 (evo_gv gt36 hb) (evo_gv gt38 hb) isl (hg18 hb)) st39 ?_
      refine draw_gv (aG_gv rfl rfl rfl) (fun hb => f_load rfl ty27.choose_spec.1 (evo_gv gt39 hb) (ldC_agX (cs' := [.int .u8 (((o0.dots).getD (IntKind.wrap .i64 ((n1 : Int) - (1 : Int))).toNat default).actor.rep), .int .u32 (((o0.dots).getD (IntKind.wrap .i64 ((n1 : Int) - (1 : Int))).toNat default).actor.inc), .int .u64 (((o0.dots).getD (IntKind.wrap .i64 ((n1 : Int) - (1 : Int))).toNat default).seq)]) ty27.choose_spec.2 rfl rfl) (tyo_ok rfl)) st40 ?_
      refine draw_gv (aG_gv rfl rfl rfl) (fun hb => e_load rfl ty27.choose_spec.1 gt4 rfl (ldC_agX (cs' := [.int .u8 x1.actor.rep, .int .u32 x1.actor.inc, .int .u64 x1.seq]) ty27.choose_spec.2 rfl rfl) (tyo_ok rfl)) st41 ?_
      refine gbindF hF (fun v19 hv19 hF => ?_)
      refine draw_gcall (aG_gv rfl rfl rfl) (fun hb => s_call0 rfl rfl rfl (argo_cons (evo_gv gt40 hb) (argo_cons (evo_gv gt41 hb) argo_nil)) (.cons (tyo_ok rfl) (.cons (tyo_ok rfl) .nil))) (fun hb => ok116 (hv19 hb)) st42 ?_
      refine draw_gv (aG_gv rfl rfl rfl) (fun hb => s_bin rfl (evo_gv gt42 hb) rfl rfl) st43 ?_
      refine draw_gv rfl (fun hb => s_pick rfl (evo_gv gt34 hb) gt43 rfl (pick_and (fun ht => gT2 hb ht))) st44 ?_
      refine draw_ok rfl (s_pick rfl gt31 rfl gt44 (pick_or (fun ht => gF ht))) st45 ?_
      refine draw_nil ?_
      refine q_seq ?_
      refine r_condF gt45 hF (fun hc20 hF => ?_) (fun hc20 hF => ?_)
      · skip
        refine r_seq ?_
        refine r_region ?_
        refine ops_ok rfl (s_assign rfl rfl (tyo_ok rfl)) st2 ?_
        refine ops_nil ?_
        refine q_seq ?_
        refine r_ret ?_
        refine q_block_ret ?_
        refine q_seq_ret ?_
        refine q_loop_ret ?_
        obtain rfl := Option.some.inj hF
        replace hF := hK1
        refine q_block_ret ?_
        refine q_seq_ret ?_
        obtain rfl := Option.some.inj hF
        refine q_retL1 rfl (rl_tmp gt2 rl_nil) (fin_ext (leV.refl _) rfl ?_)
        exact ⟨rfl, rfl⟩
      · skip
        refine r_skip ?_
        refine q_block ?_
        refine q_seq ?_
        refine r_region ?_
        refine ops_ok rfl (s_bin rfl gt23 rfl rfl) st46 ?_
        refine ops_ok rfl (s_move rfl gt46 (tyo_ok rfl)) st23 ?_
        refine ops_nil ?_
        refine q_loop ?_
        obtain rfl := Option.some.inj hF
        exact ⟨(), hl1, hK1, wk.trans (wk.le (by exact (.drop (.eq (.drop (.drop (.drop (.drop (.drop (.drop (.drop (.drop (.drop (.drop (.drop (.drop (.drop (.drop (.drop (.drop (.drop (.drop (.drop (.eq (.eq (.cons (leV.of_eq (w64e (by omega) (by omega))) (.drop (.drop (.drop (.drop (.drop (.drop (.drop (.drop (.drop (.drop (.drop (.drop (.drop (.drop (.drop (.drop (.drop (.drop (.drop (.drop (.drop (.drop (.drop leL.nil))))))))))))))))))))))))))))))))))))))))))))))))) (wk_ext3 (by simp [lowL, AV.low]) rfl rfl (by simp [Blk.low, lowL, AV.low]))⟩
    · skip
      refine r_exit ?_
      refine q_seq_exit ?_
      refine q_loop_exit ?_
      refine q_block_hit ?_
      refine q_seq ?_
      refine r_seq ?_
      refine r_region ?_
      refine ops_ok rfl (s_assign rfl rfl (tyo_ok rfl)) st2 ?_
      refine ops_nil ?_
      refine q_seq ?_
      refine r_ret ?_
      obtain rfl := Option.some.inj hF
      refine q_retL1 rfl (rl_tmp gt2 rl_nil) (fin_ext (leV.refl _) rfl ?_)
      exact ⟨rfl, rfl⟩
/-! varve/op.adds -/
theorem ok95 {o0 : GOp} {res : Bool} {h : AH}  (hF : opXadds o0 = some res) : Spec Try.prog 95 [.agg [.int .u8 o0.kind, .sl 1 (o0.path.map strRow), .int .i64 o0.n, .str o0.text, .sl 3 (o0.dots.map GDot.row)]] h (fun rr hh => rr = .bool res ∧ hh = h) := by
  unfold opXadds at hF
  refine spec_of_body_ext Try.func95 rfl (by kernel_rfl) (env := [.agg [.int .u8 o0.kind, .sl 1 (o0.path.map strRow), .int .i64 o0.n, .str o0.text, .sl 3 (o0.dots.map GDot.row)], aundef, aundef, aundef, aundef, aundef, aundef, aundef, aundef, aundef, aundef, aundef, aundef, aundef, aundef, aundef, aundef, aundef, aundef, aundef, aundef, aundef]) (by rfl) ?_
  refine r_seq ?_
  refine r_region ?_
  refine ops_ok rfl (e_box (n := 0) rfl gt0 (tyo_ok rfl) rfl rfl) st1 ?_
  refine ops_ok rfl (s_assign rfl rfl (tyo_ok rfl)) st2 ?_
  refine ops_nil ?_
  refine q_seq ?_
  refine r_seq ?_
  refine r_region ?_
  refine ops_ok rfl (s_fieldAddr rfl fo31x2 gt1 rfl) st3 ?_
  refine ops_ok rfl (e_load rfl ty2 gt3 rfl (ldC_one rfl) (tyo_ok rfl)) st4 ?_
  refine ops_ok rfl (s_bin rfl gt4 rfl rfl) st5 ?_
  refine ops_ok rfl (s_move rfl gt5 (tyo_ok rfl)) st6 ?_
  refine ops_gv rfl (fun hb => s_fieldAddr rfl fo31x2 gt1 rfl) st7 ?_
  refine ops_gv rfl (fun hb => e_load rfl ty2 (evo_gv gt7 hb) rfl (ldC_one rfl) (tyo_ok rfl)) st8 ?_
  refine ops_gv rfl (fun hb => s_bin rfl (evo_gv gt8 hb) rfl rfl) st9 ?_
  refine ops_ok rfl (s_pick rfl gt6 gt9 rfl (pick_and (fun ht => gT ht))) st10 ?_
  refine ops_ok rfl (s_move rfl gt10 (tyo_ok rfl)) st11 ?_
  refine ops_gv rfl (fun hb => s_fieldAddr rfl fo31x3 gt1 rfl) st12 ?_
  refine ops_gv rfl (fun hb => e_load rfl ty9 (evo_gv gt12 hb) rfl (ldC_one rfl) (tyo_ok rfl)) st13 ?_
  refine ops_gv rfl (fun hb => s_bin rfl (evo_gv gt13 hb) rfl rfl) st14 ?_
  refine ops_ok rfl (s_pick rfl gt11 gt14 rfl (pick_and (fun ht => gT ht))) st15 ?_
  refine ops_ok rfl (s_move rfl gt15 (tyo_ok rfl)) st16 ?_
  refine ops_gv rfl (fun hb => s_fieldAddr rfl fo31x4 gt1 rfl) st17 ?_
  refine ops_gv rfl (fun hb => e_load rfl ty29 (evo_gv gt17 hb) rfl (ldC_one rfl) (tyo_ok rfl)) st18 ?_
  refine ops_glen rfl (fun hb => s_lenSl rfl rfl rfl rfl el29 (evo_gv gt18 hb) lenMap) st19 fun hn1 => ?_
  refine ops_gv rfl (fun hb => s_bin rfl (evo_gv gt19 hb) rfl rfl) st20 ?_
  refine ops_ok rfl (s_pick rfl gt16 gt20 rfl (pick_and (fun ht => gT ht))) st21 ?_
  refine ops_ok rfl (s_assign rfl gt21 (tyo_ok rfl)) st2 ?_
  refine ops_nil ?_
  refine q_seq ?_
  refine r_ret ?_
  obtain rfl := Option.some.inj hF
  refine q_retL1 rfl (rl_tmp gt2 rl_nil) (fin_ext (leV.refl _) rfl ?_)
  exact ⟨rfl, rfl⟩
/-! varve/op.of -/
theorem ok54 {k0 : Int} {res : (GOpKind × Bool)} {h : AH}  (hF : opXof k0 = some res) : Spec Try.prog 54 [.int .u8 k0] h (fun rr hh => rr = .tup [.agg [.int .u8 res.1.leaf, fvOp res.1.may], .bool res.2] ∧ hh = h) := by
  unfold opXof at hF
  refine spec_of_body_ext Try.func54 rfl (by kernel_rfl) (env := [.int .u8 k0, aundef, aundef, aundef, aundef, aundef, aundef, aundef, aundef, aundef, aundef, aundef, aundef, aundef, aundef, aundef, aundef, aundef, aundef, aundef, aundef]) (by rfl) ?_
  refine r_seq ?_
  refine r_region ?_
  refine ops_ok rfl (e_alloc (n := 0) rfl ze92 rfl) st2 ?_
  refine ops_ok rfl (s_assign rfl rfl (tyo_ok rfl)) st3 ?_
  refine ops_nil ?_
  refine q_seq ?_
  refine r_seq ?_
  refine r_region ?_
  refine ops_ok rfl (s_build (cs' := [.int .u8 (1 : Int), .fn (.func 95) [] []]) rfl su92 ze92 pl92 (parto_cons rfl (parto_cons rfl parto_nil)) (.cons (tyo_ok rfl) (.cons (tyo_ok rfl) .nil)) rfl rfl) st5 ?_
  refine ops_ok rfl (s_build (cs' := [.int .u8 (2 : Int), .fn (.func 96) [] []]) rfl su92 ze92 pl92 (parto_cons rfl (parto_cons rfl parto_nil)) (.cons (tyo_ok rfl) (.cons (tyo_ok rfl) .nil)) rfl rfl) st6 ?_
  refine ops_ok rfl (s_build (cs' := [.int .u8 (3 : Int), .fn (.func 96) [] []]) rfl su92 ze92 pl92 (parto_cons rfl (parto_cons rfl parto_nil)) (.cons (tyo_ok rfl) (.cons (tyo_ok rfl) .nil)) rfl rfl) st7 ?_
  refine ops_ok rfl (s_build (cs' := [.int .u8 (3 : Int), .fn (.func 97) [] []]) rfl su92 ze92 pl92 (parto_cons rfl (parto_cons rfl parto_nil)) (.cons (tyo_ok rfl) (.cons (tyo_ok rfl) .nil)) rfl rfl) st8 ?_
  refine ops_ok rfl (s_build (cs' := [.int .u8 (4 : Int), .fn (.func 96) [] []]) rfl su92 ze92 pl92 (parto_cons rfl (parto_cons rfl parto_nil)) (.cons (tyo_ok rfl) (.cons (tyo_ok rfl) .nil)) rfl rfl) st9 ?_
  refine ops_ok rfl (s_buildArr (cs' := [.int .u8 (0 : Int), .nilf, .int .u8 (1 : Int), .fn (.func 95) [] [], .int .u8 (2 : Int), .fn (.func 96) [] [], .int .u8 (3 : Int), .fn (.func 96) [] [], .int .u8 (3 : Int), .fn (.func 97) [] [], .int .u8 (4 : Int), .fn (.func 96) [] []]) rfl ty130.u ze130 ty92.choose_spec.1 (parto_cons gt5 (parto_cons gt6 (parto_cons gt7 (parto_cons gt8 (parto_cons gt9 parto_nil))))) (.cons (tyo_ok rfl) (.cons (tyo_ok rfl) (.cons (tyo_ok rfl) (.cons (tyo_ok rfl) (.cons (tyo_ok rfl) .nil))))) rfl rfl) st10 ?_
  refine ops_ok rfl (e_alloc (n := 1) rfl ze130 rfl) st4 ?_
  refine ops_ok rfl (e_store (cs' := [.int .u8 (0 : Int), .nilf, .int .u8 (1 : Int), .fn (.func 95) [] [], .int .u8 (2 : Int), .fn (.func 96) [] [], .int .u8 (3 : Int), .fn (.func 96) [] [], .int .u8 (3 : Int), .fn (.func 97) [] [], .int .u8 (4 : Int), .fn (.func 96) [] []]) rfl ty130 gt4 gt10 (tyo_ok rfl) rfl rfl rfl rfl rfl) rfl ?_
  refine ops_nil ?_
  refine q_seq ?_
  refine r_seq ?_
  refine r_seq ?_
  refine r_region ?_
  refine ops_ok rfl (s_move rfl gt0 (tyo_ok rfl)) st11 ?_
  refine ops_ok rfl (s_bin rfl gt11 rfl rfl) st12 ?_
  refine ops_ok rfl (s_move rfl gt12 (tyo_ok rfl)) st13 ?_
  refine ops_gv rfl (fun hb => s_move rfl gt0 (tyo_ok rfl)) st14 ?_
  refine ops_gv rfl (fun hb => s_bin rfl (evo_gv gt14 hb) rfl rfl) st15 ?_
  refine ops_ok rfl (s_pick rfl gt13 rfl gt15 (pick_or (fun ht => gF ht))) st16 ?_
  refine ops_nil ?_
  refine q_seq ?_
  refine r_condF gt16 hF (fun hc1 hF => ?_) (fun hc1 hF => ?_)
  · skip
    refine r_seq ?_
    refine r_region ?_
    refine ops_ok rfl (s_build (cs' := [.int .u8 (0 : Int), .nilf]) rfl su92 ze92 pl92 parto_nil .nil rfl rfl) st17 ?_
    refine ops_ok rfl (e_store (cs' := [.int .u8 (0 : Int), .nilf]) rfl ty92.choose_spec.1 gt2 gt17 (tyo_ok rfl) rfl rfl rfl rfl rfl) rfl ?_
    refine ops_ok rfl (s_assign rfl rfl (tyo_ok rfl)) st3 ?_
    refine ops_nil ?_
    refine q_seq ?_
    refine r_ret ?_
    refine q_seq_ret ?_
    obtain rfl := Option.some.inj hF
    refine q_retL rfl (rl_cell ty92.choose_spec.1 gt2 rfl (ldC_agX (cs' := [.int .u8 (0 : Int), .nilf]) ty92.choose_spec.2 rfl rfl) (tyo_ok rfl) (rl_tmp gt3 rl_nil)) (fin_ext (leV.refl _) rfl ?_)
    exact ⟨rfl, rfl⟩
  · skip
    refine r_skip ?_
    refine q_seq ?_
    refine r_seq ?_
    refine r_region ?_
    refine ops_ok rfl (s_move rfl gt0 (tyo_ok rfl)) st18 ?_
    refine bindF hF (fun y2 hy2 hF => ?_)
    refine ops_ok rfl (s_idxArr rfl ty130 ty92.choose_spec.1 gt4 gt18 rfl hy2) st19 ?_
    refine ops_ok rfl (e_load rfl ty92.choose_spec.1 gt19 rfl ((congrArg (fun b => ldC b _ _ _) ty92.choose_spec.2).trans (ldC_arr (row := GOpKind.row) (L := ([(GOpKind.mk (0 : Int) 0), (GOpKind.mk (1 : Int) 1), (GOpKind.mk (2 : Int) 2), (GOpKind.mk (3 : Int) 2), (GOpKind.mk (3 : Int) 3), (GOpKind.mk (4 : Int) 2)] : List GOpKind)) (fun _ => rfl) hy2 rfl)) (tyo_ok rfl)) st20 ?_
    refine ops_ok rfl (e_store (cs' := [.int .u8 y2.leaf, fvOp y2.may]) rfl ty92.choose_spec.1 gt2 gt20 (tyo_ok rfl) rfl rfl rfl rfl rfl) rfl ?_
    refine ops_ok rfl (s_assign rfl rfl (tyo_ok rfl)) st3 ?_
    refine ops_nil ?_
    refine q_seq ?_
    refine r_ret ?_
    obtain rfl := Option.some.inj hF
    refine q_retL rfl (rl_cell ty92.choose_spec.1 gt2 rfl (ldC_agX (cs' := [.int .u8 y2.leaf, fvOp y2.may]) ty92.choose_spec.2 rfl rfl) (tyo_ok rfl) (rl_tmp gt3 rl_nil)) (fin_ext (leV.refl _) (by simp [AV.low, lowL, fvlOp]) ?_)
    exact ⟨rfl, rfl⟩
theorem fnOpok {c : Nat} {x0 : GOp} {v : Bool} (h : callOp c x0 = some v) : fvOp c = .fn (.func (fnOp c)) [] [] := by
  unfold callOp at h
  split at h <;> first | rfl | cases h
theorem okfvOp {c : Nat} {x0 : GOp} {res : Bool} {h : AH} (hF : callOp c x0 = some res) : Spec Try.prog (fnOp c) [.agg [.int .u8 x0.kind, .sl 1 (x0.path.map strRow), .int .i64 x0.n, .str x0.text, .sl 3 (x0.dots.map GDot.row)]] h (fun rr hh => rr = .bool res ∧ hh = h) := by
  unfold callOp at hF
  split at hF
  · exact ok95 hF
  · exact ok96 hF
  · exact ok97 hF
  · cases hF
/-! varve/op.May -/
theorem ok15 {o0 : GOp} {res : Bool} {h : AH}  (hF : opMay o0 = some res) : Spec Try.prog 15 [.agg [.int .u8 o0.kind, .sl 1 (o0.path.map strRow), .int .i64 o0.n, .str o0.text, .sl 3 (o0.dots.map GDot.row)]] h (fun rr hh => rr = .bool res ∧ hh = h) := by
  unfold opMay at hF
  refine spec_of_body_ext Try.func15 rfl (by kernel_rfl) (env := [.agg [.int .u8 o0.kind, .sl 1 (o0.path.map strRow), .int .i64 o0.n, .str o0.text, .sl 3 (o0.dots.map GDot.row)], aundef, aundef, aundef, aundef, aundef, aundef, aundef, aundef, aundef, aundef, aundef, aundef, aundef, aundef, aundef, aundef, aundef, aundef, aundef, aundef, aundef, aundef]) (by rfl) ?_
  refine r_seq ?_
  refine r_region ?_
  refine ops_ok rfl (e_box (n := 0) rfl gt0 (tyo_ok rfl) rfl rfl) st1 ?_
  refine ops_ok rfl (s_assign rfl rfl (tyo_ok rfl)) st2 ?_
  refine ops_nil ?_
  refine q_seq ?_
  refine r_seq ?_
  refine r_region ?_
  refine ops_ok rfl (s_fieldAddr rfl fo31x0 gt1 rfl) st6 ?_
  refine ops_ok rfl (e_load rfl ty5 gt6 rfl (ldC_one rfl) (tyo_ok rfl)) st7 ?_
  refine bindF hF (fun v1 hv1 hF => ?_)
  refine ops_callP rfl (s_call0 rfl rfl rfl (argo_cons gt7 argo_nil) (.cons (tyo_ok rfl) .nil)) (ok54 hv1) st8 ?_
  refine ops_ok rfl (s_move rfl gt8 (tyo_ok rfl)) st5 ?_
  refine ops_ok rfl (s_extract rfl gt5 rfl (tyo_ok rfl)) st9 ?_
  refine ops_ok rfl (s_extract rfl gt5 rfl (tyo_ok rfl)) st10 ?_
  refine ops_ok rfl (e_alloc (n := 1) rfl ze92 rfl) st3 ?_
  refine ops_ok rfl (e_store (cs' := [.int .u8 v1.1.leaf, fvOp v1.1.may]) rfl ty92.choose_spec.1 gt3 gt9 (tyo_ok rfl) rfl rfl rfl rfl rfl) rfl ?_
  refine ops_ok rfl (s_assign rfl gt10 (tyo_ok rfl)) st4 ?_
  refine ops_nil ?_
  refine q_seq ?_
  refine r_seq ?_
  refine r_region ?_
  refine ops_ok rfl (s_move rfl gt4 (tyo_ok rfl)) st11 ?_
  refine ops_ok rfl (s_move rfl gt11 (tyo_ok rfl)) st12 ?_
  refine ops_gv rfl (fun hb => s_fieldAddr rfl fo31x1 gt1 rfl) st13 ?_
  refine ops_gv rfl (fun hb => e_load rfl ty28 (evo_gv gt13 hb) rfl (ldC_one rfl) (tyo_ok rfl)) st14 ?_
  refine gbindF hF (fun v2 hv2 hF => ?_)
  refine ops_gcall rfl (fun hb => s_call0 rfl rfl rfl (argo_cons (evo_gv gt14 hb) argo_nil) (.cons (tyo_ok rfl) .nil)) (fun hb => ok13 (hv2 hb)) st15 ?_
  refine ops_ok rfl (s_pick rfl gt12 gt15 rfl (pick_and (fun ht => gT ht))) st16 ?_
  refine ops_ok rfl (s_move rfl gt16 (tyo_ok rfl)) st17 ?_
  refine ops_gv rfl (fun hb => s_fieldAddr rfl fo92x1 gt3 rfl) st18 ?_
  refine ops_gv rfl (fun hb => e_load rfl ty34 (evo_gv gt18 hb) rfl (ldC_one rfl) (fvtOp _ _ _)) st19 ?_
  refine ops_gv rfl (fun hb => e_load rfl ty31.choose_spec.1 gt1 rfl (ldC_agX (cs' := [.int .u8 o0.kind, .sl 1 (o0.path.map strRow), .int .i64 o0.n, .str o0.text, .sl 3 (o0.dots.map GDot.row)]) ty31.choose_spec.2 rfl rfl) (tyo_ok rfl)) st20 ?_
  refine gbindF hF (fun v3 hv3 hF => ?_)
  refine ops_gcall rfl (fun hb => s_call0 rfl rfl (evo_eq (evo_gv gt19 hb) (fnOpok (hv3 hb))) (argo_cons (evo_gv gt20 hb) argo_nil) (.cons (tyo_ok rfl) .nil)) (fun hb => okfvOp (hv3 hb)) st21 ?_
  refine ops_ok rfl (s_pick rfl gt17 gt21 rfl (pick_and (fun ht => gT ht))) st22 ?_
  refine ops_ok rfl (s_assign rfl gt22 (tyo_ok rfl)) st2 ?_
  refine ops_nil ?_
  refine q_seq ?_
  refine r_ret ?_
  obtain rfl := Option.some.inj hF
  refine q_retL1 rfl (rl_tmp gt2 rl_nil) (fin_ext (leV.refl _) rfl ?_)
  exact ⟨rfl, rfl⟩
/-! varve/rights.Why -/
theorem ok64 {l0 : (List GRule)} {rep1 : Int} {o2 : GOp} {res : Int} {h : AH}  (hF : rightsWhy l0 rep1 o2 = some res) : Spec Try.prog 64 [.sl 5 (l0.map GRule.row), .int .u8 rep1, .agg [.int .u8 o2.kind, .sl 1 (o2.path.map strRow), .int .i64 o2.n, .str o2.text, .sl 3 (o2.dots.map GDot.row)]] h (fun rr hh => rr = .int .i64 res ∧ hh = h) := by
  unfold rightsWhy at hF
  refine spec_of_body_ext Try.func64 rfl (by kernel_rfl) (env := [.sl 5 (l0.map GRule.row), .int .u8 rep1, .agg [.int .u8 o2.kind, .sl 1 (o2.path.map strRow), .int .i64 o2.n, .str o2.text, .sl 3 (o2.dots.map GDot.row)], aundef, aundef, aundef, aundef, aundef, aundef, aundef, aundef, aundef, aundef, aundef, aundef, aundef, aundef, aundef, aundef, aundef, aundef]) (by rfl) ?_
  refine r_seq ?_
  refine r_region ?_
  refine ops_ok rfl (e_box (n := 0) rfl gt2 (tyo_ok rfl) rfl rfl) st5 ?_
  refine ops_ok rfl (s_assign rfl rfl (tyo_ok rfl)) st6 ?_
  refine ops_nil ?_
  refine q_seq ?_
  refine r_seq ?_
  refine r_seq ?_
  refine r_region ?_
  refine ops_ok rfl (s_move rfl gt0 (tyo_ok rfl)) st7 ?_
  refine bindF hF (fun v1 hv1 hF => ?_)
  refine ops_callP rfl (s_call0 rfl rfl rfl (argo_cons gt7 argo_nil) (.cons (tyo_ok rfl) .nil)) (ok24 hv1) st8 ?_
  refine ops_ok rfl (s_un rfl gt8 rfl) st9 ?_
  refine ops_ok rfl (s_move rfl gt9 (tyo_ok rfl)) st10 ?_
  refine ops_gv rfl (fun hb => e_load rfl ty31.choose_spec.1 gt5 rfl (ldC_agX (cs' := [.int .u8 o2.kind, .sl 1 (o2.path.map strRow), .int .i64 o2.n, .str o2.text, .sl 3 (o2.dots.map GDot.row)]) ty31.choose_spec.2 rfl rfl) (tyo_ok rfl)) st11 ?_
  refine gbindF hF (fun v2 hv2 hF => ?_)
  refine ops_gcall rfl (fun hb => s_call0 rfl rfl rfl (argo_cons (evo_gv gt11 hb) argo_nil) (.cons (tyo_ok rfl) .nil)) (fun hb => ok15 (hv2 hb)) st12 ?_
  refine ops_gv rfl (fun hb => s_un rfl (evo_gv gt12 hb) rfl) st13 ?_
  refine ops_ok rfl (s_pick rfl gt10 rfl gt13 (pick_or (fun ht => gF ht))) st14 ?_
  refine ops_nil ?_
  refine q_seq ?_
  refine r_condF gt14 hF (fun hc3 hF => ?_) (fun hc3 hF => ?_)
  · skip
    refine r_seq ?_
    refine r_region ?_
    refine ops_ok rfl (s_assign rfl rfl (tyo_ok rfl)) st6 ?_
    refine ops_nil ?_
    refine q_seq ?_
    refine r_ret ?_
    refine q_seq_ret ?_
    obtain rfl := Option.some.inj hF
    refine q_retL1 rfl (rl_tmp gt6 rl_nil) (fin_ext (leV.refl _) rfl ?_)
    exact ⟨rfl, rfl⟩
  · skip
    refine r_skip ?_
    refine q_seq ?_
    refine r_seq ?_
    refine r_region ?_
    refine ops_ok rfl (s_move rfl gt0 (tyo_ok rfl)) st15 ?_
    refine ops_ok rfl (s_move rfl gt1 (tyo_ok rfl)) st16 ?_
    refine ops_ok rfl (s_fieldAddr rfl fo31x1 gt5 rfl) st17 ?_
    refine ops_ok rfl (e_load rfl ty28 gt17 rfl (ldC_one rfl) (tyo_ok rfl)) st18 ?_
    refine ops_ok rfl (s_makeFunc rfl rfl rfl) st19 ?_
    refine bindF hF (fun v4 hv4 hF => ?_)
    refine ops_callP rfl (s_call0 rfl rfl rfl (argo_cons gt15 (argo_cons gt16 (argo_cons gt18 (argo_cons gt19 argo_nil)))) (.cons (tyo_ok rfl) (.cons (tyo_ok rfl) (.cons (tyo_ok rfl) (.cons (tyo_ok rfl) .nil))))) (ok68 (fun _ v L M hv => ok101 (blk_ext2 (j := 0) rfl) hv) hv4) st20 ?_
    refine ops_ok rfl (s_assign rfl gt20 (tyo_ok rfl)) st6 ?_
    refine ops_nil ?_
    refine q_seq ?_
    refine r_ret ?_
    obtain rfl := Option.some.inj hF
    refine q_retL1 rfl (rl_tmp gt6 rl_nil) (fin_ext (leV.refl _) rfl ?_)
    exact ⟨rfl, rfl⟩
end Go.Vv
