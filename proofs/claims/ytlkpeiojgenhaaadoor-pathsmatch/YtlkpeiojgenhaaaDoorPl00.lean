/- Loops that ask the same of each one: plain laws. -/
import Derived.Test.YtlkpeiojgenhaaaDoorD
import Derived.Test.YtlkpeiojgenhaaaDoorVvQ
namespace Go.Vv
set_option linter.unusedVariables false
set_option linter.unusedSimpArgs false
open Go
section
variable {α ρ : Type}
/-- Each one, with its place. -/
def allI (g : Nat → α → Bool) (L : List α) : Bool := L.zipIdx.all fun p => g p.2 p.1
theorem allI_iff {g : Nat → α → Bool} {L : List α} : allI g L = true ↔ ∀ i x, L[i]? = some x → g i x = true := by
  unfold allI
  rw [List.all_eq_true]
  constructor
  · intro h i x hx
    exact h (x, i) (List.mem_zipIdx_iff_getElem?.2 hx)
  · rintro h ⟨x, i⟩ hx
    exact h i x (List.mem_zipIdx_iff_getElem?.1 hx)
theorem loopL_allI (g : Nat → α → Bool) {r : ρ} {f : Nat → α → Unit → Option (Out ρ Unit)} : ∀ (L : List α) (k : Nat), (∀ i x, L[i]? = some x → f (k + i) x () = if g (k + i) x = true then some (.nxt ()) else some (.ret r)) →
    loopL f L k () = if ((L.zipIdx k).all fun p => g p.2 p.1) = true then some (.inr ()) else some (.inl r)
  | [], _, _ => rfl
  | x :: t, k, h => by
    have h0 := h 0 x rfl
    simp only [Nat.add_zero] at h0
    have ih := loopL_allI g (f := f) (r := r) t (k + 1) (fun i y hy => by have := h (i + 1) y (by simpa using hy); rw [show k + 1 + i = k + (i + 1) by omega]; exact this)
    simp only [loopL, h0, List.zipIdx_cons, List.all_cons]
    by_cases hg : g k x = true
    · simp only [hg, if_true, ih, Bool.true_and]
    · simp only [hg, Bool.false_eq_true, if_false, Bool.false_and]
theorem lp_all {σ : Type} (g : Nat → α → Bool) {r : σ} {L : List α} {f : Nat → α → Unit → Option (Out σ Unit)} {rest : Unit → Option σ} (hf : ∀ i x, L[i]? = some x → f i x () = if g i x = true then some (.nxt ()) else some (.ret r)) :
    lp (loopL f L 0 ()) rest = if allI g L = true then rest () else some r := by
  rw [loopL_allI g L 0 (fun i x hx => by simpa using hf i x hx)]
  unfold allI
  split <;> rfl
/-- The same, asked of each one alone. -/
theorem lp_all0 {σ : Type} (g : α → Bool) {r : σ} {L : List α} {f : Nat → α → Unit → Option (Out σ Unit)} {rest : Unit → Option σ} (hf : ∀ i x, L[i]? = some x → f i x () = if g x = true then some (.nxt ()) else some (.ret r)) :
    lp (loopL f L 0 ()) rest = if L.all g = true then rest () else some r := by
  rw [lp_all (fun _ => g) hf]
  have : allI (fun _ => g) L = L.all g := by
    rw [Bool.eq_iff_iff, allI_iff, List.all_eq_true]
    exact ⟨fun h x hx => by obtain ⟨i, hi⟩ := List.mem_iff_getElem?.1 hx; exact h i x hi, fun h i x hx => h x (List.mem_of_getElem? hx)⟩
  rw [this]
end
theorem wrap_succ {j : Nat} (hl : j + 1 ≤ maxLen) : IntKind.wrap .i64 (((j + 1 : Nat) : Int) - 1) = (j : Int) := by
  simp only [maxLen] at hl; rw [w64n (by omega)]; omega
theorem wrap_add1 {j : Nat} (hl : j + 1 ≤ maxLen) : IntKind.wrap .i64 ((j : Int) + 1) = ((j + 1 : Nat) : Int) := by
  simp only [maxLen] at hl; rw [w64n (by omega)]; omega
theorem pos_succ (j : Nat) : decide (((j + 1 : Nat) : Int) > 0) = true := decide_eq_true (by omega)
theorem pos_zero : decide (((0 : Nat) : Int) > 0) = false := rfl
end Go.Vv
