/- What was computed is a contract; a function's rest is computed. -/
import Derived.Test.YtcblfcocmakbiaaGreatVxB
namespace Go.Vv
set_option linter.unusedVariables false
set_option linter.unusedSimpArgs false
open Go Go.RowKit Go.Lib

def nopre : Pre := fun _ _ e h => (e, h)
theorem nopre_ok : PreOk nopre := fun _ _ e h => swk.refl e h
def nolib : CallX := fun _ _ _ => none
theorem nolib_ok {P : Program} : CallOk P nolib := fun _ _ _ _ h => by cases h
/-- A call that was computed where nothing is. -/
theorem spec_x {P : Program} {pre : Pre} {lib : CallX} {own : FuncId → Bool} {fuel n : Nat} (hp : PreOk pre) (hl : CallOk P lib) {f : FuncId} {args : List AV} {b : Bool} (hx : (xall P pre lib own fuel n).1 f args ⟨[], []⟩ = some [(.bool b, ⟨[], []⟩)])
    (ha : lowL 0 0 args = true) {h : AH} : Spec P f args h fun rr hh => rr = .bool b ∧ hh = h := by
  have s := (xall_sound hp hl (own := own) (fuel := fuel) n).1 _ _ _ _ hx
  refine (spec_h0 (h := h) (RdL.low ha) (by rw [← h0_eq]; exact s) fun rr hh hm => ?_).mono ?_
  · simp only [List.mem_singleton, Prod.mk.injEq] at hm; rw [hm.1]; rfl
  · rintro rr hh ⟨⟨h3, hm⟩, rfl⟩
    simp only [List.mem_singleton, Prod.mk.injEq] at hm
    exact ⟨hm.1, rfl⟩
/-- A function's rest, computed. -/
def xrest (P : Program) (pre : Pre) (call : CallX) (round : RoundX) (fuel : Nat) (fn : Func) (c : Code) (env : List AV) (h : AH) : Option (List (AV × AH)) :=
  match xcode P pre call round fuel c env h with
  | some l => match bindX (finX P fn 0 0) l with
    | some l => some (dedupX l)
    | none => none
  | none => none
theorem x_rest {P : Program} {pre : Pre} {lib : CallX} {own : FuncId → Bool} {fuel n : Nat} (hp : PreOk pre) (hl : CallOk P lib) {fn : Func} {c : Code} {env : List AV} {h : AH} {b : Bool}
    (hx : xrest P pre (xall P pre lib own fuel n).1 (xall P pre lib own fuel n).2 fuel fn c env h = some [(.bool b, ⟨[], []⟩)]) : awp P c (bodyQ P fn h0 fun rr hh => rr = .bool b ∧ hh = h0) env h := by
  obtain ⟨h1, h2⟩ := xall_sound hp hl (own := own) (fuel := fuel) n
  unfold xrest at hx
  split at hx
  · rename_i m hm
    split at hx
    · rename_i m2 hm2
      simp only [Option.some.injEq] at hx
      refine awp_mono ?_ c env h (xcode_sound hp h1 h2 c hm)
      intro x e h3 hin
      obtain ⟨s, k1, k2⟩ := bindX_mem hm2 _ hin
      have k3 : ∀ p ∈ s, p.1 = .bool b ∧ p.2 = h0 := fun p hp => by
        have := dedupX_mem (k2 p hp)
        rw [hx] at this
        simp only [List.mem_singleton] at this
        rw [this]; exact ⟨rfl, rfl⟩
      have := finX_sound (h0 := h0) k1
      cases x with
      | normal =>
        simp only [bodyQ] at this ⊢
        split at this
        · obtain ⟨r, h', a, b⟩ := this; exact ⟨r, h', a, k3 _ b⟩
        · exact this.elim
      | ret =>
        simp only [bodyQ] at this ⊢
        split at this
        · obtain ⟨r, h', a, b⟩ := this; exact ⟨r, h', a, k3 _ b⟩
        · exact this.elim
      | _ => exact this
    · cases hx
  · cases hx
#print axioms x_rest
end Go.Vv
