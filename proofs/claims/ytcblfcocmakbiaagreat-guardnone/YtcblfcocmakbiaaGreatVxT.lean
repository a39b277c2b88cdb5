/- What was computed once is looked up: calls on known data whose results speak of no memory. -/
import Derived.Test.YtcblfcocmakbiaaGreatVxL
import Derived.Test.YtcblfcocmakbiaaGreatVxP
namespace Go.Vv
set_option linter.unusedVariables false
set_option linter.unusedSimpArgs false
open Go Go.RowKit Go.Lib
/-- A call that was computed where nothing is, whatever its result, if that speaks of no memory. -/
theorem spec_xv {P : Program} {pre : Pre} {lib : CallX} {own : FuncId → Bool} {fuel n : Nat} (hp : PreOk pre) (hl : CallOk P lib) {f : FuncId} {args : List AV} {v : AV} (hx : (xall P pre lib own fuel n).1 f args ⟨[], []⟩ = some [(v, ⟨[], []⟩)])
    (ha : (lowL 0 0 args && v.gfree) = true) (h : AH) : Spec P f args h fun rr hh => rr = v ∧ hh = h := by
  simp only [Bool.and_eq_true] at ha
  have s := (xall_sound hp hl (own := own) (fuel := fuel) n).1 _ _ _ _ hx
  refine (spec_h0 (h := h) (RdL.low ha.1) (by rw [← h0_eq]; exact s) fun rr hh hm => ?_).mono ?_
  · simp only [List.mem_singleton, Prod.mk.injEq] at hm; rw [hm.1]; exact ha.2
  · rintro rr hh ⟨⟨h3, hm⟩, rfl⟩
    simp only [List.mem_singleton, Prod.mk.injEq] at hm
    exact ⟨hm.1, rfl⟩
/-- One call that is known, ahead of a library. -/
def tabX (f : FuncId) (args : List AV) (v : AV) (lib : CallX) : CallX := fun g xs h => match Nat.beq g f with
  | true => match sameL xs args with
    | true => some [(v, h)]
    | false => lib g xs h
  | false => lib g xs h
theorem tabX_ok {P : Program} {f : FuncId} {args : List AV} {v : AV} {lib : CallX} (hs : ∀ h, Spec P f args h fun rr hh => rr = v ∧ hh = h) (hl : CallOk P lib) : CallOk P (tabX f args v lib) := by
  intro g xs h l hx
  unfold tabX at hx
  split at hx
  · rename_i hf
    split at hx
    · rename_i hs'
      simp only [Option.some.injEq] at hx
      subst hx
      obtain rfl := Nat.eq_of_beq_eq_true hf
      rw [sameL_eq hs']
      refine (hs h).mono ?_
      rintro rr hh ⟨rfl, rfl⟩
      exact List.mem_singleton.2 rfl
    · exact hl _ _ _ _ hx
  · exact hl _ _ _ _ hx
/-- One call that is known, whatever it speaks of: there, in that heap. -/
def tabH (f : FuncId) (args : List AV) (h0 : AH) (outs : List (AV × AH)) (lib : CallX) : CallX := fun g xs h => match Nat.beq g f with
  | true => match sameL xs args && h.same h0 with
    | true => some outs
    | false => lib g xs h
  | false => lib g xs h
theorem tabH_ok {P : Program} {pre : Pre} {own : FuncId → Bool} {fuel n : Nat} {f : FuncId} {args : List AV} {h0 : AH} {outs : List (AV × AH)} {lib : CallX} (hp : PreOk pre) (hl : CallOk P lib)
    (hx : (xall P pre lib own fuel n).1 f args h0 = some outs) : CallOk P (tabH f args h0 outs lib) := by
  intro g xs h l hy
  unfold tabH at hy
  split at hy
  · rename_i hf
    split at hy
    · rename_i hs
      simp only [Option.some.injEq] at hy
      subst hy
      obtain rfl := Nat.eq_of_beq_eq_true hf
      simp only [Bool.and_eq_true] at hs
      rw [sameL_eq hs.1, AH.same_eq hs.2]
      exact (xall_sound hp hl (own := own) (fuel := fuel) n).1 _ _ _ _ hx
    · exact hl _ _ _ _ hy
  · exact hl _ _ _ _ hy
#print axioms tabH_ok
end Go.Vv
