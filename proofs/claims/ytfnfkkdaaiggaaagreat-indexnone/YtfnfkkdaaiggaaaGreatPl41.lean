/- Layer 41's law of an index that is not there: its head. -/
import Derived.Test.YtfnfkkdaaiggaaaGreatD
import Derived.Test.YtfnfkkdaaiggaaaGreatVvQ
namespace Go.Vv
set_option linter.unusedVariables false
set_option linter.unusedSimpArgs false
open Go
theorem loopL_tot {α ρ σ : Type} {f : Nat → α → σ → Option (Out ρ σ)} : ∀ (L : List α) (i : Nat) (s : σ), (∀ i x s, x ∈ L → ∃ o, f i x s = some o) → ∃ v, loopL f L i s = some v
  | [], _, _, _ => ⟨_, rfl⟩
  | x :: t, i, s, h => by
    obtain ⟨o, ho⟩ := h i x s (List.mem_cons_self ..)
    simp only [loopL, ho]
    cases o with
    | ret r => exact ⟨_, rfl⟩
    | brk s => exact ⟨_, rfl⟩
    | nxt s => exact loopL_tot t (i + 1) s fun i y s hy => h i y s (List.mem_cons_of_mem _ hy)
theorem lp_totL {α ρ σ : Type} {f : Nat → α → σ → Option (Out ρ σ)} {rest : σ → Option ρ} {L : List α} {i : Nat} {s : σ} (h : ∀ i x s, x ∈ L → ∃ o, f i x s = some o) (hr : ∀ s, ∃ v, rest s = some v) : ∃ v, lp (loopL f L i s) rest = some v := by
  obtain ⟨v, hv⟩ := loopL_tot L i s h
  rw [hv]
  cases v with
  | inl r => exact ⟨_, rfl⟩
  | inr s => exact hr s
theorem ref31Great_tot (l : List GEdit) : ∃ b, ref31Great l = some b := by
  unfold ref31Great
  refine lp_totL (fun i x s hx => ?_) (fun s => ⟨_, rfl⟩)
  split
  · exact ⟨_, rfl⟩
  · exact lp_totL (fun j y s hy => by split <;> exact ⟨_, rfl⟩) (fun s => ⟨_, rfl⟩)
theorem law41IndexNone_top (s : Str) (l : List GEdit) {p q : Prop} (_ : p) (_ : q) : law41IndexNone s l = some true := by
  obtain ⟨b, hb⟩ := ref31Great_tot l
  unfold law41IndexNone law41Xknown
  rw [hb]
  cases decide ((s.length : Int) > (100 : Int)) <;> cases b <;> rfl
end Go.Vv
