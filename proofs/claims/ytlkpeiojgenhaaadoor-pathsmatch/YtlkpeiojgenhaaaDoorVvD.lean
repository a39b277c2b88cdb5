/- Tokens: rows that the call's own code lengthens. -/
import Derived.Test.YtlkpeiojgenhaaaDoorVvC
namespace Go.Vv
set_option linter.unusedVariables false
set_option linter.unusedSimpArgs false
open Go Go.RowKit

section
variable {B : Nat} {w0 w : World} {g : Gh} {h : AH}

def Gh.setT (g : Gh) (i : Nat) (t : TI) : Gh := { g with τ := g.τ.set i t }
def Gh.addT (g : Gh) (t : TI) : Gh := { g with τ := g.τ ++ [t] }
theorem Gh.le_setT {g : Gh} {i : Nat} {t t' : TI} (hi : g.τ[i]? = some t) (hn : t.n < t'.n) : g.le (g.setT i t') :=
  ⟨fun _ _ _ e => e, fun _ _ e => e, fun j u e => by
    simp only [Gh.setT]
    by_cases hj : j = i
    · subst hj
      rw [hi] at e; injection e with e; subst e
      exact ⟨t', List.getElem?_set_self (List.getElem?_eq_some_iff.1 hi).1, by omega, fun q => by omega⟩
    · exact ⟨u, by rw [List.getElem?_set_ne (fun e => hj e.symm)]; exact e, Nat.le_refl _, fun _ => rfl⟩, fun _ h => h⟩
theorem Gh.le_addT (g : Gh) (t : TI) : g.le (g.addT t) :=
  ⟨fun _ _ _ e => e, fun _ _ e => e, fun j u e => by
    simp only [Gh.addT]
    exact ⟨u, by rw [List.getElem?_append_left (List.getElem?_eq_some_iff.1 e).1]; exact e, Nat.le_refl _, fun _ => rfl⟩, fun _ h => h⟩

/-- A token's row is longer now; its block is the same, or one that no other token and no abstract block has. -/
theorem Rel.setTok (r : Rel B w0 g h w) {i : Nat} {t t' : TI} (hi : g.τ[i]? = some t) (hn : t.n < t'.n)
    (hloc : ∀ b l e, t'.loc = some (b, l, e) → LocOk g.Φ B w b l e)
    (hd : ∀ b x, t'.loc = some (b, x) → (∃ y, t.loc = some (b, y)) ∨ ((∀ (j : Nat) (u : TI) (y : Nat × Nat), g.τ[j]? = some u → u.loc ≠ some (b, y)) ∧ ∀ (j c : Nat), g.σ[j]? = some c → b ≠ c)) :
    Rel B w0 (g.setT i t') { h with toks := h.toks.set i t'.n } w := by
  have hlt : i < g.τ.length := (List.getElem?_eq_some_iff.1 hi).1
  have key : ∀ (j : Nat) (u : TI), (g.setT i t').τ[j]? = some u → (j = i ∧ u = t') ∨ (j ≠ i ∧ g.τ[j]? = some u) := by
    intro j u e
    simp only [Gh.setT] at e
    by_cases hj : j = i
    · subst hj
      rw [List.getElem?_set_self hlt] at e
      injection e with e
      exact .inl ⟨rfl, e.symm⟩
    · rw [List.getElem?_set_ne (fun e => hj e.symm)] at e
      exact .inr ⟨hj, e⟩
  refine ⟨r.below, r.bsz, r.phi, r.slen, fun i' c k hc hk => ?_, by simp [Gh.setT, r.tlen], fun j u hu => ?_, r.sinj, fun j j' u u' b x y hj hj' hx hy => ?_, fun j c j' u b x hc hu hx => ?_, r.dfr⟩
  · obtain ⟨h1, h2, h3, h4⟩ := r.blk i' c k hc hk
    exact ⟨h1, h2, h3.mono (Gh.le_setT hi hn) rfl, h4⟩
  · rcases key j u hu with ⟨rfl, rfl⟩ | ⟨hj, hu⟩
    · exact ⟨List.getElem?_set_self (by rw [← r.tlen]; exact hlt), hloc⟩
    · obtain ⟨h1, h2⟩ := r.tok j u hu
      exact ⟨by rw [List.getElem?_set_ne (fun e => hj e.symm)]; exact h1, h2⟩
  · rcases key j u hj with ⟨rfl, rfl⟩ | ⟨hne, hj2⟩ <;> rcases key j' u' hj' with ⟨rfl, rfl⟩ | ⟨hne', hj'⟩
    · rfl
    · rcases hd b x hx with ⟨z, hz⟩ | ⟨h1, _⟩
      · exact r.tinj _ _ _ _ b z y hi hj' hz hy
      · exact absurd hy (h1 _ _ _ hj')
    · rcases hd b y hy with ⟨z, hz⟩ | ⟨h1, _⟩
      · exact r.tinj _ _ _ _ b x z hj2 hi hx hz
      · exact absurd hx (h1 _ _ _ hj2)
    · exact r.tinj _ _ _ _ b x y hj2 hj' hx hy
  · rcases key j' u hu with ⟨rfl, rfl⟩ | ⟨hne, hu⟩
    · rcases hd b x hx with ⟨z, hz⟩ | ⟨_, h2⟩
      · exact r.sep j c _ t b z hc hi hz
      · exact h2 j c hc
    · exact r.sep j c j' u b x hc hu hx

/-- A new token. -/
theorem Rel.addTok (r : Rel B w0 g h w) (t : TI) (hloc : ∀ b l e, t.loc = some (b, l, e) → LocOk g.Φ B w b l e)
    (hd : ∀ b x, t.loc = some (b, x) → (∀ (j : Nat) (u : TI) (y : Nat × Nat), g.τ[j]? = some u → u.loc ≠ some (b, y)) ∧ ∀ (j c : Nat), g.σ[j]? = some c → b ≠ c) :
    Rel B w0 (g.addT t) { h with toks := h.toks ++ [t.n] } w := by
  have key : ∀ (j : Nat) (u : TI), (g.addT t).τ[j]? = some u → (j = g.τ.length ∧ u = t) ∨ (j < g.τ.length ∧ g.τ[j]? = some u) := by
    intro j u e
    simp only [Gh.addT] at e
    rcases Nat.lt_or_ge j g.τ.length with hl | hl
    · rw [List.getElem?_append_left hl] at e
      exact .inr ⟨hl, e⟩
    · rw [List.getElem?_append_right hl] at e
      rcases Nat.eq_zero_or_pos (j - g.τ.length) with h0 | h0
      · rw [h0] at e; simp at e; exact .inl ⟨by omega, e.symm⟩
      · rw [List.getElem?_eq_none (by simp; omega)] at e; cases e
  refine ⟨r.below, r.bsz, r.phi, r.slen, fun i' c k hc hk => ?_, by simp [Gh.addT, r.tlen], fun j u hu => ?_, r.sinj, fun j j' u u' b x y hj hj' hx hy => ?_, fun j c j' u b x hc hu hx => ?_, r.dfr⟩
  · obtain ⟨h1, h2, h3, h4⟩ := r.blk i' c k hc hk
    exact ⟨h1, h2, h3.mono (Gh.le_addT g t) rfl, h4⟩
  · rcases key j u hu with ⟨rfl, rfl⟩ | ⟨hj, hu⟩
    · refine ⟨?_, hloc⟩
      rw [r.tlen, List.getElem?_append_right (Nat.le_refl _)]; simp
    · obtain ⟨h1, h2⟩ := r.tok j u hu
      exact ⟨by rw [List.getElem?_append_left (by rw [← r.tlen]; exact hj)]; exact h1, h2⟩
  · rcases key j u hj with ⟨rfl, rfl⟩ | ⟨hne, hj2⟩ <;> rcases key j' u' hj' with ⟨rfl, rfl⟩ | ⟨hne', hj'⟩
    · rfl
    · exact absurd hy ((hd b x hx).1 _ _ _ hj')
    · exact absurd hx ((hd b y hy).1 _ _ _ hj2)
    · exact r.tinj _ _ _ _ b x y hj2 hj' hx hy
  · rcases key j' u hu with ⟨rfl, rfl⟩ | ⟨hne, hu⟩
    · exact (hd b x hx).2 j c hc
    · exact r.sep j c j' u b x hc hu hx

/-- Cells of a token's row, behind what is promised, are written. -/
theorem Rel.setSpare (r : Rel B w0 g h w) {i : Nat} {t : TI} {b l e : Nat} (hi : g.τ[i]? = some t) (hl : t.loc = some (b, l, e)) {cur new : Array Value} {ty : TypeId}
    (hc : w.heap[b]? = some (.cells cur ty (0, 0))) (hsz : new.size = cur.size) (hsame : ∀ j, j < l → new[j]? = cur[j]?) : Rel B w0 g h (w.setRow b new) := by
  have lo := (r.tok i t hi).2 b l e hl
  have hnew : (w.setRow b new).heap[b]? = some (.cells new ty (0, 0)) := setRow_heap w b cur new ty (0, 0) hc
  refine ⟨⟨r.below.os, r.below.tape, r.below.output, by simp [r.below.size], fun k hk => (setRow_other w b k new (by have := lo.lo; omega)).trans (r.below.block k hk)⟩, by simp [r.bsz], fun b' j v e' => ?_,
    r.slen, fun i' c k hc' hk => ?_, r.tlen, fun i' t' ht' => ?_, r.sinj, r.tinj, r.sep, fun x hx => ⟨(r.dfr x hx).1, (setRow_other w b x new (by rintro rfl; have := (r.dfr x hx).2.1; rw [hc] at this; cases this)).trans (r.dfr x hx).2.1, (r.dfr x hx).2.2⟩⟩
  · by_cases hb : b' = b
    · subst hb
      have hj : j < l := by
        rcases Nat.lt_or_ge j l with hj | hj
        · exact hj
        · rw [lo.free j hj] at e'; cases e'
      have := r.phi b' j v e'
      rw [cell_of_row w b' j cur ty (0, 0) hc] at this
      rw [cell_of_row _ b' j new ty (0, 0) hnew, hsame j hj]
      exact this
    · exact (World.cell?_of_block (w := w) (a := ⟨b', j, none⟩) (setRow_other w b b' new hb)).trans (r.phi b' j v e')
  · obtain ⟨h1, h2, h3, h4⟩ := r.blk i' c k hc' hk
    exact ⟨h1, by simpa using h2, h3.mono (Gh.le.refl g) (setRow_other w b c new (r.sep i' c i t b (l, e) hc' hi hl).symm), h4⟩
  · obtain ⟨h1, h2⟩ := r.tok i' t' ht'
    refine ⟨h1, fun b' l' e'' hl' => ?_⟩
    have lo' := h2 b' l' e'' hl'
    by_cases hb : b' = b
    · subst hb
      obtain ⟨cs, ty', hcs, hle⟩ := lo'.cells
      rw [hc] at hcs
      injection hcs with hcs
      injection hcs with hcs _ _
      subst hcs
      exact ⟨lo'.lo, by simpa using lo'.lt, ⟨new, ty, hnew, by omega⟩, lo'.free⟩
    · exact lo'.mono (by simp) (setRow_other w b b' new hb) fun _ _ => rfl
end
#print axioms Rel.setSpare
end Go.Vv
