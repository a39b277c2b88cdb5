/- Layer 30, plainly: rows of a tree, and what is kept of it. -/
import Derived.Test.YtlkpeiojgenhaaaPl07b
import Derived.Test.YtlkpeiojgenhaaaPl30
namespace Go.Vv
set_option linter.unusedVariables false
set_option linter.unusedSimpArgs false
open Go
/-! ### What is told is folded over. -/
section
variable {S X : Type}
def foldF (y : S → X → Option (Bool × S)) : List X → S → Option (Bool × S)
  | [], s => some (true, s)
  | x :: r, s => (y s x).bind fun v => if v.1 = true then foldF y r v.2 else some (false, v.2)
theorem foldF_app (y : S → X → Option (Bool × S)) : ∀ (a b : List X) (s : S), foldF y (a ++ b) s = (foldF y a s).bind fun v => if v.1 = true then foldF y b v.2 else some v
  | [], b, s => by simp [foldF]
  | x :: r, b, s => by
    simp only [List.cons_append, foldF]
    cases y s x with
    | none => rfl
    | some v =>
      simp only [Option.bind_some]
      cases hv : v.1
      · simp
      · simp only [if_true]; exact foldF_app y r b v.2
/-- A round that hands what it gets to another one. -/
theorem foldF_stp (y : S → X → Option (Bool × S)) : ∀ (xs : List X) (s : S),
    foldF (stp (fun (s3 : S) (x3 : X) => (((y s3 x3).bind fun v => (if (!v.1) = true then some (false, (v.2, some 0)) else some (true, (v.2, none)))) : Option (Bool × (S × Option Nat))))) xs (s, none) = (foldF y xs s).map fun v => (v.1, (v.2, if v.1 = true then none else some 0))
  | [], s => rfl
  | x :: r, s => by
    simp only [foldF, stp]
    cases y s x with
    | none => rfl
    | some v =>
      rcases v with ⟨b, s'⟩
      cases b
      · simp
      · simp only [Bool.not_true, Bool.false_eq_true, if_false, Option.bind_some, if_true]
        exact foldF_stp y r s'
/-- A loop that tells each of a list. -/
theorem loop_tell {ρ α : Type} (y : S → X → Option (Bool × S)) (g : α → X) (r : S → ρ) {f : Nat → α → S → Option (Out ρ S)} : ∀ (L : List α) (i : Nat) (s : S), (∀ i x s, x ∈ L → f i x s = (y s (g x)).bind fun v => if (!v.1) = true then some (.ret (r v.2)) else some (.nxt v.2)) →
    loopL f L i s = (foldF y (L.map g) s).map fun v => if v.1 = true then .inr v.2 else .inl (r v.2)
  | [], _, _, _ => rfl
  | x :: t, i, s, h => by
    simp only [loopL, h i x s (List.mem_cons_self ..), List.map_cons, foldF]
    cases y s (g x) with
    | none => rfl
    | some v =>
      rcases v with ⟨b, s'⟩
      cases b
      · rfl
      · simp only [Bool.not_true, Bool.false_eq_true, if_false, Option.bind_some, if_true]
        exact loop_tell y g r t (i + 1) s' fun i x s hx => h i x s (List.mem_cons_of_mem _ hx)
/-- A loop whose rounds tell several. -/
theorem loop_tells {ρ α : Type} (y : S → X → Option (Bool × S)) (g : α → List X) (r : S → ρ) {f : Nat → α → S → Option (Out ρ S)} : ∀ (L : List α) (i : Nat) (s : S), (∀ i x s, x ∈ L → f i x s = (foldF y (g x) s).map fun v => if v.1 = true then .nxt v.2 else .ret (r v.2)) →
    loopL f L i s = (foldF y (L.flatMap g) s).map fun v => if v.1 = true then .inr v.2 else .inl (r v.2)
  | [], _, _, _ => rfl
  | x :: t, i, s, h => by
    simp only [loopL, h i x s (List.mem_cons_self ..), List.flatMap_cons, foldF_app]
    cases foldF y (g x) s with
    | none => rfl
    | some v =>
      rcases v with ⟨b, s'⟩
      cases b
      · rfl
      · simp only [Option.map_some, if_true, Option.bind_some]
        exact loop_tells y g r t (i + 1) s' fun i x s hx => h i x s (List.mem_cons_of_mem _ hx)
end
/-! ### Clones. -/
theorem clone_is {α : Type} {L : List α} (h : L.length ≤ lim) : (nilq L fun b1 => (if b1 = true then some ([] : List α) else (chk ((([] : List α)).length + L.length ≤ lim) (some (([] : List α) ++ L))))) = some L := by
  refine nilq_of ?_ fun e => by subst e; rfl
  rw [chk_true (by simpa using h)]; simp
theorem cloneString_is {L : List Str} (h : L.length ≤ lim) : slicesCloneString L = some L := clone_is h
theorem cloneItem_is {L : List GItem} (h : L.length ≤ lim) : slicesCloneItem L = some L := clone_is h
theorem cloneDot_is {L : List GDot} (h : L.length ≤ lim) : slicesCloneDot L = some L := clone_is h
theorem pathsXown_is {l : GLeaf} (h : LeafOk l) : pathsXown l = some l := by
  unfold pathsXown
  rw [cloneItem_is (by have := h.items; unfold lim; omega), cloneDot_is (by have := h.tombs; unfold lim; omega)]; rfl
/-! ### Rows, and what is kept. -/
mutual
def rowsN (a : List Str) : GNode → List GRow
  | ⟨nm, ls, sb⟩ => ls.map (fun l => GRow.mk (a ++ [nm]) l) ++ rowsL (a ++ [nm]) sb
def rowsL (a : List Str) : List GNode → List GRow
  | [] => []
  | x :: r => rowsN a x ++ rowsL a r
end
mutual
def keepN (is : List Str → Bool) (a : List Str) : GNode → GNode
  | ⟨nm, ls, sb⟩ => ⟨nm, if is (a ++ [nm]) = true then ls else [], keepL is (a ++ [nm]) sb⟩
def keepL (is : List Str → Bool) (a : List Str) : List GNode → List GNode
  | [] => []
  | x :: r => if (keepN is a x).leaves.isEmpty && (keepN is a x).subs.isEmpty then keepL is a r else keepN is a x :: keepL is a r
end
theorem rowsN_eq (a : List Str) (x : GNode) : rowsN a x = x.leaves.map (fun l => GRow.mk (a ++ [x.name]) l) ++ rowsL (a ++ [x.name]) x.subs := by cases x; rfl
theorem rowsL_flat (a : List Str) : ∀ t, rowsL a t = t.flatMap (rowsN a)
  | [] => rfl
  | x :: r => by simp only [rowsL, List.flatMap_cons, rowsL_flat a r]
theorem keepN_eq (is : List Str → Bool) (a : List Str) (x : GNode) : keepN is a x = ⟨x.name, if is (a ++ [x.name]) = true then x.leaves else [], keepL is (a ++ [x.name]) x.subs⟩ := by cases x; rfl
theorem keepL_filter (is : List Str → Bool) (a : List Str) : ∀ t, keepL is a t = (t.map (keepN is a)).filter fun y => !(y.leaves.isEmpty && y.subs.isEmpty)
  | [] => rfl
  | x :: r => by
    simp only [keepL, List.map_cons, List.filter_cons, keepL_filter is a r]
    cases ((keepN is a x).leaves.isEmpty && (keepN is a x).subs.isEmpty) <;> simp
theorem rows_is {S : Type} : ∀ (n : Nat) (S : Type) (y : S → GRow → Option (Bool × S)) (t : List GNode) (a : List Str) (s : S), GNode.deps t < n → Small t → a.length + GNode.deps t ≤ 2000000 → pathsXrowsC1N n S y t a s = (foldF y (rowsL a t) s).map (·.2)
  | 0, _, _, _, _, _, h, _, _ => by omega
  | n + 1, S, y, t, a, s, h, hs, ha => by
    unfold pathsXrowsC1N
    rw [loop_tells y (rowsN a) (fun s => s), ← rowsL_flat]
    · cases foldF y (rowsL a t) s with
      | none => rfl
      | some v => rcases v with ⟨b, s'⟩; cases b <;> rfl
    · intro i x s1 hx
      have hdp := dep_mem hx
      have hds := dep_subs x
      rw [cloneString_is (by unfold lim; omega), Option.bind_some, chk_true (by simp [lim]; omega)]
      rw [loop_tell y (fun l => GRow.mk (a ++ [x.name]) l) (fun s => Out.ret s)]
      · rw [rowsN_eq, foldF_app]
        cases foldF y (x.leaves.map fun l => GRow.mk (a ++ [x.name]) l) s1 with
        | none => rfl
        | some v =>
          rcases v with ⟨b, s'⟩
          cases b
          · rfl
          · simp only [Option.map_some, if_true, lp_inr, Option.bind_some]
            unfold pathsXrows
            simp only [Option.bind_some]
            rw [rows_is (S := Unit) n _ _ x.subs (a ++ [x.name]) (s', none) (by omega) (hs.subs hx) (by simp; omega), foldF_stp]
            cases foldF y (rowsL (a ++ [x.name]) x.subs) s' with
            | none => rfl
            | some v => rcases v with ⟨b, s2⟩; cases b <;> rfl
      · intro j l s2 hl
        rw [cloneString_is (by simp [lim]; omega), Option.bind_some, pathsXown_is (hs.leaf hx hl), Option.bind_some]
end Go.Vv
