/- Layer 30, plainly: selecting. -/
import Derived.Test.YtlkpeiojgenhaaaPl30b
namespace Go.Vv
set_option linter.unusedVariables false
set_option linter.unusedSimpArgs false
open Go
theorem lp_fold {α σ : Type} {f : Nat → α → σ → Option (Out σ σ)} (g : σ → α → σ) (L : List α) (s : σ) (h : ∀ i x s, x ∈ L → f i x s = some (.nxt (g s x))) : lp (loopL f L 0 s) (fun s => some s) = some (L.foldl g s) := by
  rw [loopL_fold g L 0 s h]; rfl
/-- A loop that keeps some. -/
theorem foldl_filter {α β : Type} (p : α → Bool) (g : α → β) : ∀ (L : List α) (s : List β), L.foldl (fun s x => if p x = true then s ++ [g x] else s) s = s ++ (L.filter p).map g
  | [], s => by simp
  | x :: r, s => by
    simp only [List.foldl_cons, foldl_filter p g r, List.filter_cons]
    cases p x <;> simp
/-- A loop that keeps some, as long as there is room. -/
theorem loop_keep {α β ρ : Type} (p : α → Bool) (g : α → β) {f : Nat → α → List β → Option (Out ρ (List β))} : ∀ (L : List α) (i : Nat) (s : List β), s.length + L.length ≤ lim → (∀ i x s, x ∈ L → s.length + 1 ≤ lim → f i x s = if p x = true then some (.nxt (s ++ [g x])) else some (.nxt s)) →
    loopL f L i s = some (.inr (s ++ (L.filter p).map g))
  | [], _, s, _, _ => by simp [loopL]
  | x :: t, i, s, hl, h => by
    simp only [List.length_cons] at hl
    simp only [loopL, h i x s (List.mem_cons_self ..) (by omega), List.filter_cons]
    cases hp : p x
    · simp only [Bool.false_eq_true, if_false]
      exact loop_keep p g t (i + 1) s (by omega) fun i x s hx => h i x s (List.mem_cons_of_mem _ hx)
    · simp only [if_true]
      rw [loop_keep p g t (i + 1) (s ++ [g x]) (by simp; omega) fun i x s hx => h i x s (List.mem_cons_of_mem _ hx)]
      simp
theorem keep_len (is : List Str → Bool) (a : List Str) (t : List GNode) : (keepL is a t).length ≤ t.length := by
  rw [keepL_filter]; exact Nat.le_trans (List.length_filter_le _ _) (by simp)
theorem kept_is (is : List Str → Bool) (f : List Str → Option Bool) (hf : ∀ p, f p = some (is p)) : ∀ (n : Nat) (t : List GNode) (a : List Str), GNode.deps t < n → Small t → a.length + GNode.deps t ≤ 2000000 → pathsXkeptN n t a f = some (keepL is a t)
  | 0, _, _, h, _, _ => by omega
  | n + 1, t, a, h, hs, ha => by
    unfold pathsXkeptN
    have hl := hs.len
    have key : ∀ (L : List GNode) (i : Nat) (s : List GNode), (∀ x ∈ L, x ∈ t) → s.length + L.length ≤ 1048576 → ∀ {F : Nat → GNode → List GNode → Option (Out (List GNode) (List GNode))}, (∀ i x s, x ∈ t → s.length + 1 ≤ 1048576 → F i x s = some (.nxt (if ((keepN is a x).leaves.isEmpty && (keepN is a x).subs.isEmpty) = true then s else s ++ [keepN is a x]))) →
        loopL F L i s = some (.inr (s ++ keepL is a L)) := by
      intro L
      induction L with
      | nil => intro i s _ _ F _; simp [loopL, keepL]
      | cons x r ih =>
        intro i s hm hsl F hF
        simp only [List.length_cons] at hsl
        simp only [loopL, hF i x s (hm x (by simp)) (by omega), keepL]
        cases he : ((keepN is a x).leaves.isEmpty && (keepN is a x).subs.isEmpty)
        · simp only [Bool.false_eq_true, if_false]
          rw [ih (i + 1) _ (fun y hy => hm y (by simp [hy])) (by simp; omega) hF]; simp
        · simp only [if_true]
          exact ih (i + 1) s (fun y hy => hm y (by simp [hy])) (by omega) hF
    rw [key t 0 [] (fun _ h => h) (by simpa using hl)]
    · simp
    · intro i x s hx hsl
      have hdp := dep_mem hx
      have hds := dep_subs x
      have hll := hs.leaves hx
      have hsub := (hs.subs hx).len
      rw [cloneString_is (by unfold lim; omega), Option.bind_some, chk_true (by simp [lim]; omega), kept_is is f hf n x.subs (a ++ [x.name]) (by omega) (hs.subs hx) (by simp; omega), Option.bind_some]
      rw [loop_keep (fun _ => is (a ++ [x.name])) (fun l => l) x.leaves 0 [] (by simp [lim]; omega)]
      · simp only [lp_inr, List.nil_append, List.map_id_fun', id]
        have hkl : (x.leaves.filter fun _ => is (a ++ [x.name])) = (if is (a ++ [x.name]) = true then x.leaves else []) := by
          cases is (a ++ [x.name]) <;> simp
        rw [hkl, ← keepN_eq]
        have hk := keep_len is (a ++ [x.name]) x.subs
        have hw : decide ((IntKind.wrap .i64 (((if is (a ++ [x.name]) = true then x.leaves else []).length : Int) + ((keepL is (a ++ [x.name]) x.subs).length : Int))) > 0) = !((keepN is a x).leaves.isEmpty && (keepN is a x).subs.isEmpty) := by
          rw [keepN_eq]
          have h1 : (if is (a ++ [x.name]) = true then x.leaves else []).length ≤ 1048576 := by cases is (a ++ [x.name]) <;> simp [hll]
          rw [w64n (by omega)]
          cases hA : (if is (a ++ [x.name]) = true then x.leaves else []) <;> cases hB : keepL is (a ++ [x.name]) x.subs <;> simp <;> omega
        rw [hw]
        cases ((keepN is a x).leaves.isEmpty && (keepN is a x).subs.isEmpty)
        · simp only [Bool.not_false, if_true, Bool.false_eq_true, if_false]
          rw [chk_true (by simp [lim]; omega)]
        · simp
      · intro j l s2 hl2 hs2
        rw [hf, Option.bind_some, pathsXown_is (hs.leaf hx hl2), Option.bind_some, chk_true (by simpa using hs2)]
theorem deps_bks : ∀ (n : Nat) (t : List GNode), GNode.deps t ≤ n → GNode.deps t ≤ GNode.bks t := by
  intro n
  induction n with
  | zero => intro t ht; omega
  | succ n ih =>
    intro t
    induction t with
    | nil => intro _; simp [GNode.deps]
    | cons x r ihr =>
      intro ht
      simp only [GNode.deps] at ht ⊢
      simp only [GNode.bks]
      have h1 := ihr (by omega)
      have h2 := dep_subs x
      have h3 := ih x.subs (by omega)
      have h4 := bk_node x
      omega
theorem Small.dep {t : List GNode} (h : Small t) : GNode.deps t ≤ 1048576 := Nat.le_trans (deps_bks _ t (Nat.le_refl _)) h.2
theorem keptAll_is (is : List Str → Bool) (f : List Str → Option Bool) (hf : ∀ p, f p = some (is p)) {t : List GNode} (h : Small t) : pathsXkept t [] f = some (keepL is [] t) := by
  unfold pathsXkept
  have hb := h.dep
  rw [anyN_of (GNode.deps t + 1) fun n hn => kept_is is f hf n t [] (by omega) h (by simp; omega)]
/-! ### Rows are told. -/
theorem rows_len : ∀ (n : Nat) (t : List GNode) (a : List Str), GNode.deps t ≤ n → (rowsL a t).length ≤ GNode.bks t := by
  intro n
  induction n with
  | zero =>
    intro t a h
    cases t with
    | nil => simp [rowsL]
    | cons x r => simp only [GNode.deps] at h; have := dep_subs x; omega
  | succ n ih =>
    intro t
    induction t with
    | nil => intro a _; simp [rowsL]
    | cons x r ihr =>
      intro a ht
      simp only [GNode.deps] at ht
      simp only [GNode.bks, rowsL, List.length_append]
      have h1 := ihr a (by omega)
      have h2 := dep_subs x
      have h3 := ih x.subs (a ++ [x.name]) (by omega)
      have h4 := bk_node x
      have h5 := sum_len (f := GLeaf.bk) (fun x => by unfold GLeaf.bk; omega) x.leaves
      rw [rowsN_eq]
      simp only [List.length_append, List.length_map]
      omega
theorem fold_app {X : Type} : ∀ (xs s : List X), s.length + xs.length ≤ lim → foldF (stp (fun (s1 : List X) (x1 : X) => ((chk (s1.length + ([x1] : List X).length ≤ lim) (some (true, ((s1 ++ [x1]), none)))) : Option (Bool × (List X × Option Nat))))) xs (s, none) = some (true, (s ++ xs, none))
  | [], s, _ => by simp [foldF]
  | x :: r, s, h => by
    simp only [List.length_cons] at h
    simp only [foldF, stp]
    rw [chk_true (by simp; omega)]
    simp only [Option.bind_some, if_true]
    rw [fold_app r (s ++ [x]) (by simp; omega)]
    simp
theorem pathsRows_is {t : List GNode} (h : Small t) : pathsRows t = some (if treeB 0 t = true then rowsL [] t else []) := by
  unfold pathsRows
  rw [treeMay_is h, Option.bind_some]
  cases treeB 0 t
  · rfl
  · have hd := h.dep
    have hrl := rows_len _ t [] (Nat.le_refl _)
    have hb := h.2
    simp only [Bool.not_true, Bool.false_eq_true, if_false, if_true, pathsXrows, Option.bind_some, slicesCollectRow, slicesAppendSeqRow, pathsXrowsC1]
    rw [anyN_of (r := (rowsL [] t, none)) (GNode.deps t + 1) fun n hn => by
      rw [rows_is (S := Unit) n _ _ t [] ([], none) (by omega) h (by simp; omega), fold_app _ _ (by simp [lim]; omega)]; rfl]
    rfl
end Go.Vv
