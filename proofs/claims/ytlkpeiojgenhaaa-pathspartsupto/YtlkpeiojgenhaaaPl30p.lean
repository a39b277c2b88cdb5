/- Layer 30: PathsParts. -/
import Derived.Test.YtlkpeiojgenhaaaPl30n
namespace Go.Vv
set_option linter.unusedVariables false
set_option linter.unusedSimpArgs false
open Go
/-- What is kept of nothing that matches is nothing. -/
theorem keep_none (is : List Str → Bool) : ∀ (t : List GNode) (a : List Str), (∀ r ∈ rowsL a t, is r.path = false) → rowsL a (keepL is a t) = [] := by
  intro t a h
  rw [keep_rows, List.filter_eq_nil_iff]
  intro r hr; rw [h r hr]; simp
/-- A tree that may be, without rows, is empty. -/
theorem rows_nil : ∀ (t : List GNode) (d : Nat) (a : List Str), nodesB d t = true → rowsL a t = [] → t = [] := by
  refine tree_ind (fun _ _ _ _ => rfl) ?_
  intro x r hx hr d a h hn
  exfalso
  simp only [nodesB, Bool.and_eq_true, nodeB_eq] at h
  simp only [rowsL, List.append_eq_nil_iff, rowsN_eq, List.map_eq_nil_iff] at hn
  have h1 := hx (d + 1) _ (by have := h.1.1.2; unfold treeB at this; simp only [Bool.and_eq_true] at this; exact this.2) hn.1.2
  have := h.1.1.1.2
  rw [hn.1.1, h1] at this
  simp at this
/-- Selected twice it is the same. -/
theorem keep_idem (is : List Str → Bool) (t : List GNode) (a : List Str) : keepL is a (keepL is a t) = keepL is a t := by
  rw [keep_keep]; congr 1; funext p; exact Bool.and_self _
theorem keep_not (is : List Str → Bool) (t : List GNode) (h : treeB 0 t = true) : keepL is [] (keepL (fun p => !is p) [] t) = [] := by
  have hm := keep_may is _ 0 [] (keep_may (fun p => !is p) t 0 [] h)
  refine rows_nil _ 0 [] (by unfold treeB at hm; simp only [Bool.and_eq_true] at hm; exact hm.2) ?_
  rw [keep_rows, keep_rows, List.filter_filter, List.filter_eq_nil_iff]
  intro r _; cases is r.path <;> simp
/-- The rows, told apart one by one. -/
theorem part_loop (q : GRow → Bool) {f : Nat → GRow → List GRow × List GRow → Option (Out Bool (List GRow × List GRow))} : ∀ (L : List GRow) (i : Nat), (∀ i x r r', f i x (if q x = true then (x :: r, r') else (r, x :: r')) = some (.nxt (r, r'))) →
    loopL f L i (L.filter q, L.filter fun x => !q x) = some (.inr ([], []))
  | [], _, _ => rfl
  | x :: t, i, h => by
    have ih := part_loop q t (i + 1) h
    have h0 := h i x (t.filter q) (t.filter fun x => !q x)
    simp only [loopL, List.filter_cons]
    cases hq : q x
    · rw [hq] at h0; simp only [Bool.false_eq_true, if_false, Bool.not_false, if_true] at h0 ⊢; rw [h0]; exact ih
    · rw [hq] at h0; simp only [if_true, Bool.not_true, Bool.false_eq_true, if_false] at h0 ⊢; rw [h0]; exact ih
theorem ref30SamePath_is (a b : List Str) : ref30SamePath a b = some (decide (a = b)) := by
  unfold ref30SamePath
  by_cases hl : a.length = b.length
  · have e : ((a.length : Int) != (b.length : Int)) = false := by simp; omega
    rw [e, same_loop b strEq a 0 (by omega) (fun j x hj => by simp)]
    by_cases h : a = b <;> simp [h]
  · have e : ((a.length : Int) != (b.length : Int)) = true := by simp; omega
    rw [e, decide_eq_false (fun h => hl (by rw [h]))]; rfl
theorem ref05Same_is (a b : GLeaf) : ref05Same a b = some (decide (a = b)) := by
  unfold ref05Same
  simp only [dotEq, itemEq]
  rcases a with ⟨a0, a1, a2, a3, a4, a5, a6⟩; rcases b with ⟨b0, b1, b2, b3, b4, b5, b6⟩
  simp only [GLeaf.mk.injEq]
  by_cases hl5 : a5.length = b5.length
  · by_cases hl6 : a6.length = b6.length
    · have e5 : ((a5.length : Int) != (b5.length : Int)) = false := by simp; omega
      have e6 : ((a6.length : Int) != (b6.length : Int)) = false := by simp; omega
      rw [e5, e6, same_loop b5 (fun _ _ => rfl) a5 0 (by omega) (fun j x hj => by simp)]
      have h6 := same_loop b6 (fun _ _ => rfl) (f := fun (n2 : Nat) (x2 : GDot) (s2 : Unit) => (((idx b6 (n2 : Int)).bind fun y60 => (if (!(decide (x2 = y60))) = true then some (.ret false) else some (.nxt ()))) : Option (Out Bool Unit))) a6 0 (by omega) (fun j x hj => by simp)
      simp only [h6, List.drop_zero]
      by_cases h0 : a0 = b0 <;> by_cases h1 : a1 = b1 <;> by_cases h2 : a2 = b2 <;> by_cases h3 : a3 = b3 <;> by_cases h4 : a4 = b4 <;> by_cases h5 : a5 = b5 <;> by_cases h6' : a6 = b6 <;> simp [h0, h1, h2, h3, h4, h5, h6']
    · have e6 : ((a6.length : Int) != (b6.length : Int)) = true := by simp; omega
      rw [e6]; simp; intro _ _ _ _ _ _ h; exact hl6 (by rw [h])
  · have e5 : ((a5.length : Int) != (b5.length : Int)) = true := by simp; omega
    rw [e5]; simp; intro _ _ _ _ _ h; exact absurd (by rw [h]) hl5
theorem ref30Same_tot (a b : List GRow) : ∃ c, ref30Same a b = some c := by
  unfold ref30Same
  by_cases hl : a.length = b.length
  · have e : ((a.length : Int) != (b.length : Int)) = false := by simp; omega
    rw [e, if_neg (by simp), lp_all (r := false) (fun i x => decide (x.path = (b.getD i default).path) && decide (x.leaf = (b.getD i default).leaf))]
    · split
      · exact ⟨_, rfl⟩
      · exact ⟨_, rfl⟩
    · intro i x hx
      have hi := (List.getElem?_eq_some_iff.1 hx).1
      have hd : a.getD i default = x := by rw [List.getD_eq_getElem?_getD, hx]; rfl
      have hb : i < b.length := by omega
      have hbd : b.getD i default = b[i] := by rw [List.getD_eq_getElem?_getD, List.getElem?_eq_getElem hb]; rfl
      rw [idx_at hb]
      simp only [Option.bind_some, ref30SamePath_is, ref05Same_is, Int.toNat_natCast, hd, hbd]
      rw [chk_true (by intro _; omega), chk_true (by intro _; omega)]
      cases decide (x.path = b[i].path) <;> cases decide (x.leaf = b[i].leaf) <;> simp
  · have e : ((a.length : Int) != (b.length : Int)) = true := by simp; omega
    rw [e]; exact ⟨_, rfl⟩
theorem law30PathsParts_is {t : List GNode} {p : List Str} (h : Small t) (hp : p.length ≤ maxLen) : law30PathsParts t p = some true := by
  unfold law30PathsParts
  obtain ⟨b1, e1⟩ := ref07Great_tot h
  obtain ⟨b2, e2⟩ := law30Xgreat_is [p]
  rw [e1, e2, law30Xknown_is]
  simp only [pathsSelect_is h hp, pathsWithout_is h hp, Option.bind_some]
  cases b1
  case true => simp
  cases b2
  case true => simp
  cases hm : (treeB 0 t && patB p)
  case false => simp [w64n]
  simp only [Bool.and_eq_true] at hm
  obtain ⟨ht, hpp⟩ := hm
  have k1 := keep_may (matchB p) t 0 [] ht
  have k2 := keep_may (fun q => !matchB p q) t 0 [] ht
  have s1 := h.keep (matchB p) []
  have s2 := h.keep (fun q => !matchB p q) []
  simp only [Bool.or_false, Bool.not_true, BEq.rfl, if_true, Option.bind_some, Bool.false_eq_true, if_false, ht, hpp, Bool.and_self, pathsSelect_is s1 hp, pathsSelect_is s2 hp, k1, k2, bne_self_eq_false, keep_idem, keep_not _ t ht, ref07Same_refl, pathsRows_is h, pathsRows_is s1, pathsRows_is s2, ref07May_is s1, ref07May_is s2, List.length_nil, Bool.or_self, Int.ofNat_zero, keep_rows]
  rw [part_loop (fun r => matchB p r.path) (rowsL [] t) 0 (fun i x r r' => ?_)]
  · simp [w64n]
  · have hs : ∀ y : List GRow, slc (x :: y) 1 ((x :: y).length : Int) = some y := fun y => by
      rw [slc_at (by simp; omega)]; simp
    have hc : ∀ y : List GRow, decide (((x :: y).length : Int) > 0) = true := fun y => decide_eq_true (by simp only [List.length_cons]; omega)
    have htk : ∀ y : List GRow, List.drop (Int.toNat 0) (List.take (Int.toNat 1) (x :: y)) = [x] := fun y => rfl
    cases hq : matchB p x.path
    · simp only [Bool.false_eq_true, if_false, pathsMatch_is hp, hq]
      rw [chk_true (by intro h; simp at h ⊢; omega)]
      have hin : ∀ b : Bool, (if ((decide ((r.length : Int) > 0) && b) == true) = true then some false else some default) = some false := fun b => by split <;> rfl
      obtain ⟨c, hcc⟩ := ref30Same_tot (List.drop (Int.toNat 0) (List.take (Int.toNat 1) r)) [x]
      rw [hcc]
      have hv : (if (decide ((r.length : Int) > 0) == true) = true then some c else some default) = some (if (decide ((r.length : Int) > 0) == true) = true then c else false) := by split <;> rfl
      rw [hv]
      simp only [Option.bind_some, hin, Bool.and_false, Bool.false_eq_true, if_false, hc, BEq.rfl, if_true, htk, ref30Same_refl, Bool.and_self, Bool.not_false, hs]
      rw [chk_true (by intro _; simp; omega)]
    · simp only [if_true, pathsMatch_is hp, hq, hc, BEq.rfl, htk, ref30Same_refl, Option.bind_some, Bool.and_self, hs]
      rw [chk_true (by intro _; simp; omega)]
theorem law30PathsParts_top (t : List GNode) (p : List Str) (h1 : t.length ≤ maxLen ∧ ∀ y ∈ t, GNode.wf y) (h2 : p.length ≤ maxLen ∧ ∀ y ∈ p, y.length ≤ maxLen)
    (hb : ((t.map GNode.bk).sum + 1) + ((p.map (fun s => s.length + 1)).sum + 1) ≤ 1048576) : law30PathsParts t p = some true :=
  law30PathsParts_is (small_of h1 (by omega)) h2.1
end Go.Vv
