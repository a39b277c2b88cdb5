/- Layer 30, plainly: what is kept, kept again; its rows; it may be. -/
import Derived.Test.YtlkpeiojgenhaaaPl30c
namespace Go.Vv
set_option linter.unusedVariables false
set_option linter.unusedSimpArgs false
open Go
theorem less_trans : ∀ {a b c : List UInt8}, Op.bytesLess a b = true → Op.bytesLess b c = true → Op.bytesLess a c = true
  | _, [], _, h, _ => by cases ‹List UInt8› <;> simp [Op.bytesLess] at h
  | a, b :: y, [], _, h => by simp [Op.bytesLess] at h
  | [], b :: y, c :: z, _, _ => rfl
  | a :: x, b :: y, c :: z, h1, h2 => by
    simp only [Op.bytesLess, Bool.or_eq_true, decide_eq_true_eq, Bool.and_eq_true, beq_iff_eq] at h1 h2 ⊢
    rcases h1 with h1 | ⟨rfl, h1⟩
    · rcases h2 with h2 | ⟨rfl, h2⟩
      · left; exact UInt8.lt_trans h1 h2
      · left; exact h1
    · rcases h2 with h2 | ⟨rfl, h2⟩
      · left; exact h2
      · right; exact ⟨rfl, less_trans h1 h2⟩
/-- Names rise, each behind all others. -/
theorem upB_iff (t : List GNode) : upB t = true ↔ t.Pairwise (fun x y => Op.bytesLess x.name y.name = true) := by
  unfold upB
  rw [allI_iff]
  constructor
  · intro h
    rw [List.pairwise_iff_getElem]
    intro i j hi hj hij
    obtain ⟨k, rfl⟩ : ∃ k, j = i + 1 + k := ⟨j - i - 1, by omega⟩
    induction k with
    | zero =>
      have := h (i + 1) _ (List.getElem?_eq_getElem hj)
      simp only [Nat.add_sub_cancel, Bool.or_eq_true, decide_eq_true_eq] at this
      rcases this with h0 | h0
      · omega
      · rw [List.getD_eq_getElem?_getD, List.getElem?_eq_getElem hi] at h0; exact h0
    | succ k ih =>
      have h1 := ih (by omega) (by omega)
      have := h (i + 1 + (k + 1)) _ (List.getElem?_eq_getElem hj)
      simp only [Bool.or_eq_true, decide_eq_true_eq] at this
      rcases this with h0 | h0
      · omega
      · rw [show i + 1 + (k + 1) - 1 = i + 1 + k by omega, List.getD_eq_getElem?_getD, List.getElem?_eq_getElem (by omega : i + 1 + k < t.length)] at h0
        exact less_trans h1 h0
  · intro h i x hx
    rcases i with _ | i
    · rfl
    · rw [List.pairwise_iff_getElem] at h
      obtain ⟨hi, rfl⟩ := List.getElem?_eq_some_iff.1 hx
      have := h i (i + 1) (by omega) hi (by omega)
      simp only [Nat.add_sub_cancel, Bool.or_eq_true]
      right
      rw [List.getD_eq_getElem?_getD, List.getElem?_eq_getElem (by omega : i < t.length)]; exact this
section
variable (is : List Str → Bool)
theorem keep_up (a : List Str) {t : List GNode} (h : upB t = true) : upB (keepL is a t) = true := by
  rw [upB_iff] at h ⊢
  rw [keepL_filter]
  refine List.Pairwise.filter _ ?_
  rw [List.pairwise_map]
  exact h.imp fun {x y} h => by rw [keepN_eq, keepN_eq]; exact h
/-- An induction on trees. -/
theorem tree_ind {M : List GNode → Prop} (h0 : M []) (h1 : ∀ x r, M x.subs → M r → M (x :: r)) : ∀ t, M t := by
  have key : ∀ (n : Nat) (t : List GNode), GNode.deps t ≤ n → M t := by
    intro n
    induction n with
    | zero =>
      intro t h
      cases t with
      | nil => exact h0
      | cons x r => simp only [GNode.deps] at h; have := dep_subs x; omega
    | succ n ih =>
      intro t
      induction t with
      | nil => intro _; exact h0
      | cons x r ihr =>
        intro h
        simp only [GNode.deps] at h
        have := dep_subs x
        exact h1 x r (ih x.subs (by omega)) (ihr (by omega))
  exact fun t => key _ t (Nat.le_refl _)
theorem keep_may : ∀ (t : List GNode) (d : Nat) (a : List Str), treeB d t = true → treeB d (keepL is a t) = true := by
  intro t
  have key : ∀ (t : List GNode), (∀ (d : Nat) (a : List Str), treeB d t = true → treeB d (keepL is a t) = true) ∧ (∀ (d : Nat) (a : List Str), nodesB d t = true → nodesB d (keepL is a t) = true) := by
    refine tree_ind ⟨fun d a h => h, fun d a h => h⟩ ?_
    intro x r hx hr
    have h2 : ∀ (d : Nat) (a : List Str), nodesB d (x :: r) = true → nodesB d (keepL is a (x :: r)) = true := by
      intro d a h
      simp only [nodesB, Bool.and_eq_true] at h
      simp only [keepL]
      cases he : ((keepN is a x).leaves.isEmpty && (keepN is a x).subs.isEmpty)
      · simp only [Bool.false_eq_true, if_false, nodesB, Bool.and_eq_true]
        refine ⟨?_, hr.2 d a h.2⟩
        have hn := h.1
        rw [nodeB_eq] at hn ⊢
        simp only [Bool.and_eq_true, Bool.not_eq_true'] at hn ⊢
        rw [keepN_eq] at he ⊢
        refine ⟨⟨⟨hn.1.1.1, he⟩, hx.1 (d + 1) _ hn.1.2⟩, ?_⟩
        show leavesB (if is (a ++ [x.name]) = true then x.leaves else []) = true
        split
        · exact hn.2
        · rfl
      · simp only [if_true]; exact hr.2 d a h.2
    refine ⟨fun d a h => ?_, h2⟩
    unfold treeB at h ⊢
    simp only [Bool.and_eq_true] at h ⊢
    refine ⟨⟨?_, keep_up is a h.1.2⟩, h2 d a h.2⟩
    have : decide (d < 3) = true := by simpa using h.1.1
    rw [this]; simp
  exact (key t).1
theorem keep_rows : ∀ (t : List GNode) (a : List Str), rowsL a (keepL is a t) = (rowsL a t).filter fun r => is r.path := by
  refine tree_ind (fun a => rfl) ?_
  intro x r hx hr a
  have hN : rowsN a (keepN is a x) = (rowsN a x).filter fun r => is r.path := by
    rw [keepN_eq, rowsN_eq, rowsN_eq, List.filter_append, ← hx]
    simp only
    congr 1
    cases h : is (a ++ [x.name])
    · simp [h]
    · simp only [if_true]
      rw [List.filter_eq_self.2]
      intro r hr
      obtain ⟨l, _, rfl⟩ := List.mem_map.1 hr
      exact h
  simp only [keepL, rowsL, List.filter_append, ← hr, ← hN]
  cases he : ((keepN is a x).leaves.isEmpty && (keepN is a x).subs.isEmpty)
  · simp [rowsL]
  · simp only [if_true]
    simp only [Bool.and_eq_true, List.isEmpty_iff] at he
    rw [rowsN_eq, he.1, he.2]; simp [rowsL]
theorem keep_keep (js : List Str → Bool) : ∀ (t : List GNode) (a : List Str), keepL js a (keepL is a t) = keepL (fun p => is p && js p) a t := by
  refine tree_ind (fun a => rfl) ?_
  intro x r hx hr a
  have hN : keepN js a (keepN is a x) = keepN (fun p => is p && js p) a x := by
    rw [keepN_eq, keepN_eq is, keepN_eq]
    simp only [hx, GNode.mk.injEq, true_and, and_true]
    cases is (a ++ [x.name]) <;> cases js (a ++ [x.name]) <;> simp
  simp only [keepL]
  cases he : ((keepN is a x).leaves.isEmpty && (keepN is a x).subs.isEmpty)
  · simp only [Bool.false_eq_true, if_false, keepL, hN, hr]
  · simp only [if_true, hr]
    have h2 : ((keepN (fun p => is p && js p) a x).leaves.isEmpty && (keepN (fun p => is p && js p) a x).subs.isEmpty) = true := by
      rw [← hN, keepN_eq js]
      simp only [Bool.and_eq_true, List.isEmpty_iff] at he ⊢
      rw [he.1, he.2]; simp [keepL]
    rw [if_pos h2]
theorem keep_small : ∀ (t : List GNode) (a : List Str), (GNode.wfs t → GNode.wfs (keepL is a t)) ∧ GNode.bks (keepL is a t) ≤ GNode.bks t := by
  refine tree_ind (fun a => ⟨fun h => h, Nat.le_refl _⟩) ?_
  intro x r hx hr a
  have hb : (keepN is a x).bk ≤ x.bk := by
    have := (hx (a ++ [x.name])).2
    cases x with
    | mk nm ls sb =>
      simp only [keepN, GNode.bk] at this ⊢
      have h2 : ((if is (a ++ [nm]) = true then ls else []).map GLeaf.bk).sum ≤ (ls.map GLeaf.bk).sum := by split <;> simp
      omega
  have hw : x.wf → (keepN is a x).wf := by
    have := (hx (a ++ [x.name])).1
    cases x with
    | mk nm ls sb =>
      simp only [keepN, GNode.wf] at this ⊢
      rintro ⟨h1, h2, h3⟩
      refine ⟨h1, ?_, this h3⟩
      split
      · exact h2
      · exact ⟨by simp, fun y hy => by cases hy⟩
  simp only [keepL]
  split
  · refine ⟨fun h => (hr a).1 (by simp only [GNode.wfs] at h; exact h.2), ?_⟩
    have := (hr a).2; simp only [GNode.bks]; omega
  · refine ⟨fun h => ?_, ?_⟩
    · simp only [GNode.wfs] at h ⊢; exact ⟨hw h.1, (hr a).1 h.2⟩
    · have := (hr a).2; simp only [GNode.bks]; omega
theorem Small.keep {t : List GNode} (h : Small t) (a : List Str) : Small (keepL is a t) := ⟨(keep_small is t a).1 h.1, Nat.le_trans (keep_small is t a).2 h.2⟩
end
/-! ### The same. -/
theorem ref05Same_refl (l : GLeaf) : ref05Same l l = some true := by
  unfold ref05Same
  simp only [dotEq, itemEq]
  rw [if_neg (by simp), lp_all (r := false) (fun _ _ => true), lp_all (r := false) (fun _ _ => true)]
  · simp [allI]
  · intro i x hx
    have hi := (List.getElem?_eq_some_iff.1 hx).1
    have he : l.tombs[i] = x := (List.getElem?_eq_some_iff.1 hx).2
    rw [idx_at hi, he]; simp
  · intro i x hx
    have hi := (List.getElem?_eq_some_iff.1 hx).1
    have he : l.items[i] = x := (List.getElem?_eq_some_iff.1 hx).2
    rw [idx_at hi, he]; simp
theorem ref30SamePath_refl (p : List Str) : ref30SamePath p p = some true := by
  unfold ref30SamePath
  rw [if_neg (by simp), lp_all (r := false) (fun _ _ => true)]
  · simp [allI]
  · intro i x hx
    have hi := (List.getElem?_eq_some_iff.1 hx).1
    have he : p[i] = x := (List.getElem?_eq_some_iff.1 hx).2
    rw [idx_at hi, he]; simp
theorem ref30Same_refl (L : List GRow) : ref30Same L L = some true := by
  unfold ref30Same
  rw [if_neg (by simp), lp_all (r := false) (fun _ _ => true)]
  · simp [allI]
  · intro i x hx
    have hi := (List.getElem?_eq_some_iff.1 hx).1
    have he : L[i] = x := (List.getElem?_eq_some_iff.1 hx).2
    have hd : L.getD i default = x := by rw [List.getD_eq_getElem?_getD, hx]; rfl
    rw [idx_at hi, he]
    simp only [Option.bind_some, ref30SamePath_refl, Int.toNat_natCast, hd, ref05Same_refl]
    rw [chk_true (by intro _; omega), chk_true (by intro _; omega)]; simp
theorem ref07SameN_refl : ∀ (n : Nat) (t : List GNode), GNode.deps t < n → ref07SameN n t t = some true
  | 0, _, h => by omega
  | n + 1, t, h => by
    unfold ref07SameN
    rw [if_neg (by simp), lp_all (r := false) (fun _ _ => true)]
    · simp [allI]
    · intro i x hx
      have hi := (List.getElem?_eq_some_iff.1 hx).1
      have he : t[i] = x := (List.getElem?_eq_some_iff.1 hx).2
      have hd : t.getD i default = x := by rw [List.getD_eq_getElem?_getD, hx]; rfl
      have hdp := dep_mem (List.mem_of_getElem? hx)
      have hds := dep_subs x
      rw [idx_at hi, he]
      simp only [Option.bind_some, Int.toNat_natCast, hd, ref07SameN_refl n x.subs (by omega)]
      rw [chk_true (by intro _; omega), chk_true (by intro _; omega), chk_true (by intro _; omega), chk_true (by intro _; omega)]
      rw [lp_all (r := .ret false) (fun _ _ => true)]
      · simp [allI]
      · intro j l hl
        have hj := (List.getElem?_eq_some_iff.1 hl).1
        have he2 : x.leaves[j] = l := (List.getElem?_eq_some_iff.1 hl).2
        rw [idx_at hj, he2]
        simp [ref05Same_refl]
theorem ref07Same_refl (t : List GNode) : ref07Same t t = some true := by
  unfold ref07Same
  exact anyN_of (GNode.deps t + 1) fun n hn => ref07SameN_refl n t (by omega)
end Go.Vv
