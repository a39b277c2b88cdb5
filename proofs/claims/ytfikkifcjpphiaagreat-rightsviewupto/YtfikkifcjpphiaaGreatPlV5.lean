/- Layer 42's law of what is shown. -/
import Derived.Test.YtfikkifcjpphiaaGreatPlV4
namespace Go.Vv
set_option linter.unusedVariables false
set_option linter.unusedSimpArgs false
open Go
theorem loop_shift {α ρ σ : Type} {f : Nat → α → σ → Option (Out ρ σ)} (hf : ∀ i j x s, f i x s = f j x s) : ∀ (L : List α) (i j : Nat) (s : σ), loopL f L i s = loopL f L j s
  | [], _, _, _ => rfl
  | x :: t, i, j, s => by
    simp only [loopL, hf i j x s]
    split <;> try rfl
    exact loop_shift hf t _ _ _
theorem cnt_is {l : List GRule} (hl : l.length ≤ maxLen) (h : ∀ x ∈ l, RuleLen x) (hr : rulesB l = true) (rep : Int) : ∀ (rs : List GRow) (n k : Nat), k + rs.length ≤ 1048576 → loopL (cntF l rep) rs n (k : Int) = some (.inr ((k + (rs.filter fun r => showB l rep r.path).length : Nat) : Int))
  | [], _, _, _ => rfl
  | r :: rs, n, k, hk => by
    simp only [List.length_cons] at hk
    simp only [loopL, List.filter_cons]
    unfold cntF
    rw [shows_is hl h hr, Option.bind_some]
    cases showB l rep r.path with
    | false =>
      simp only [Bool.false_eq_true, if_false]
      exact cnt_is hl h hr rep rs (n + 1) k (by omega)
    | true =>
      simp only [if_true]
      have e : IntKind.wrap .i64 ((k : Int) + 1) = ((k + 1 : Nat) : Int) := by rw [w64n (by omega)]; omega
      rw [e]
      have := cnt_is hl h hr rep rs (n + 1) (k + 1) (by omega)
      rw [show (cntF l rep) = cntF l rep from rfl] at this
      refine this.trans ?_
      simp only [List.length_cons]
      congr 3; omega
theorem node_hit (x : GNode) (r : List GNode) : ref07Xnode (x :: r) x.name = some (x, true) := by
  unfold ref07Xnode
  simp only [loopL, beq_self_eq_true, if_true, lp_inl]
theorem node_miss {x : GNode} {r : List GNode} {s : Str} (h : x.name ≠ s) : ref07Xnode (x :: r) s = ref07Xnode r s := by
  unfold ref07Xnode
  simp only [loopL, beq_eq_false_iff_ne.2 h, Bool.false_eq_true, if_false]
  rw [loop_shift (fun _ _ _ _ => rfl) r 1 0 ()]
noncomputable def walkF (v1 : GLeaf) : Nat → Str → (List GNode) × Str × (List GLeaf) × (List GNode) → Option (Out (GLeaf × Bool) ((List GNode) × Str × (List GLeaf) × (List GNode))) := fun _ x1 s1 => ((ref07Xnode s1.1 x1).bind fun v32 => (if (!v32.2) = true then some (.ret (v1, false)) else some (.nxt (v32.1.subs, v32.1.name, v32.1.leaves, v32.1.subs))))
theorem walk_row (v1 : GLeaf) : ∀ (t : List GNode) (d : Nat), Small t → upB t = true → nodesB d t = true → ∀ (r : GRow) (n : Nat) (z : Str × (List GLeaf) × (List GNode)), r ∈ rowsL [] t → ∃ x : GNode, (r.leaf ∈ x.leaves ∧ x.leaves.length ≤ 1048576) ∧ loopL (walkF v1) r.path n (t, z) = some (.inr (x.subs, x.name, x.leaves, x.subs)) := by
  refine tree_ind (fun _ _ _ _ _ _ _ h => by simp [rowsL] at h) ?_
  intro x rest hx hr d hs hu hn r n z hm
  rw [rowsL_flat, List.flatMap_cons, List.mem_append, ← rowsL_flat] at hm
  rw [upB_iff, List.pairwise_cons] at hu
  simp only [nodesB, Bool.and_eq_true] at hn
  obtain ⟨hnx, hnr⟩ := hn
  rcases hm with hm | hm
  · rw [nodeB_eq] at hnx
    simp only [Bool.and_eq_true] at hnx
    obtain ⟨⟨⟨_, _⟩, hsub⟩, hlv⟩ := hnx
    simp only [treeB, Bool.and_eq_true] at hsub
    rw [rowsN_eq, List.nil_append, List.mem_append, List.mem_map] at hm
    have st : ∀ w, loopL (walkF v1) (x.name :: w) n (x :: rest, z) = loopL (walkF v1) w (n + 1) (x.subs, x.name, x.leaves, x.subs) := fun w => by
      simp only [loopL]
      have : walkF v1 n x.name (x :: rest, z) = some (.nxt (x.subs, x.name, x.leaves, x.subs)) := by
        unfold walkF
        simp only [node_hit, Option.bind_some]
        rfl
      rw [this]
    rcases hm with ⟨l, hl, rfl⟩ | hm
    · exact ⟨x, ⟨hl, hs.leaves (by simp)⟩, (st []).trans rfl⟩
    · have er : rowsL [x.name] x.subs = (rowsL [] x.subs).map (preR [x.name]) := by
        have := rows_pre x.subs [x.name] []
        rwa [List.append_nil] at this
      rw [er, List.mem_map] at hm
      obtain ⟨q, hq, rfl⟩ := hm
      obtain ⟨y, h1, h2⟩ := hx (d + 1) (hs.subs (by simp)) hsub.1.2 hsub.2 q (n + 1) (x.name, x.leaves, x.subs) hq
      exact ⟨y, h1, (st q.path).trans h2⟩
  · obtain ⟨y, h1, h2⟩ := hr d hs.tail (upB_iff rest |>.2 hu.2) hnr r n z hm
    refine ⟨y, h1, ?_⟩
    obtain ⟨w, hw, p, e⟩ := rows_head hm
    rw [List.nil_append] at e
    rw [e] at h2 ⊢
    simp only [loopL] at h2 ⊢
    have : walkF v1 n w.name (x :: rest, z) = walkF v1 n w.name (rest, z) := by
      unfold walkF
      simp only [node_miss (less_ne (hu.1 w hw))]
    rw [this]
    exact h2
noncomputable def lookF (ls : List GLeaf) (k : Int) : Int → Option (Out (GLeaf × Bool) Int) := fun s2 => (if (((decide (s2 < ((ls).length : Int))) && (decide (k ≥ (1 : Int)))) && (decide (k ≤ (4 : Int)))) = true then ((idx ls s2).bind fun y63 => (if (y63.typ == k) = true then ((idx ls s2).bind fun y65 => some (.ret (y65, true))) else some (.nxt (IntKind.wrap .i64 (s2 + (1 : Int)))))) else some (.brk s2))
theorem look_is {ls : List GLeaf} {k : Int} (hl : ls.length ≤ 1048576) (hk : 1 ≤ k ∧ k ≤ 4) : ∀ (m i : Nat), ls.length - i ≤ m → (∃ (j : Nat) (l : GLeaf), i ≤ j ∧ ls[j]? = some l ∧ l.typ = k) → ∃ l', loopW (lookF ls k) (i : Int) = some (.inl (l', true)) ∧ l'.typ = k
  | 0, i, hm, ⟨j, l, h1, h2, _⟩ => by
    have := (List.getElem?_eq_some_iff.1 h2).1
    omega
  | m + 1, i, hm, ⟨j, l, h1, h2, h3⟩ => by
    have hj := (List.getElem?_eq_some_iff.1 h2).1
    have hi : i < ls.length := by omega
    rw [loopW_eq]
    have e1 : (((decide ((i : Int) < ((ls).length : Int))) && (decide (k ≥ (1 : Int)))) && (decide (k ≤ (4 : Int)))) = true := by simp; omega
    have e2 := idx_at hi
    by_cases hx : ls[i].typ = k
    · have : lookF ls k (i : Int) = some (.ret (ls[i], true)) := by
        unfold lookF
        simp only [e1, e2, if_true, Option.bind_some, hx, beq_self_eq_true]
      rw [this]
      exact ⟨_, rfl, hx⟩
    · have : lookF ls k (i : Int) = some (.nxt (((i + 1 : Nat)) : Int)) := by
        unfold lookF
        have e3 : IntKind.wrap .i64 ((i : Int) + 1) = ((i + 1 : Nat) : Int) := by rw [w64n (by omega)]; omega
        simp only [e1, e2, if_true, Option.bind_some, beq_eq_false_iff_ne.2 hx, Bool.false_eq_true, if_false, e3]
      rw [this]
      refine look_is hl hk m (i + 1) (by omega) ⟨j, l, ?_, h2, h3⟩
      rcases Nat.lt_or_eq_of_le h1 with h4 | rfl
      · omega
      · rw [(List.getElem?_eq_some_iff.1 h2).2] at hx; exact absurd h3 hx
theorem refLeaf_is {t : List GNode} (hs : Small t) (ht : treeB 0 t = true) {r : GRow} (hr : r ∈ rowsL [] t) : ∃ l', ref07Leaf t r.path r.leaf.typ = some (l', true) ∧ l'.typ = r.leaf.typ := by
  have hok := rows_ok t 0 [] hs ht rfl rfl r hr
  have hk := leaf_typ hok.leaf
  simp only [treeB, Bool.and_eq_true] at ht
  obtain ⟨v1, hv1⟩ : ∃ v1, ref05New r.leaf.typ = some v1 := by unfold ref05New; split <;> exact ⟨_, rfl⟩
  obtain ⟨x, ⟨h1, hlen⟩, h2⟩ := walk_row v1 t 0 hs ht.1.2 ht.2 r 0 (([] : Str), ([] : List GLeaf), ([] : List GNode)) hr
  obtain ⟨j, hj⟩ := List.mem_iff_getElem?.1 h1
  obtain ⟨l', h3, h4⟩ := look_is hlen hk x.leaves.length 0 (by omega) ⟨j, _, Nat.zero_le _, hj, rfl⟩
  refine ⟨l', ?_, h4⟩
  have e : ref07Leaf t r.path r.leaf.typ = (ref05New r.leaf.typ).bind fun v1 => lp (loopL (walkF v1) r.path 0 (t, ([] : Str), ([] : List GLeaf), ([] : List GNode))) fun s1 => (lp (loopW (lookF s1.2.2.1 r.leaf.typ) (0 : Int)) fun (s2 : Int) => some (v1, false)) := rfl
  rw [e, hv1, Option.bind_some, h2, lp_inr]
  simp only
  rw [show (0 : Int) = ((0 : Nat) : Int) from rfl, h3, lp_inl]
theorem see_is {l : List GRule} (hl : l.length ≤ maxLen) (h : ∀ x ∈ l, RuleLen x) (hr : rulesB l = true) (rep : Int) {t : List GNode} (hs : Small t) (ht : treeB 0 t = true) : ∀ (rs : List GRow) (n : Nat), (∀ r ∈ rs, r ∈ rowsL [] t ∧ showB l rep r.path = true) → loopL (seeF l rep t) rs n () = some (.inr ())
  | [], _, _ => rfl
  | r :: rs, n, hh => by
    obtain ⟨h1, h2⟩ := hh r (by simp)
    obtain ⟨l', h3, h4⟩ := refLeaf_is hs ht h1
    have : seeF l rep t n r () = some (.nxt ()) := by
      unfold seeF
      simp only [h3, Option.bind_some, Bool.not_true, beq_self_eq_true, if_true, shows_is hl h hr, h2, h4, bne_self_eq_false, Bool.or_false, Bool.false_eq_true, if_false]
    simp only [loopL, this]
    exact see_is hl h hr rep hs ht rs (n + 1) fun x hx => hh x (by simp [hx])
def hideR : GRule := GRule.mk (255 : Int) ([([42, 42] : Str)] : List Str) (0 : Int) false true
theorem hide_ok : ruleB hideR = true := by decide
theorem hide_len : RuleLen hideR := by unfold RuleLen hideR; simp [maxLen]
theorem hide_match {p : List Str} (h : pathB p = true) : matchB hideR.path p = true := by
  have h1 : patB hideR.path = true := by decide
  have h2 : partsL hideR.path = [] := by decide
  have h3 : endsB hideR.path = true := by decide
  unfold matchB
  rw [h1, h, h2, h3]
  simp [agreeB]
theorem hide_show (l : List GRule) (rep : Int) {p : List Str} (h : pathB p = true) : showB (l ++ [hideR]) rep p = false := by
  unfold showB letB
  rw [List.reverse_append, List.reverse_singleton, List.singleton_append, List.find?_cons]
  have : tellsB rep p (fun y => y.read) hideR = true := by
    unfold tellsB
    rw [hide_match h]
    simp [hideR]
  rw [this]
  rfl
theorem hide_view {l : List GRule} (h64 : l.length < 64) (h : ∀ x ∈ l, RuleLen x) (hr : rulesB l = true) (rep : Int) {t : List GNode} (hs : Small t) (ht : treeB 0 t = true) : rightsView (l ++ [hideR]) rep t = some ([], 0) := by
  have hr' : rulesB (l ++ [hideR]) = true := by
    unfold rulesB at hr ⊢
    simp only [Bool.and_eq_true, decide_eq_true_eq] at hr ⊢
    refine ⟨by simp; omega, ?_⟩
    rw [List.all_append, hr.2]
    simp [hide_ok]
  rw [view_is (by simp [maxLen]; omega) (fun x hx => by
    rcases List.mem_append.1 hx with hx | hx
    · exact h x hx
    · simp only [List.mem_singleton] at hx; subst hx; exact hide_len) hr' rep hs ht]
  have hk := keep_may (showB (l ++ [hideR]) rep) t 0 [] ht
  simp only [treeB, Bool.and_eq_true] at hk
  have : keepL (showB (l ++ [hideR]) rep) [] t = [] := by
    refine rows_nil _ 0 [] hk.2 ?_
    rw [keep_rows, List.filter_eq_nil_iff]
    intro r hr
    rw [hide_show l rep (rows_ok t 0 [] hs ht rfl rfl r hr).path]
    decide
  rw [this]
theorem law42RightsView_is {l : List GRule} (hl : l.length ≤ maxLen) (h : ∀ x ∈ l, RuleLen x) (rep : Int) {t : List GNode} (hs : Small t) : law42RightsView l rep t = some true := by
  rw [law_eq]
  obtain ⟨b1, h1⟩ := law42Xgreat_is l (GOp.mk (0 : Int) ([] : List Str) (0 : Int) ([] : Str) ([] : List GDot))
  obtain ⟨b2, h2⟩ := ref07Great_tot hs
  rw [h1, Option.bind_some, h2, rightsMay_is h, ref07May_is hs]
  have hk := law42Xknown_is
  cases b1 with
  | true => simp [hk]
  | false =>
  cases b2 with
  | true => simp [hk]
  | false =>
  cases hr : rulesB l with
  | false => simp [hk]
  | true =>
  cases ht : treeB 0 t with
  | false => simp [hk]
  | true =>
  have h64 : l.length ≤ 64 := by unfold rulesB at hr; simp at hr; exact hr.1
  have hs2 : Small (keepL (showB l rep) [] t) := hs.keep (is := showB l rep) []
  have ht2 : treeB 0 (keepL (showB l rep) [] t) = true := keep_may (showB l rep) t 0 [] ht
  have hlen : (rowsL [] t).length ≤ 1048576 := Nat.le_trans (rows_len _ t [] (Nat.le_refl _)) hs.2
  have v1 := view_is hl h hr rep hs ht
  have v2 := view_is hl h hr rep hs2 ht2
  rw [keep_idem] at v2
  have c1 := cnt_is hl h hr rep (rowsL [] t) 0 0 (by omega)
  rw [Nat.zero_add] at c1
  have hrw := keep_rows (showB l rep) t []
  have p1 : pathsRows t = some (rowsL [] t) := by rw [pathsRows_is hs, if_pos ht]
  have p2 : pathsRows (keepL (showB l rep) [] t) = some ((rowsL [] t).filter fun r => showB l rep r.path) := by rw [pathsRows_is hs2, if_pos ht2, hrw]
  have s1 := see_is hl h hr rep hs ht ((rowsL [] t).filter fun r => showB l rep r.path) 0 (fun r hr => List.mem_filter.1 hr)
  generalize (rowsL [] t).filter (fun r => showB l rep r.path) = R at c1 p2 s1
  have f1 : (((false || false) == false) : Bool) = true := rfl
  have f2 : ((((false || false) || (!true)) == false) : Bool) = true := rfl
  have f3 : ((((false || false) || (!true)) || (!true)) : Bool) = false := rfl
  rw [if_pos (show ((false == false) : Bool) = true from rfl), Option.bind_some, if_pos f1, Option.bind_some, if_pos f2, Option.bind_some, f3, if_neg (by decide), v1, Option.bind_some, v2, Option.bind_some]
  have f4 : (((((0 : Int) != (0 : Int)) || ((0 : Int) != (0 : Int))) == false) : Bool) = true := rfl
  simp only
  rw [if_pos f4, ref07Same_refl, Option.bind_some, if_neg (by decide), p1, Option.bind_some]
  have c2 : loopL (cntF l rep) (rowsL [] t) 0 (0 : Int) = some (.inr (R.length : Int)) := c1
  rw [c2, lp_inr]
  rw [p2, Option.bind_some, s1, lp_inr, Option.bind_some]
  have f5 : ((R.length : Int) != (R.length : Int)) = false := bne_self_eq_false _
  rw [f5, Bool.false_or]
  by_cases hc : 64 ≤ l.length
  · rw [decide_eq_true (by omega), if_pos rfl, Option.bind_some]
    simp [hk]
  · rw [decide_eq_false (by omega), if_neg (by decide)]
    rw [chk_true (lim_le (by simp; omega)), chk_true (lim_le (by simp; omega))]
    have v3 := hide_view (by omega) h hr rep hs ht
    unfold hideR at v3
    rw [List.nil_append, v3, Option.bind_some]
    simp [hk]
theorem law42RightsView_top (l : List GRule) (rep : Int) (t : List GNode) (h1 : l.length ≤ maxLen ∧ ∀ y ∈ l, GRule.wf y) (h2 : InK .u8 rep) (h3 : t.length ≤ maxLen ∧ ∀ y ∈ t, GNode.wf y) (hb : ((l.map GRule.bk).sum + 1) + 1 + ((t.map GNode.bk).sum + 1) ≤ 1048576) : law42RightsView l rep t = some true :=
  law42RightsView_is h1.1 (fun x hx => GRule.len (h1.2 x hx)) rep (small_of h3 (by omega))
end Go.Vv
