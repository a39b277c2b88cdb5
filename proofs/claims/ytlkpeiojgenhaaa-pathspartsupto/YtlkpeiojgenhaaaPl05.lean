/- Layer 5, plainly: which leaves may be. -/
import Derived.Test.YtlkpeiojgenhaaaPl04
import Derived.Test.YtlkpeiojgenhaaaPl00
namespace Go.Vv
set_option linter.unusedVariables false
set_option linter.unusedSimpArgs false
open Go
def timeB (n : Int) : Bool := decide (n ≥ 1) && decide (n ≤ 1099511627776)
def aheadI (a b : GItem) : Bool := if a.time ≠ b.time then decide (a.time < b.time) else dotLt a.dot b.dot
theorem leafXisTime_is (n : Int) : leafXisTime n = some (timeB n) := rfl
theorem leafXisText_is (s : Str) : leafXisText s = some (decide (s.length ≤ 40)) := by unfold leafXisText; rw [decide_eq_decide.2 (show ((s.length : Int) ≤ 40) ↔ s.length ≤ 40 by omega)]
theorem dotCmp_neg (a b : GDot) : decide (dotCmp a b < 0) = dotLt a b := by
  have h := dotCmp_lt a b
  have : decide (dotCmp a b < 0) = !decide (dotCmp a b ≥ 0) := by rw [Bool.eq_iff_iff]; simp
  rw [this, h, Bool.not_not]
theorem leafAhead_is (a : Int) (d : GDot) (b : Int) (o : GDot) : leafAhead a d b o = some (if a ≠ b then decide (a < b) else dotLt d o) := by
  unfold leafAhead leafXcompare
  rw [cmpU64is, dotCompare_is]
  simp only [Option.bind_some, cmpOr2_is]
  congr 1
  by_cases h : a = b
  · subst h
    have : cmpI a a = 0 := by unfold cmpI; simp
    simp [or2, this, dotCmp_neg]
  · have : cmpI a b ≠ 0 := by unfold cmpI; split <;> (try split) <;> omega
    simp only [or2, this, ne_eq, not_false_eq_true, if_true, h]
    unfold cmpI; rw [Bool.eq_iff_iff]; simp only [decide_eq_true_eq]; split <;> (try split) <;> omega
theorem ref05Ahead_is (a : Int) (d : GDot) (b : Int) (o : GDot) : ref05Ahead a d b o = some (if a ≠ b then decide (a < b) else dotLt d o) := by
  unfold ref05Ahead
  by_cases h : a = b <;> simp [h, ref03Less_is]
/-- The one ahead of a place. -/
def prevI {α : Type} [Inhabited α] (L : List α) (i : Nat) : α := L.getD (i - 1) default
def itemB (timed : Bool) (x : GItem) : Bool := dotB x.dot && decide (x.text.length ≤ 40) && (if timed then timeB x.time else decide (x.time = 0))
def riseB (L : List GItem) : Bool := allI (fun i x => decide (i = 0) || aheadI (prevI L i) x) L
/-- No dot twice. -/
def onceB (L : List GItem) : Bool := decide ((L.map (·.dot)).Nodup)
/-! ### A map that counts. -/
theorem eqb_iff (a b : GDot) : GDot.eqb a b = decide (a = b) := by unfold GDot.eqb; exact dotEq a b
def keysM (m : List (GDot × Int)) : List GDot := m.map (·.1)
theorem mput_keys (m : List (GDot × Int)) (k : GDot) (v : Int) : keysM (mput GDot.eqb m k v) = if k ∈ keysM m then keysM m else keysM m ++ [k] := by
  induction m with
  | nil => simp [mput, keysM]
  | cons e r ih =>
    simp only [mput, eqb_iff]
    by_cases h : k = e.1
    · simp [h, keysM]
    · simp only [decide_eq_false h, Bool.false_eq_true, if_false, keysM, List.map_cons, List.mem_cons] at ih ⊢
      rw [ih]
      by_cases h2 : k ∈ r.map (·.1) <;> simp [h, h2]
theorem twice_fold : ∀ (L : List GItem) (m : List (GDot × Int)), (keysM m).Nodup →
    (L.foldl (fun s x => mput GDot.eqb s x.dot (IntKind.wrap .i64 ((mgetD GDot.eqb 0 s x.dot) + 1))) m).length ≤ m.length + L.length ∧
    ((L.foldl (fun s x => mput GDot.eqb s x.dot (IntKind.wrap .i64 ((mgetD GDot.eqb 0 s x.dot) + 1))) m).length = m.length + L.length ↔ (keysM m ++ L.map (·.dot)).Nodup)
  | [], m, h => by simp [h]
  | x :: t, m, h => by
    simp only [List.foldl_cons]
    have hk := mput_keys m x.dot (IntKind.wrap .i64 ((mgetD GDot.eqb 0 m x.dot) + 1))
    generalize hm : mput GDot.eqb m x.dot (IntKind.wrap .i64 ((mgetD GDot.eqb 0 m x.dot) + 1)) = m' at hk
    have hl : m'.length = (keysM m').length := by simp [keysM]
    have hl0 : m.length = (keysM m).length := by simp [keysM]
    by_cases hx : x.dot ∈ keysM m
    · rw [if_pos hx] at hk
      have ih := twice_fold t m' (by rw [hk]; exact h)
      rw [hk] at ih hl
      refine ⟨by simp only [List.length_cons]; omega, ?_⟩
      constructor
      · intro he; simp only [List.length_cons] at he; omega
      · intro hn
        rw [List.nodup_append] at hn
        exact absurd rfl (hn.2.2 _ hx _ (by simp))
    · rw [if_neg hx] at hk
      have hnd : (keysM m ++ [x.dot]).Nodup := by
        rw [List.nodup_append]; refine ⟨h, by simp, fun a ha b hb => ?_⟩
        simp at hb; subst hb; rintro rfl; exact hx ha
      have ih := twice_fold t m' (by rw [hk]; exact hnd)
      rw [hk] at ih hl
      simp only [List.length_append, List.length_cons, List.length_nil] at hl
      refine ⟨by simp only [List.length_cons]; omega, ?_⟩
      have e : keysM m ++ [x.dot] ++ t.map (·.dot) = keysM m ++ (x :: t).map (·.dot) := by simp
      rw [← e, ← ih.2]
      simp only [List.length_cons]; omega
theorem leafXtwice_is (L : List GItem) : leafXtwice L = some (!onceB L) := by
  unfold leafXtwice
  rw [loopL_fold (fun s x => mput GDot.eqb s x.dot (IntKind.wrap .i64 ((mgetD GDot.eqb 0 s x.dot) + 1))) L 0 [] (fun _ _ _ _ => rfl)]
  have h := twice_fold L [] (by simp [keysM])
  simp only [List.length_nil, Nat.zero_add, keysM, List.map_nil, List.nil_append] at h
  simp only [lp_inr, onceB]
  congr 1
  generalize List.length (List.foldl _ _ _) = n at h ⊢
  by_cases hn : (L.map (·.dot)).Nodup
  · have := h.2.2 hn
    rw [decide_eq_true hn, decide_eq_false (by omega)]; rfl
  · have h1 : n ≠ L.length := fun e => hn (h.2.1 e)
    rw [decide_eq_false hn, decide_eq_true (by omega)]; rfl
theorem leafXitems_is {L : List GItem} (hl : L.length ≤ maxLen) (timed : Bool) : leafXitems L timed = some (L.all (itemB timed) && riseB L && onceB L) := by
  unfold leafXitems
  rw [lp_all (r := false) (fun i x => itemB timed x && (decide (i = 0) || aheadI (prevI L i) x))]
  · rw [leafXtwice_is]
    have e : allI (fun i x => itemB timed x && (decide (i = 0) || aheadI (prevI L i) x)) L = (L.all (itemB timed) && riseB L) := by
      rw [Bool.eq_iff_iff, Bool.and_eq_true, riseB, allI_iff, allI_iff, List.all_eq_true]
      constructor
      · intro h
        exact ⟨fun x hx => by obtain ⟨i, hi⟩ := List.mem_iff_getElem?.1 hx; have := h i x hi; simp only [Bool.and_eq_true] at this; exact this.1, fun i x hx => by have := h i x hx; simp only [Bool.and_eq_true] at this; exact this.2⟩
      · rintro ⟨h1, h2⟩ i x hx
        simp only [Bool.and_eq_true]
        exact ⟨h1 x (List.mem_of_getElem? hx), h2 i x hx⟩
    rw [e]
    simp only [Option.bind_some, Bool.not_not]
    cases L.all (itemB timed) && riseB L <;> simp
  · intro i x hx
    have hi : i < L.length := (List.getElem?_eq_some_iff.1 hx).1
    simp only [dotMay_is, leafXisText_is, leafXisTime_is, Option.bind_some, leafAhead_is]
    have hb : itemB timed x = (dotB x.dot && decide (x.text.length ≤ 40) && (timed == timeB x.time) && (timed || decide (x.time = 0))) := by
      unfold itemB
      cases timed
      · by_cases h0 : x.time = 0
        · simp [h0, show timeB 0 = false from rfl]
        · simp [h0]
      · simp
    rw [hb]
    cases hd : dotB x.dot
    · simp
    cases ht : decide (x.text.length ≤ 40)
    · simp
    by_cases htt : timed = timeB x.time
    · have hz : (x.time != 0) = !decide (x.time = 0) := by rw [Bool.eq_iff_iff]; simp
      have e1 : (timed == timeB x.time) = true := by simpa using htt
      rw [hz, e1]
      cases hzz : (timed || decide (x.time = 0))
      · have : (!timed && !decide (x.time = 0)) = true := by rw [← Bool.not_or, hzz]; rfl
        simp [this]
      have : (!timed && !decide (x.time = 0)) = false := by rw [← Bool.not_or, hzz]; rfl
      rw [this]
      rcases i with _ | j
      · simp [chk, htt]
      · rw [wrap_succ (by simp only [maxLen] at hl ⊢; omega), pos_succ]
        have hj : (j : Int) < (L.length : Int) := by omega
        simp [chk, hj, prevI, aheadI, htt]
        by_cases hq : (L[j]?.getD default).time = x.time
        · cases hdl : dotLt (L[j]?.getD default).dot x.dot <;> simp [hq, hdl]
        · by_cases hlt : (L[j]?.getD default).time < x.time
          · simp [hq, hlt, Int.not_le.2 hlt]
          · simp [hq, hlt, Int.not_lt.1 hlt]
    · have e1 : (timed == timeB x.time) = false := by simpa using htt
      rw [e1]; simp [htt]

theorem itemEq (a b : GItem) : (a.time == b.time && (a.dot.actor.rep == b.dot.actor.rep && (a.dot.actor.inc == b.dot.actor.inc && (a.dot.seq == b.dot.seq && (a.text == b.text && true))))) = decide (a = b) := by
  rcases a with ⟨a0, ⟨⟨a1, a2⟩, a3⟩, a4⟩; rcases b with ⟨b0, ⟨⟨b1, b2⟩, b3⟩, b4⟩
  rw [Bool.eq_iff_iff]; simp [and_assoc]
theorem slicesEqualItem_is (L M : List GItem) : slicesEqualItem L M = some (decide (L = M)) := by
  unfold slicesEqualItem
  by_cases hl : L.length = M.length
  · have e : ((L.length : Int) != (M.length : Int)) = false := by simp; omega
    rw [e, same_loop M itemEq L 0 (by omega) (fun j x hj => by simp)]
    by_cases h : L = M <;> simp [h]
  · have e : ((L.length : Int) != (M.length : Int)) = true := by simp; omega
    rw [e, decide_eq_false (fun h => hl (by rw [h]))]; rfl
theorem leafSame_is (a b : GLeaf) : leafSame a b = some (decide (a = b)) := by
  unfold leafSame
  simp only [slicesEqualItem_is, slicesEqualDot_is, dotEq]
  rcases a with ⟨a0, a1, a2, a3, a4, a5, a6⟩; rcases b with ⟨b0, b1, b2, b3, b4, b5, b6⟩
  simp only [GLeaf.mk.injEq]
  by_cases h0 : a0 = b0 <;> by_cases h1 : a1 = b1 <;> by_cases h2 : a2 = b2 <;> by_cases h3 : a3 = b3 <;> by_cases h4 : a4 = b4 <;> by_cases h5 : a5 = b5 <;> by_cases h6 : a6 = b6 <;> simp [h0, h1, h2, h3, h4, h5, h6]
def dot0 : GDot := ⟨⟨0, 0⟩, 0⟩
def zeroB (l : GLeaf) : Bool := decide (l.time = 0) && decide (l.dot = dot0) && decide (l.text = [])
def tombsB (l : GLeaf) : Bool := l.tombs.all dotB && rising l.tombs && l.tombs.all (fun d => !l.items.any fun x => decide (x.dot = d))
def leafB (l : GLeaf) : Bool :=
  if l.typ = 1 then zeroB l && decide (l.items = []) && decide (l.tombs = [])
  else if l.typ = 2 then decide (l.n = 0) && decide (l.items = []) && decide (l.tombs = []) && (if l.time = 0 then decide (l.dot = dot0) && decide (l.text = []) else timeB l.time && dotB l.dot && decide (l.text.length ≤ 40))
  else if l.typ = 3 then decide (l.n = 0) && zeroB l && (l.items.all (itemB false) && riseB l.items && onceB l.items) && tombsB l
  else if l.typ = 4 then decide (l.n = 0) && zeroB l && decide (l.tombs = []) && (l.items.all (itemB true) && riseB l.items && onceB l.items)
  else false
theorem containsItem_is {f : GItem → Option Bool} {q : GItem → Bool} (p : List GItem) (hf : ∀ x ∈ p, f x = some (q x)) : slicesContainsFuncItem p f = some (p.any q) := by
  unfold slicesContainsFuncItem slicesIndexFuncItem
  rw [first_loop p hf, Option.bind_some, firstI_any]
theorem leafXhas_is (L : List GItem) (d : GDot) : leafXhas L d = some (L.any fun x => decide (x.dot = d)) := by
  unfold leafXhas
  rw [containsItem_is (q := fun x => decide (x.dot = d)) L (fun x _ => by unfold leafXhasC1; rw [dotEq]), Option.bind_some]
theorem rising_allI (ds : List GDot) : rising ds = allI (fun i x => aheadB ds i x) ds := by
  have h := rising_loop ds (g := fun i x _ => if (dotB x && aheadB ds i x) = true then some (.nxt ()) else some (.ret false)) (fun _ _ _ => rfl)
  have key : ∀ (L pre : List GDot), ds = pre ++ L → rising (match pre.getLast? with | some y => y :: L | none => L) = (L.zipIdx pre.length).all fun p => aheadB ds p.2 p.1 := by
    intro L
    induction L with
    | nil => intro pre _; cases pre.getLast? <;> simp [rising]
    | cons x t ih =>
      intro pre hd
      have ih' := ih (pre ++ [x]) (by rw [hd]; simp)
      simp only [List.length_append, List.length_cons, List.length_nil, Nat.zero_add, List.getLast?_append, List.getLast?_singleton, Option.some_or] at ih'
      simp only [List.zipIdx_cons, List.all_cons]
      cases hp : pre.getLast? with
      | none =>
        have hpre : pre = [] := List.getLast?_eq_none_iff.1 hp
        subst hpre
        simp only [List.length_nil, Nat.zero_add] at ih' ⊢
        rw [ih']; simp [aheadB]
      | some y =>
        have hne : pre ≠ [] := by rintro rfl; simp at hp
        have h0 : 0 < pre.length := List.length_pos_iff.2 hne
        have hy : ds.getD (pre.length - 1) default = y := by
          rw [List.getD_eq_getElem?_getD, hd, List.getElem?_append_left (by omega)]
          rw [List.getLast?_eq_getElem?] at hp; rw [hp]; rfl
        have ha : aheadB ds pre.length x = dotLt y x := by
          unfold aheadB; rw [hy, decide_eq_false (by omega)]; rfl
        rw [ha, ← ih']; simp [rising]
  simpa [allI] using key ds [] rfl
theorem leafXtombs_is {l : GLeaf} (hl : l.tombs.length ≤ maxLen) : leafXtombs l = some (tombsB l) := by
  unfold leafXtombs
  rw [lp_all (r := false) (fun i x => dotB x && aheadB l.tombs i x && !(l.items.any fun y => decide (y.dot = x)))]
  · have e : allI (fun i x => dotB x && aheadB l.tombs i x && !(l.items.any fun y => decide (y.dot = x))) l.tombs = tombsB l := by
      unfold tombsB
      rw [Bool.eq_iff_iff, rising_allI, Bool.and_eq_true, Bool.and_eq_true, allI_iff, allI_iff, List.all_eq_true, List.all_eq_true]
      constructor
      · intro h
        refine ⟨⟨fun x hx => ?_, fun i x hx => ?_⟩, fun x hx => ?_⟩
        · obtain ⟨i, hi⟩ := List.mem_iff_getElem?.1 hx; have := h i x hi; simp only [Bool.and_eq_true] at this; exact this.1.1
        · have := h i x hx; simp only [Bool.and_eq_true] at this; exact this.1.2
        · obtain ⟨i, hi⟩ := List.mem_iff_getElem?.1 hx; have := h i x hi; simp only [Bool.and_eq_true] at this; exact this.2
      · rintro ⟨⟨h1, h2⟩, h3⟩ i x hx
        have hm := List.mem_of_getElem? hx
        simp only [Bool.and_eq_true]
        exact ⟨⟨h1 x hm, h2 i x hx⟩, h3 x hm⟩
    rw [e]; cases tombsB l <;> rfl
  · intro i x hx
    have hi : i < l.tombs.length := (List.getElem?_eq_some_iff.1 hx).1
    simp only [dotMay_is, Option.bind_some, dotCompare_is, leafXhas_is]
    cases hd : dotB x
    · simp [chk]
    rcases i with _ | j
    · cases hh : (l.items.any fun y => decide (y.dot = x)) <;> simp [chk, aheadB]
    · rw [wrap_succ (by simp only [maxLen] at hl ⊢; omega), pos_succ]
      have hj : (j : Int) < (l.tombs.length : Int) := by omega
      have ha : aheadB l.tombs (j + 1) x = dotLt (l.tombs.getD j default) x := by unfold aheadB; simp
      have e := dotCmp_lt (l.tombs.getD j default) x
      rw [chk_true (by intro _; omega), ha, Int.toNat_natCast]
      generalize l.tombs.getD j default = y at e ⊢
      simp only [Bool.not_true, BEq.rfl, Bool.true_and, if_true, Option.bind_some, e, Bool.false_or]
      cases hlt : dotLt y x
      · simp
      · cases hh : (l.items.any fun y => decide (y.dot = x)) <;> simp
theorem leafMay_is {l : GLeaf} (hi : l.items.length ≤ maxLen) (ht : l.tombs.length ≤ maxLen) : leafMay l = some (leafB l) := by
  unfold leafMay leafB
  simp only [leafSame_is, leafXisTime_is, dotMay_is, leafXisText_is, leafXitems_is hi, leafXtombs_is ht, dotEq, Option.bind_some]
  rcases l with ⟨t, n, tm, d, tx, it, tb⟩
  simp only [GLeaf.mk.injEq, zeroB, beq_iff_eq, dot0]
  by_cases h1 : t = 1
  · simp only [h1, if_true]
    congr 1; rw [Bool.eq_iff_iff]; simp [and_assoc]
    intros; exact decide_eq_true_iff.symm
  by_cases h2 : t = 2
  · subst h2
    by_cases h0 : tm = 0
    · subst h0
      by_cases hd : d = ⟨⟨0, 0⟩, 0⟩
      · by_cases hx : tx = []
        · simp [hd, hx]; rw [Bool.eq_iff_iff]; simp [and_assoc]
        · simp [hd, hx]
      · have hz : ((0 : Int) == 0 && !decide (d = ⟨⟨0, 0⟩, 0⟩)) = true := by simp [hd]
        simp [hd]
        intro e1
        rcases d with ⟨⟨d1, d2⟩, d3⟩
        simp_all
    · cases htt : timeB tm <;> cases hdd : dotB d <;> cases hxx : decide (tx.length ≤ 40) <;> simp_all [and_assoc]
      rw [Bool.eq_iff_iff]; simp [and_assoc]
  by_cases h3 : t = 3
  · subst h3
    cases ha : (it.all (itemB false) && riseB it && onceB it) <;> cases hb : tombsB ⟨3, n, tm, d, tx, it, tb⟩ <;> simp [and_assoc]
    rw [Bool.eq_iff_iff]; simp [and_assoc]
    intros; exact decide_eq_true_iff.symm
  by_cases h4 : t = 4
  · subst h4
    cases ha : (it.all (itemB true) && riseB it && onceB it) <;> simp [and_assoc]
    rw [Bool.eq_iff_iff]; simp [and_assoc]
    intros; exact decide_eq_true_iff.symm
  simp [h1, h2, h3, h4]

/-! ### The document's. -/
theorem ref05Item_is (L : List GItem) (d : GDot) : ref05Item L d = some (firstI (fun x => decide (x.dot = d)) L) := by
  unfold ref05Item
  rw [loopL_first (fun x : GItem => decide (x.dot = d)) (fun i _ => (i : Int)) _ _ (fun i x _ => by rw [dotEq])]
  unfold firstI
  cases h : L.findIdx? (fun x => decide (x.dot = d)) with
  | none => simp
  | some j =>
    obtain ⟨hj, _⟩ := List.findIdx?_eq_some_iff_getElem.1 h
    simp [List.getElem?_eq_getElem hj]
theorem ref05Tomb_is (L : List GDot) (d : GDot) : ref05Tomb L d = some (L.any fun x => decide (x = d)) := by
  unfold ref05Tomb
  rw [lp_all0 (r := true) (fun x : GDot => !decide (x = d)) (fun i x _ => by rw [dotEq]; cases decide (x = d) <;> rfl)]
  have e : L.any (fun x => decide (x = d)) = !L.all (fun x => !decide (x = d)) := by rw [Bool.eq_iff_iff]; simp
  rw [e]; cases L.all (fun x => !decide (x = d)) <;> rfl
theorem first_nodup (L : List GItem) : (∀ (i : Nat) (x : GItem), L[i]? = some x → firstI (fun y : GItem => decide (y.dot = x.dot)) L = (i : Int)) ↔ (L.map (·.dot)).Nodup := by
  constructor
  · intro h
    rw [List.nodup_iff_pairwise_ne, List.pairwise_iff_getElem]
    intro i j hi hj hij e
    simp only [List.length_map] at hi hj
    simp only [List.getElem_map] at e
    have h1 := h i _ (List.getElem?_eq_getElem hi)
    have h2 := h j _ (List.getElem?_eq_getElem hj)
    rw [e] at h1
    rw [h1] at h2
    omega
  · intro h i x hx
    obtain ⟨hi, rfl⟩ := List.getElem?_eq_some_iff.1 hx
    unfold firstI
    have : L.findIdx? (fun y => decide (y.dot = L[i].dot)) = some i := by
      rw [List.findIdx?_eq_some_iff_getElem]
      refine ⟨hi, by simp, fun j hj => ?_⟩
      have hjl : j < L.length := by omega
      simp only [decide_eq_true_eq]
      intro e
      rw [List.nodup_iff_pairwise_ne, List.pairwise_iff_getElem] at h
      exact h j i (by simpa using hjl) (by simpa using hi) hj (by simpa using e)
    rw [this]
def itemR (t : Int) (x : GItem) : Bool := dotB x.dot && decide (x.text.length ≤ 40) && (decide (t ≠ 3) || decide (x.time = 0)) && (decide (t ≠ 4) || timeB x.time)
def tailB (l : GLeaf) : Bool := l.items.all (itemR l.typ) && onceB l.items && l.items.all (fun x => !(l.tombs.any fun y => decide (y = x.dot))) && riseB l.items && (l.tombs.all dotB && rising l.tombs)
theorem items_allI (l : GLeaf) : allI (fun i x => itemR l.typ x && (decide (firstI (fun y : GItem => decide (y.dot = x.dot)) l.items = (i : Int)) && (!(l.tombs.any fun y => decide (y = x.dot)) && (decide (i = 0) || aheadI (prevI l.items i) x)))) l.items =
    (l.items.all (itemR l.typ) && onceB l.items && l.items.all (fun x => !(l.tombs.any fun y => decide (y = x.dot))) && riseB l.items) := by
  rw [Bool.eq_iff_iff, allI_iff]
  simp only [Bool.and_eq_true, decide_eq_true_eq, onceB, riseB, allI_iff, List.all_eq_true, ← first_nodup]
  constructor
  · intro h
    refine ⟨⟨⟨fun x hx => ?_, fun i x hx => (h i x hx).2.1⟩, fun x hx => ?_⟩, fun i x hx => (h i x hx).2.2.2⟩
    · obtain ⟨i, hi⟩ := List.mem_iff_getElem?.1 hx; exact (h i x hi).1
    · obtain ⟨i, hi⟩ := List.mem_iff_getElem?.1 hx; exact (h i x hi).2.2.1
  · rintro ⟨⟨⟨h1, h2⟩, h3⟩, h4⟩ i x hx
    have hm := List.mem_of_getElem? hx
    exact ⟨h1 x hm, h2 i x hx, h3 x hm, h4 i x hx⟩
theorem tombs_allI (ds : List GDot) : allI (fun i x => dotB x && aheadB ds i x) ds = (ds.all dotB && rising ds) := by
  rw [Bool.eq_iff_iff, allI_iff, rising_allI]
  simp only [Bool.and_eq_true, allI_iff, List.all_eq_true]
  constructor
  · intro h
    exact ⟨fun x hx => by obtain ⟨i, hi⟩ := List.mem_iff_getElem?.1 hx; exact (h i x hi).1, fun i x hx => (h i x hx).2⟩
  · rintro ⟨h1, h2⟩ i x hx
    exact ⟨h1 x (List.mem_of_getElem? hx), h2 i x hx⟩
theorem ref05May_is {l : GLeaf} (hi : l.items.length ≤ maxLen) (ht : l.tombs.length ≤ maxLen) (h0 : 0 ≤ l.time) : ref05May l = some (leafB l) := by
  unfold ref05May
  simp only [ref03May_is, ref05Item_is, ref05Tomb_is, ref05Ahead_is, ref03Less_is, Option.bind_some, dotEq]
  generalize hT : lp (loopL _ l.items 0 ()) _ = T
  have a1 : decide ((l.items.length : Int) > 0) = !decide (l.items = []) := by cases l.items <;> simp
  have a2 : decide ((l.tombs.length : Int) > 0) = !decide (l.tombs = []) := by cases l.tombs <;> simp
  have hT2 : T = some (tailB l) := by
    rw [← hT, lp_all (r := false) (fun i x => itemR l.typ x && (decide (firstI (fun y : GItem => decide (y.dot = x.dot)) l.items = (i : Int)) && (!(l.tombs.any fun y => decide (y = x.dot)) && (decide (i = 0) || aheadI (prevI l.items i) x))))]
    · rw [lp_all (r := false) (fun i x => dotB x && aheadB l.tombs i x)]
      · rw [items_allI, tombs_allI]
        unfold tailB
        cases (l.items.all (itemR l.typ) && onceB l.items && l.items.all (fun x => !(l.tombs.any fun y => decide (y = x.dot))) && riseB l.items) <;> cases (l.tombs.all dotB && rising l.tombs) <;> simp
      · intro i x hx
        have hil : i < l.tombs.length := (List.getElem?_eq_some_iff.1 hx).1
        have hxe : l.tombs.getD i default = x := by rw [List.getD_eq_getElem?_getD, hx]; rfl
        rcases i with _ | j
        · cases hd : dotB x <;> simp [chk, aheadB]
        · rw [wrap_succ (by simp only [maxLen] at ht ⊢; omega), pos_succ, Int.toNat_natCast, Int.toNat_natCast, hxe]
          have ha : aheadB l.tombs (j + 1) x = dotLt (l.tombs.getD j default) x := by unfold aheadB; simp
          rw [chk_true (by intro _; omega), chk_true (by intro _; omega), ha]
          generalize l.tombs.getD j default = y
          cases hd : dotB x <;> cases hlt : dotLt y x <;> simp
    · intro i x hx
      have hil : i < l.items.length := (List.getElem?_eq_some_iff.1 hx).1
      have b1 : decide ((x.text.length : Int) > 40) = !decide (x.text.length ≤ 40) := by rw [Bool.eq_iff_iff]; simp; omega
      have b2 : (((l.typ == 4) && (decide (x.time < 1) || decide (x.time > 1099511627776)))) = !(decide (l.typ ≠ 4) || timeB x.time) := by
        rw [Bool.eq_iff_iff]; simp [timeB]
      have b3 : ((l.typ == 3) && (x.time != 0)) = !(decide (l.typ ≠ 3) || decide (x.time = 0)) := by rw [Bool.eq_iff_iff]; simp
      rw [b1, b2, b3]
      have hc : (((!dotB x.dot || !decide (x.text.length ≤ 40)) || !(decide (l.typ ≠ 3) || decide (x.time = 0))) || !(decide (l.typ ≠ 4) || timeB x.time)) = !itemR l.typ x := by unfold itemR; simp only [Bool.not_and]
      rw [hc]
      have b4 : (firstI (fun y : GItem => decide (y.dot = x.dot)) l.items != (i : Int)) = !decide (firstI (fun y : GItem => decide (y.dot = x.dot)) l.items = (i : Int)) := by rw [Bool.eq_iff_iff]; simp
      cases hr : itemR l.typ x
      · simp
      simp only [Bool.not_true, BEq.rfl, if_true, Option.bind_some, Bool.false_or]
      rw [b4]
      cases hf : decide (firstI (fun y : GItem => decide (y.dot = x.dot)) l.items = (i : Int))
      · simp
      cases htb : l.tombs.any fun y => decide (y = x.dot)
      · rcases i with _ | j
        · simp [chk]
        · rw [wrap_succ (by simp only [maxLen] at hi ⊢; omega), pos_succ, Int.toNat_natCast]
          rw [chk_true (by intro _; omega), chk_true (by intro _; omega)]
          have ha : (if (l.items.getD j default).time ≠ x.time then decide ((l.items.getD j default).time < x.time) else dotLt (l.items.getD j default).dot x.dot) = aheadI (prevI l.items (j + 1)) x := rfl
          rw [ha]
          cases aheadI (prevI l.items (j + 1)) x <;> simp
      · simp
  subst hT2
  clear hT
  rw [a1, a2]
  have z1 : (l.time != 0) = !decide (l.time = 0) := by rw [Bool.eq_iff_iff]; simp
  have z2 : (l.time == 0) = decide (l.time = 0) := by rw [Bool.eq_iff_iff]; simp
  have z3 : (l.text == ([] : Str)) = decide (l.text = []) := by rw [Bool.eq_iff_iff]; simp
  have z4 : decide (l.time > 1099511627776) = !decide (l.time ≤ 1099511627776) := by rw [Bool.eq_iff_iff]; simp
  have z5 : decide ((l.text.length : Int) > 40) = !decide (l.text.length ≤ 40) := by rw [Bool.eq_iff_iff]; simp; omega
  have hz : zeroB l = (decide (l.time = 0) && decide (l.dot = dot0) && decide (l.text = [])) := rfl
  have z6 : (l.dot.actor.rep == 0 && (l.dot.actor.inc == 0 && (l.dot.seq == 0 && true))) = decide (l.dot = dot0) := dotEq l.dot dot0
  rw [z1, z2, z3, z4, z5, z6]
  by_cases h1 : l.typ = 1
  · have hi : decide (l.items = []) = true → tailB l = (l.tombs.all dotB && rising l.tombs) := by
      intro h; have := of_decide_eq_true h
      unfold tailB; rw [this]; simp [onceB, riseB, allI]
    unfold leafB
    simp only [h1, if_true, hz]
    cases hi2 : decide (l.items = [])
    · simp
    · rw [hi hi2]
      cases ht2 : decide (l.tombs = [])
      · simp
      · have := of_decide_eq_true ht2
        rw [this]
        cases decide (l.time = 0) <;> cases decide (l.dot = dot0) <;> cases decide (l.text = []) <;> simp [rising]
  by_cases h2 : l.typ = 2
  · have hi : decide (l.items = []) = true → tailB l = (l.tombs.all dotB && rising l.tombs) := by
      intro h; have := of_decide_eq_true h
      unfold tailB; rw [this]; simp [onceB, riseB, allI]
    unfold leafB
    have ht40 : timeB l.time = (!decide (l.time = 0) && decide (l.time ≤ 1099511627776)) := by
      unfold timeB; rw [Bool.eq_iff_iff]; simp; omega
    simp only [h2, if_true, ht40]
    cases hn : decide (l.n = 0)
    · have : (l.n != 0) = true := by simpa using hn
      simp [this]
    · have hn' : l.n = 0 := of_decide_eq_true hn
      cases hi2 : decide (l.items = [])
      · simp [hn']
      · rw [hi hi2]
        cases ht2 : decide (l.tombs = [])
        · simp [hn']
        · have := of_decide_eq_true ht2
          rw [this]
          by_cases ht0 : l.time = 0
          · cases hdd : decide (l.dot = dot0) <;> cases htx : decide (l.text = []) <;> simp [hn', ht0, rising]
          · cases hm : decide (l.time ≤ 1099511627776) <;> cases hdd : dotB l.dot <;> cases htx : decide (l.text.length ≤ 40) <;> simp [hn', ht0, rising]
  by_cases h3 : l.typ = 3
  · have e1 : (fun x => itemR 3 x) = itemB false := by
      funext x; unfold itemR itemB; simp
    have e2 : tailB l = (l.items.all (itemB false) && riseB l.items && onceB l.items && tombsB l) := by
      unfold tailB tombsB
      rw [h3, show itemR 3 = itemB false from e1]
      have e3 : l.items.all (fun x => !(l.tombs.any fun y => decide (y = x.dot))) = l.tombs.all (fun d => !l.items.any fun x => decide (x.dot = d)) := by
        rw [Bool.eq_iff_iff]; simp only [List.all_eq_true, Bool.not_eq_true', List.any_eq_false, decide_eq_true_eq]
        exact ⟨fun h d hd x hx e => h x hx d hd e.symm, fun h x hx d hd e => h d hd x hx e.symm⟩
      rw [e3]
      cases l.items.all (itemB false) <;> cases onceB l.items <;> cases riseB l.items <;> cases l.tombs.all dotB <;> cases rising l.tombs <;> cases l.tombs.all (fun d => !l.items.any fun x => decide (x.dot = d)) <;> rfl
    unfold leafB
    simp only [h3, e2, hz]
    cases hn : decide (l.n = 0)
    · have : (l.n != 0) = true := by simpa using hn
      simp [this]
    · have hn' : l.n = 0 := of_decide_eq_true hn
      cases decide (l.time = 0) <;> cases decide (l.dot = dot0) <;> cases decide (l.text = []) <;> simp [hn']
  by_cases h4 : l.typ = 4
  · have e1 : (fun x => itemR 4 x) = itemB true := by
      funext x; unfold itemR itemB; simp
    have e2 : decide (l.tombs = []) = true → tailB l = (l.items.all (itemB true) && riseB l.items && onceB l.items) := by
      intro h; have := of_decide_eq_true h
      unfold tailB
      rw [h4, show itemR 4 = itemB true from e1, this]
      cases l.items.all (itemB true) <;> cases onceB l.items <;> cases riseB l.items <;> simp [rising]
    unfold leafB
    simp only [h4, hz]
    cases hn : decide (l.n = 0)
    · have : (l.n != 0) = true := by simpa using hn
      simp [this]
    · have hn' : l.n = 0 := of_decide_eq_true hn
      cases ht2 : decide (l.tombs = [])
      · simp [hn']
      · rw [e2 ht2]
        cases decide (l.time = 0) <;> cases decide (l.dot = dot0) <;> cases decide (l.text = []) <;> simp [hn']
  have hlt : l.typ < 1 ∨ 4 < l.typ := by omega
  have : (decide (l.typ < 1) || decide (l.typ > 4)) = true := by simp; omega
  unfold leafB
  rw [this, if_neg h1, if_neg h2, if_neg h3, if_neg h4]
  simp
end Go.Vv
