/- Layer 42, plainly: rules; the idle ones are missed by nobody. -/
import Derived.Test.YtlkpeiojgenhaaaD
import Derived.Test.YtlkpeiojgenhaaaVvQ
import Derived.Test.YtlkpeiojgenhaaaPl30
namespace Go.Vv
open Go
theorem containsRule_is {f : GRule → Option Bool} {q : GRule → Bool} (p : List GRule) (hf : ∀ x ∈ p, f x = some (q x)) : slicesContainsFuncRule p f = some (p.any q) := by
  unfold slicesContainsFuncRule slicesIndexFuncRule
  rw [first_loop p hf]; simp only [Option.bind_some, firstI_any]
theorem slicesContainsInt_is (l : List Int) (v : Int) : slicesContainsInt l v = some (l.any fun x => v == x) := by
  unfold slicesContainsInt slicesIndexInt
  have := first_loop (f := fun x => some (v == x)) (q := fun x => v == x) l (fun _ _ => rfl)
  simp only [Option.bind_some] at this
  rw [this]; simp only [Option.bind_some, firstI_any]
def RuleLen (x : GRule) : Prop := x.path.length ≤ maxLen
def ruleB (x : GRule) : Bool := (decide (x.rep < 16) || x.rep == 255) && patB x.path && (IntKind.wrap .u8 (((BitVec.ofInt (IntKind.bits .u8) x.kinds &&& ~~~(BitVec.ofInt (IntKind.bits .u8) 62)).toNat : Int)) == 0)
theorem rightsXmayOne_is {x : GRule} (h : RuleLen x) : rightsXmayOne x = some (ruleB x) := by
  unfold rightsXmayOne ruleB
  rw [pathsMayPattern_is h]
  cases (decide (x.rep < 16) || x.rep == 255) <;> simp
def rulesB (l : List GRule) : Bool := decide (l.length ≤ 64) && l.all ruleB
theorem rightsMay_is {l : List GRule} (h : ∀ x ∈ l, RuleLen x) : rightsMay l = some (rulesB l) := by
  unfold rightsMay rulesB
  rw [containsRule_is (q := fun x => !ruleB x) l (fun x hx => by unfold rightsMayC1; rw [rightsXmayOne_is (h x hx)]; rfl)]
  have e : l.any (fun x => !ruleB x) = !l.all ruleB := by rw [Bool.eq_iff_iff]; simp
  have e1 : decide ((l.length : Int) ≤ 64) = decide (l.length ≤ 64) := decide_eq_decide.2 (by omega)
  rw [e, e1]
  cases decide (l.length ≤ 64) <;> simp
/-! ### The last one that tells. -/
def lastI (q : GRule → Bool) (l : List GRule) : Nat → Int
  | 0 => -1
  | k + 1 => match l[k]? with
    | some y => if q y = true then (k : Int) else lastI q l k
    | none => lastI q l k
theorem lastI_find (q : GRule → Bool) (l : List GRule) : ∀ k, k ≤ l.length → match (l.take k).reverse.find? q with
    | some x => 0 ≤ lastI q l k ∧ lastI q l k < l.length ∧ l[(lastI q l k).toNat]? = some x
    | none => lastI q l k = -1
  | 0, _ => by simp [lastI]
  | k + 1, h => by
    have hk : k < l.length := by omega
    have ih := lastI_find q l k (by omega)
    have e : (l.take (k + 1)).reverse = l[k] :: (l.take k).reverse := by
      rw [List.take_succ_eq_append_getElem hk]; simp
    rw [e, List.find?_cons]
    simp only [lastI, List.getElem?_eq_getElem hk]
    cases hq : q l[k]
    · simpa using ih
    · simp only [if_true]
      exact ⟨by omega, by omega, by simp [List.getElem?_eq_getElem hk]⟩
def tellsB (rep : Int) (path : List Str) (is : GRule → Bool) (y : GRule) : Bool := (y.rep == rep || y.rep == 255) && is y && matchB y.path path
theorem rightsXlast_is {l : List GRule} (hl : l.length ≤ maxLen) (h : ∀ x ∈ l, RuleLen x) (rep : Int) (path : List Str) {f : GRule → Option Bool} {is : GRule → Bool} (hf : ∀ x ∈ l, f x = some (is x)) : rightsXlast l rep path f = some (lastI (tellsB rep path is) l l.length) := by
  unfold rightsXlast
  simp only [maxLen] at hl
  have key : ∀ (k : Nat), k ≤ l.length → ∀ {g : Int → Option (Out Int Int)}, (∀ s, g s = if decide (s ≥ 0) = true then ((idx l s).bind fun y9 => ((if ((y9.rep == rep || y9.rep == 255) == true) = true then f y9 else some default).bind fun v10 => ((if (((y9.rep == rep || y9.rep == 255) && v10) == true) = true then pathsMatch y9.path path else some default).bind fun v11 =>
      (if (((y9.rep == rep || y9.rep == 255) && v10) && v11) = true then some (.ret s) else some (.nxt (IntKind.wrap .i64 (s - 1))))))) else some (.brk s)) →
      lp (loopW g ((k : Int) - 1)) (fun _ => some (-1)) = some (lastI (tellsB rep path is) l k) := by
    intro k
    induction k with
    | zero =>
      intro _ g hg
      rw [loopW_eq, hg]; simp [lastI]
    | succ k ih =>
      intro hk g hg
      have hkl : k < l.length := by omega
      rw [loopW_eq, hg]
      have e : ((k + 1 : Nat) : Int) - 1 = (k : Int) := by omega
      rw [e, if_pos (by simp), idx_at hkl]
      have hm := List.getElem_mem hkl
      simp only [Option.bind_some, hf _ hm, pathsMatch_is (h _ hm), lastI, List.getElem?_eq_getElem hkl]
      have ih' := ih (by omega) hg
      have ew : IntKind.wrap .i64 ((k : Int) - 1) = (k : Int) - 1 := w64n (by omega)
      have et : tellsB rep path is l[k] = ((l[k].rep == rep || l[k].rep == 255) && is l[k] && matchB l[k].path path) := rfl
      rw [et]
      cases h1 : (l[k].rep == rep || l[k].rep == 255) <;> cases h2 : is l[k] <;> cases h3 : matchB l[k].path path <;> simp [ew, ih']
  have ew : IntKind.wrap .i64 ((l.length : Int) - 1) = (l.length : Int) - 1 := w64n (by omega)
  rw [ew]
  exact key l.length (Nat.le_refl _) (fun s => rfl)
/-- Whether the last one that tells allows. -/
def letB (q : GRule → Bool) (l : List GRule) : Bool := match l.reverse.find? q with | some x => x.allow | none => false
theorem letB_is (q : GRule → Bool) (l : List GRule) {G : Option Bool} (h : G = chk (((decide (lastI q l l.length ≥ 0)) == true) = true → 0 ≤ lastI q l l.length ∧ lastI q l l.length < (l.length : Int)) (some ((decide (lastI q l l.length ≥ 0)) && (l.getD (lastI q l l.length).toNat default).allow))) : G = some (letB q l) := by
  subst h
  have := lastI_find q l l.length (Nat.le_refl _)
  rw [List.take_length] at this
  unfold letB
  cases hx : l.reverse.find? q with
  | some x =>
    rw [hx] at this
    obtain ⟨h1, h2, h3⟩ := this
    rw [chk_true (by intro _; exact ⟨h1, h2⟩), List.getD_eq_getElem?_getD, h3]
    simp [h1]
  | none =>
    rw [hx] at this
    simp only at this
    rw [this]
    rw [chk_true (by intro h; simp at h)]
    rfl
def bitB (k : Int) (y : GRule) : Bool := (IntKind.wrap .u8 (((BitVec.ofInt (IntKind.bits .u8) (Int.fdiv y.kinds (2 ^ (min k.toNat (IntKind.bits .u8)))) &&& BitVec.ofInt (IntKind.bits .u8) 1).toNat : Int)) == 1)
theorem rightsAllows_is {l : List GRule} (hl : l.length ≤ maxLen) (h : ∀ x ∈ l, RuleLen x) (rep : Int) (o : GOp) : rightsAllows l rep o = some (rulesB l && opB o && letB (tellsB rep o.path (bitB o.kind)) l) := by
  unfold rightsAllows rightsWhy
  rw [rightsMay_is h, opMay_is]
  simp only [Option.bind_some]
  cases h1 : rulesB l
  · simp [chk]
  · cases h2 : opB o
    · simp [chk]
    · have hk : ¬ o.kind < 0 := by
        unfold opB at h2
        simp at h2; omega
      simp only [Bool.not_true, BEq.rfl, if_true, Option.bind_some, Bool.or_self, Bool.false_eq_true, if_false, Bool.and_self, Bool.true_and]
      rw [rightsXlast_is hl h rep o.path (is := bitB o.kind) (fun x _ => by unfold rightsWhyC1; rw [chk_true hk]; rfl)]
      simp only [Option.bind_some]
      exact letB_is _ _ rfl
theorem rightsShows_is {l : List GRule} (hl : l.length ≤ maxLen) (h : ∀ x ∈ l, RuleLen x) (rep : Int) (path : List Str) : rightsShows l rep path = some (rulesB l && letB (tellsB rep path (fun y => y.read)) l) := by
  unfold rightsShows
  rw [rightsMay_is h]
  simp only [Option.bind_some]
  cases h1 : rulesB l
  · simp
  · simp only [Bool.not_true, Bool.false_eq_true, if_false, Bool.true_and]
    rw [rightsXlast_is hl h rep path (f := fun x0 => rightsShowsC1 x0) (is := fun y => y.read) (fun x _ => rfl)]
    simp only [Option.bind_some]
    exact letB_is _ _ rfl

/-! ### Idle rules. -/
def widerB (p q : List Str) : Bool := decide ((partsL p).length ≤ (partsL q).length) && (endsB p || (!endsB q && decide ((partsL q).length ≤ (partsL p).length))) && agreeB (partsL p) (partsL q)
theorem rightsXparts_is {p : List Str} (h0 : 0 < p.length) (h : p.length ≤ maxLen) : rightsXparts p = some (partsL p, endsB p) := by
  unfold rightsXparts partsL
  rw [wrapLen h0 h, idx_at (by omega), slc_init h0]
  have := last_getD h0
  rw [List.getD_eq_getElem?_getD, List.getElem?_eq_getElem (by omega), Option.getD_some] at this
  simp only [Option.bind_some, this]
  cases endsB p <;> rfl
theorem rightsXwider_is {p q : List Str} (hp : 0 < p.length) (hq : 0 < q.length) (h1 : p.length ≤ maxLen) (h2 : q.length ≤ maxLen) : rightsXwider p q = some (widerB p q) := by
  unfold rightsXwider widerB
  rw [rightsXparts_is hp h1, rightsXparts_is hq h2]
  simp only [Option.bind_some]
  by_cases hl : (partsL p).length ≤ (partsL q).length
  · have e1 : decide (((partsL p).length : Int) > ((partsL q).length : Int)) = false := decide_eq_false (by omega)
    have e2 : decide (((partsL p).length : Int) < ((partsL q).length : Int)) = !decide ((partsL q).length ≤ (partsL p).length) := by rw [Bool.eq_iff_iff]; simp
    rw [e1, e2, agree_loop (partsL q) (fun i x hi => by rw [chk_true (by intro _; omega), Int.toNat_natCast]) _ 0 (by omega)]
    simp only [List.drop_zero, decide_eq_true hl]
    cases endsB p <;> cases endsB q <;> cases decide ((partsL q).length ≤ (partsL p).length) <;> cases agreeB (partsL p) (partsL q) <;> simp
  · have e1 : decide (((partsL p).length : Int) > ((partsL q).length : Int)) = true := decide_eq_true (by omega)
    rw [e1, decide_eq_false hl]; simp
def lessB (x y : GRule) : Bool := IntKind.wrap .u8 (((BitVec.ofInt (IntKind.bits .u8) x.kinds &&& ~~~(BitVec.ofInt (IntKind.bits .u8) y.kinds)).toNat : Int)) == 0
def coverB (x y : GRule) : Bool := (y.rep == 255 || y.rep == x.rep) && lessB x y && (y.read || !x.read) && widerB y.path x.path
theorem patB_pos {p : List Str} (h : patB p = true) : 0 < p.length := by
  refine List.length_pos_iff.2 ?_
  rintro rfl
  revert h; decide
theorem rightsIdleC1_is {x y : GRule} (hx : RuleLen x) (hy : RuleLen y) (px : patB x.path = true) (py : patB y.path = true) : rightsIdleC1 y x = some (coverB x y) := by
  unfold rightsIdleC1 coverB lessB
  rw [rightsXwider_is (patB_pos py) (patB_pos px) hy hx]
  cases ((y.rep == 255 || y.rep == x.rep) && (IntKind.wrap .u8 (((BitVec.ofInt (IntKind.bits .u8) x.kinds &&& ~~~(BitVec.ofInt (IntKind.bits .u8) y.kinds)).toNat : Int)) == 0) && (y.read || !x.read)) <;> simp
def idleAt : Nat → List GRule → List Int
  | _, [] => []
  | i, x :: t => if t.any (coverB x) = true then (i : Int) :: idleAt (i + 1) t else idleAt (i + 1) t
def keep : List GRule → List GRule
  | [] => []
  | x :: t => if t.any (coverB x) = true then keep t else x :: keep t
theorem keep_len (l : List GRule) : ∀ i, (keep l).length + (idleAt i l).length = l.length := by
  induction l with
  | nil => intro i; rfl
  | cons x t ih =>
    intro i
    have := ih (i + 1)
    simp only [keep, idleAt]
    split <;> simp <;> omega
theorem idleAt_low (l : List GRule) : ∀ i, ∀ v ∈ idleAt i l, (i : Int) ≤ v := by
  induction l with
  | nil => intro i v hv; cases hv
  | cons x t ih =>
    intro i v hv
    simp only [idleAt] at hv
    split at hv
    · rcases List.mem_cons.1 hv with rfl | hv
      · omega
      · have := ih (i + 1) v hv; omega
    · have := ih (i + 1) v hv; omega
theorem keep_sub (l : List GRule) : ∀ x ∈ keep l, x ∈ l := by
  induction l with
  | nil => intro x hx; cases hx
  | cons a t ih =>
    intro x hx
    simp only [keep] at hx
    split at hx
    · exact List.mem_cons_of_mem _ (ih x hx)
    · rcases List.mem_cons.1 hx with rfl | hx
      · exact List.mem_cons_self ..
      · exact List.mem_cons_of_mem _ (ih x hx)
theorem idle_loop (l : List GRule) (hlen : ∀ x ∈ l, RuleLen x) (hpat : ∀ x ∈ l, patB x.path = true) (hl : l.length ≤ 64) {f : Nat → GRule → List Int → Option (Out (List Int) (List Int))}
    (hf : ∀ i x s, f i x s = ((slc l (IntKind.wrap .i64 ((i : Int) + 1)) (l.length : Int)).bind fun m12 => ((slicesContainsFuncRule m12 (fun x0 => rightsIdleC1 x0 x)).bind fun v13 => (if v13 = true then (chk (s.length + ([(i : Int)] : List Int).length ≤ lim) (some (.nxt (s ++ [(i : Int)])))) else some (.nxt s))))) :
    ∀ (L : List GRule) (i : Nat) (s : List Int), L = l.drop i → s.length ≤ i → i ≤ l.length → loopL f L i s = some (.inr (s ++ idleAt i L))
  | [], _, s, _, _, _ => by simp [loopL, idleAt]
  | x :: t, i, s, hL, hs, hi => by
    have hil : i < l.length := by
      refine Decidable.byContradiction fun hn => ?_
      rw [List.drop_of_length_le (by omega)] at hL; cases hL
    have e := (List.getElem_cons_drop hil).symm
    rw [e] at hL
    injection hL with hx ht
    have hxm : x ∈ l := by rw [hx]; exact List.getElem_mem hil
    have ew : IntKind.wrap .i64 ((i : Int) + 1) = ((i + 1 : Nat) : Int) := by rw [w64n (by omega)]; omega
    have hsub : ∀ y ∈ t, y ∈ l := fun y hy => by rw [ht] at hy; exact List.mem_of_mem_drop hy
    have hc : slicesContainsFuncRule t (fun x0 => rightsIdleC1 x0 x) = some (t.any (coverB x)) := containsRule_is t fun y hy => rightsIdleC1_is (hlen x hxm) (hlen y (hsub y hy)) (hpat x hxm) (hpat y (hsub y hy))
    have es : slc l ((i + 1 : Nat) : Int) (l.length : Int) = some t := by rw [slc_at (by omega), ht]; simp
    simp only [loopL, hf, ew, es, Option.bind_some, hc, idleAt]
    cases hcv : t.any (coverB x)
    · simp only [Bool.false_eq_true, if_false]
      exact idle_loop l hlen hpat hl hf t (i + 1) s ht (by omega) (by omega)
    · simp only [if_true]
      rw [chk_true (by simp only [lim, List.length_cons, List.length_nil]; omega)]
      simp only
      rw [idle_loop l hlen hpat hl hf t (i + 1) (s ++ [(i : Int)]) ht (by simp; omega) (by omega)]
      simp
theorem rightsIdle_is {l : List GRule} (hlen : ∀ x ∈ l, RuleLen x) (h : rulesB l = true) : rightsIdle l = some (idleAt 0 l) := by
  unfold rightsIdle
  rw [rightsMay_is hlen, h]
  have h64 : l.length ≤ 64 := by unfold rulesB at h; simp at h; exact h.1
  have hpat : ∀ x ∈ l, patB x.path = true := by
    unfold rulesB at h; simp at h
    intro x hx
    have := h.2 x hx
    unfold ruleB at this; simp at this; exact this.1.2
  simp only [Option.bind_some, Bool.not_true, Bool.false_eq_true, if_false]
  rw [idle_loop l hlen hpat h64 (fun i x s => rfl) l 0 [] (by simp) (by simp) (by omega)]
  rfl
theorem left_loop (v : List Int) (hv : v.length ≤ 64) {ρ : Type} {f : Nat → GRule → List GRule → Option (Out ρ (List GRule))}
    (hf : ∀ i x s, f i x s = ((slicesContainsInt v (i : Int)).bind fun v20 => (if (!v20) = true then (chk (s.length + ([x] : List GRule).length ≤ lim) (some (.nxt (s ++ [x])))) else some (.nxt s)))) :
    ∀ (L : List GRule) (i : Nat) (s : List GRule) (w : List Int), s.length + L.length ≤ 64 → v = w ++ idleAt i L → (∀ u ∈ w, u < i) → loopL f L i s = some (.inr (s ++ keep L))
  | [], _, s, _, _, _, _ => by simp [loopL, keep]
  | x :: t, i, s, w, hs, hw, hu => by
    simp only [List.length_cons] at hs
    simp only [loopL, hf, slicesContainsInt_is, Option.bind_some, keep]
    cases hc : t.any (coverB x)
    · have hn : (v.any fun u => (i : Int) == u) = false := by
        rw [List.any_eq_false]
        intro u hm
        rw [hw] at hm
        simp only [idleAt, hc, Bool.false_eq_true, if_false] at hm
        rcases List.mem_append.1 hm with hm | hm
        · have := hu u hm; simp; omega
        · have := idleAt_low t (i + 1) u hm; simp; omega
      simp only [hn, Bool.not_false, if_true, Bool.false_eq_true, if_false]
      rw [chk_true (by simp only [lim, List.length_cons, List.length_nil]; omega)]
      simp only
      rw [left_loop v hv hf t (i + 1) (s ++ [x]) w (by simp; omega) (by rw [hw]; simp only [idleAt, hc, Bool.false_eq_true, if_false]) (fun u hm => by have := hu u hm; omega)]
      simp
    · have hn : (v.any fun u => (i : Int) == u) = true := by
        rw [List.any_eq_true, hw]
        exact ⟨(i : Int), by simp [idleAt, hc], by simp⟩
      simp only [hn, Bool.not_true, Bool.false_eq_true, if_false, if_true]
      exact left_loop v hv hf t (i + 1) s (w ++ [(i : Int)]) (by omega) (by rw [hw]; simp only [idleAt, hc, if_true, List.append_assoc, List.cons_append, List.nil_append])
        (fun u hm => by rcases List.mem_append.1 hm with hm | hm
                        · have := hu u hm; omega
                        · simp at hm; omega)
theorem keep_find (q : GRule → Bool) : ∀ (l : List GRule), (∀ x ∈ l, ∀ y ∈ l, coverB x y = true → q x = true → q y = true) → (keep l).reverse.find? q = l.reverse.find? q
  | [], _ => rfl
  | x :: t, h => by
    have ih := keep_find q t (fun a ha b hb => h a (List.mem_cons_of_mem _ ha) b (List.mem_cons_of_mem _ hb))
    simp only [keep]
    cases hc : t.any (coverB x)
    · simp only [Bool.false_eq_true, if_false, List.reverse_cons, List.find?_append, ih]
    · simp only [if_true, List.reverse_cons, List.find?_append, ih]
      cases hx : t.reverse.find? q with
      | some y => rfl
      | none =>
        obtain ⟨y, hy, hcy⟩ := List.any_eq_true.1 hc
        have hqy : ¬ q y = true := by
          rw [List.find?_eq_none] at hx
          exact hx y (by simpa using hy)
        have hqx : q x = false := by
          rw [Bool.eq_false_iff]; intro hq
          exact hqy (h x (List.mem_cons_self ..) y (List.mem_cons_of_mem _ hy) hcy hq)
        simp [hqx]

theorem agree_trans : ∀ {a b c : List Str}, agreeB a b = true → agreeB b c = true → agreeB a c = true
  | [], _, _, _, _ => rfl
  | _ :: _, [], _, h, _ => by simp [agreeB] at h
  | _ :: _, _ :: _, [], _, h => by simp [agreeB] at h
  | x :: a, y :: b, z :: c, h1, h2 => by
    simp only [agreeB, Bool.and_eq_true, Bool.or_eq_true, beq_iff_eq] at h1 h2 ⊢
    refine ⟨?_, agree_trans h1.2 h2.2⟩
    rcases h1.1 with h | h
    · exact .inl h
    · rcases h2.1 with k | k
      · exact .inl (h.trans k)
      · exact .inr (h.trans k)
theorem match_wider {p q path : List Str} (hp : patB p = true) (hw : widerB p q = true) (hm : matchB q path = true) : matchB p path = true := by
  unfold widerB at hw
  unfold matchB at hm ⊢
  simp only [Bool.and_eq_true, Bool.or_eq_true, decide_eq_true_eq, Bool.not_eq_true'] at hw hm ⊢
  obtain ⟨⟨h1, h2⟩, h3⟩ := hw
  obtain ⟨⟨⟨⟨h4, h5⟩, h6⟩, h7⟩, h8⟩ := hm
  refine ⟨⟨⟨⟨hp, h5⟩, by omega⟩, ?_⟩, agree_trans h3 h8⟩
  rcases h2 with h2 | ⟨h2, h9⟩
  · exact .inl h2
  · rcases h7 with h7 | h7
    · rw [h2] at h7; cases h7
    · exact .inr (by omega)
theorem wrap8 {n : Nat} (h : n < 256) : IntKind.wrap .u8 (n : Int) = n := by rw [IntKind.wrap_u8]; omega
theorem less_bit {x y : GRule} (hx : 0 ≤ x.kinds ∧ x.kinds < 256) (hy : 0 ≤ y.kinds ∧ y.kinds < 256) {k : Int} (hk : 0 ≤ k ∧ k < 8) (h : lessB x y = true) (hb : bitB k x = true) : bitB k y = true := by
  obtain ⟨n, hn⟩ : ∃ n : Nat, x.kinds = n := ⟨x.kinds.toNat, by omega⟩
  obtain ⟨m, hm⟩ : ∃ m : Nat, y.kinds = m := ⟨y.kinds.toNat, by omega⟩
  obtain ⟨j, hj⟩ : ∃ j : Nat, k = j := ⟨k.toNat, by omega⟩
  subst hj
  have hj8 : j < 8 := by omega
  have bit : ∀ (z : GRule) (a : Nat), z.kinds = a → (bitB j z = true ↔ a.testBit j = true) := by
    intro z a hz
    unfold bitB
    have e1 : min (Int.toNat (j : Int)) (IntKind.bits .u8) = j := by simp only [IntKind.bits, Int.toNat_natCast]; omega
    have e3 : ((2 : Int) ^ j) = ((2 ^ j : Nat) : Int) := by simp
    have e2 : Int.fdiv (a : Int) (2 ^ j) = ((a / 2 ^ j : Nat) : Int) := by
      rw [e3, Int.fdiv_eq_ediv_of_nonneg _ (Int.natCast_nonneg _)]; rfl
    rw [hz, e1, e2]
    have e4 : (BitVec.ofInt (IntKind.bits .u8) ((a / 2 ^ j : Nat) : Int) &&& BitVec.ofInt (IntKind.bits .u8) 1).toNat = a / 2 ^ j % 2 := by
      have e5 : (1 : Int) = ((1 : Nat) : Int) := rfl
      rw [e5, BitVec.ofInt_natCast, BitVec.ofInt_natCast, BitVec.toNat_and, BitVec.toNat_ofNat, BitVec.toNat_ofNat]
      simp only [IntKind.bits]
      rw [show 1 % 2 ^ 8 = 1 from rfl, Nat.and_one_is_mod]
      omega
    rw [e4, wrap8 (by omega), Nat.testBit_eq_decide_div_mod_eq]
    simp only [beq_iff_eq, decide_eq_true_eq]
    omega
  rw [bit x n hn] at hb
  rw [bit y m hm]
  unfold lessB at h
  rw [hn, hm, BitVec.ofInt_natCast, BitVec.ofInt_natCast] at h
  have hlt : (BitVec.ofNat (IntKind.bits .u8) n &&& ~~~BitVec.ofNat (IntKind.bits .u8) m).toNat < 256 := BitVec.isLt _
  rw [wrap8 hlt] at h
  have hz : (BitVec.ofNat (IntKind.bits .u8) n &&& ~~~BitVec.ofNat (IntKind.bits .u8) m) = 0#(IntKind.bits .u8) := by
    apply BitVec.eq_of_toNat_eq
    simp only [beq_iff_eq] at h
    simp only [BitVec.toNat_ofNat, Nat.zero_mod]; omega
  have hz8 : (BitVec.ofNat 8 n &&& ~~~BitVec.ofNat 8 m) = 0#8 := hz
  have hl := congrArg (fun v => v.getLsbD j) hz8
  simp only [BitVec.getLsbD_and, BitVec.getLsbD_not, BitVec.getLsbD_ofNat, hj8, decide_true, Bool.true_and, hb, Nat.zero_testBit] at hl
  simpa using hl
/-! ### The law. -/
theorem GRule.len {x : GRule} (h : GRule.wf x) : RuleLen x := by unfold GRule.wf at h; unfold RuleLen; exact h.2.1.1
theorem GRule.byte {x : GRule} (h : GRule.wf x) : 0 ≤ x.kinds ∧ x.kinds < 256 := by
  unfold GRule.wf at h
  have := h.2.2.1
  simp [InK, IntKind.min, IntKind.max, IntKind.signed, IntKind.bits] at this
  omega
theorem keep_letB {l : List GRule} (hwf : ∀ x ∈ l, GRule.wf x) (hr : rulesB l = true) (rep : Int) (path : List Str) (is : GRule → Bool) (his : ∀ x ∈ l, ∀ y ∈ l, coverB x y = true → is x = true → is y = true) :
    letB (tellsB rep path is) (keep l) = letB (tellsB rep path is) l := by
  unfold letB
  rw [keep_find]
  intro x hx y hy hc hq
  have hpy : patB y.path = true := by
    unfold rulesB at hr; simp at hr
    have := hr.2 y hy
    unfold ruleB at this; simp at this; exact this.1.2
  have hc0 := hc
  unfold coverB at hc
  unfold tellsB at hq ⊢
  simp only [Bool.and_eq_true, Bool.or_eq_true, beq_iff_eq] at hc hq ⊢
  obtain ⟨⟨⟨h1, h2⟩, h3⟩, h4⟩ := hc
  obtain ⟨⟨k1, k2⟩, k3⟩ := hq
  refine ⟨⟨?_, his x hx y hy hc0 k2⟩, match_wider hpy h4 k3⟩
  rcases h1 with h1 | h1
  · exact .inr h1
  · rcases k1 with k1 | k1
    · exact .inl (h1.trans k1)
    · exact .inr (h1.trans k1)
theorem keep_rules {l : List GRule} (h : rulesB l = true) : rulesB (keep l) = true := by
  unfold rulesB at h ⊢
  simp only [Bool.and_eq_true, decide_eq_true_eq, List.all_eq_true] at h ⊢
  have := keep_len l 0
  exact ⟨by omega, fun x hx => h.2 x (keep_sub l x hx)⟩
theorem law42Xknown_is : law42Xknown = some true := by
  unfold law42Xknown
  have hl : ∀ x ∈ ([(GRule.mk (255 : Int) ([([42, 42] : Str)] : List Str) (62 : Int) true false), (GRule.mk (1 : Int) ([([97] : Str), ([42, 42] : Str)] : List Str) (62 : Int) false false)] : List GRule), RuleLen x := by
    intro x hx
    simp only [List.mem_cons, List.not_mem_nil, or_false] at hx
    rcases hx with rfl | rfl <;> (unfold RuleLen; decide)
  unfold rightsWhy
  simp only [rightsMay_is hl, rightsAllows_is (by decide) hl, Option.bind_some, opMay_is]
  have hk : ¬ (1 : Int) < 0 := by decide
  simp only [rightsXlast_is (by decide) hl 1 _ (f := fun x0 => rightsWhyC1 x0 (GOp.mk (1 : Int) ([([97] : Str), ([98] : Str)] : List Str) (0 : Int) ([] : Str) ([] : List GDot))) (is := bitB 1) (fun x _ => by unfold rightsWhyC1; rw [chk_true hk]; rfl)]
  decide +kernel
theorem law42Xgreat_is (l : List GRule) (o : GOp) : ∃ b, law42Xgreat l o = some b := by
  unfold law42Xgreat ref42Great
  rw [loopL_all (fun x => !decide ((x.path.length : Int) > 10) && x.path.all fun s => !decide ((s.length : Int) > 40)) true _ _ (fun i x _ => by
    rw [loopL_all (fun s => !decide ((s.length : Int) > 40)) (Out.ret true) _ _ (fun i s _ => by cases decide ((s.length : Int) > 40) <;> rfl)]
    cases decide ((x.path.length : Int) > 10) <;> cases x.path.all (fun s => !decide ((s.length : Int) > 40)) <;> rfl)]
  split <;> exact ⟨_, rfl⟩
theorem law42RightsIdle_is (l : List GRule) (rep : Int) (o : GOp) (path : List Str) (hl : l.length ≤ maxLen ∧ ∀ x ∈ l, GRule.wf x) : law42RightsIdle l rep o path = some true := by
  unfold law42RightsIdle
  obtain ⟨g, hg⟩ := law42Xgreat_is l o
  have hlen : ∀ x ∈ l, RuleLen x := fun x hx => GRule.len (hl.2 x hx)
  rw [hg, rightsMay_is hlen]
  simp only [Option.bind_some, law42Xknown_is]
  cases hgg : (g || decide ((path.length : Int) > 10))
  · simp only [BEq.rfl, if_true, Option.bind_some, Bool.false_or]
    cases hr : rulesB l
    · simp
    · have h64 : l.length ≤ 64 := by unfold rulesB at hr; simp at hr; exact hr.1
      have hkl := keep_len l 0
      have hks : ∀ x ∈ keep l, RuleLen x := fun x hx => hlen x (keep_sub l x hx)
      simp only [Bool.not_true, Bool.false_eq_true, if_false, rightsIdle_is hlen hr, Option.bind_some]
      rw [left_loop (idleAt 0 l) (by omega) (fun i x s => rfl) l 0 [] [] (by simp; omega) rfl (fun u hu => by cases hu)]
      simp only [lp_inr, List.nil_append]
      have ew : IntKind.wrap .i64 (((keep l).length : Int) + ((idleAt 0 l).length : Int)) = (l.length : Int) := by rw [w64n (by omega)]; omega
      have hal : rightsAllows (keep l) rep o = rightsAllows l rep o := by
        rw [rightsAllows_is (by simp only [maxLen]; omega) hks, rightsAllows_is hl.1 hlen, keep_rules hr, hr]
        cases ho : opB o
        · rfl
        · rw [keep_letB hl.2 hr rep o.path (bitB o.kind)]
          intro x hx y hy hc hb
          have hk : 0 ≤ o.kind ∧ o.kind < 8 := by unfold opB at ho; simp at ho; omega
          unfold coverB at hc
          simp only [Bool.and_eq_true] at hc
          exact less_bit (GRule.byte (hl.2 x hx)) (GRule.byte (hl.2 y hy)) hk hc.1.1.2 hb
      have hsh : rightsShows (keep l) rep path = rightsShows l rep path := by
        rw [rightsShows_is (by simp only [maxLen]; omega) hks, rightsShows_is hl.1 hlen, keep_rules hr, hr, keep_letB hl.2 hr rep path (fun y => y.read)]
        intro x hx y hy hc hb
        unfold coverB at hc
        simp only [Bool.and_eq_true, Bool.or_eq_true, Bool.not_eq_true'] at hc
        rcases hc.1.2 with h | h
        · exact h
        · rw [h] at hb; cases hb
      rw [ew, hal, hsh, rightsAllows_is hl.1 hlen, rightsShows_is hl.1 hlen]
      simp
  · simp
end Go.Vv
