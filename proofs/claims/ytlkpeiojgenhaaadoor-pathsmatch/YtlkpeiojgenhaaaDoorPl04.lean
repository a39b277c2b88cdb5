/- Layer 4, plainly: what its functions and the document's come to. -/
import Derived.Test.YtlkpeiojgenhaaaDoorD
import Derived.Test.YtlkpeiojgenhaaaDoorVvQ
namespace Go.Vv
set_option linter.unusedVariables false
set_option linter.unusedSimpArgs false
open Go
def alnum (b : UInt8) : Bool := (decide (97 ≤ b.toNat) && decide (b.toNat ≤ 122)) || (decide (65 ≤ b.toNat) && decide (b.toNat ≤ 90)) || (decide (48 ≤ b.toNat) && decide (b.toNat ≤ 57))
def other (r : Int) : Bool := !((decide (97 ≤ r) && decide (r ≤ 122)) || (decide (65 ≤ r) && decide (r ≤ 90)) || (decide (48 ≤ r) && decide (r ≤ 57)))
/-- The first rune that is so, from a place on. -/
def runeIdx (q : Int → Bool) (s : List UInt8) (i : Nat) : Int :=
  if h : i < s.length then (if q (dec s i).1 then i else if (dec s i).2 = 0 then -1 else runeIdx q s (i + (dec s i).2)) else -1
termination_by s.length - i
decreasing_by omega
theorem dec_width (s : List UInt8) (i : Nat) (h : i < s.length) : 1 ≤ (dec s i).2 := by
  have hs : i < (⟨s.toArray⟩ : ByteArray).size := by simpa [ByteArray.size] using h
  by_cases ha : ((⟨s.toArray⟩ : ByteArray)[i]'hs).toNat < 128
  · unfold dec; rw [decode_ascii _ i hs ha]; exact Nat.le_refl _
  · exact (decode_high _ i hs (by omega)).2
theorem other_is (r : Int) : (((decide (r < 97) || decide (r > 122)) && (decide (r < 65) || decide (r > 90))) && (decide (r < 48) || decide (r > 57))) = other r := by
  unfold other
  rw [Bool.eq_iff_iff]
  simp
theorem dec_low {s : List UInt8} {i : Nat} {b : UInt8} (hb : s[i]? = some b) (h : b.toNat < 128) : dec s i = (b.toNat, 1) := by
  have hl : i < s.length := (List.getElem?_eq_some_iff.1 hb).1
  have hs : i < (⟨s.toArray⟩ : ByteArray).size := by simpa [ByteArray.size] using hl
  have e : ((⟨s.toArray⟩ : ByteArray)[i]'hs) = b := by
    have h1 : ((⟨s.toArray⟩ : ByteArray)[i]'hs) = s[i] := rfl
    rw [h1]; rw [List.getElem?_eq_getElem hl] at hb; injection hb
  unfold dec
  rw [decode_ascii _ i hs (by rw [e]; exact h), e]
theorem dec_hi {s : List UInt8} {i : Nat} {b : UInt8} (hb : s[i]? = some b) (h : 128 ≤ b.toNat) : 128 ≤ (dec s i).1 := by
  have hl : i < s.length := (List.getElem?_eq_some_iff.1 hb).1
  have hs : i < (⟨s.toArray⟩ : ByteArray).size := by simpa [ByteArray.size] using hl
  have e : ((⟨s.toArray⟩ : ByteArray)[i]'hs) = b := by
    have h1 : ((⟨s.toArray⟩ : ByteArray)[i]'hs) = s[i] := rfl
    rw [h1]; rw [List.getElem?_eq_getElem hl] at hb; injection hb
  exact (decode_high _ i hs (by rw [e]; exact h)).1
theorem other_alnum {b : UInt8} : other (b.toNat : Int) = !alnum b := by
  unfold other alnum
  congr 1
  rw [Bool.eq_iff_iff]
  simp
  omega
theorem rune_all {s : List UInt8} (h : s.all alnum = true) : ∀ (n i : Nat), s.length - i = n → runeIdx other s i = -1
  | n, i, hn => by
    rw [runeIdx.eq_def]
    by_cases hi : i < s.length
    · rw [dif_pos hi]
      have hb : s[i]? = some s[i] := List.getElem?_eq_getElem hi
      have ha : alnum s[i] = true := by rw [List.all_eq_true] at h; exact h _ (List.getElem_mem hi)
      have hlow : s[i].toNat < 128 := by
        unfold alnum at ha
        simp only [Bool.or_eq_true, Bool.and_eq_true, decide_eq_true_eq] at ha
        omega
      rw [dec_low hb hlow]
      simp only [other_alnum, ha, Bool.not_true, Bool.false_eq_true, if_false, Nat.one_ne_zero]
      exact rune_all h (s.length - (i + 1)) (i + 1) rfl
    · rw [dif_neg hi]
  termination_by n => n
  decreasing_by omega
theorem rune_some {s : List UInt8} {k : Nat} {b : UInt8} (hk : s[k]? = some b) (hb : alnum b = false) : ∀ (n i : Nat), k - i = n → i ≤ k → 0 ≤ runeIdx other s i
  | n, i, hn, hik => by
    have hl : k < s.length := (List.getElem?_eq_some_iff.1 hk).1
    have hi : i < s.length := by omega
    rw [runeIdx.eq_def, dif_pos hi]
    by_cases ho : other ((dec s i).1 : Nat) = true
    · rw [if_pos ho]; omega
    · rw [if_neg ho]
      have hc : s[i]? = some s[i] := List.getElem?_eq_getElem hi
      have hlow : s[i].toNat < 128 := by
        refine Decidable.byContradiction fun hh => ho ?_
        have := dec_hi hc (by omega)
        unfold other
        simp
        omega
      rw [dec_low hc hlow] at ho ⊢
      rw [other_alnum] at ho
      have hne : i ≠ k := by
        rintro rfl
        rw [hc] at hk; injection hk with hk; subst hk
        rw [hb] at ho; exact ho rfl
      simp only [Nat.one_ne_zero, if_false]
      exact rune_some hk hb (k - (i + 1)) (i + 1) rfl (by omega)
  termination_by n => n
  decreasing_by omega

def nameB (s : Str) : Bool := decide (1 ≤ s.length) && decide (s.length ≤ 12) && s.all alnum
def pathB (p : List Str) : Bool := decide (1 ≤ p.length) && decide (p.length ≤ 3) && p.all nameB
theorem bnd1 (n : Nat) : decide ((n : Int) ≥ 1) = decide (1 ≤ n) := decide_eq_decide.2 (by omega)
theorem bnd12 (n : Nat) : decide ((n : Int) ≤ 12) = decide (n ≤ 12) := decide_eq_decide.2 (by omega)
theorem bnd3 (n : Nat) : decide ((n : Int) ≤ 3) = decide (n ≤ 3) := decide_eq_decide.2 (by omega)
theorem ref04IsName_is (s : Str) : ref04IsName s = some (nameB s) := by
  unfold ref04IsName nameB
  rw [loopL_all alnum false]
  · split
    · rename_i h
      simp only [Bool.or_eq_true, decide_eq_true_eq] at h
      congr 1
      rw [eq_comm, Bool.and_eq_false_iff, Bool.and_eq_false_iff]
      left
      rcases h with h | h
      · exact .inl (decide_eq_false (by omega))
      · exact .inr (decide_eq_false (by omega))
    · rename_i h
      simp only [Bool.or_eq_true, decide_eq_true_eq] at h
      have h1 : 1 ≤ s.length := by omega
      have h2 : s.length ≤ 12 := by omega
      cases ha : s.all alnum <;> simp [h1, h2]
  · intro i x _
    unfold alnum
    have e : (((decide ((x.toNat : Int) ≥ 97)) && (decide ((x.toNat : Int) ≤ 122)) || (decide ((x.toNat : Int) ≥ 65)) && (decide ((x.toNat : Int) ≤ 90))) || (decide ((x.toNat : Int) ≥ 48)) && (decide ((x.toNat : Int) ≤ 57))) =
        (decide (97 ≤ x.toNat) && decide (x.toNat ≤ 122) || decide (65 ≤ x.toNat) && decide (x.toNat ≤ 90) || decide (48 ≤ x.toNat) && decide (x.toNat ≤ 57)) := by
      rw [Bool.eq_iff_iff]; simp; omega
    rw [e]
    generalize (decide (97 ≤ x.toNat) && decide (x.toNat ≤ 122) || decide (65 ≤ x.toNat) && decide (x.toNat ≤ 90) || decide (48 ≤ x.toNat) && decide (x.toNat ≤ 57)) = b
    cases b <;> rfl
theorem rune_loop (q : Int → Bool) (s : Str) {f : Nat → Option (Out Int Nat)} (hf : ∀ i, f i = if i < s.length then (if q (dec s i).1 = true then some (.ret (i : Int)) else some (.nxt (i + (dec s i).2))) else some (.brk i)) :
    ∀ (k i : Nat), s.length - i = k → lp (loopW f i) (fun _ => some (-1 : Int)) = some (runeIdx q s i)
  | k, i, hk => by
    rw [loopW_eq, runeIdx.eq_def, hf]
    by_cases h : i < s.length
    · have hw := dec_width s i h
      rw [if_pos h, dif_pos h]
      by_cases hq : q (dec s i).1 = true
      · simp [hq]
      · have h0 : ¬ (dec s i).2 = 0 := by omega
        simp only [if_neg hq, if_neg h0]
        exact rune_loop q s hf (s.length - (i + (dec s i).2)) _ rfl
    · rw [if_neg h, dif_neg h]; rfl
  termination_by k => k
  decreasing_by omega
theorem stringsContains_other (s : Str) : stringsContainsFunc s (fun x => opIsNameC1 x) = some (!s.all alnum) := by
  have e : (fun x => opIsNameC1 x) = fun x => some (other x) := by
    funext x
    unfold opIsNameC1 other
    congr 1
    rw [Bool.eq_iff_iff]; simp
  unfold stringsContainsFunc stringsIndexFunc stringsXindexFunc
  rw [e, rune_loop other s (fun i => by simp) _ 0 rfl]
  simp only [Option.bind_some]
  congr 1
  cases h : s.all alnum with
  | true => rw [rune_all h _ 0 rfl]; rfl
  | false =>
    rw [List.all_eq_false] at h
    obtain ⟨b, hb, hn⟩ := h
    obtain ⟨k, hk, rfl⟩ := List.getElem_of_mem hb
    have := rune_some (List.getElem?_eq_getElem hk) (by simpa using hn) _ 0 rfl (Nat.zero_le _)
    simp [this]
theorem opIsName_is (s : Str) : opIsName s = some (nameB s) := by
  unfold opIsName nameB
  rw [stringsContains_other, bnd1, bnd12]
  cases h1 : decide (1 ≤ s.length) <;> cases h2 : decide (s.length ≤ 12) <;> simp
theorem pathAll {p : List Str} {f : Str → Option Bool} (hf : ∀ x, f x = some (nameB x)) : (lp (loopL (fun (_ : Nat) (x1 : Str) (_ : Unit) => (((f x1).bind fun v9 => (if (!v9) = true then some (.ret false) else some (.nxt ()))) : Option (Out _ Unit))) p 0 ()) fun (_ : Unit) => some ((decide (((p).length : Int) ≥ (1 : Int))) && (decide (((p).length : Int) ≤ (3 : Int))))) = some (pathB p) := by
  rw [loopL_all nameB false _ _ (fun i x _ => by rw [hf]; cases nameB x <;> rfl), bnd1, bnd3]
  unfold pathB
  cases h : p.all nameB <;> simp
theorem ref04MayPath_is (p : List Str) : ref04MayPath p = some (pathB p) := pathAll ref04IsName_is
theorem contains_is {f : Str → Option Bool} {q : Str → Bool} (p : List Str) (hf : ∀ x ∈ p, f x = some (q x)) : slicesContainsFuncString p f = some (p.any q) := by
  unfold slicesContainsFuncString slicesIndexFuncString
  rw [first_loop p hf]; simp only [Option.bind_some, firstI_any]
theorem opMayPath_is (p : List Str) : opMayPath p = some (pathB p) := by
  unfold opMayPath pathB
  rw [contains_is (q := fun s => !nameB s) p (fun x _ => by unfold opMayPathC1; rw [opIsName_is]; rfl), bnd1, bnd3]
  have e : p.any (fun s => !nameB s) = !p.all nameB := by rw [Bool.eq_iff_iff]; simp
  rw [e]
  cases h1 : decide (1 ≤ p.length) <;> cases h2 : decide (p.length ≤ 3) <;> simp
/-! ### Dots. -/
def actorB (a : GActor) : Bool := decide (a.rep < 16) && decide (a.inc ≥ 1) && decide (a.inc ≤ 4)
def dotB (d : GDot) : Bool := actorB d.actor && decide (d.seq ≥ 1) && decide (d.seq ≤ 1048576)
theorem dotMayActor_is (a : GActor) : dotMayActor a = some (actorB a) := rfl
theorem dotMay_is (d : GDot) : dotMay d = some (dotB d) := rfl
theorem ref03MayActor_is (a : GActor) : ref03MayActor a = some (actorB a) := by
  unfold ref03MayActor actorB
  have : decide (a.rep ≤ 15) = decide (a.rep < 16) := decide_eq_decide.2 (by omega)
  rw [this]
theorem ref03May_is (d : GDot) : ref03May d = some (dotB d) := by unfold ref03May; rw [ref03MayActor_is]; rfl
def dotLt (a b : GDot) : Bool := if a.actor.rep ≠ b.actor.rep then decide (a.actor.rep < b.actor.rep) else if a.actor.inc ≠ b.actor.inc then decide (a.actor.inc < b.actor.inc) else decide (a.seq < b.seq)
theorem ref03Less_is (a b : GDot) : ref03Less a b = some (dotLt a b) := by
  unfold ref03Less dotLt
  by_cases h1 : a.actor.rep = b.actor.rep <;> by_cases h2 : a.actor.inc = b.actor.inc <;> simp [h1, h2]
def cmpI (a b : Int) : Int := if a < b then -1 else if b < a then 1 else 0
theorem cmpU8is (a b : Int) : cmpCompareUint8 a b = some (cmpI a b) := by
  unfold cmpCompareUint8 cmpXisNaNUint8 cmpI; simp only [bne_self_eq_false, Option.bind_some, Bool.false_eq_true, if_false, decide_eq_true_eq, gt_iff_lt]
  split <;> (try split) <;> rfl
theorem cmpU32is (a b : Int) : cmpCompareUint32 a b = some (cmpI a b) := by
  unfold cmpCompareUint32 cmpXisNaNUint32 cmpI; simp only [bne_self_eq_false, Option.bind_some, Bool.false_eq_true, if_false, decide_eq_true_eq, gt_iff_lt]
  split <;> (try split) <;> rfl
theorem cmpU64is (a b : Int) : cmpCompareUint64 a b = some (cmpI a b) := by
  unfold cmpCompareUint64 cmpXisNaNUint64 cmpI; simp only [bne_self_eq_false, Option.bind_some, Bool.false_eq_true, if_false, decide_eq_true_eq, gt_iff_lt]
  split <;> (try split) <;> rfl
def or2 (a b : Int) : Int := if a ≠ 0 then a else b
theorem cmpOr2_is (a b : Int) : cmpOrInt [a, b] = some (or2 a b) := by
  unfold cmpOrInt or2
  by_cases h1 : a = 0 <;> by_cases h2 : b = 0 <;> simp [loopL, h1, h2]
def actorCmp (a b : GActor) : Int := or2 (cmpI a.rep b.rep) (cmpI a.inc b.inc)
def dotCmp (a b : GDot) : Int := or2 (actorCmp a.actor b.actor) (cmpI a.seq b.seq)
theorem dotXcompare_is (a b : GActor) : dotXcompare a b = some (actorCmp a b) := by
  unfold dotXcompare; rw [cmpU8is, cmpU32is]; simp only [Option.bind_some]; rw [cmpOr2_is]; rfl
theorem dotCompare_is (a b : GDot) : dotCompare a b = some (dotCmp a b) := by
  unfold dotCompare; rw [dotXcompare_is, cmpU64is]; simp only [Option.bind_some]; rw [cmpOr2_is]; rfl
theorem dotCmp_lt (a b : GDot) : decide (dotCmp a b ≥ 0) = !dotLt a b := by
  unfold dotCmp actorCmp dotLt cmpI or2
  grind

/-! ### Operations. -/
def rising : List GDot → Bool
  | a :: b :: r => dotLt a b && rising (b :: r)
  | _ => true
def typeB (k : Int) : Int := if k = 1 then 1 else if k = 2 then 2 else if k = 3 ∨ k = 4 then 3 else if k = 5 then 4 else 0
def opB (o : GOp) : Bool := decide (1 ≤ o.kind) && decide (o.kind ≤ 5) && pathB o.path && decide (o.text.length ≤ 40) && decide (o.dots.length ≤ 64) &&
  (if o.kind = 1 then decide (-1000000 ≤ o.n) && decide (o.n ≤ 1000000) && (o.text == []) && decide (o.dots.length = 0)
   else decide (o.n = 0) && (decide (o.kind = 4) || decide (o.dots.length = 0)) && (o.dots.all dotB && rising o.dots))
theorem ref04Type_is (k : Int) : ref04Type k = some (typeB k) := by unfold ref04Type typeB; grind
theorem opType_is (k : Int) : opType k = some (typeB k) := by
  unfold opType opXof typeB
  by_cases h : k < 1 ∨ 5 < k
  · have h' : (decide (k < 1) || decide (k > 5)) = true := by simp; omega
    rw [if_pos h']; grind
  · have h' : ¬ (decide (k < 1) || decide (k > 5)) = true := by simp; omega
    rw [if_neg h']
    rcases (show k = 1 ∨ k = 2 ∨ k = 3 ∨ k = 4 ∨ k = 5 by omega) with rfl | rfl | rfl | rfl | rfl <;> rfl
/-- Behind the one ahead of it? -/
def aheadB (ds : List GDot) (i : Nat) (x : GDot) : Bool := decide (i = 0) || dotLt (ds.getD (i - 1) default) x
/-- Dots, each one and the one ahead. -/
theorem rising_loop (ds : List GDot) {g : Nat → GDot → Unit → Option (Out Bool Unit)}
    (hg : ∀ i x, ds[i]? = some x → g i x () = if (dotB x && aheadB ds i x) = true then some (.nxt ()) else some (.ret false)) :
    lp (loopL g ds 0 ()) (fun _ => some true) = some (ds.all dotB && rising ds) := by
  have key : ∀ (L pre : List GDot), ds = pre ++ L → lp (loopL g L pre.length ()) (fun _ => some true) = some (L.all dotB && rising (match pre.getLast? with | some y => y :: L | none => L)) := by
    intro L
    induction L with
    | nil => intro pre h; cases hp : pre.getLast? <;> simp [loopL, rising]
    | cons x t ih =>
      intro pre h
      have hx : ds[pre.length]? = some x := by rw [h]; simp
      have ih' := ih (pre ++ [x]) (by rw [h]; simp)
      simp only [List.length_append, List.length_cons, List.length_nil, Nat.zero_add, List.getLast?_append, List.getLast?_singleton, Option.some_or] at ih'
      simp only [loopL, hg _ _ hx]
      cases hp : pre.getLast? with
      | none =>
        have hpre : pre = [] := List.getLast?_eq_none_iff.1 hp
        subst hpre
        simp only [List.length_nil, Nat.zero_add] at ih' ⊢
        cases hd : dotB x <;> simp [aheadB, hd, ih']
      | some y =>
        have hne : pre ≠ [] := by rintro rfl; simp at hp
        have h0 : 0 < pre.length := List.length_pos_iff.2 hne
        have hy : ds.getD (pre.length - 1) default = y := by
          rw [List.getD_eq_getElem?_getD, h, List.getElem?_append_left (by omega)]
          rw [List.getLast?_eq_getElem?] at hp; rw [hp]; rfl
        have ha : aheadB ds pre.length x = dotLt y x := by
          unfold aheadB; rw [hy]
          have : decide (pre.length = 0) = false := decide_eq_false (by omega)
          rw [this]; rfl
        rw [ha]
        cases hd : dotB x <;> cases hlt : dotLt y x <;> simp [hd, hlt, ih', rising]
  have := key ds [] rfl
  simpa using this
theorem wrap_pred {i : Nat} (h0 : 0 < i) (hl : i ≤ 9223372036854775807) : (IntKind.wrap .i64 ((i : Int) - 1)) = ((i - 1 : Nat) : Int) := by rw [w64n (by omega)]; omega
theorem opXdrops_is (o : GOp) : opXdrops o = some (decide (o.n = 0) && decide (o.text.length ≤ 40) && decide (o.dots.length ≤ 64) && (o.dots.all dotB && rising o.dots)) := by
  unfold opXdrops
  by_cases hc : o.n ≠ 0 ∨ 40 < o.text.length ∨ 64 < o.dots.length
  · have h' : ((o.n != 0 || decide (((o.text).length : Int) > 40)) || decide (((o.dots).length : Int) > 64)) = true := by simp; omega
    rw [if_pos h']
    congr 1
    rw [eq_comm, Bool.and_eq_false_iff, Bool.and_eq_false_iff, Bool.and_eq_false_iff]
    left
    rcases hc with hc | hc | hc
    · exact .inl (.inl (decide_eq_false hc))
    · exact .inl (.inr (decide_eq_false (by omega)))
    · exact .inr (decide_eq_false (by omega))
  · have h' : ¬ ((o.n != 0 || decide (((o.text).length : Int) > 40)) || decide (((o.dots).length : Int) > 64)) = true := by simp; omega
    rw [if_neg h', rising_loop]
    · have h1 : o.n = 0 := by omega
      have h2 : o.text.length ≤ 40 := by omega
      have h3 : o.dots.length ≤ 64 := by omega
      simp [h1, h2, h3]
    · intro i x hx
      have hi : i < o.dots.length := (List.getElem?_eq_some_iff.1 hx).1
      simp only [dotMay_is, Option.bind_some]
      by_cases h0 : i = 0
      · subst h0
        cases hd : dotB x <;> simp [chk, aheadB, hd]
      · have h1 : decide ((i : Int) > 0) = true := by simp; omega
        have hw := wrap_pred (i := i) (by omega) (by omega)
        rw [hw, Int.toNat_natCast]
        have ha : aheadB o.dots i x = dotLt (o.dots.getD (i - 1) default) x := by unfold aheadB; rw [decide_eq_false h0]; rfl
        rw [chk_true (by intro _; omega), h1, ha]
        generalize o.dots.getD (i - 1) default = y
        cases hd : dotB x
        · simp
        · have e := dotCmp_lt y x
          simp only [dotCompare_is, Bool.not_true, Bool.false_or, Bool.true_and, BEq.rfl, if_true, Option.bind_some, e]
          cases dotLt y x <;> rfl
theorem nil_rises {ds : List GDot} (h : ds.length = 0) : (ds.all dotB && rising ds) = true := by
  have : ds = [] := List.eq_nil_of_length_eq_zero h
  subst this; rfl
theorem lenB {α : Type} (l : List α) : ((l.length : Int) == 0) = decide (l.length = 0) := by
  rw [Bool.eq_iff_iff]; simp
theorem leB (a b : Nat) : decide ((a : Int) ≤ (b : Int)) = decide (a ≤ b) := decide_eq_decide.2 (by omega)
theorem opMay_is (o : GOp) : opMay o = some (opB o) := by
  unfold opMay opXof opB
  by_cases h : o.kind < 1 ∨ 5 < o.kind
  · have h' : (decide (o.kind < 1) || decide (o.kind > 5)) = true := by simp; omega
    rw [if_pos h']
    have h2 : (decide (1 ≤ o.kind) && decide (o.kind ≤ 5)) = false := by rw [Bool.and_eq_false_iff]; simp; omega
    simp [h2]
  · have h' : ¬ (decide (o.kind < 1) || decide (o.kind > 5)) = true := by simp; omega
    rw [if_neg h', opMayPath_is]
    have hl := nil_rises (ds := o.dots)
    rcases (show o.kind = 1 ∨ o.kind = 2 ∨ o.kind = 3 ∨ o.kind = 4 ∨ o.kind = 5 by omega) with hk | hk | hk | hk | hk <;> rw [hk] <;>
      simp only [idx, Int.toNat, Option.bind_some, callOp, opXadds, opXplain, opXdrops_is, lenB] <;> generalize (o.dots.all dotB && rising o.dots) = R at hl ⊢ <;> cases hp : pathB o.path <;> simp [hk] <;> grind
theorem ref04May_is (o : GOp) : ref04May o = some (opB o) := by
  unfold ref04May opB
  rw [ref04Type_is]
  simp only [Option.bind_some, ref04MayPath_is]
  have hl := nil_rises (ds := o.dots)
  by_cases h : o.kind < 1 ∨ 5 < o.kind
  · have h2 : (decide (1 ≤ o.kind) && decide (o.kind ≤ 5)) = false := by rw [Bool.and_eq_false_iff]; simp; omega
    have h3 : typeB o.kind = 0 := by unfold typeB; grind
    simp [h2, h3]
  · have h3 : (typeB o.kind == 0) = false := by unfold typeB; grind
    have h4 : (decide (1 ≤ o.kind) && decide (o.kind ≤ 5)) = true := by simp; omega
    by_cases hb : 40 < o.text.length ∨ 64 < o.dots.length
    · have e1 : (decide ((o.text.length : Int) > 40) || decide ((o.dots.length : Int) > 64)) = true := by simp; omega
      have e2 : (decide (o.text.length ≤ 40) && decide (o.dots.length ≤ 64)) = false := by rw [Bool.and_eq_false_iff]; simp; omega
      rw [h3, h4]
      cases hp : pathB o.path <;> simp at e1 e2 ⊢ <;> grind
    · rw [rising_loop]
      · have e1 : decide ((o.text.length : Int) > 40) = false := decide_eq_false (by omega)
        have e2 : decide ((o.dots.length : Int) > 64) = false := decide_eq_false (by omega)
        have e3 : decide (o.text.length ≤ 40) = true := decide_eq_true (by omega)
        have e4 : decide (o.dots.length ≤ 64) = true := decide_eq_true (by omega)
        have e5 : decide ((o.dots.length : Int) > 0) = !decide (o.dots.length = 0) := by
          by_cases hd : o.dots.length = 0
          · rw [decide_eq_true hd, decide_eq_false (by omega)]; rfl
          · rw [decide_eq_false hd, decide_eq_true (by omega)]; rfl
        rw [h3, h4, e1, e2, e3, e4, e5, lenB]
        generalize (o.dots.all dotB && rising o.dots) = R at hl ⊢
        cases hp : pathB o.path
        · simp
        · by_cases k1 : o.kind = 1
          · simp [k1]
          · by_cases n0 : o.n = 0 <;> by_cases k4 : o.kind = 4 <;> by_cases d0 : o.dots.length = 0 <;> simp [k1, n0, k4, d0]
      · intro i x hx
        have hi : i < o.dots.length := (List.getElem?_eq_some_iff.1 hx).1
        simp only [ref03May_is, Option.bind_some]
        by_cases h0 : i = 0
        · subst h0
          cases hd : dotB x <;> simp [chk, aheadB]
        · have h1 : decide ((i : Int) > 0) = true := by simp; omega
          have hw := wrap_pred (i := i) (by omega) (by omega)
          rw [hw, Int.toNat_natCast, Int.toNat_natCast]
          have ha : aheadB o.dots i x = dotLt (o.dots.getD (i - 1) default) x := by unfold aheadB; rw [decide_eq_false h0]; rfl
          have hx' : o.dots.getD i default = x := by rw [List.getD_eq_getElem?_getD, hx]; rfl
          rw [chk_true (by intro _; omega), chk_true (by intro _; omega), h1, ha, hx']
          generalize o.dots.getD (i - 1) default = y
          cases hd : dotB x
          · simp
          · simp only [ref03Less_is, Bool.not_true, Bool.false_or, Bool.true_and, BEq.rfl, if_true, Option.bind_some]
            cases dotLt y x <;> rfl
/-! ### Events; the same. -/
def eventB (e : GEvent) : Bool := dotB e.dot && decide (e.time ≥ 1) && decide (e.time ≤ 1099511627776) && opB e.op
theorem opMayEvent_is (e : GEvent) : opMayEvent e = some (eventB e) := by
  unfold opMayEvent eventB; rw [dotMay_is, opMay_is]; simp only [Option.bind_some]
  cases (dotB e.dot && decide (e.time ≥ 1) && decide (e.time ≤ 1099511627776)) <;> rfl
theorem ref04MayEvent_is (e : GEvent) : ref04MayEvent e = some (eventB e) := by
  unfold ref04MayEvent eventB; rw [ref03May_is, ref04May_is]; simp only [Option.bind_some]
  cases (dotB e.dot && decide (e.time ≥ 1) && decide (e.time ≤ 1099511627776)) <;> rfl
/-- Two lists, cell by cell. -/
theorem same_loop {α : Type} [DecidableEq α] (M : List α) {eq : α → α → Bool} (he : ∀ a b, eq a b = decide (a = b)) {f : Nat → α → Unit → Option (Out Bool Unit)} :
    ∀ (L : List α) (i : Nat), L.length + i = M.length → (∀ j x, L[j]? = some x → f (i + j) x () = (idx M ((i + j : Nat) : Int)).bind fun y => if (!eq x y) = true then some (.ret false) else some (.nxt ())) →
    loopL f L i () = if L = M.drop i then some (.inr ()) else some (.inl false)
  | [], i, hl, _ => by
    rw [List.drop_of_length_le (by simp at hl; omega)]; rfl
  | x :: t, i, hl, h => by
    simp only [List.length_cons] at hl
    have hi : i < M.length := by omega
    have h0 := h 0 x rfl
    simp only [Nat.add_zero] at h0
    rw [idx_at hi] at h0
    have ih := same_loop M he (f := f) t (i + 1) (by omega) (fun j y hj => by have := h (j + 1) y hj; rw [show i + 1 + j = i + (j + 1) by omega]; exact this)
    have e : M.drop i = M[i] :: M.drop (i + 1) := (List.getElem_cons_drop hi).symm
    simp only [loopL, h0, Option.bind_some, he, e]
    by_cases hx : x = M[i]
    · simp only [hx, decide_true, Bool.not_true, Bool.false_eq_true, if_false, ih, List.cons.injEq, true_and]
    · have hne : ¬ (x :: t = M[i] :: M.drop (i + 1)) := fun hh => hx (List.cons.inj hh).1
      simp only [decide_eq_false hx, Bool.not_false, if_true, if_neg hne]
theorem dotEq (a b : GDot) : (a.actor.rep == b.actor.rep && (a.actor.inc == b.actor.inc && (a.seq == b.seq && true))) = decide (a = b) := by
  rcases a with ⟨⟨a1, a2⟩, a3⟩; rcases b with ⟨⟨b1, b2⟩, b3⟩
  rw [Bool.eq_iff_iff]; simp [and_assoc]
theorem strEq (a b : Str) : (a == b) = decide (a = b) := by rw [Bool.eq_iff_iff]; simp
theorem slicesEqualString_is (L M : List Str) : slicesEqualString L M = some (decide (L = M)) := by
  unfold slicesEqualString
  by_cases hl : L.length = M.length
  · have e : ((L.length : Int) != (M.length : Int)) = false := by simp; omega
    rw [e, same_loop M strEq L 0 (by omega) (fun j x hj => by simp)]
    by_cases h : L = M <;> simp [h]
  · have e : ((L.length : Int) != (M.length : Int)) = true := by simp; omega
    rw [e, decide_eq_false (fun h => hl (by rw [h]))]; rfl
theorem slicesEqualDot_is (L M : List GDot) : slicesEqualDot L M = some (decide (L = M)) := by
  unfold slicesEqualDot
  by_cases hl : L.length = M.length
  · have e : ((L.length : Int) != (M.length : Int)) = false := by simp; omega
    rw [e, same_loop M dotEq L 0 (by omega) (fun j x hj => by simp)]
    by_cases h : L = M <;> simp [h]
  · have e : ((L.length : Int) != (M.length : Int)) = true := by simp; omega
    rw [e, decide_eq_false (fun h => hl (by rw [h]))]; rfl
theorem opSame_is (a b : GOp) : opSame a b = some (decide (a = b)) := by
  unfold opSame
  rw [slicesEqualString_is, slicesEqualDot_is]
  rcases a with ⟨a1, a2, a3, a4, a5⟩; rcases b with ⟨b1, b2, b3, b4, b5⟩
  by_cases h1 : a1 = b1 <;> by_cases h2 : a2 = b2 <;> by_cases h3 : a3 = b3 <;> by_cases h4 : a4 = b4 <;> simp [h1, h2, h3, h4]
theorem ref04Same_is (a b : GOp) : ref04Same a b = some (decide (a = b)) := by
  unfold ref04Same
  by_cases hp : a.path.length = b.path.length
  · by_cases hd : a.dots.length = b.dots.length
    · rw [same_loop b.path strEq a.path 0 (by omega) (fun j x hj => by simp), same_loop b.dots dotEq a.dots 0 (by omega) (fun j x hj => by simp)]
      rcases a with ⟨a1, a2, a3, a4, a5⟩; rcases b with ⟨b1, b2, b3, b4, b5⟩
      simp only at hp hd
      by_cases h1 : a1 = b1 <;> by_cases h2 : a2 = b2 <;> by_cases h3 : a3 = b3 <;> by_cases h4 : a4 = b4 <;> by_cases h5 : a5 = b5 <;> simp [h1, h2, h3, h4, h5, hp, hd]
    · have e : ((a.dots.length : Int) != (b.dots.length : Int)) = true := by simp; omega
      rw [e, decide_eq_false (fun h => hd (by rw [h])), Bool.or_true]; rfl
  · have e : ((a.path.length : Int) != (b.path.length : Int)) = true := by simp; omega
    rw [e, decide_eq_false (fun h => hp (by rw [h])), Bool.or_true, Bool.true_or]; rfl
theorem law04Xgreat_is (o : GOp) : ∃ b, law04Xgreat o = some b := by
  unfold law04Xgreat
  rw [loopL_all (fun s => !decide ((s.length : Int) > 100)) true _ _ (fun i x _ => by cases decide ((x.length : Int) > 100) <;> rfl)]
  split <;> exact ⟨_, rfl⟩
theorem law04Xknown_is : law04Xknown = some true := by
  unfold law04Xknown
  simp only [opMay_is, Option.bind_some]
  rfl
theorem law04OpMay_is (a : GEvent) (b : GOp) (s : Str) : law04OpMay a b s = some true := by
  unfold law04OpMay
  obtain ⟨g1, h1⟩ := law04Xgreat_is a.op
  obtain ⟨g2, h2⟩ := law04Xgreat_is b
  rw [h1, h2]
  simp only [Option.bind_some, law04Xknown_is, opIsName_is, ref04IsName_is, opMayPath_is, ref04MayPath_is, opMay_is, ref04May_is, opMayEvent_is, ref04MayEvent_is, opType_is, ref04Type_is, opSame_is, ref04Same_is, BEq.rfl, Bool.and_self, if_true, decide_true]
  cases g1 <;> simp
end Go.Vv
