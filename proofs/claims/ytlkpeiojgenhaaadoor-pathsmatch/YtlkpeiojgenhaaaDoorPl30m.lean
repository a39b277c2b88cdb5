/- Layer 30: PathsMatch. -/
import Derived.Test.YtlkpeiojgenhaaaDoorPl30
import Derived.Test.YtlkpeiojgenhaaaDoorPl00
namespace Go.Vv
set_option linter.unusedVariables false
set_option linter.unusedSimpArgs false
open Go
/-- cut at each c -/
def spl (c : UInt8) : Str → List Str
  | [] => [[]]
  | b :: t => if b = c then [] :: spl c t else match spl c t with
    | h :: r => (b :: h) :: r
    | [] => [[b]]
def pre (a : Str) : List Str → List Str
  | [] => [a]
  | h :: r => (a ++ h) :: r
theorem spl_ne (c : UInt8) : ∀ s : Str, spl c s ≠ []
  | [] => by simp [spl]
  | b :: t => by
    unfold spl
    split
    · simp
    · split <;> simp
theorem spl_cons {c b : UInt8} (h : ¬ b = c) (t : Str) : spl c (b :: t) = pre [b] (spl c t) := by
  rw [spl, if_neg h]
  cases spl c t <;> rfl
theorem pre_pre (a b : Str) {L : List Str} (h : L ≠ []) : pre a (pre b L) = pre (a ++ b) L := by
  cases L with
  | nil => exact absurd rfl h
  | cons x t => simp [pre]
theorem pre_nil {L : List Str} (h : L ≠ []) : pre [] L = L := by
  cases L with
  | nil => exact absurd rfl h
  | cons x t => simp [pre]
theorem splitK_cons {b c : UInt8} (h : b ≠ c) (k : Nat) (l : Str) : Lib.splitK [c] 0 k (b :: l) = pre [b] (Lib.splitK [c] 0 k l) := by
  cases k with
  | zero => rfl
  | succ k =>
    have hp : ([c] : List UInt8).isPrefixOf (b :: l) = false := by simp [List.isPrefixOf, Ne.symm h]
    have hix : Lib.index (b :: l) [c] = if Lib.index l [c] == -1 then -1 else Lib.index l [c] + 1 := by rw [Lib.index, hp]; simp
    have hge := Lib.index_ge l [c]
    by_cases hm : Lib.index l [c] = -1
    · have e2 : Lib.index (b :: l) [c] = -1 := by rw [hix, if_pos (beq_iff_eq.2 hm)]
      simp [Lib.splitK, hm, e2, pre]
    · obtain ⟨j, hj⟩ : ∃ j : Nat, Lib.index l [c] = j := ⟨(Lib.index l [c]).toNat, by omega⟩
      have e2 : Lib.index (b :: l) [c] = ((j + 1 : Nat) : Int) := by rw [hix, if_neg (fun e => hm (beq_iff_eq.1 e)), hj]; omega
      have n1 : ¬ ((j : Int) == -1) = true := fun e => by have := beq_iff_eq.1 e; omega
      have n2 : ¬ (((j + 1 : Nat) : Int) == -1) = true := fun e => by have := beq_iff_eq.1 e; omega
      simp only [Lib.splitK, hj, e2, if_neg n1, if_neg n2]
      rw [Int.toNat_natCast, Int.toNat_natCast]
      simp [pre]
theorem split_is (c : UInt8) : ∀ s : Str, Lib.split s [c] = spl c s
  | [] => by
    have : Lib.count [] [c] = 0 := by rw [Lib.count_one]; rfl
    simp [Lib.split, this, Lib.splitK, spl]
  | b :: l => by
    have ih := split_is c l
    unfold Lib.split at ih ⊢
    by_cases h : b = c
    · subst h
      have hix : Lib.index (b :: l) [b] = 0 := by rw [Lib.index]; simp [List.isPrefixOf]
      rw [Lib.count_cons_eq, Nat.add_comm, Lib.splitK, hix, spl, if_pos rfl, ← ih]
      simp
    · rw [Lib.count_cons_ne b c l h, splitK_cons h, ih, spl_cons h]
theorem spl_app {c : UInt8} {x : Str} (h : c ∉ x) (r : Str) : spl c (x ++ c :: r) = x :: spl c r := by
  induction x with
  | nil => simp [spl]
  | cons b t ih =>
    have hb : ¬ b = c := fun e => h (by simp [e])
    have ht : c ∉ t := fun m => h (by simp [m])
    rw [List.cons_append, spl_cons hb, ih ht]; rfl
theorem spl_one {c : UInt8} {x : Str} (h : c ∉ x) : spl c x = [x] := by
  induction x with
  | nil => simp [spl]
  | cons b t ih =>
    have hb : ¬ b = c := fun e => h (by simp [e])
    have ht : c ∉ t := fun m => h (by simp [m])
    rw [spl_cons hb, ih ht]; rfl
theorem join_cons (c : UInt8) (x y : Str) (t : List Str) : Lib.join (x :: y :: t) [c] = x ++ c :: Lib.join (y :: t) [c] := by
  simp [Lib.join, List.intercalate, List.intersperse]
theorem join_one (c : UInt8) (x : Str) : Lib.join [x] [c] = x := by simp [Lib.join, List.intercalate, List.intersperse]
theorem spl_join {c : UInt8} : ∀ {p : List Str}, p ≠ [] → (∀ x ∈ p, c ∉ x) → spl c (Lib.join p [c]) = p
  | [], h, _ => absurd rfl h
  | [x], _, h => by rw [join_one, spl_one (h x (by simp))]
  | x :: y :: t, _, h => by
    rw [join_cons, spl_app (h x (by simp)), spl_join (p := y :: t) (by simp) (fun z hz => h z (by simp [hz]))]
theorem spl_len (c : UInt8) : ∀ s : Str, (spl c s).length ≤ s.length + 1
  | [] => by simp [spl]
  | b :: t => by
    have ih := spl_len c t
    by_cases h : b = c
    · rw [spl, if_pos h]; simp; exact ih
    · rw [spl_cons h]
      cases e : spl c t with
      | nil => exact absurd e (spl_ne c t)
      | cons x r => rw [e] at ih; simp [pre] at ih ⊢; omega
theorem great_all {L : List (List Str)} : law30Xgreat L = some (!L.all (fun p => p.all (fun s => decide (s.length ≤ 40)) && decide (p.length ≤ 10))) := by
  unfold law30Xgreat
  rw [lp_all0 (r := true) (fun p : List Str => p.all (fun s => decide (s.length ≤ 40)) && decide (p.length ≤ 10))]
  · cases L.all (fun p => p.all (fun s => decide (s.length ≤ 40)) && decide (p.length ≤ 10)) <;> rfl
  · intro i x _
    rw [lp_all0 (r := Out.ret true) (fun s : Str => decide (s.length ≤ 40))]
    · have e : decide ((x.length : Int) > 10) = !decide (x.length ≤ 10) := by rw [Bool.eq_iff_iff]; simp; omega
      rw [e]
      cases x.all (fun s => decide (s.length ≤ 40)) <;> cases decide (x.length ≤ 10) <;> simp
    · intro j s _
      have e : decide ((s.length : Int) > 40) = !decide (s.length ≤ 40) := by rw [Bool.eq_iff_iff]; simp; omega
      rw [e]; cases decide (s.length ≤ 40) <;> simp
/-- a place of a pattern -/
abbrev spot (s : Str) : Bool := s == [42] || nameB s
theorem name_no {s : Str} {c : UInt8} (h : nameB s = true) (hc : alnum c = false) : c ∉ s := by
  intro hm
  unfold nameB at h
  simp only [Bool.and_eq_true, List.all_eq_true] at h
  rw [h.2 c hm] at hc; exact absurd hc (by simp)
theorem spot_no {s : Str} (h : spot s = true) : (47 : UInt8) ∉ s := by
  rcases Bool.or_eq_true_iff.1 h with h | h
  · rw [beq_iff_eq.1 h]; decide
  · exact name_no h (by decide)
theorem spot_star {s : Str} (h : spot s = true) : (s == ([42, 42] : Str)) = false := by
  rcases Bool.or_eq_true_iff.1 h with h | h
  · rw [beq_iff_eq.1 h]; decide
  · have := name_no (c := 42) h (by decide)
    rw [beq_eq_false_iff_ne]; rintro rfl; exact this (by simp)
theorem ends_app {p : List Str} (h : endsB p = true) : p = p.dropLast ++ [[42, 42]] := by
  unfold endsB at h
  have h := beq_iff_eq.1 h
  rw [List.getLast?_eq_some_iff] at h
  obtain ⟨t, rfl⟩ := h; simp
theorem pat_no {p : List Str} (h : patB p = true) : p ≠ [] ∧ p.length ≤ 4 ∧ ∀ x ∈ p, (47 : UInt8) ∉ x := by
  unfold patB partsL at h
  cases he : endsB p
  · rw [he] at h; simp only [Bool.or_false, Bool.and_eq_true, decide_eq_true_eq, List.all_eq_true] at h
    refine ⟨fun e => by subst e; simp at h, by have := h.1.2; simp at this; omega, fun x hx => spot_no (h.2 x (by simpa using hx))⟩
  · rw [he] at h; simp only [Bool.or_true, Bool.and_eq_true, decide_eq_true_eq, List.all_eq_true, if_pos] at h
    have e := ends_app he
    refine ⟨fun e => by subst e; simp [endsB] at he, ?_, ?_⟩
    · have h2 := h.1.2; rw [e]; simp at h2 ⊢; omega
    · intro x hx
      rw [e, List.mem_append] at hx
      rcases hx with hx | hx
      · exact spot_no (h.2 x hx)
      · rw [List.mem_singleton.1 hx]; decide
theorem spot_step (s : Str) : (((if ((!(s == ([42] : Str))) == true) = true then ref04IsName s else some default).bind fun v => (if ((!(s == ([42] : Str))) && (!v)) = true then some (Out.ret false) else some (.nxt ()))) : Option (Out Bool Unit)) = if spot s = true then some (.nxt ()) else some (.ret false) := by
  rw [ref04IsName_is]; unfold spot
  cases h : (s == ([42] : Str)) <;> cases nameB s <;> simp
theorem range_all {p : List Str} {n : Nat} (h : n ≤ p.length) (q : Str → Bool) : (List.range n).all (fun j => q (p.getD j default)) = (p.take n).all q := by
  rw [Bool.eq_iff_iff, List.all_eq_true, List.all_eq_true]
  constructor
  · intro H x hx
    obtain ⟨i, hi, rfl⟩ := List.getElem_of_mem hx
    simp only [List.length_take] at hi
    have := H i (by simp; omega)
    rw [List.getD_eq_getElem?_getD, List.getElem?_eq_getElem (by omega)] at this
    simpa using this
  · intro H j hj
    have hj : j < n := by simpa using hj
    have : p[j] ∈ p.take n := by rw [List.mem_take_iff_getElem]; exact ⟨j, by omega, rfl⟩
    have := H _ this
    rw [List.getD_eq_getElem?_getD, List.getElem?_eq_getElem (by omega)]
    simpa using this
theorem ref30MayPattern_is {p : List Str} (h : p.length ≤ maxLen) : ref30MayPattern p = some (patB p) := by
  unfold ref30MayPattern
  by_cases h0 : 0 < p.length
  · rw [wrapLen h0 h, chk_true (by intro _; omega)]
    have e : decide ((p.length : Int) > 0) = true := by simpa using h0
    rw [e, Int.toNat_natCast, last_getD h0]
    cases he : endsB p
    · rw [if_neg (by simp)]
      have ep : patB p = (decide (p.length ≤ 3) && p.all spot) := by
        unfold patB partsL; rw [he]; simp [h0]
      rw [ep]
      have e1 : decide ((p.length : Int) < 1) = false := by simp; omega
      have e2 : decide ((p.length : Int) > 3) = !decide (p.length ≤ 3) := by rw [Bool.eq_iff_iff]; simp; omega
      rw [e1, e2]
      cases decide (p.length ≤ 3)
      · simp
      · rw [if_neg (by simp), lp_all0 (r := false) spot]
        · cases p.all spot <;> simp
        · intro i x hx
          rw [chk_true (by intro _; have := (List.getElem?_eq_some_iff.1 hx).1; omega)]
          have eg : p.getD ((i : Int)).toNat default = x := by rw [Int.toNat_natCast, List.getD_eq_getElem?_getD, hx]; rfl
          rw [eg]; exact spot_step x
    · rw [if_pos (by simp)]
      have el : (partsL p) = p.take (p.length - 1) := by unfold partsL; rw [he, if_pos rfl, List.dropLast_eq_take]
      have ep : patB p = (decide (p.length - 1 ≤ 3) && (p.take (p.length - 1)).all spot) := by
        unfold patB; rw [he, el]; simp
      rw [ep]
      have e0 : ((((p.length - 1 : Nat) : Int)) == 0) = decide (p.length - 1 = 0) := by rw [Bool.eq_iff_iff]; simp
      rw [e0]
      by_cases hn : p.length - 1 = 0
      · simp [hn]
      · rw [if_neg (by simpa using hn)]
        have e1 : decide (((p.length - 1 : Nat) : Int) < 1) = false := by simp; omega
        have e2 : decide (((p.length - 1 : Nat) : Int) > 3) = !decide (p.length - 1 ≤ 3) := by rw [Bool.eq_iff_iff]; simp; omega
        rw [e1, e2]
        cases decide (p.length - 1 ≤ 3)
        · simp
        · rw [if_neg (by simp), chk_true (by simp only [maxLen] at h; omega), lp_all0 (r := false) (fun j => spot (p.getD j default)), range_all (by omega)]
          · cases (p.take (p.length - 1)).all spot <;> simp
          · intro i x hx
            obtain ⟨hl, hv⟩ := List.getElem?_eq_some_iff.1 hx
            simp at hl hv; subst hv
            have hi : i < p.length := by omega
            rw [idx_at hi]
            simp only [Option.bind_some]
            rw [chk_true (by intro _; omega)]
            have eg : p.getD ((i : Int)).toNat default = p[i] := by rw [Int.toNat_natCast, List.getD_eq_getElem?_getD, List.getElem?_eq_getElem hi]; rfl
            have eg2 : p.getD i default = p[i] := by rw [List.getD_eq_getElem?_getD, List.getElem?_eq_getElem hi]; rfl
            rw [eg, eg2]; exact spot_step _
  · have : p = [] := List.eq_nil_of_length_eq_zero (by omega)
    subst this; rfl
/-- the reference's match, unguarded -/
def refMatchB : List Str → List Str → Bool
  | [], path => path.length == 0
  | x :: t, path => x == [42, 42] || (match path with | [] => false | y :: r => (x == [42] || x == y) && refMatchB t r)
theorem refMatchN_is : ∀ (p path : List Str) (n : Nat), p.length < n → ref30XmatchesN n p path = some (refMatchB p path)
  | [], path, n, h => by
    cases n with
    | zero => omega
    | succ n => simp [ref30XmatchesN, refMatchB]; rw [Bool.eq_iff_iff]; simp
  | x :: t, path, n, h => by
    cases n with
    | zero => omega
    | succ n =>
      have e0 : ((((x :: t).length : Nat) : Int) == 0) = false := by rw [beq_eq_false_iff_ne]; simp; omega
      have ei : idx (x :: t) (0 : Int) = some x := idx_of (i := 0) rfl
      rw [ref30XmatchesN, e0, ei]
      simp only [Option.bind_some]
      cases hx : (x == ([42, 42] : Str))
      · cases path with
        | nil => simp [chk, refMatchB, hx]
        | cons y r =>
          have ih := refMatchN_is t r n (by simpa using h)
          have e1 : decide ((((y :: r).length : Nat) : Int) > 0) = true := decide_eq_true (by simp only [List.length_cons]; omega)
          have t1 : (List.take (((x :: t).length : Nat) : Int).toNat (x :: t)).drop (1 : Int).toNat = t := by rw [Int.toNat_natCast, List.take_length]; rfl
          have t2 : (List.take (((y :: r).length : Nat) : Int).toNat (y :: r)).drop (1 : Int).toNat = r := by rw [Int.toNat_natCast, List.take_length]; rfl
          have g1 : (x :: t).getD (0 : Int).toNat default = x := rfl
          have g2 : (y :: r).getD (0 : Int).toNat default = y := rfl
          rw [chk_true (by intro _; simp only [List.length_cons]; omega), chk_true (by intro _; simp only [List.length_cons]; omega), chk_true (by intro _; simp only [List.length_cons]; omega), chk_true (by intro _; simp only [List.length_cons]; omega), chk_true (by intro _; simp only [List.length_cons]; omega), e1, t1, t2, g1, g2, ih]
          simp only [refMatchB, hx]
          cases (x == ([42] : Str)) <;> cases (x == y) <;> simp
      · simp [refMatchB, hx]
theorem refMatch_is (p path : List Str) : ref30Xmatches p path = some (refMatchB p path) := anyN_of (p.length + 1) (fun n hn => refMatchN_is p path n (by omega))
theorem refMatch_all : ∀ (p path : List Str), (∀ x ∈ p, spot x = true) → refMatchB p path = (decide (p.length ≤ path.length) && decide (path.length ≤ p.length) && agreeB p path)
  | [], path, _ => by cases path <;> simp [refMatchB, agreeB]
  | x :: t, [], h => by simp [refMatchB, spot_star (h x (by simp))]
  | x :: t, y :: r, h => by
    rw [refMatchB, spot_star (h x (by simp)), refMatch_all t r (fun z hz => h z (by simp [hz])), agreeB]
    have a1 : decide ((x :: t).length ≤ (y :: r).length) = decide (t.length ≤ r.length) := by simp
    have a2 : decide ((y :: r).length ≤ (x :: t).length) = decide (r.length ≤ t.length) := by simp
    rw [a1, a2]
    cases (x == [42] || x == y) <;> simp
theorem refMatch_ends : ∀ (p path : List Str), (∀ x ∈ p, spot x = true) → refMatchB (p ++ [[42, 42]]) path = (decide (p.length ≤ path.length) && agreeB p path)
  | [], path, _ => by simp [refMatchB, agreeB]
  | x :: t, [], h => by simp [refMatchB, spot_star (h x (by simp))]
  | x :: t, y :: r, h => by
    rw [List.cons_append, refMatchB, spot_star (h x (by simp)), refMatch_ends t r (fun z hz => h z (by simp [hz])), agreeB]
    have a1 : decide ((x :: t).length ≤ (y :: r).length) = decide (t.length ≤ r.length) := by simp
    rw [a1]
    cases (x == [42] || x == y) <;> simp
theorem ref30Match_is {p path : List Str} (h : p.length ≤ maxLen) : ref30Match p path = some (matchB p path) := by
  unfold ref30Match matchB
  rw [ref30MayPattern_is h]
  cases hp : patB p
  · simp
  · simp only [Option.bind_some, ref04MayPath_is, Bool.true_and]
    cases pathB path
    · simp
    · simp only [Bool.true_and, beq_self_eq_true, if_true, refMatch_is, Option.bind_some]
      congr 1
      have hs : ∀ x ∈ partsL p, spot x = true := by
        unfold patB at hp; simp only [Bool.and_eq_true, List.all_eq_true] at hp; exact hp.2
      cases he : endsB p
      · have e : partsL p = p := by unfold partsL; rw [he]; rfl
        rw [e] at hs ⊢
        rw [refMatch_all p path hs]; simp
      · have e : partsL p = p.dropLast := by unfold partsL; rw [he]; rfl
        rw [e] at hs ⊢
        rw [ends_app he, refMatch_ends _ path hs]; simp
theorem samePath30 (a b : List Str) : ref30SamePath a b = some (decide (a = b)) := by
  unfold ref30SamePath
  by_cases hl : a.length = b.length
  · have e : ((a.length : Int) != (b.length : Int)) = false := by simp; omega
    rw [e, same_loop b strEq a 0 (by omega) (fun j x hj => by simp)]
    by_cases h : a = b <;> simp [h]
  · have e : ((a.length : Int) != (b.length : Int)) = true := by simp; omega
    rw [e, decide_eq_false (fun h => hl (by rw [h]))]; rfl
/-- all that follows the first piece -/
def tailJ : List Str → Str
  | [] => []
  | y :: t => 47 :: (y ++ tailJ t)
theorem join_tail (x : Str) : ∀ t : List Str, Lib.join (x :: t) [47] = x ++ tailJ t
  | [] => by rw [join_one]; simp [tailJ]
  | y :: t => by rw [join_cons, join_tail y t]; rfl
theorem tailJ_len : ∀ t : List Str, (∀ x ∈ t, x.length ≤ 40) → (tailJ t).length ≤ 41 * t.length
  | [], _ => by simp [tailJ]
  | y :: t, h => by
    have ih := tailJ_len t (fun x hx => h x (by simp [hx]))
    have h0 := h y (by simp)
    simp only [tailJ, List.length_cons, List.length_append]; omega
theorem text_loop {p : List Str} (hl : p.length ≤ 10) (h40 : ∀ x ∈ p, x.length ≤ 40) {f : Str × Int → Option (Out Str (Str × Int))}
    (hf : ∀ a i, f (a, i) = if (decide (i < ((p).length : Int))) = true then (chk (a.length + (([47] : Str)).length ≤ maxLen) (((idx p i).bind fun y14 => (chk ((a ++ ([47] : Str)).length + (y14).length ≤ maxLen) (some (.nxt ((a ++ ([47] : Str)) ++ y14, (IntKind.wrap .i64 (i + (1 : Int))))))))) ) else some (.brk (a, i))) :
    ∀ (k : Nat) (a : Str) (j : Nat), p.length - j = k → j ≤ p.length → a.length ≤ 41 * j → lp (loopW f (a, (j : Int))) (fun s => some s.1) = some (a ++ tailJ (p.drop j))
  | 0, a, j, hk, hj, ha => by
    rw [loopW_eq, hf, if_neg (by simp; omega), List.drop_of_length_le (by omega)]
    simp [lp, tailJ]
  | k + 1, a, j, hk, hj, ha => by
    have hi : j < p.length := by omega
    have h0 := h40 p[j] (List.getElem_mem hi)
    have e : p.drop j = p[j] :: p.drop (j + 1) := (List.getElem_cons_drop hi).symm
    rw [loopW_eq, hf, if_pos (by simp; omega), idx_at hi, e]
    simp only [Option.bind_some]
    rw [chk_true (by simp [maxLen]; omega), chk_true (by simp [maxLen]; omega)]
    have ew : IntKind.wrap .i64 ((j : Int) + 1) = ((j + 1 : Nat) : Int) := wrap_add1 (by simp only [maxLen]; omega)
    simp only [ew]
    rw [text_loop hl h40 hf k _ (j + 1) (by omega) (by omega) (by simp; omega)]
    simp [tailJ]
theorem texts_are {p : List Str} (hl : p.length ≤ 10) (h40 : ∀ x ∈ p, x.length ≤ 40) : pathsText p = some (if patB p = true then Lib.join p [47] else []) ∧ ref30Text p = some (if patB p = true then Lib.join p [47] else []) := by
  have hm : p.length ≤ maxLen := by simp only [maxLen]; omega
  unfold pathsText ref30Text
  rw [pathsMayPattern_is hm, ref30MayPattern_is hm]
  cases hp : patB p
  · simp
  · have hn := (pat_no hp).1
    cases p with
    | nil => exact absurd rfl hn
    | cons x t =>
      have hx := h40 x (by simp)
      have ht := tailJ_len t (fun z hz => h40 z (by simp [hz]))
      have e0 : idx (x :: t) (0 : Int) = some x := idx_of (i := 0) rfl
      simp only [List.length_cons] at hl
      refine ⟨?_, ?_⟩
      · simp only [Option.bind_some, Bool.not_true, Bool.false_eq_true, if_false, if_true, stringsJoin, strJoin]
        rw [if_pos ⟨by simp only [List.length_cons]; omega, by rw [join_tail]; simp only [List.length_append]; omega⟩]; rfl
      · simp only [Option.bind_some, Bool.not_true, Bool.false_eq_true, if_false, if_true, e0]
        have := text_loop (p := x :: t) (by simp only [List.length_cons]; omega) h40 (f := fun (s1 : Str × Int) => ((if (decide (s1.2 < (((x :: t)).length : Int))) = true then (chk ((s1.1).length + (([47] : Str)).length ≤ maxLen) (((idx (x :: t) s1.2).bind fun y14 => (chk (((s1.1 ++ ([47] : Str))).length + (y14).length ≤ maxLen) (some (.nxt (((s1.1 ++ ([47] : Str)) ++ y14), (IntKind.wrap .i64 (s1.2 + (1 : Int)))))))))) else some (.brk (s1.1, s1.2))) : Option (Out _ (Str × Int)))) (fun a i => rfl) t.length x 1 (by simp) (by simp) (by omega)
        rw [join_tail]; exact this
theorem parse_loop {s : Str} (hl : s.length ≤ 1000) {ρ : Type} {f : Nat → UInt8 → List Str × Str → Option (Out ρ (List Str × Str))}
    (hf : ∀ i x s1, f i x s1 = if ((x.toNat : Int) == (47 : Int)) = true then (chk ((s1.1).length + (([s1.2] : List Str)).length ≤ lim) (some (.nxt ((s1.1 ++ ([s1.2] : List Str)), ([] : Str))))) else ((slc s (i : Int) (IntKind.wrap .i64 ((i : Int) + (1 : Int)))).bind fun m15 => (chk ((s1.2).length + (m15).length ≤ maxLen) (some (.nxt (s1.1, (s1.2 ++ m15))))))) :
    ∀ (r : Str) (i : Nat) (L : List Str) (c : Str), s.drop i = r → i + r.length = s.length → L.length ≤ i → c.length ≤ i → ∃ st : List Str × Str, loopL f r i (L, c) = some (.inr st) ∧ st.1 ++ [st.2] = L ++ pre c (spl 47 r) ∧ st.1.length ≤ s.length
  | [], i, L, c, _, hi, hL, _ => ⟨(L, c), rfl, by simp [spl, pre], by simp at hi; simp; omega⟩
  | b :: t, i, L, c, hd, hi, hL, hc => by
    simp only [List.length_cons] at hi
    have hd2 : s.drop (i + 1) = t := by rw [← List.drop_drop, hd]; rfl
    by_cases hb : b = 47
    · obtain ⟨st, e1, e2, e3⟩ := parse_loop hl hf t (i + 1) (L ++ [c]) [] hd2 (by omega) (by simp; omega) (by simp)
      refine ⟨st, ?_, ?_, e3⟩
      · rw [loopL, hf, if_pos (by rw [hb]; rfl), chk_true (by simp [lim]; omega)]; exact e1
      · rw [e2, hb, spl, if_pos rfl, pre_nil (spl_ne _ _)]; simp [pre]
    · have hx : ¬ ((b.toNat : Int) == 47) = true := by
        rw [beq_iff_eq]; intro h
        have h : b.toNat = 47 := by omega
        exact hb (UInt8.toNat_inj.1 (by rw [h]; rfl))
      have es : slc s (i : Int) (IntKind.wrap .i64 ((i : Int) + 1)) = some [b] := by
        rw [wrap_add1 (by simp only [maxLen]; omega), slc_at (by omega), Int.toNat_natCast, Int.toNat_natCast, ← List.take_drop.symm.symm] 
        rw [hd]; simp
      obtain ⟨st, e1, e2, e3⟩ := parse_loop hl hf t (i + 1) L (c ++ [b]) hd2 (by omega) (by omega) (by simp; omega)
      refine ⟨st, ?_, ?_, e3⟩
      · rw [loopL, hf, if_neg hx, es]
        simp only [Option.bind_some]
        rw [chk_true (by simp [maxLen]; omega)]; exact e1
      · rw [e2, spl_cons hb, pre_pre _ _ (spl_ne _ _)]
theorem parses_are {s : Str} (hl : s.length ≤ 1000) : pathsParse s = some (if patB (spl 47 s) = true then (spl 47 s, 0) else ([], 4)) ∧ ref30Parse s = some (if patB (spl 47 s) = true then (spl 47 s, 0) else ([], 4)) := by
  have hs := spl_len 47 s
  have hm : (spl 47 s).length ≤ maxLen := by simp only [maxLen]; omega
  constructor
  · unfold pathsParse stringsSplit strSplit
    rw [if_pos ⟨by omega, by simp⟩, split_is]
    simp only [Option.bind_some, pathsMayPattern_is hm]
    cases patB (spl 47 s) <;> rfl
  · unfold ref30Parse
    obtain ⟨st, e1, e2, e3⟩ := parse_loop (s := s) hl (fun i x s1 => rfl) s 0 [] [] rfl (by omega) (by simp) (by simp)
    rw [e1]
    rw [List.nil_append, pre_nil (spl_ne _ _)] at e2
    simp only [lp]
    rw [chk_true (by simp [lim]; omega), e2, ref30MayPattern_is hm]
    simp only [Option.bind_some]
    cases patB (spl 47 s) <;> rfl
theorem known30 : law30Xknown = some true := by
  unfold law30Xknown pathsText stringsJoin
  have l1 : ([[97], [42]] : List Str).length ≤ maxLen := by decide
  have l2 : ([[97], [42, 42]] : List Str).length ≤ maxLen := by decide
  have l3 : ([[42, 42]] : List Str).length ≤ maxLen := by decide
  simp only [pathsMatch_is l1, pathsMatch_is l2, pathsMatch_is l3, pathsMayPattern_is l1]
  have a1 : matchB [[97], [42]] [[97], [98]] = true := by decide
  have a2 : matchB [[97], [42]] [[97]] = false := by decide
  have a3 : matchB [[97], [42, 42]] [[97]] = true := by decide
  have a4 : matchB [[42, 42]] [[97], [98]] = true := by decide
  have a5 : patB [[97], [42]] = true := by decide
  have a6 : strJoin [[97], [42]] [47] = some [97, 47, 42] := by decide
  simp [chk, a1, a2, a3, a4, a5, a6]
theorem law30PathsMatch_is (p path : List Str) (s : Str) : law30PathsMatch p path s = some true := by
  unfold law30PathsMatch
  rw [great_all, known30]
  simp only [Option.bind_some]
  by_cases hg : ((!([p, path] : List (List Str)).all (fun p => p.all (fun s => decide (s.length ≤ 40)) && decide (p.length ≤ 10))) || decide (((s).length : Int) > (200 : Int))) = true
  · rw [if_pos hg]
  · rw [if_neg hg]
    simp only [List.all_cons, List.all_nil, Bool.and_true, Bool.or_eq_true, Bool.not_eq_true', decide_eq_true_eq, not_or, Bool.not_eq_false, Bool.and_eq_true, List.all_eq_true] at hg
    obtain ⟨⟨⟨h40, h10⟩, -⟩, hs⟩ := hg
    have hl : s.length ≤ 1000 := by omega
    have hm : p.length ≤ maxLen := by simp only [maxLen]; omega
    obtain ⟨q1, q2⟩ := parses_are hl
    obtain ⟨t1, t2⟩ := texts_are h10 h40
    rw [q1, q2, pathsMayPattern_is hm, ref30MayPattern_is hm, pathsMatch_is hm, ref30Match_is hm, t1, t2]
    have eb : (!(patB p == patB p)) = false := by simp
    have em : (!(matchB p path == matchB p path)) = false := by simp
    simp only [Option.bind_some, samePath30, eb, em, beq_self_eq_true, Bool.or_self, Bool.false_or, if_true, Bool.not_true, decide_true, bne_self_eq_false, Bool.false_eq_true, if_false]
    cases hp : patB p
    · simp only [Bool.false_eq_true, if_false]
      obtain ⟨q3, -⟩ := parses_are (s := []) (by simp)
      rw [q3]; simp
    · simp only [if_true]
      obtain ⟨hn, h4, h47⟩ := pat_no hp
      have hj : (Lib.join p [47]).length ≤ 1000 := by
        cases p with
        | nil => simp [Lib.join, List.intercalate, List.intersperse]
        | cons x t =>
          have hx := h40 x (by simp)
          have ht := tailJ_len t (fun z hz => h40 z (by simp [hz]))
          simp only [List.length_cons] at h4
          rw [join_tail]; simp only [List.length_append]; omega
      obtain ⟨q3, -⟩ := parses_are hj
      rw [q3, spl_join hn h47, hp]; simp
end Go.Vv
