/- Layer 30, plainly: patterns and matches. -/
import Derived.Test.YtlkpeiojgenhaaaDoorD
import Derived.Test.YtlkpeiojgenhaaaDoorVvQ
import Derived.Test.YtlkpeiojgenhaaaDoorPl04
namespace Go.Vv
set_option linter.unusedVariables false
set_option linter.unusedSimpArgs false
open Go
def endsB (p : List Str) : Bool := p.getLast? == some [42, 42]
def partsL (p : List Str) : List Str := if endsB p then p.dropLast else p
def agreeB : List Str → List Str → Bool
  | [], _ => true
  | x :: t, y :: r => (x == [42] || x == y) && agreeB t r
  | _ :: _, [] => false
def patB (p : List Str) : Bool := (decide (0 < (partsL p).length) || endsB p) && decide ((partsL p).length ≤ 3) && (partsL p).all (fun s => s == [42] || nameB s)
def matchB (p path : List Str) : Bool := patB p && pathB path && decide ((partsL p).length ≤ path.length) && (endsB p || decide (path.length ≤ (partsL p).length)) && agreeB (partsL p) path
theorem wrapLen {n : Nat} (h0 : 0 < n) (h : n ≤ maxLen) : IntKind.wrap .i64 ((n : Int) - 1) = ((n - 1 : Nat) : Int) := by
  simp only [maxLen] at h; rw [w64n (by omega)]; omega
theorem last_getD {p : List Str} (h0 : 0 < p.length) : (p.getD (p.length - 1) default == [42, 42]) = endsB p := by
  unfold endsB
  rw [List.getLast?_eq_getElem?, List.getD_eq_getElem?_getD, List.getElem?_eq_getElem (by omega)]
  rw [Bool.eq_iff_iff]; simp
theorem slc_init {p : List Str} (h0 : 0 < p.length) : slc p 0 ((p.length - 1 : Nat) : Int) = some p.dropLast := by
  rw [slc_at (by omega)]; simp [List.dropLast_eq_take]
theorem pathsXparts_is {p : List Str} (h : p.length ≤ maxLen) : pathsXparts p = some (partsL p, endsB p) := by
  unfold pathsXparts partsL
  by_cases h0 : 0 < p.length
  · rw [wrapLen h0 h, chk_true (by intro _; omega)]
    have e : decide ((p.length : Int) > 0) = true := by simpa using h0
    rw [e, Int.toNat_natCast, last_getD h0, slc_init h0]
    cases endsB p <;> rfl
  · have : p = [] := List.eq_nil_of_length_eq_zero (by omega)
    subst this; rfl
theorem partsL_len (p : List Str) : (partsL p).length ≤ p.length := by unfold partsL; split <;> simp
theorem pathsMayPattern_is {p : List Str} (h : p.length ≤ maxLen) : pathsMayPattern p = some (patB p) := by
  unfold pathsMayPattern patB
  rw [pathsXparts_is h]
  simp only [Option.bind_some]
  rw [contains_is (q := fun s => !(s == [42] || nameB s)) _ (fun x _ => by
    unfold pathsMayPatternC1; rw [opIsName_is]
    cases h1 : (x == ([42] : Str)) <;> simp)]
  have e : (partsL p).any (fun s => !(s == [42] || nameB s)) = !(partsL p).all (fun s => s == [42] || nameB s) := by rw [Bool.eq_iff_iff]; simp
  have e1 : decide (((partsL p).length : Int) > 0) = decide (0 < (partsL p).length) := decide_eq_decide.2 (by omega)
  rw [e, bnd3, e1]
  cases ((decide (0 < (partsL p).length) || endsB p) && decide ((partsL p).length ≤ 3)) <;> simp
theorem agree_loop (path : List Str) {f : Nat → Str → Unit → Option (Out Bool Unit)} (hf : ∀ i x, i < path.length → f i x () = if (!(x == ([42] : Str)) && !(x == path.getD i default)) = true then some (.ret false) else some (.nxt ())) :
    ∀ (L : List Str) (i : Nat), L.length + i ≤ path.length → loopL f L i () = if agreeB L (path.drop i) = true then some (.inr ()) else some (.inl false)
  | [], i, _ => by cases path.drop i <;> rfl
  | x :: t, i, h => by
    simp only [List.length_cons] at h
    have hi : i < path.length := by omega
    have ih := agree_loop path hf t (i + 1) (by omega)
    have e : path.drop i = path[i] :: path.drop (i + 1) := (List.getElem_cons_drop hi).symm
    have e2 : path.getD i default = path[i] := by rw [List.getD_eq_getElem?_getD, List.getElem?_eq_getElem hi]; rfl
    simp only [loopL, hf i x hi, e, agreeB, e2]
    cases h1 : (x == ([42] : Str)) <;> cases h2 : (x == path[i]) <;> simp [ih]
theorem pathsMatch_is {p path : List Str} (h : p.length ≤ maxLen) : pathsMatch p path = some (matchB p path) := by
  unfold pathsMatch matchB
  rw [pathsXparts_is h, pathsMayPattern_is h]
  simp only [Option.bind_some, opMayPath_is]
  cases hp : patB p
  · simp
  · cases hq : pathB path
    · simp
    · by_cases hl : (partsL p).length ≤ path.length
      · have e1 : decide ((path.length : Int) < ((partsL p).length : Int)) = false := decide_eq_false (by omega)
        have e2 : decide ((path.length : Int) > ((partsL p).length : Int)) = !decide (path.length ≤ (partsL p).length) := by
          rw [Bool.eq_iff_iff]; simp
        rw [e1, e2, agree_loop path (fun i x hi => by rw [chk_true (by intro _; omega), Int.toNat_natCast]) _ 0 (by omega)]
        simp only [List.drop_zero, decide_eq_true hl]
        cases decide (path.length ≤ (partsL p).length) <;> cases endsB p <;> cases agreeB (partsL p) path <;> simp
      · have e1 : decide ((path.length : Int) < ((partsL p).length : Int)) = true := decide_eq_true (by omega)
        rw [e1, decide_eq_false hl]; simp
end Go.Vv
