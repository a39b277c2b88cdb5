/- Functions of Go's library whose contracts the shelf has: as contracts over abstract values. -/
import Derived.Test.YtjfbcjalcobabaaGreatVvZ
import Derived.Shelf.Strings.OnBuilder
import Derived.Shelf.Strings.SplitShaped
namespace Go.Vv
set_option linter.unusedVariables false
set_option linter.unusedSimpArgs false
open Go Go.RowKit Go.Proofs Go.Shelf

/-- Joined texts, as long as there is room. -/
def strJoin (xs : List (List UInt8)) (sep : List UInt8) : Option (List UInt8) := if xs.length ≤ 140737488355328 ∧ (Lib.join xs sep).length ≤ 140737488355328 then some (Lib.join xs sep) else none

theorem spec_join {P : Program} {ρ : Ren} (L : Lays.n156 P ρ) (X : Builder.Extra P ρ) {xs : List (List UInt8)} {sep res : List UInt8} {h : AH} (hF : strJoin xs sep = some res) :
    Spec P (ρ.f 156) [.sl 1 (xs.map fun x => [.str x]), .str sep] h (fun rr hh => rr = .str res ∧ hh = h) := by
  unfold strJoin at hF
  split at hF
  case isFalse => cases hF
  rename_i hc
  obtain ⟨hN, hlen⟩ := hc
  injection hF with hF
  subst hF
  have hb : (Body.n156 ρ).body = some ((Body.n156 ρ).body.get rfl) := rfl
  refine ⟨fun vs w => by simp [callFunc, L.f156, Body.n156], fun B w0 _ g w vs r hv => ?_⟩
  obtain ⟨us, rfl⟩ : ∃ us : List Value, vs = us.toArray := ⟨vs.toList, by simp⟩
  simp only [VL, V] at hv
  obtain ⟨v1, s1, e1, ⟨a, c, rfl, hcap, hm, hp⟩, v2, s2, rfl, ⟨rfl, hs⟩, rfl⟩ := hv
  simp only [List.length_map] at hcap hm
  simp at e1
  subst e1
  have fin : ∀ e w', e = Ending.returned (.string ⟨(Lib.join xs sep).toArray⟩) → Below w.heap.size w w' → ∃ v r h' g', e = .returned v ∧ (r = .str (Lib.join xs sep) ∧ h' = h) ∧ g.le g' ∧ Rel B w0 g' h' w' ∧ V g' r v := by
    rintro e w' rfl hw
    refine ⟨_, _, h, g, rfl, ⟨rfl, rfl⟩, Gh.le.refl g, r.beyond hw, ?_⟩
    simp only [V]
    have hm2 : (140737488355328 : Nat) ≤ maxLen := by decide
    exact ⟨trivial, Nat.le_trans hlen hm2⟩
  rcases hp with hp | ⟨b, o, rfl, he⟩
  · have : xs = [] := by simpa using hp
    subst this
    refine (Any.strings_Join_none L X a c ⟨sep.toArray⟩ w).mono fun e w' ⟨h1, h2⟩ => fin e w' ?_ (h2 ▸ Below.refl _ _)
    rw [h1]; rfl
  · have key : (xs.map fun x => (⟨x.toArray⟩ : ByteArray)).map (·.data.toList) = xs := by simp [Function.comp_def]
    have hcells : ∀ (j : Nat) x, (xs.map fun x => (⟨x.toArray⟩ : ByteArray))[j]? = some x → w.cell? ⟨b, o + j, none⟩ = some (.string x) := by
      intro j x hj
      rw [List.getElem?_map] at hj
      rcases hx : xs[j]? with _ | y
      · simp [hx] at hj
      · simp [hx] at hj
        subst hj
        obtain ⟨_, h2⟩ := he.get j [.str y] (by rw [List.getElem?_map, hx]; rfl)
        simp only [VC, V, Nat.mul_one] at h2
        obtain ⟨⟨v, h3, _, rfl, _⟩, _⟩ := h2
        exact r.phi _ _ _ h3
    by_cases hx : xs = []
    · subst hx
      refine (Any.strings_Join_none L X _ c ⟨sep.toArray⟩ w).mono fun e w' ⟨h1, h2⟩ => fin e w' ?_ (h2 ▸ Below.refl _ _)
      rw [h1]; rfl
    · have hbk : b < w.heap.size := by
        obtain ⟨y, ys, rfl⟩ := List.exists_cons_of_ne_nil hx
        have := hcells 0 ⟨y.toArray⟩ (by simp)
        exact World.block_lt_of_cell? w ⟨b, o + 0, none⟩ this
      have := Any.strings_Join L X b o c (xs.map fun x => (⟨x.toArray⟩ : ByteArray)) ⟨sep.toArray⟩ w hcells hbk (by simpa using hN) (by simpa using hcap) (by rw [key]; simpa using hlen)
      rw [key] at this
      simp only [List.length_map] at this ⊢
      exact this.mono fun e w' ⟨h1, h2⟩ => fin e w' (by simpa using h1) h2

theorem splitK_le (sep : List UInt8) : ∀ (k : Nat) (s : List UInt8), ∀ p ∈ Lib.splitK sep 0 k s, p.length ≤ s.length
  | 0, s, p, hp => by simp [Lib.splitK] at hp; simp [hp]
  | k + 1, s, p, hp => by
    simp only [Lib.splitK] at hp
    split at hp
    · simp at hp; simp [hp]
    · rcases List.mem_cons.1 hp with rfl | hp
      · simp; omega
      · have := splitK_le sep k _ p hp
        simp at this; omega

/-- A text, cut at each place of the separator. -/
def strSplit (s sep : List UInt8) : Option (List (List UInt8)) := if s.length < 4294967281 ∧ 1 ≤ sep.length then some (Lib.split s sep) else none

theorem spec_split {P : Program} {ρ : Ren} (L : LaysM.n146 P ρ) {s sep : List UInt8} {res : List (List UInt8)} {h : AH} (hF : strSplit s sep = some res) :
    Spec P (ρ.f 146) [.str s, .str sep] h (fun rr hh => rr = .sl 1 (res.map fun x => [.str x]) ∧ hh = h) := by
  unfold strSplit at hF
  split at hF
  case isFalse => cases hF
  rename_i hc
  obtain ⟨hs, h1⟩ := hc
  injection hF with hF
  subst hF
  refine ⟨fun vs w => by simp [callFunc, L.f146, Body.n146], fun B w0 G g w vs r hv => ?_⟩
  obtain ⟨us, rfl⟩ : ∃ us : List Value, vs = us.toArray := ⟨vs.toList, by simp⟩
  simp only [VL, V] at hv
  obtain ⟨v1, s1, e1, ⟨rfl, hl1⟩, v2, s2, rfl, ⟨rfl, hl2⟩, rfl⟩ := hv
  try simp at e1
  subst e1
  obtain ⟨m, hm⟩ := L.s1_3 w0 G.sh
  have hlt : ρ.g 1 < w0.heap.size := World.block_lt_of_cell? w0 ⟨ρ.g 1, 0, none⟩ hm
  have hm' : w.cell? ⟨ρ.g 1, 0, none⟩ = some (.int .i64 m) := (r.below.cell (p := ⟨ρ.g 1, 0, none⟩) (Nat.lt_of_lt_of_le hlt G.sz)).trans hm
  refine (Any.strings_Split { L with } L.i9 ⟨s.toArray⟩ ⟨sep.toArray⟩ m w (by simpa [ByteArray.size] using hs) hm' (by simpa [ByteArray.size] using h1)).mono fun e w' ⟨he, hw⟩ => ?_
  have hcount : Lib.countB ⟨s.toArray⟩ ⟨sep.toArray⟩ = Lib.count s sep := by first | rfl | simp [Lib.countB]
  have hdata : (Lib.splitB ⟨sep.toArray⟩ 0 (Lib.count s sep) ⟨s.toArray⟩).map (·.data.toList) = Lib.split s sep := by rw [Lib.splitB_data]; rfl
  have hlen : (Lib.splitB ⟨sep.toArray⟩ 0 (Lib.count s sep) ⟨s.toArray⟩).length = Lib.count s sep + 1 := Lib.splitB_all ⟨sep.toArray⟩ (by simpa [ByteArray.size] using h1) 0 _ ⟨s.toArray⟩ hcount
  have hll : (Lib.split s sep).length = Lib.count s sep + 1 := by rw [← hdata, List.length_map, hlen]
  rw [hcount] at he hw
  generalize hpp : Lib.splitB ⟨sep.toArray⟩ 0 (Lib.count s sep) ⟨s.toArray⟩ = pp at *
  subst hw he
  have r1 := r.newRow (pp.map Value.string).toArray (ρ.t 9) (pp.map Value.string).toArray.size
  have hle := g.le_vow w.heap.size fun j => if j < (pp.map Value.string).toArray.size then (pp.map Value.string).toArray[j]? else none
  refine ⟨_, .sl 1 ((Lib.split s sep).map fun x => [.str x]), h, _, rfl, ⟨rfl, rfl⟩, hle, r1, ?_⟩
  unfold V
  rw [List.length_map]
  have hcl : Lib.count s sep + 1 ≤ maxLen := by
    have := Lib.countB_le ⟨sep.toArray⟩ (by simpa [ByteArray.size] using h1) (⟨s.toArray⟩ : ByteArray).size ⟨s.toArray⟩ (Nat.le_refl _)
    rw [hcount] at this
    have hsz : (⟨s.toArray⟩ : ByteArray).size = s.length := by simp [ByteArray.size]
    rw [hsz] at this
    simp only [maxLen]; omega
  refine ⟨some ⟨w.heap.size, 0, none⟩, Lib.count s sep + 1, by rw [hll], by rw [hll]; exact Nat.le_refl _, hcl, .inr ⟨w.heap.size, 0, rfl, ?_⟩⟩
  refine VE.mk fun j e hj => ?_
  rw [List.getElem?_map] at hj
  rcases hx : (Lib.split s sep)[j]? with _ | y
  · simp [hx] at hj
  · simp [hx] at hj
    subst hj
    refine ⟨rfl, ?_⟩
    simp only [VC, Nat.mul_one, Nat.zero_add, V]
    have hy : y.length ≤ s.length := splitK_le sep _ s y (List.mem_of_getElem? hx)
    rw [← hdata, List.getElem?_map] at hx
    rcases hq : pp[j]? with _ | q
    · simp [hq] at hx
    · simp [hq] at hx
      have hnone : g.Φ w.heap.size j = none := by
        rcases he' : g.Φ w.heap.size j with _ | v
        · rfl
        · exact absurd (r.phi_lt he') (Nat.lt_irrefl _)
      have hjl : j < pp.length := (List.getElem?_eq_some_iff.1 hq).1
      refine ⟨⟨.string q, ?_, rfl, ?_, Nat.le_trans hy hl1⟩, trivial⟩
      · simp [Gh.vow, hnone, hjl, hq]
        have := (List.getElem?_eq_some_iff.1 hq).2
        simpa using this
      · subst hx; simp
end Go.Vv
