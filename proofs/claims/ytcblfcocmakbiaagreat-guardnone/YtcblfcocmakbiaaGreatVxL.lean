/- Go's library, where what is known is computed: maps.Clone, strings.Join. -/
import Derived.Test.YtcblfcocmakbiaaGreatVxC
import Derived.Test.YtcblfcocmakbiaaGreatVvLb
import Derived.Test.YtcblfcocmakbiaaGreatVvLc
import Derived.Shelf.SlMaps.Clone
namespace Go.Vv
set_option linter.unusedVariables false
set_option linter.unusedSimpArgs false
open Go Go.RowKit Go.Lib Go.Shelf

theorem spec_mclone {P : Program} {ρ : Ren} (L : Go.Proofs.SlLaysW.n5 P ρ) {id : Nat} {es : List (AV × AV)} {h : AH} (hb : h.blk id = some (.mapo es 0)) :
    Spec P (ρ.f 5) [.map id] h fun rr hh => (rr, hh) ∈ [((.map h.blks.length : AV), h.new (.mapo es 0))] := by
  refine ⟨fun vs w => L.f5.enters rfl vs w, fun B w0 _ g w vs r hv => ?_⟩
  obtain ⟨us, rfl⟩ : ∃ us : List Value, vs = us.toArray := ⟨vs.toList, by simp⟩
  simp only [VL, V] at hv
  obtain ⟨v1, s1, e1, ⟨c, hc, rfl⟩, rfl⟩ := hv
  subst e1
  obtain ⟨_, hlt, ⟨ents, n, k1, k2, k3⟩, _⟩ := r.blk id c _ hc hb
  refine (Go.Proofs.AnyW.maps_Clone L c ents n w k1).mono ?_
  rintro e w' ⟨rfl, rfl⟩
  refine ⟨_, _, h.new (.mapo es 0), g.addS w.heap.size, rfl, List.mem_singleton.2 rfl, g.le_addS _, r.newBlk _ _ ⟨ents, n, heap_alloc_new w _, k2.mono (g.le_addS _), k3⟩, ?_⟩
  have hsl := r.slen
  simp only [V, Gh.addS]
  exact ⟨w.heap.size, by rw [← hsl]; simp, rfl⟩
/-- maps.Clone, of those numbers. -/
def mcLib (F : List FuncId) : CallX := fun f args h => if F.contains f then (match args with
  | [.map id] => match h.blk id with
    | some (.mapo es 0) => some [(.map h.blks.length, h.new (.mapo es 0))]
    | _ => none
  | _ => none) else none
theorem mcLib_ok {P : Program} {F : List FuncId} (hF : ∀ f ∈ F, ∃ ρ : Ren, Go.Proofs.SlLaysW.n5 P ρ ∧ ρ.f 5 = f) : CallOk P (mcLib F) := by
  intro f args h l hx
  unfold mcLib at hx
  split at hx
  · rename_i hf
    obtain ⟨ρ, L, rfl⟩ := hF f (by simpa using hf)
    split at hx
    · split at hx
      · rename_i id es hb
        simp only [Option.some.injEq] at hx
        subst hx
        exact spec_mclone L hb
      · cases hx
    · cases hx
  · cases hx

def strsX : List (List AV) → Option (List (List UInt8))
  | [] => some []
  | [.str s] :: r => match strsX r with
    | some l => some (s :: l)
    | none => none
  | _ => none
theorem strsX_eq : ∀ {es : List (List AV)} {l : List (List UInt8)}, strsX es = some l → es = l.map fun x => [AV.str x]
  | [], l, h => by simp only [strsX, Option.some.injEq] at h; subst h; rfl
  | e :: r, l, h => by
    unfold strsX at h
    split at h
    · rename_i h0; cases h0
    · rename_i s r' h0
      injection h0 with h1 h2
      subst h1 h2
      split at h
      · rename_i l' hl
        simp only [Option.some.injEq] at h
        subst h
        rw [strsX_eq hl]; rfl
      · cases h
    · cases h
/-- strings.Join, of that number. -/
def joinLib (F : FuncId) : CallX := fun f args h => if f = F then (match args with
  | [.sl 1 es, .str sep] | [.osl _ 1 es, .str sep] => match strsX es with
    | some l => match strJoin l sep with
      | some r => some [(.str r, h)]
      | none => none
    | none => none
  | _ => none) else none
theorem joinLib_ok {P : Program} {ρ : Ren} (L : Go.Proofs.Lays.n156 P ρ) (X : Go.Proofs.Builder.Extra P ρ) {F : FuncId} (hF : ρ.f 156 = F) : CallOk P (joinLib F) := by
  intro f args h l hx
  unfold joinLib at hx
  split at hx
  · rename_i hf
    subst hf hF
    have main : ∀ es sep xs r, strsX es = some xs → strJoin xs sep = some r → Spec P (ρ.f 156) [.sl 1 es, .str sep] h fun rr hh => (rr, hh) ∈ [((.str r : AV), h)] := fun es sep xs r h1 h2 => by
      rw [strsX_eq h1]
      refine (spec_join L X h2).mono ?_
      rintro rr hh ⟨rfl, rfl⟩
      exact List.mem_singleton.2 rfl
    split at hx
    · split at hx
      · rename_i h1
        split at hx
        · rename_i h2
          simp only [Option.some.injEq] at hx
          subst hx
          exact main _ _ _ _ h1 h2
        · cases hx
      · cases hx
    · split at hx
      · rename_i h1
        split at hx
        · rename_i h2
          simp only [Option.some.injEq] at hx
          subst hx
          exact (main _ _ _ _ h1 h2).le (leL.cons (leV.osl _ _ _) (leL.refl _))
        · cases hx
      · cases hx
    · cases hx
  · cases hx
/-- strings.Compare, of that number. -/
def scmpLib (F : FuncId) : CallX := fun f args h => if f = F then (match args with
  | [.str a, .str b] => some [(.int .i64 (Go.Lib.compareBytes a b), h)]
  | _ => none) else none
theorem scmpLib_ok {P : Program} {ρ : Ren} (L : Go.Proofs.Lays.n106 P ρ) {F : FuncId} (hF : ρ.f 106 = F) : CallOk P (scmpLib F) := by
  intro f args h l hx
  unfold scmpLib at hx
  split at hx
  · rename_i hf
    subst hf hF
    split at hx
    · simp only [Option.some.injEq] at hx
      subst hx
      refine (spec_scompare L).mono ?_
      rintro rr hh ⟨rfl, rfl⟩
      exact List.mem_singleton.2 rfl
    · cases hx
  · cases hx
/-- Two libraries. -/
def orLib (a b : CallX) : CallX := fun f args h => match a f args h with
  | some l => some l
  | none => b f args h
theorem orLib_ok {P : Program} {a b : CallX} (ha : CallOk P a) (hb : CallOk P b) : CallOk P (orLib a b) := by
  intro f args h l hx
  unfold orLib at hx
  split at hx
  · rename_i m hm
    simp only [Option.some.injEq] at hx
    subst hx
    exact ha _ _ _ _ hm
  · exact hb _ _ _ _ hx
#print axioms orLib_ok
end Go.Vv
