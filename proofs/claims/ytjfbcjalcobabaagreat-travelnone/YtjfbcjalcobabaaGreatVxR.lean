/- Rows that are changed in place, where all is known: where they begin, and where they are changed no more. -/
import Derived.Test.YtjfbcjalcobabaaGreatVxS
namespace Go.Vv
set_option linter.unusedVariables false
set_option linter.unusedSimpArgs false
open Go Go.RowKit Go.Lib
mutual
/-- A row's headers, as they read once it is changed no more. -/
def AV.fz (i k : Nat) (es : List (List AV)) : AV → AV
  | .rsl q j l n => if j = i ∧ l = k ∧ n = es.length then .sl k es else .rsl q j l n
  | .agg cs => .agg (fzL i k es cs)
  | .tup cs => .tup (fzL i k es cs)
  | .fn f a b => .fn f (fzL i k es a) (fzL i k es b)
  | v => v
def fzL (i k : Nat) (es : List (List AV)) : List AV → List AV
  | [] => []
  | a :: r => a.fz i k es :: fzL i k es r
end
theorem AV.fz_one (i k : Nat) (es : List (List AV)) (a : AV) (h : a.one = true) : (a.fz i k es).one = true := by
  cases a <;> first | exact h | (simp [AV.one] at h; done) | skip
  all_goals simp only [AV.fz]
  all_goals first | rfl | (split <;> rfl)
theorem fzL_ones (i k : Nat) (es : List (List AV)) : ∀ (l : List AV), l.all AV.one = true → (fzL i k es l).all AV.one = true
  | [], _ => rfl
  | a :: r, h => by
    simp only [List.all_cons, Bool.and_eq_true] at h
    simp only [fzL, List.all_cons, Bool.and_eq_true]
    exact ⟨AV.fz_one i k es a h.1, fzL_ones i k es r h.2⟩
section
variable {g g' : Gh} {i k : Nat} {es : List (List AV)}
mutual
theorem V.fz (hle : g.le g') (hz : ∀ q v, V g (.rsl q i k es.length) v → V g' (.sl k es) v) : ∀ (a : AV) (v : Value), V g a v → V g' (a.fz i k es) v
  | .rsl q j l n, v, h => by
    simp only [AV.fz]
    split
    · rename_i e
      obtain ⟨rfl, rfl, rfl⟩ := e
      exact hz q v h
    · exact h.mono hle
  | .agg cs, _, h => by
    simp only [AV.fz, V] at h ⊢
    obtain ⟨vs, e, h1⟩ := h
    exact ⟨vs, e, VA.mk (VL.fz hle hz cs _ h1.toVL) (fzL_ones i k es cs h1.ones)⟩
  | .tup cs, _, h => by
    simp only [AV.fz, V] at h ⊢
    obtain ⟨vs, e, h1⟩ := h
    exact ⟨vs, e, VL.fz hle hz cs _ h1⟩
  | .fn f a b, _, h => by
    simp only [AV.fz, V] at h ⊢
    obtain ⟨fs, cs, e, h1, h2⟩ := h
    exact ⟨fs, cs, e, VL.fz hle hz a _ h1, VL.fz hle hz b _ h2⟩
  | .bool _, _, h | .int _ _, _, h | .str _, _, h | .nilp, _, h | .nilm, _, h | .nilf, _, h | .nili, _, h | .nilsl, _, h | .glob _, _, h | .any, _, h | .opq, _, h | .sl _ _, _, h | .osl _ _ _, _, h | .iface _ _, _, h
  | .ptr _ _, _, h | .fptr _, _, h | .msl _ _ _ _, _, h | .rptr _ _ _ _ _, _, h | .map _, _, h | .yld _, _, h => h.mono hle
theorem VL.fz (hle : g.le g') (hz : ∀ q v, V g (.rsl q i k es.length) v → V g' (.sl k es) v) : ∀ (l : List AV) (vs : List Value), VL g l vs → VL g' (fzL i k es l) vs
  | [], _, h => h
  | a :: r, _, h => by
    simp only [fzL, VL] at h ⊢
    obtain ⟨v, s, e, h1, h2⟩ := h
    exact ⟨v, s, e, V.fz hle hz a v h1, VL.fz hle hz r s h2⟩
end
def fzP (i k : Nat) (es : List (List AV)) : List (AV × AV) → List (AV × AV)
  | [] => []
  | p :: r => (p.1.fz i k es, p.2.fz i k es) :: fzP i k es r
theorem ME.fz (hle : g.le g') (hz : ∀ q v, V g (.rsl q i k es.length) v → V g' (.sl k es) v) : ∀ {l : List (AV × AV)} {vs : List MapEntry}, ME g l vs → ME g' (fzP i k es l) vs
  | [], _, h => h
  | (a, b) :: r, _, h => by
    simp only [fzP, ME] at h ⊢
    obtain ⟨e, s, rfl, h1, h2, h3⟩ := h
    exact ⟨e, s, rfl, V.fz hle hz a _ h1, V.fz hle hz b _ h2, ME.fz hle hz h3⟩
def Blk.fz (i k : Nat) (es : List (List AV)) : Blk → Blk
  | .cells cs => .cells (fzL i k es cs)
  | .mapo l c => .mapo (fzP i k es l) c
  | .loop st pe env ps a b => .loop st pe (fzL i k es env) ps a b
  | b => b
theorem BlkOk.fz (hle : g.le g') (hz : ∀ q v, V g (.rsl q i k es.length) v → V g' (.sl k es) v) {w : World} {c : Nat} {b : Blk} (h : BlkOk g w c b) : BlkOk g' w c (b.fz i k es) := by
  cases b with
  | cells cs => obtain ⟨vs, t, h1, h2⟩ := h; exact ⟨vs, t, h1, VA.mk (VL.fz hle hz cs _ h2.toVL) (fzL_ones i k es cs h2.ones)⟩
  | mapo l c => obtain ⟨ents, n, h1, h2, h3⟩ := h; exact ⟨ents, n, h1, h2.fz hle hz, h3⟩
  | loop st pe env ps a b => obtain ⟨fn, tmps, d, h1, h2⟩ := h; exact ⟨fn, tmps, d, h1, VL.fz hle hz env _ h2⟩
  | _ => exact h.mono hle rfl
theorem Blk.fz_dead {b : Blk} (h : b.fz i k es = .dead) : b = .dead := by cases b <;> simp_all [Blk.fz]
theorem Blk.fz_row {b : Blk} {t l : Nat} {fs : List (List AV)} (h : b.fz i k es = .row t l fs) : b = .row t l fs := by cases b <;> simp_all [Blk.fz]
end
/-- What is known once a row is changed no more. -/
def AH.fz (h : AH) (q i k : Nat) (es : List (List AV)) : AH := { blks := (h.blks.set q .dead).map (Blk.fz i k es), toks := h.toks.set i (es.length + 1) }
theorem swk_fz {h : AH} {env : List AV} {q i k : Nat} {es : List (List AV)} (hb : h.blk q = some (.row i k es)) : swk env h (fzL i k es env) (h.fz q i k es) := by
  intro B w0 w g vs r hv
  have hb' : h.blks[q]? = some (.row i k es) := hb
  obtain ⟨g', hle, r', hδ, hz⟩ := r.freeze hb'
  refine ⟨g', hle, ?_, VL.fz hle hz env _ hv⟩
  have get : ∀ (j : Nat) (b : Blk), (h.fz q i k es).blks[j]? = some b → ∃ b0, (h.blks.set q .dead)[j]? = some b0 ∧ b0.fz i k es = b := fun j b hj => by
    simp only [AH.fz, List.getElem?_map, Option.map_eq_some_iff] at hj
    exact hj
  refine ⟨r'.below, r'.bsz, r'.phi, by have := r'.slen; simpa [AH.fz, AH.put] using this, fun j c b hc hj => ?_, r'.tlen, r'.tok, r'.sinj, r'.tinj, r'.sep, r'.dfr, fun j b hj hk => ?_, fun j1 j2 t k1 k2 e1 e2 hj1 hj2 => ?_⟩
  · obtain ⟨b0, h1, rfl⟩ := get j b hj
    obtain ⟨h2, h3, h4, h5⟩ := r'.blk j c b0 hc h1
    refine ⟨h2, h3, ?_, fun hd => h5 fun e => hd (by rw [e]; rfl)⟩
    by_cases hjq : j = q
    · subst hjq
      rw [List.getElem?_set_self (List.getElem?_eq_some_iff.1 hb').1] at h1
      injection h1 with h1
      subst h1
      trivial
    · rw [List.getElem?_set_ne (fun e => hjq e.symm)] at h1
      have hjl : j < g.σ.length := by rw [r.slen]; exact (List.getElem?_eq_some_iff.1 h1).1
      have hs := hle.sig j _ (List.getElem?_eq_getElem hjl)
      rw [hc] at hs
      have hs' : g.σ[j]? = some (some c) := by rw [List.getElem?_eq_getElem hjl, hs]
      exact (r.blk j c b0 hs' h1).2.2.1.fz hle hz
  · obtain ⟨b0, h1, rfl⟩ := get j b hk
    have := r'.row j b0 hj h1
    cases b0 with
    | row t l fs => exact this
    | dead => trivial
    | _ => exact this.elim
  · obtain ⟨b1, h1, q1⟩ := get j1 _ hj1
    obtain ⟨b2, h2, q2⟩ := get j2 _ hj2
    rw [Blk.fz_row q1] at h1
    rw [Blk.fz_row q2] at h2
    exact r'.rinj _ _ _ _ _ _ _ h1 h2
theorem thaw_x {h : AH} {env : List AV} {d k : Nat} (he : env[d]? = some (.osl none k [])) : swk env h (env.set d (.rsl h.blks.length h.toks.length k 0)) { blks := h.blks ++ [.row h.toks.length k []], toks := h.toks ++ [0] } := by
  have := swk_thaw (h := h) (env := env) (B := []) (T := []) (d := d) (k := k) (n := 0) (m := 0) (by simpa [evo] using he) rfl rfl rfl rfl rfl
  simpa [ext_nil, AH.ext] using this
/-- A cell of a boxed variable that holds an empty slice of its own becomes a row's header. -/
theorem VA.setK {g : Gh} : ∀ {as : List AV} {vs : List Value}, VA g as vs → ∀ (i : Nat) (a : AV), a.one = true → (∀ v, vs[i]? = some v → V g a v) → VA g (as.set i a) vs
  | [], _, h, _, _, _, _ => by simpa using h
  | b :: r, _, h, i, a, ha, hv => by
    simp only [VA] at h
    obtain ⟨v, s, rfl, ⟨h0, h1⟩, h2⟩ := h
    cases i with
    | zero => simp only [List.set_cons_zero, VA]; exact ⟨v, s, rfl, ⟨ha, hv v rfl⟩, h2⟩
    | succ i => simp only [List.set_cons_succ, VA]; exact ⟨v, s, rfl, ⟨h0, h1⟩, VA.setK h2 i a ha fun v h => hv v (by simpa using h)⟩
theorem thaw_cell {h : AH} {env : List AV} {i j k : Nat} {cs : List AV} (hb : h.blks[i]? = some (.cells cs)) (hc : cs[j]? = some (.osl none k [])) :
    swk env h env { blks := (h.blks ++ [Blk.row h.toks.length k []]).set i (.cells (cs.set j (.rsl h.blks.length h.toks.length k 0))), toks := h.toks ++ [0] } := fun B w0 w g vs r hv => by
  have hle := (g.le_addT ⟨0, none, true⟩).trans (Gh.le_addS _ none)
  have r1 := r.newRowT ⟨0, none, true⟩ k [] (fun _ _ _ h => by cases h) (fun _ _ h => by cases h) rowOk_nil
  have hlen : g.τ.length = h.toks.length := r.tlen
  have hil : i < h.blks.length := (List.getElem?_eq_some_iff.1 hb).1
  have hsl : i < g.σ.length := by rw [r.slen]; exact hil
  obtain ⟨x, hx⟩ : ∃ x, g.σ[i]? = some x := ⟨_, List.getElem?_eq_getElem hsl⟩
  cases x with
  | none => exact (r.row i _ hx hb).elim
  | some c =>
    obtain ⟨_, hlt, ⟨us, t, k1, k2⟩, _⟩ := r.blk i c _ hx hb
    have hx1 : ((g.addT ⟨0, none, true⟩).addS none).σ[i]? = some (some c) := by
      simp only [Gh.addT, Gh.addS]; rw [List.getElem?_append_left hsl]; exact hx
    have hb1 : (({ h with toks := h.toks ++ [0] } : AH).new (.row g.τ.length k [])).blks[i]? = some (.cells cs) := by
      simp only [AH.new]; rw [List.getElem?_append_left hil]; exact hb
    have hVA := VA.mono hle _ _ k2
    have r2 := r1.putObj (k' := .cells (cs.set j (.rsl h.blks.length h.toks.length k 0))) hx1 hb1 (by simp) rfl rfl rfl rfl (fun _ _ => rfl) ⟨us, t, k1, hVA.setK j _ rfl fun v hvj => ?_⟩
    · refine ⟨_, hle, ?_, VL.mono hle _ _ hv⟩
      have : (({ h with toks := h.toks ++ [0] } : AH).new (.row g.τ.length k [])).put i (.cells (cs.set j (.rsl h.blks.length h.toks.length k 0))) = { blks := (h.blks ++ [Blk.row h.toks.length k []]).set i (.cells (cs.set j (.rsl h.blks.length h.toks.length k 0))), toks := h.toks ++ [0] } := by
        rw [hlen]; rfl
      rw [← this]; exact r2
    · obtain ⟨a, ha, hV⟩ := k2.toVL.getR _ _ hvj
      rw [hc] at ha
      injection ha with ha
      subst ha
      rw [← hlen]; exact V.thaw hV

/-- A slot that holds nil, as an empty slice. -/
theorem nil_x {h : AH} {env : List AV} {d k : Nat} (he : env[d]? = some .nilsl) : swk env h (env.set d (.osl none k [])) h := fun B w0 w g vs r hv => ⟨g, Gh.le.refl g, r, VL.setE hv d _ fun v hvi => by
  obtain ⟨a, ha, hV⟩ := hv.getR _ _ hvi
  rw [he] at ha
  injection ha with ha
  subst ha
  simp only [V] at hV ⊢
  exact ⟨none, 0, hV, Nat.le_refl _, by simp [maxLen], .inl trivial, rfl⟩⟩

/-! ### What is told anew ahead of an operation. -/
mutual
/-- The mutable rows that a value speaks of. -/
def AV.rws : AV → List Nat
  | .rsl q _ _ _ => [q]
  | .agg cs => rwsL cs
  | .tup cs => rwsL cs
  | .fn _ a b => rwsL a ++ rwsL b
  | _ => []
def rwsL : List AV → List Nat
  | [] => []
  | a :: r => a.rws ++ rwsL r
end
def frz : List Nat → List AV → AH → List AV × AH
  | [], env, h => (env, h)
  | q :: r, env, h => match h.blk q with
    | some (.row i k es) => frz r (fzL i k es env) (h.fz q i k es)
    | _ => frz r env h
theorem frz_ok : ∀ (l : List Nat) (env : List AV) (h : AH), swk env h (frz l env h).1 (frz l env h).2
  | [], env, h => swk.refl _ _
  | q :: r, env, h => by
    unfold frz
    split
    · rename_i i k es hb
      exact (swk_fz hb).trans (frz_ok r _ _)
    · exact frz_ok r env h
#print axioms frz_ok
end Go.Vv
