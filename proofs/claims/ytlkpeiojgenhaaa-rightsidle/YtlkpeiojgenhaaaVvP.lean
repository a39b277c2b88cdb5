/- The weakest preconditions over abstract states are sound: code, and functions. -/
import Derived.Test.YtlkpeiojgenhaaaVvO
namespace Go.Vv
open Go Go.RowKit Go.Lib

theorem min_exists {p : Nat → Prop} (h : ∃ n, p n) : ∃ m, p m ∧ ∀ k, p k → m ≤ k := by
  obtain ⟨n, hn⟩ := h
  induction n using Nat.strongRecOn with
  | _ n ih =>
    by_cases hk : ∃ k, k < n ∧ p k
    · obtain ⟨k, h1, h2⟩ := hk; exact ih k h1 h2
    · exact ⟨n, hn, fun k hp => by
        rcases Nat.lt_or_ge k n with h1 | h1
        · exact absurd ⟨k, h1, hp⟩ hk
        · exact h1⟩
open Classical in
noncomputable def least (p : Nat → Prop) : Nat := if h : ∃ n, p n then Classical.choose (min_exists h) else 0
theorem least_spec {p : Nat → Prop} (h : ∃ n, p n) : p (least p) := by
  unfold least; rw [dif_pos h]; exact (Classical.choose_spec (min_exists h)).1
theorem least_le {p : Nat → Prop} {n : Nat} (h : p n) : least p ≤ n := by
  unfold least; rw [dif_pos ⟨n, h⟩]; exact (Classical.choose_spec (min_exists ⟨n, h⟩)).2 n h

section
variable {P : Program} {B : Nat} {w0 : World} {D : List Deferred} {ro : Option Nat} {n : Nat}

theorem awp_sound : ∀ (c : Code) {g0 : Gh} {QA : Exit → List AV → AH → Prop} {env : List AV} {h : AH} {a : Act} {w : World}, awp P c QA env h → St B w0 g0 D env h a w → ∀ {Q : Exit → Act → World → Prop},
    (∀ x env' h' a' w', QA x env' h' → St B w0 g0 D env' h' a' w' → Q x a' w') → c.wpIn (WF ro) n P Q a w
  | .skip, _, _, _, _, _, _, hw, hs, _, hQ => wpIn_skip (hQ _ _ _ _ _ hw hs)
  | .label _, _, _, _, _, _, _, hw, hs, _, hQ => wpIn_label (hQ _ _ _ _ _ hw hs)
  | .exit _, _, _, _, _, _, _, hw, hs, _, hQ => wpIn_exit (hQ _ _ _ _ _ hw hs)
  | .ret, _, _, _, _, _, _, hw, hs, _, hQ => wpIn_ret (hQ _ _ _ _ _ hw hs)
  | .region id ops draw, g0, QA, env, h, a, w, hw, hs, Q, hQ => by
    cases draw with
    | false =>
      have h1 := ops_sound (ro := ro) (n := n) (Q := Q) (fun env h a w => hQ .normal env h a w) ops.toList 0 env h a w rfl hw hs
      refine wpIn_region ?_
      rw [List.range_eq_range']
      simpa using h1
    | true =>
      obtain ⟨⟨hm, hok⟩, hw⟩ := hw
      obtain ⟨vs, hs', h0, h1, h2⟩ := draw_seq ops.toList 0 env h rfl (Nat.zero_le _) hw
      have hT : (fun w : Nat => decide (0 ≤ w)) = fun _ => true := by funext w; simp
      rw [hT] at h1 h2
      refine wpIn_region_any hm (draw_sound hok (vs := vs) (hs := hs') (env := env) (fun i o ho => h1 i o (Nat.zero_le _) ho) (fun a w hst => hQ .normal _ _ _ _ h2 hst) ops.size _ a _ (by simp) ?_ (fun i j hi => ?_) ?_)
      · exact Nat.le_trans List.countP_le_length (by simp)
      · exfalso
        rw [Array.getD_eq_getD_getElem?] at hi
        rcases Nat.lt_or_ge i ops.size with hl | hl
        · simp [hl] at hi
        · rw [Array.getElem?_eq_none (by simpa using hl)] at hi; simp at hi
      · have hF : ∀ w, (Array.replicate ops.size false).getD w false = false := fun w => by
          rw [Array.getD_eq_getD_getElem?]
          rcases Nat.lt_or_ge w ops.size with hl | hl
          · simp [hl]
          · rw [Array.getElem?_eq_none (by simpa using hl)]; rfl
        rw [fE_none _ fun w _ => hF w]
        have hH : fH ops hs' (fun i => (Array.replicate ops.size false).getD i false) ops.size = h := by
          have : ∀ k, fH ops hs' (fun i => (Array.replicate ops.size false).getD i false) k = h := fun k => by
            induction k with
            | zero => exact h0
            | succ k ih => rw [fH, hF, Bool.false_and]; exact ih
          exact this _
        rw [hH]
        obtain ⟨g, k1, k2, k3, k4⟩ := hs
        exact ⟨g, k1, k2.drew, k3, k4⟩
  | .seq x y, g0, QA, env, h, a, w, hw, hs, Q, hQ => by
    obtain ⟨g, hg, r, he, hD⟩ := hs
    refine wpIn_seq (awp_sound (g0 := g) x hw ⟨g, Gh.le.refl g, r, he, hD⟩ fun e env' h' a' w' hq hs' => ?_)
    obtain ⟨g1, hg1, r1, he1, hD1⟩ := hs'
    cases e with
    | normal =>
      obtain ⟨env2, h2, hk, hq⟩ := hq
      obtain ⟨g2, hg2, r2, he2⟩ := hk B w0 w' w g g1 _ r hg1 r1 he1
      exact awp_sound (g0 := g0) y hq ⟨g2, hg.trans hg2, r2, he2, hD1⟩ hQ
    | _ => exact hQ _ _ _ _ _ hq ⟨g1, hg.trans hg1, r1, he1, hD1⟩
  | .cond c x y, g0, QA, env, h, a, w, hw, hs, Q, hQ => by
    obtain ⟨hc, hw⟩ := hw
    have hs' := hs
    obtain ⟨g, hg, r, he, hD⟩ := hs'
    have hV := V.ev he hc
    split at hw
    · rename_i b hb
      rw [hb] at hV
      simp only [V] at hV
      refine wpIn_cond hV ?_
      cases b with
      | true => exact awp_sound x hw hs hQ
      | false => exact awp_sound y hw hs hQ
    · exact hw.elim
  | .block id body, g0, QA, env, h, a, w, hw, hs, Q, hQ => by
    refine wpIn_block (awp_sound body hw hs fun e env' h' a' w' hq hs' => ?_)
    cases e with
    | exit id' =>
      simp only [Exit.inBlock]
      by_cases hid : id' = id
      · simp only [hid, if_true] at hq ⊢; exact hQ _ _ _ _ _ hq hs'
      · simp only [hid, if_false] at hq ⊢; exact hQ _ _ _ _ _ hq hs'
    | _ => exact hQ _ _ _ _ _ hq hs'
  | .loop body, g0, QA, env, h, a, w, hw, hs, Q, hQ => by
    obtain ⟨I, ⟨m0, env0, h0, hk0, hI⟩, hround⟩ := hw
    let p : Act → World → Nat → Prop := fun a w m => ∃ env h, I m env h ∧ St B w0 g0 D env h a w
    obtain ⟨g, hg, r, he, hD⟩ := hs
    obtain ⟨g2, hg2, r2, he2⟩ := hk0 B w0 w w g g _ r (Gh.le.refl g) r he
    refine wpIn_loop (fun a w => ∃ m, p a w m) (fun a w => least (p a w)) ⟨_, env0, h0, hI, g2, hg.trans hg2, r2, he2, hD⟩ fun a w hI' => ?_
    obtain ⟨env', h', hI2, hs2⟩ := least_spec hI'
    obtain ⟨g, hg, r, he, hD⟩ := hs2
    refine awp_sound (g0 := g) body (hround _ env' h' hI2) ⟨g, Gh.le.refl g, r, he, hD⟩ fun e env2 h2 a2 w2 hq hs3 => ?_
    obtain ⟨g1, hg1, r1, he1, hD1⟩ := hs3
    cases e with
    | normal =>
      obtain ⟨m, env3, h3, hm, hk, hI3⟩ := hq
      obtain ⟨g2, hg2, r2, he2⟩ := hk B w0 w2 w g g1 _ r hg1 r1 he1
      have hp : p a2 w2 m := ⟨env3, h3, hI3, g2, hg.trans hg2, r2, he2, hD1⟩
      exact ⟨⟨_, hp⟩, Nat.lt_of_le_of_lt (least_le hp) hm⟩
    | _ => exact hQ _ _ _ _ _ hq ⟨g1, hg.trans hg1, r1, he1, hD1⟩
  | .rangeFunc _ _ _ _, _, _, _, _, _, _, hw, _, _, _ => hw.elim
  | .scope _, _, _, _, _, _, _, hw, _, _, _ => hw.elim
  | .goto _, _, _, _, _, _, _, hw, _, _, _ => hw.elim
  | .refuse _, _, _, _, _, _, _, hw, _, _, _ => hw.elim
end

/-! ### Functions. -/
def aResL (P : Program) (env : List AV) (h : AH) : List ResultVar → Option (List AV)
  | [] => some []
  | .tmp t :: r => match aResL P env h r with
    | some vs => some (env.getD t aundef :: vs)
    | none => none
  | .cell a t :: r => match P.underlying t, P.info? t with
    | some d, some i => match aLoad h (isAggD d) i.size (env.getD a aundef), aResL P env h r with
      | some v, some vs => some (tyfix P t v :: vs)
      | _, _ => none
    | _, _ => none
def aRes (P : Program) (fn : Func) (env : List AV) (h : AH) : Option AV :=
  match aResL P env h fn.results.toList with
  | some [v] => some v
  | some vs => some (.tup vs)
  | none => none

def leV (a b : AV) : Prop := ∀ g v, V g a v → V g b v
theorem leV.refl (a : AV) : leV a a := fun _ _ h => h
/-- What a call leaves: all of it, or what the caller's blocks are, where the result speaks of no other; the result may be told more loosely. -/
def finK (h0 : AH) (K : AV → AH → Prop) (r0 : AV) (h : AH) : Prop := ∃ r h', wk h0 [r0] h [r] h' ∧ K r h'
def bodyQ (P : Program) (fn : Func) (h0 : AH) (K : AV → AH → Prop) (x : Exit) (env : List AV) (h : AH) : Prop :=
  match x with
  | .normal | .ret => match aRes P fn env h with
    | some r => finK h0 K r h
    | none => False
  | _ => False

section
variable {P : Program}
def resF (tmps : Array Value) : ResultVar → Sem Value
  | .tmp t => pure (tmps.getD t undef)
  | .cell a t => do loadVar t (← asAddr (tmps.getD a undef))
theorem results_eq (fn : Func) (tmps : Array Value) : results fn tmps = (do let vs ← fn.results.mapM (resF tmps); pure (if h : vs.size = 1 then vs[0] else .tuple vs)) := by
  unfold results resF
  rfl
theorem resL_sound {B : Nat} {w0 w : World} {g : Gh} {h : AH} (r : Rel B w0 g h w) {env : List AV} {tmps : Array Value} (he : VL g env tmps.toList) : ∀ {rs : List ResultVar} {vs : List AV}, aResL P env h rs = some vs →
    ∃ us, (rs.mapM (resF tmps)).run P w = .ok us w ∧ VL g vs us
  | [], vs, h => by simp only [aResL, Option.some.injEq] at h; subst h; exact ⟨[], by simp, by simp [VL]⟩
  | .tmp t :: rs, vs, h => by
    simp only [aResL] at h
    split at h
    · rename_i vs' hr
      cases h
      obtain ⟨us, h1, h2⟩ := resL_sound r he hr
      refine ⟨tmps.getD t undef :: us, by simp only [List.mapM_cons, Sem.run_bind, resF, Sem.run_pure, Result.andThen_ok, h1], VL.cons ?_ h2⟩
      exact V.ev (a := { tmps := tmps, defers := [] }) he (x := .tmp t) rfl
    · cases h
  | .cell ad t :: rs, vs, h => by
    simp only [aResL] at h
    split at h
    · rename_i d i hd hi
      split at h
      · rename_i v vs' hl hr
        cases h
        obtain ⟨us, h1, h2⟩ := resL_sound r he hr
        have hp := V.ev (a := { tmps := tmps, defers := [] }) he (x := .tmp ad) rfl
        obtain ⟨u, h3, h4⟩ := load_sound r hd hi hp hl
        refine ⟨u :: us, ?_, VL.cons h4.tyfix h2⟩
        have h5 : (do loadVar t (← asAddr (tmps.getD ad undef)) : Sem Value).run P w = .ok u w := by
          have h6 : Act.eval { tmps := tmps, defers := [] } (.tmp ad) = tmps.getD ad undef := rfl
          rw [h6] at h3
          generalize tmps.getD ad undef = pv at h3 ⊢
          cases pv with
          | pointer x =>
            cases x with
            | none => simp [Instr.loadAt, Instr.sureAddr] at h3
            | some x => simpa [Instr.loadAt, Instr.sureAddr, asAddr] using h3
          | _ => simp [Instr.loadAt, Instr.sureAddr] at h3
        have h7 : (resF tmps (.cell ad t)).run P w = .ok u w := h5
        simp only [List.mapM_cons, Sem.run_bind, h7, Result.andThen_ok, h1, Sem.run_pure]
      · cases h
    · cases h

theorem res_sound {B : Nat} {w0 w : World} {g : Gh} {h : AH} (r : Rel B w0 g h w) {env : List AV} {tmps : Array Value} (he : VL g env tmps.toList) {fn : Func} {v : AV} (hv : aRes P fn env h = some v) :
    ∃ u, (results fn tmps).run P w = .ok u w ∧ V g v u := by
  unfold aRes at hv
  have key : ∀ vs, aResL P env h fn.results.toList = some vs → ∃ us : List Value, (results fn tmps).run P w = .ok (if h : us.length = 1 then us[0] else .tuple us.toArray) w ∧ VL g vs us := by
    intro vs hvs
    obtain ⟨us, h1, h2⟩ := resL_sound r he hvs
    refine ⟨us, ?_, h2⟩
    rw [results_eq, Array.mapM_eq_mapM_toList]
    simp only [Sem.run_bind, Sem.run_map, h1, Result.andThen_ok, Sem.run_pure]
    congr 1
  split at hv
  · rename_i v' hvs
    cases hv
    obtain ⟨us, h1, h2⟩ := key _ hvs
    simp only [VL] at h2
    obtain ⟨u, s, rfl, h3, rfl⟩ := h2
    exact ⟨u, by simpa using h1, h3⟩
  · rename_i vs hne hvs
    cases hv
    obtain ⟨us, h1, h2⟩ := key _ hvs
    have hl : us.length ≠ 1 := by
      intro hl
      rw [← h2.length] at hl
      rcases vs with _ | ⟨x, _ | ⟨y, r⟩⟩ <;> simp at hl
      exact hne x rfl
    refine ⟨.tuple us.toArray, by rw [h1, dif_neg hl], ?_⟩
    simp only [V]; exact ⟨_, rfl, h2⟩
  · cases hv

theorem VL.undefs {g : Gh} : ∀ k, VL g (List.replicate k aundef) (List.replicate k undef)
  | 0 => by simp [VL]
  | k + 1 => by simp only [List.replicate_succ]; exact VL.cons V.ofUndef (VL.undefs k)

/-- **A function's contract, out of its body.** -/
theorem spec_of_body {f : FuncId} {fn : Func} {c : Code} (hf : P.funcs[f]? = some fn) (hb : fn.body = some c) (hname : (fn.name == "runtime.NumGoroutine") = false) {args : List AV} {h : AH} {K : AV → AH → Prop}
    (hw : awp P c (bodyQ P fn h K) (args ++ List.replicate (fn.ntmps - args.length) aundef) h) : Spec P f args h K := by
  have hn : ¬ fn.name = "runtime.NumGoroutine" := by simpa using hname
  refine ⟨fun vs w => by simp [callFunc, hf, hb, hn], fun B w0 g w vs r hv => ?_⟩
  refine callsIn_wide.1 (callsIn_of_wp (F := WF none) (n := 0) hf hb trivial ?_ rfl)
  have hlen : args.length = vs.size := by rw [hv.length]; rfl
  refine awp_sound (B := B) (w0 := w0) (g0 := g) (D := []) c hw ⟨g, Gh.le.refl g, r, ?_, rfl⟩ fun x env' h' a' w' hq hs => ?_
  · simp only [Array.toList_append, Array.toList_replicate, hlen]
    exact VL.append hv (VL.undefs _)
  · obtain ⟨g', hg, r', he, hD⟩ := hs
    have fin : (match aRes P fn env' h' with | some r => finK h K r h' | none => False) → a'.defers = [] ∧ ∃ v, (results fn a'.tmps).run P w' = .ok v w' ∧
        ∃ v' r h2 g2, Ending.returned v = .returned v' ∧ K r h2 ∧ g.le g2 ∧ Rel B w0 g2 h2 w' ∧ V g2 r v' := by
      intro hfin
      split at hfin
      · rename_i rv hr
        obtain ⟨u, h1, h2⟩ := res_sound r' he hr
        refine ⟨hD, u, h1, u, ?_⟩
        obtain ⟨rv, h2', hwk, hK⟩ := hfin
        obtain ⟨g2, k1, k2, k3⟩ := hwk B w0 w' w g g' [u] r hg r' (VL.cons h2 (by simp [VL]))
        simp only [VL] at k3
        obtain ⟨v, s, e, k4, _⟩ := k3
        injection e with e1 e2
        subst e1
        exact ⟨rv, h2', g2, rfl, hK, k1, k2, k4⟩
      · exact hfin.elim
    cases x with
    | normal => exact fin hq
    | ret => exact fin hq
    | _ => exact hq.elim
end
#print axioms spec_of_body
end Go.Vv
