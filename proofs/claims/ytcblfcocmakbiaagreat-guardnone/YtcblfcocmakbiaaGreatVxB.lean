/- Rounds and calls, computed. -/
import Derived.Test.YtcblfcocmakbiaaGreatVxA
namespace Go.Vv
set_option linter.unusedVariables false
set_option linter.unusedSimpArgs false
open Go Go.RowKit Go.Lib

/-! ### Calls of yield, where the record is as it is found. -/
def roundX' (id : Nat) (K : AV → AH → Prop) (x : Exit) (_ : List AV) (h : AH) : Prop := ∃ env ps a b, h.blk id = some (.loop .busy none env ps a b) ∧ match x with
  | .normal => K (.bool true) (h.put id (.loop .ready none env ps a b))
  | .ret => K (.bool false) (h.put id (.loop .done (some .ret) env ps a b))
  | .exit i => K (.bool false) (h.put id (.loop .done (some (.exit i)) env ps a b))
  | _ => False
def assignX' (P : Program) (id : Nat) (body : Code) (K : AV → AH → Prop) (x : Exit) (env : List AV) (h : AH) : Prop := match x with
  | .normal => ∃ env2 ps a b, h.blk id = some (.loop .ready none env2 ps a b) ∧ awp P body (roundX' id K) env (h.put id (.loop .busy none env2 ps a b))
  | _ => False
theorem specY_x {P : Program} {id : Nat} {args : List AV} {h : AH} {K : AV → AH → Prop} {env env1 : List AV} {ps : List Tmp} {assign body : Code} (hb : h.blk id = some (.loop .ready none env ⟨ps⟩ assign body)) (hl : args.length = ps.length)
    (hrf : (noRF assign && noRF body) = true) (he : setL env ps args = env1) (hw : awp P assign (assignX' P id body K) env1 h) : SpecY P id args h K := by
  subst he
  simp only [Bool.and_eq_true] at hrf
  intro B w0 _ g w vs c r hv hc
  have hb' : h.blks[id]? = some (.loop .ready none env ⟨ps⟩ assign body) := hb
  obtain ⟨hB, hlt, ⟨fn, tmps, d, hh, hve⟩, _⟩ := r.blk id c _ hc hb'
  have hsz : vs.size = ps.length := by rw [← hl, hv.length]; rfl
  refine ⟨_, _, _, _, run_yield hh (by simpa using hsz), fun n => ?_⟩
  refine roundIn_of_wpIn (F := Fence.wide) trivial ?_
  have hte : VL g (setL env ps args) (((⟨ps⟩ : Array Tmp).zip vs).foldl (fun t (p, v) => t.setIfInBounds p v) tmps).toList := by
    rw [← Array.foldl_toList, Array.toList_zip]
    exact setL_fold hve hv hl
  refine awp_sound (B := B) (w0 := w0) (gb := g) (g0 := g) (ro := some c) assign (.inr hrf.1) hw ⟨g, Gh.le.refl g, r, hte, Marks.nil _ _, Gh.le.refl g⟩ fun x env' h' a' w' hq hs => ?_
  obtain ⟨g1, hg1, r1, he1, hm1, hgb1⟩ := hs
  cases x with
  | normal =>
    obtain ⟨env2, ps2, as2, bd2, hb1, hq⟩ := hq
    have hb1' : h'.blks[id]? = some (.loop .ready none env2 ps2 as2 bd2) := hb1
    have hc1 := hg1.sig _ _ hc
    obtain ⟨_, _, ⟨fn1, tmps1, d1, hh1, hve1⟩, _⟩ := r1.blk id c _ hc1 hb1'
    refine ⟨_, run_beginRound hh1 rfl, ?_⟩
    have r2 : Rel B w0 g1 (h'.put id (.loop .busy none env2 ps2 as2 bd2)) (w'.putObj c (.loop { state := .busy, pending := none, fn := fn1, tmps := tmps1, params := ps2, assign := as2, body := bd2, defers := d1 })) :=
      r1.putObj hc1 hb1' (by simp) rfl rfl rfl World.putObj_size (fun b hb' => World.putObj_heap_other hb') ⟨fn1, tmps1, d1, World.putObj_heap_same (Array.getElem?_eq_some_iff.1 hh1).1, hve1⟩
    refine awp_sound (B := B) (w0 := w0) (gb := g) (g0 := g) (ro := some c) body (.inr hrf.2) hq ⟨g1, hg1, r2, he1, hm1, hgb1⟩ fun x env3 h3 a3 w3 hq3 hs3 => ?_
    obtain ⟨g3, hg3, r3, he3, _, _⟩ := hs3
    obtain ⟨env4, ps4, as4, bd4, hb4, hq3⟩ := hq3
    have fin : ∀ (jump : Option Code), K (.bool jump.isNone) (h3.put id (.loop (if jump.isNone then .ready else .done) jump env4 ps4 as4 bd4)) →
        ∃ v w4, (Instr.endRound c jump).run P w3 = .ok v w4 ∧ ∃ v' r h5 g5, Ending.returned v = .returned v' ∧ K r h5 ∧ g.le g5 ∧ Rel B w0 g5 h5 w4 ∧ V g5 r v' := by
      intro jump hK
      have hb4' : h3.blks[id]? = some (.loop .busy none env4 ps4 as4 bd4) := hb4
      have hc4 := hg3.sig _ _ hc
      obtain ⟨_, _, ⟨fn4, tmps4, d4, hh4, hve4⟩, _⟩ := r3.blk id c _ hc4 hb4'
      refine ⟨_, _, run_endRound jump hh4, _, _, _, g3, rfl, hK, hg3, ?_, by simp only [V]⟩
      exact r3.putObj hc4 hb4' (by simp) rfl rfl rfl World.putObj_size (fun b hb' => World.putObj_heap_other hb') ⟨fn4, tmps4, d4, World.putObj_heap_same (Array.getElem?_eq_some_iff.1 hh4).1, hve4⟩
    cases x with
    | normal => exact fin none hq3
    | ret => exact fin (some .ret) hq3
    | exit i => exact fin (some (.exit i)) hq3
    | _ => exact hq3.elim
  | _ => exact hq.elim

def endX (id : Nat) : XOut → Option (List (AV × AH))
  | (x, _, h) => match h.blk id with
    | some (.loop .busy none env ps a b) => match x with
      | .normal => some [(.bool true, h.put id (.loop .ready none env ps a b))]
      | .ret => some [(.bool false, h.put id (.loop .done (some .ret) env ps a b))]
      | .exit i => some [(.bool false, h.put id (.loop .done (some (.exit i)) env ps a b))]
      | _ => none
    | _ => none
def bodyX (P : Program) (pre : Pre) (call : CallX) (round : RoundX) (fuel : Nat) (id : Nat) (body : Code) : XOut → Option (List (AV × AH))
  | (x, e, h) => match x with
    | .normal => match h.blk id with
      | some (.loop .ready none env ps a b) => match xcode P pre call round fuel body e (h.put id (.loop .busy none env ps a b)) with
        | some l => bindX (endX id) l
        | none => none
      | _ => none
    | _ => none
def xround (P : Program) (pre : Pre) (call : CallX) (round : RoundX) (fuel : Nat) : RoundX := fun id args h =>
  match h.blk id with
  | some (.loop .ready none env ⟨ps⟩ assign body) => if (noRF assign && noRF body) = true ∧ args.length = ps.length then (match xcode P pre call round fuel assign (setL env ps args) h with
    | some l => bindX (bodyX P pre call round fuel id body) l
    | none => none) else none
  | _ => none

section
variable {P : Program} {pre : Pre} {call : CallX} {round : RoundX} {fuel : Nat}
theorem xround_sound (hp : PreOk pre) (hc : CallOk P call) (hr : RoundOk P round) : RoundOk P (xround P pre call round fuel) := by
  intro id args h l hx
  unfold xround at hx
  split at hx
  · rename_i env ps assign body hb
    split at hx
    · rename_i hok
      split at hx
      · rename_i m hm
        refine specY_x hb hok.2 hok.1 rfl (awp_mono ?_ assign _ h (xcode_sound hp hc hr assign hm))
        intro x e h1 hin
        obtain ⟨s, k1, k2⟩ := bindX_mem hx _ hin
        simp only [bodyX] at k1
        split at k1
        · split at k1
          · rename_i env2 ps2 a2 b2 hb2
            split at k1
            · rename_i m2 hm2
              refine ⟨env2, ps2, a2, b2, hb2, awp_mono ?_ body _ _ (xcode_sound hp hc hr body hm2)⟩
              intro y e3 h3 hin3
              obtain ⟨s3, q1, q2⟩ := bindX_mem k1 _ hin3
              simp only [endX] at q1
              split at q1
              · rename_i env4 ps4 a4 b4 hb4
                refine ⟨env4, ps4, a4, b4, hb4, ?_⟩
                split at q1
                · simp only [Option.some.injEq] at q1; subst q1; exact k2 _ (q2 _ (by simp))
                · simp only [Option.some.injEq] at q1; subst q1; exact k2 _ (q2 _ (by simp))
                · simp only [Option.some.injEq] at q1; subst q1; exact k2 _ (q2 _ (by simp))
                · cases q1
              · cases q1
            · cases k1
          · cases k1
        · cases k1
      · cases hx
    · cases hx
  · cases hx
end

/-! ### Functions. -/
/-- A result as one of its type. -/
def tyRes (P : Program) (fn : Func) : AV → AV
  | .tup vs => .tup (fixCells P fn.resultTypes.toList vs)
  | v => match fn.resultTypes.toList with
    | [t] => tyfix P t v
    | _ => v
theorem VL.fixC {P : Program} {g : Gh} : ∀ {ts : List TypeId} {bs : List AV} {vs : List Value}, VL g bs vs → VL g (fixCells P ts bs) vs
  | [], bs, vs, h => by cases bs <;> exact h
  | t :: ts, [], vs, h => h
  | t :: ts, a :: bs, vs, h => by
    simp only [VL] at h
    obtain ⟨v, s, rfl, h1, h2⟩ := h
    exact VL.cons h1.tyfix (VL.fixC h2)
theorem tyRes_le {P : Program} {fn : Func} (v : AV) : leV v (tyRes P fn v) := by
  intro g u hu
  unfold tyRes
  split
  · simp only [V] at hu ⊢
    obtain ⟨vs, rfl, h⟩ := hu
    exact ⟨vs, rfl, VL.fixC h⟩
  · split
    · exact hu.tyfix
    · exact hu
def finX (P : Program) (fn : Func) (n m : Nat) : XOut → Option (List (AV × AH))
  | (x, env, h) => match x with
    | .normal | .ret => match aRes P fn env h with
      | some r => some [trimX n m (tyRes P fn r) h]
      | none => none
    | _ => none
def xfun (P : Program) (pre : Pre) (call : CallX) (round : RoundX) (fuel : Nat) : CallX := fun f args h =>
  match P.funcs[f]? with
  | some fn => match fn.body with
    | some c => if (fn.name == "runtime.NumGoroutine") = false then (match xcode P pre call round fuel c (args ++ List.replicate (fn.ntmps - args.length) aundef) h with
      | some l => match bindX (finX P fn h.blks.length h.toks.length) l with
        | some l => some (gcL h.blks.length l)
        | none => none
      | none => none) else none
    | none => none
  | none => none
theorem finX_sound {P : Program} {fn : Func} {h0 : AH} {x : Exit} {env : List AV} {h : AH} {l : List (AV × AH)} (hx : finX P fn h0.blks.length h0.toks.length (x, env, h) = some l) : bodyQ P fn h0 (fun r hh => (r, hh) ∈ l) x env h := by
  have key : (match aRes P fn env h with
      | some r => some [trimX h0.blks.length h0.toks.length (tyRes P fn r) h]
      | none => none) = some l → (match aRes P fn env h with
      | some r => finK h0 (fun r hh => (r, hh) ∈ l) r h
      | none => False) := by
    intro hx
    split at hx
    · rename_i r hr
      simp only [Option.some.injEq] at hx
      subst hx
      unfold trimX
      split
      · rename_i hl
        simp only [Bool.and_eq_true, List.all_eq_true] at hl
        refine ⟨_, _, (wk.le (leL.cons (tyRes_le r) leL.nil)).trans (wk.cut (by simp [lowL, hl.1]) fun i k hi hk => .inr (hl.2 k ?_)), List.mem_singleton.2 rfl⟩
        exact List.mem_of_getElem? (i := i) (by rw [List.getElem?_take, if_pos hi]; exact hk)
      · exact ⟨_, h, wk.le (leL.cons (tyRes_le r) leL.nil), List.mem_singleton.2 rfl⟩
    · cases hx
  cases x with
  | normal => exact key hx
  | ret => exact key hx
  | _ => cases hx
theorem xfun_sound {P : Program} {pre : Pre} {call : CallX} {round : RoundX} {fuel : Nat} (hp : PreOk pre) (hc : CallOk P call) (hr : RoundOk P round) : CallOk P (xfun P pre call round fuel) := by
  intro f args h l hx
  unfold xfun at hx
  split at hx
  · rename_i fn hf
    split at hx
    · rename_i c hb
      split at hx
      · rename_i hn
        split at hx
        · rename_i m hm
          split at hx
          case h_2 => cases hx
          rename_i m2 hm2
          simp only [Option.some.injEq] at hx
          subst hx
          refine spec_of_body hf hb hn (awp_mono ?_ c _ h (xcode_sound hp hc hr c hm))
          intro x e h1 hin
          obtain ⟨s, k1, k2'⟩ := bindX_mem hm2 _ hin
          have k2 : ∀ r hh, (r, hh) ∈ s → finK h (fun r hh => (r, hh) ∈ gcL h.blks.length m2) r hh := fun r hh hx => by
            obtain ⟨h', q1, q2⟩ := gcL_mem (h0 := h) (n := h.blks.length) (k2' _ hx)
            exact ⟨r, h', q1, q2⟩
          have := finX_sound k1
          cases x with
          | normal =>
            simp only [bodyQ] at this ⊢
            split at this
            · obtain ⟨r, h', a, b⟩ := this; obtain ⟨r2, h2, a2, b2⟩ := k2 _ _ b; exact ⟨r2, h2, a.trans a2, b2⟩
            · exact this.elim
          | ret =>
            simp only [bodyQ] at this ⊢
            split at this
            · obtain ⟨r, h', a, b⟩ := this; obtain ⟨r2, h2, a2, b2⟩ := k2 _ _ b; exact ⟨r2, h2, a.trans a2, b2⟩
            · exact this.elim
          | _ => exact this
        · cases hx
      · cases hx
    · cases hx
  · cases hx

/-- A call that speaks of no mutable memory is run where nothing is. -/
def xcall0 (call : CallX) : CallX := fun f args h =>
  if lowArgs args then (match call f args ⟨[], []⟩ with
    | some l => if l.all fun p => p.1.gfree then some (l.map fun p => (p.1, h)) else call f args h
    | none => none) else call f args h
theorem xcall0_sound {P : Program} {call : CallX} (hc : CallOk P call) : CallOk P (xcall0 call) := by
  intro f args h l hx
  unfold xcall0 at hx
  split at hx
  · rename_i hl
    split at hx
    · rename_i m hm
      split at hx
      · rename_i hg
        simp only [Option.some.injEq] at hx
        subst hx
        rw [List.all_eq_true] at hg
        refine (spec_h0 (RdL.low hl) (by rw [← h0_eq]; exact hc _ _ _ _ hm) fun rr hh hin => hg _ hin).mono ?_
        rintro rr hh ⟨⟨h', hin⟩, rfl⟩
        exact List.mem_map.2 ⟨_, hin, rfl⟩
      · exact hc _ _ _ _ hx
    · cases hx
  · exact hc _ _ _ _ hx
def xall (P : Program) (pre : Pre) (lib : CallX) (own : FuncId → Bool) (fuel : Nat) : Nat → CallX × RoundX
  | 0 => (fun _ _ _ => none, fun _ _ _ => none)
  | n + 1 => (fun f args h => match lib f args h with
      | some l => some l
      | none => if own f then xcall0 (xfun P pre (xall P pre lib own fuel n).1 (xall P pre lib own fuel n).2 fuel) f args h
        else xcall0 (weakCall (xfun P pre (xall P pre lib own fuel n).1 (xall P pre lib own fuel n).2 fuel)) f args h,
    xround P pre (xall P pre lib own fuel n).1 (xall P pre lib own fuel n).2 fuel)
theorem xall_sound {P : Program} {pre : Pre} {lib : CallX} {own : FuncId → Bool} {fuel : Nat} (hp : PreOk pre) (hlib : CallOk P lib) : ∀ n, CallOk P (xall P pre lib own fuel n).1 ∧ RoundOk P (xall P pre lib own fuel n).2
  | 0 => ⟨fun _ _ _ _ h => (by simp [xall] at h), fun _ _ _ _ h => (by simp [xall] at h)⟩
  | n + 1 => by
    obtain ⟨h1, h2⟩ := xall_sound hp hlib (own := own) (fuel := fuel) n
    refine ⟨fun f args h l hx => ?_, xround_sound hp h1 h2⟩
    simp only [xall] at hx
    split at hx
    · rename_i m hm
      simp only [Option.some.injEq] at hx
      subst hx
      exact hlib _ _ _ _ hm
    · split at hx
      · exact xcall0_sound (xfun_sound hp h1 h2) _ _ _ _ hx
      · exact xcall0_sound (weakCall_ok (xfun_sound hp h1 h2)) _ _ _ _ hx
#print axioms xall_sound
end Go.Vv
