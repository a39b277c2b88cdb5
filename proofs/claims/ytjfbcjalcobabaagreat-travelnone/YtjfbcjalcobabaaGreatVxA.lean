/- Where all is known, what a function comes to is computed: the list of all its outcomes. -/
import Derived.Test.YtjfbcjalcobabaaGreatVvAn
import Derived.Test.YtjfbcjalcobabaaGreatVxR
namespace Go.Vv
set_option linter.unusedVariables false
set_option linter.unusedSimpArgs false
open Go Go.RowKit Go.Lib

def bindX {α β : Type} (f : α → Option (List β)) : List α → Option (List β)
  | [] => some []
  | a :: r => match f a with
    | none => none
    | some s => match r with
      | [] => some s
      | b :: r => match bindX f (b :: r) with
        | some t => some (s ++ t)
        | none => none
theorem bindX_mem {α β : Type} {f : α → Option (List β)} : ∀ {l : List α} {m : List β}, bindX f l = some m → ∀ a ∈ l, ∃ s, f a = some s ∧ ∀ x ∈ s, x ∈ m
  | [], _, _, a, ha => by cases ha
  | [b], m, h, a, ha => by
    simp only [List.mem_singleton] at ha
    subst ha
    unfold bindX at h
    split at h
    · cases h
    · rename_i s hs
      simp only [Option.some.injEq] at h
      exact ⟨s, hs, fun x hx => h ▸ hx⟩
  | b :: c :: r, m, h, a, ha => by
    unfold bindX at h
    split at h
    · cases h
    · rename_i s hs
      simp only at h
      split at h
      · rename_i t ht
        simp only [Option.some.injEq] at h
        subst h
        rcases List.mem_cons.1 ha with rfl | ha
        · exact ⟨s, hs, fun x hx => List.mem_append_left _ hx⟩
        · obtain ⟨s', h1, h2⟩ := bindX_mem ht a ha
          exact ⟨s', h1, fun x hx => List.mem_append_right _ (h2 x hx)⟩
      · cases h

mutual
/-- It speaks of no memory at all. -/
def AV.gfree : AV → Bool
  | .bool _ | .int _ _ | .str _ | .nilp | .nilm | .nilf | .nili | .nilsl | .glob _ | .any | .opq => true
  | .sl _ es => es.isEmpty
  | .osl none _ es => es.isEmpty
  | .fn _ a b => gfreeL a && gfreeL b
  | .iface _ v => v.gfree
  | .agg cs => gfreeL cs
  | .tup cs => gfreeL cs
  | _ => false
def gfreeL : List AV → Bool
  | [] => true
  | a :: r => a.gfree && gfreeL r
end
mutual
theorem V.gfree {g g' : Gh} : ∀ (a : AV) (v : Value), a.gfree = true → V g a v → V g' a v
  | .bool _, _, _, h | .int _ _, _, _, h | .str _, _, _, h | .nilp, _, _, h | .nilm, _, _, h | .nilf, _, _, h | .nili, _, _, h | .nilsl, _, _, h | .glob _, _, _, h => by simpa only [V] using h
  | .any, _, _, _ => by simp only [V]
  | .opq, _, _, h => by simpa only [V] using h
  | .sl k es, _, hs, h => by
    simp only [AV.gfree, List.isEmpty_iff] at hs
    subst hs
    simp only [V] at h ⊢
    obtain ⟨a, c, e, h1, h2, _⟩ := h
    exact ⟨a, c, e, h1, h2, .inl trivial⟩
  | .osl none k es, _, hs, h => by
    simp only [AV.gfree, List.isEmpty_iff] at hs
    subst hs
    simp only [V] at h ⊢
    obtain ⟨a, c, e, h1, h2, _, h3⟩ := h
    exact ⟨a, c, e, h1, h2, .inl trivial, h3⟩
  | .fn f x y, _, hs, h => by
    simp only [AV.gfree, Bool.and_eq_true] at hs
    simp only [V] at h ⊢
    obtain ⟨fs, cs, e, h1, h2⟩ := h
    exact ⟨fs, cs, e, VL.gfree x _ hs.1 h1, VL.gfree y _ hs.2 h2⟩
  | .iface t x, _, hs, h => by
    simp only [AV.gfree] at hs
    simp only [V] at h ⊢
    obtain ⟨u, e, h1⟩ := h
    exact ⟨u, e, V.gfree x u hs h1⟩
  | .agg cs, _, hs, h => by
    simp only [AV.gfree] at hs
    simp only [V] at h ⊢
    obtain ⟨vs, e, h1⟩ := h
    exact ⟨vs, e, VA.mk (VL.gfree cs _ hs h1.toVL) h1.ones⟩
  | .tup cs, _, hs, h => by
    simp only [AV.gfree] at hs
    simp only [V] at h ⊢
    obtain ⟨vs, e, h1⟩ := h
    exact ⟨vs, e, VL.gfree cs _ hs h1⟩
  | .osl (some _) _ _, _, hs, _ | .ptr _ _, _, hs, _ | .fptr _, _, hs, _ | .msl _ _ _ _, _, hs, _ | .rsl _ _ _ _, _, hs, _ | .rptr _ _ _ _ _, _, hs, _ | .map _, _, hs, _ | .yld _, _, hs, _ => by simp [AV.gfree] at hs
theorem VL.gfree {g g' : Gh} : ∀ (bs : List AV) (vs : List Value), gfreeL bs = true → VL g bs vs → VL g' bs vs
  | [], _, _, h => by simpa only [VL] using h
  | a :: r, _, hs, h => by
    simp only [gfreeL, Bool.and_eq_true] at hs
    simp only [VL] at h ⊢
    obtain ⟨v, s, e, h1, h2⟩ := h
    exact ⟨v, s, e, V.gfree a v hs.1 h1, VL.gfree r s hs.2 h2⟩
end
/-- A call that speaks of no mutable memory, ahead and behind: it may be run where nothing is. -/
theorem spec_h0 {P : Program} {f : FuncId} {xs bs : List AV} {h : AH} {K : AV → AH → Prop} (hr : RdL h xs bs) (s : Spec P f bs h0 K) (hs : ∀ rr hh, K rr hh → rr.gfree = true) :
    Spec P f xs h (fun rr hh => (∃ h', K rr h') ∧ hh = h) :=
  ⟨s.1, fun B w0 _ g w vs r hv => by
    haveI := gok_now (P := P) r.below
    refine (s.2 w.heap.size w (g0 w) w vs (rel0 w) (hr.sound r hv)).mono ?_
    rintro e w' ⟨v, x, h', g', rfl, hk, _, r', hx⟩
    exact ⟨v, x, h, g, rfl, ⟨⟨h', hk⟩, rfl⟩, Gh.le.refl g, r.beyond r'.below, V.gfree x v (hs _ _ hk) hx⟩⟩

/-! ### Blocks that nobody speaks of are let go: where there are several outcomes, they may be one then. -/
mutual
def AV.ids : AV → List Nat
  | .ptr i _ | .msl _ i _ _ | .rsl i _ _ _ | .rptr i _ _ _ _ | .map i | .yld i => [i]
  | .fn _ a b => idsL a ++ idsL b
  | .iface _ v => v.ids
  | .agg cs => idsL cs
  | .tup cs => idsL cs
  | _ => []
def idsL : List AV → List Nat
  | [] => []
  | a :: r => a.ids ++ idsL r
end
def idsP : List (AV × AV) → List Nat
  | [] => []
  | a :: r => a.1.ids ++ (a.2.ids ++ idsP r)
def Blk.ids : Blk → List Nat
  | .cells cs => idsL cs
  | .mapo es _ => idsP es
  | .loop _ _ env _ _ _ => idsL env
  | .miter i _ _ => [i]
  | _ => []
def reachG (h : AH) : Nat → List Nat → List Nat → List Nat
  | 0, _, _ => List.range h.blks.length
  | _, [], seen => seen
  | n + 1, q :: t, seen => if seen.contains q then reachG h n t seen else reachG h n ((match h.blk q with | some b => b.ids | none => []) ++ t) (q :: seen)
def killB (n : Nat) (seen : List Nat) : Nat → List Blk → List Blk
  | _, [] => []
  | i, b :: t => (if decide (i < n) || seen.contains i then b else .dead) :: killB n seen (i + 1) t
def AH.gc (h : AH) (n : Nat) (r : AV) : AH := { h with blks := killB n (reachG h 100000 (r.ids ++ (h.blks.take n).flatMap Blk.ids) []) 0 h.blks }
theorem killB_len (n : Nat) (seen : List Nat) : ∀ (i : Nat) (l : List Blk), (killB n seen i l).length = l.length
  | _, [] => rfl
  | i, b :: t => by simp only [killB, List.length_cons, killB_len n seen (i + 1) t]
theorem killB_get (n : Nat) (seen : List Nat) : ∀ (i : Nat) (l : List Blk) (j : Nat) (b : Blk), (killB n seen i l)[j]? = some b → b = .dead ∨ l[j]? = some b
  | _, [], j, b, h => by simp [killB] at h
  | i, x :: t, 0, b, h => by
    simp only [killB, List.getElem?_cons_zero, Option.some.injEq] at h ⊢
    split at h
    · exact .inr h
    · exact .inl h.symm
  | i, x :: t, j + 1, b, h => by
    simp only [killB, List.getElem?_cons_succ] at h ⊢
    exact killB_get n seen (i + 1) t j b h
theorem Rel.killed {B : Nat} {w0 w : World} {g : Gh} {h : AH} (r : Rel B w0 g h w) {bs : List Blk} (hl : bs.length = h.blks.length) (hk : ∀ (j : Nat) (b : Blk), bs[j]? = some b → b = .dead ∨ h.blks[j]? = some b) : Rel B w0 g { h with blks := bs } w := by
  have old : ∀ (j : Nat) (b : Blk), bs[j]? = some b → ∃ b0, h.blks[j]? = some b0 := fun j b hj => by
    have : j < h.blks.length := by rw [← hl]; exact (List.getElem?_eq_some_iff.1 hj).1
    exact ⟨_, List.getElem?_eq_getElem this⟩
  refine ⟨r.below, r.bsz, r.phi, by rw [r.slen]; exact hl.symm, fun i c k hc hb => ?_, r.tlen, r.tok, r.sinj, r.tinj, r.sep, r.dfr, fun i k hi hb => ?_, fun i j t k k' es es' hi hj => ?_⟩
  · rcases hk i k hb with rfl | h0
    · obtain ⟨b0, hb0⟩ := old i _ hb
      obtain ⟨h1, h2, _, _⟩ := r.blk i c b0 hc hb0
      exact ⟨h1, h2, trivial, fun h => absurd rfl h⟩
    · exact r.blk i c k hc h0
  · rcases hk i k hb with rfl | h0
    · trivial
    · exact r.row i k hi h0
  · rcases hk i _ hi with h1 | h1
    · cases h1
    · rcases hk j _ hj with h2 | h2
      · cases h2
      · exact r.rinj _ _ _ _ _ _ _ h1 h2
theorem gc_wk {h0 h : AH} {env : List AV} (n : Nat) (r : AV) : wk h0 env h env (h.gc n r) := fun _ _ _ _ _ g _ _ hle r' hv => ⟨g, hle, r'.killed (killB_len _ _ _ _) (killB_get _ _ _ _), hv, fun _ h => h⟩
def trimX (n m : Nat) (r : AV) (h : AH) : AV × AH := if r.low n m && (h.blks.take n).all (fun b => b.low n m) then (r, h.cut n m) else (r, h)
/-- Told again in the same words: once. -/
def dedupX : List (AV × AH) → List (AV × AH)
  | [] => []
  | [a] => [a]
  | a :: b :: r => match dedupX (b :: r) with
    | l => if l.any fun p => p.1.same a.1 && p.2.same a.2 then l else a :: l
theorem dedupX_mem : ∀ {l : List (AV × AH)} {x : AV × AH}, x ∈ l → x ∈ dedupX l
  | [], _, h => h
  | [a], _, h => h
  | a :: b :: r, x, h => by
    unfold dedupX
    simp only
    rcases List.mem_cons.1 h with rfl | h
    · split
      · rename_i ha
        rw [List.any_eq_true] at ha
        obtain ⟨p, hp, hs⟩ := ha
        simp only [Bool.and_eq_true] at hs
        have : p = x := Prod.ext (AV.same_eq hs.1) (AH.same_eq hs.2)
        exact this ▸ hp
      · exact List.mem_cons_self
    · have := dedupX_mem h
      split
      · exact this
      · exact List.mem_cons_of_mem _ this
def gcL (n : Nat) : List (AV × AH) → List (AV × AH)
  | [] => []
  | [a] => [a]
  | l => dedupX (l.map fun p => (p.1, p.2.gc n p.1))
theorem gcL_mem {h0 : AH} {n : Nat} : ∀ {l : List (AV × AH)} {r : AV} {h : AH}, (r, h) ∈ l → ∃ h', wk h0 [r] h [r] h' ∧ (r, h') ∈ gcL n l
  | [], _, _, h => by cases h
  | [a], r, h, hm => ⟨h, wk.refl _ _ _, hm⟩
  | a :: b :: l, r, h, hm => ⟨_, gc_wk n r, dedupX_mem (List.mem_map.2 ⟨_, hm, rfl⟩)⟩
mutual
/-- As it is told outside: nothing of it is lengthened any more. -/
def AV.weak : AV → AV
  | .osl (some _) k es => .sl k es
  | .agg cs => .agg (weakL cs)
  | .tup cs => .tup (weakL cs)
  | v => v
def weakL : List AV → List AV
  | [] => []
  | a :: r => a.weak :: weakL r
end
theorem AV.weak_one (a : AV) (h : a.one = true) : a.weak.one = true := by
  cases a <;> first | exact h | (simp [AV.one] at h) | skip
  rename_i q k es
  cases q <;> rfl
theorem weakL_ones : ∀ (l : List AV), l.all AV.one = true → (weakL l).all AV.one = true
  | [], _ => rfl
  | a :: r, h => by
    simp only [List.all_cons, Bool.and_eq_true] at h
    simp only [weakL, List.all_cons, Bool.and_eq_true]
    exact ⟨AV.weak_one a h.1, weakL_ones r h.2⟩
mutual
theorem V.weak {g : Gh} : ∀ (a : AV) (v : Value), V g a v → V g a.weak v
  | .osl (some t) k es, v, h => by simp only [AV.weak]; exact leV.osl _ _ _ g v h
  | .osl none k es, _, h => h
  | .agg cs, _, h => by
    simp only [AV.weak, V] at h ⊢
    obtain ⟨vs, e, h1⟩ := h
    exact ⟨vs, e, VA.mk (VL.weak cs _ h1.toVL) (weakL_ones cs h1.ones)⟩
  | .tup cs, _, h => by
    simp only [AV.weak, V] at h ⊢
    obtain ⟨vs, e, h1⟩ := h
    exact ⟨vs, e, VL.weak cs _ h1⟩
  | .bool _, _, h | .int _ _, _, h | .str _, _, h | .nilp, _, h | .nilm, _, h | .nilf, _, h | .nili, _, h | .nilsl, _, h | .glob _, _, h | .any, _, h | .opq, _, h | .sl _ _, _, h | .fn _ _ _, _, h | .iface _ _, _, h
  | .ptr _ _, _, h | .fptr _, _, h | .msl _ _ _ _, _, h | .rsl _ _ _ _, _, h | .rptr _ _ _ _ _, _, h | .map _, _, h | .yld _, _, h => h
theorem VL.weak {g : Gh} : ∀ (l : List AV) (vs : List Value), VL g l vs → VL g (weakL l) vs
  | [], _, h => h
  | a :: r, _, h => by
    simp only [weakL, VL] at h ⊢
    obtain ⟨v, s, e, h1, h2⟩ := h
    exact ⟨v, s, e, V.weak a v h1, VL.weak r s h2⟩
end
theorem Spec.weak {P : Program} {f : FuncId} {xs : List AV} {h : AH} {K K' : AV → AH → Prop} (s : Spec P f xs h K) (hk : ∀ r hh, K r hh → ∃ r' hh', wk h [r] hh [r'] hh' ∧ K' r' hh') : Spec P f xs h K' :=
  ⟨s.1, fun B w0 _ g w vs r hv => (s.2 B w0 g w vs r hv).mono fun e w' ⟨v, x, h', g', h1, hK, hle, r', hV⟩ => by
    obtain ⟨x2, h2, hw, hK'⟩ := hk _ _ hK
    obtain ⟨g2, k1, k2, k3, _⟩ := hw B w0 w' w g g' [v] r hle r' (VL.cons hV (by simp [VL]))
    simp only [VL] at k3
    obtain ⟨v2, s2, e2, k4, _⟩ := k3
    injection e2 with e2 _
    subst e2
    exact ⟨v, x2, h2, g2, h1, hK', k1, k2, k4⟩⟩
theorem trimX_wk {h0 h : AH} {r : AV} : wk h0 [r] h [(trimX h0.blks.length h0.toks.length r h).1] (trimX h0.blks.length h0.toks.length r h).2 := by
  unfold trimX
  split
  · rename_i hl
    simp only [Bool.and_eq_true, List.all_eq_true] at hl
    exact wk.cut (by simp [lowL, hl.1]) fun i k hi hk => .inr (hl.2 k (List.mem_of_getElem? (i := i) (by rw [List.getElem?_take, if_pos hi]; exact hk)))
  · exact wk.refl _ _ _
abbrev CallX := FuncId → List AV → AH → Option (List (AV × AH))
abbrev RoundX := Nat → List AV → AH → Option (List (AV × AH))
abbrev XOut := Exit × List AV × AH

/-- A call whose result is lengthened no more. -/
def weakCall (call : CallX) : CallX := fun f args h => match call f args h with
  | some l => some (dedupX (l.map fun p => match frz p.1.rws [p.1] p.2 with
    | ([r], h') => trimX h.blks.length h.toks.length r.weak h'
    | _ => trimX h.blks.length h.toks.length p.1.weak p.2))
  | none => none
/-- What an operation may come to, where it is not one thing. -/
def xalts (P : Program) (o : Oper) (env : List AV) (h : AH) : Option (List (AV × AH)) :=
  match o.op with
  | .binOp op _ x y _ => match ev env x, ev env y with
    | .sl _ es, .nilsl | .osl _ _ es, .nilsl => match op with
      | .eql => some (if es.isEmpty then [(.bool true, h), (.bool false, h)] else [(.bool false, h)])
      | .neq => some (if es.isEmpty then [(.bool false, h), (.bool true, h)] else [(.bool true, h)])
      | _ => none
    | _, _ => none
  | .call c => match c.callee, c.args.toList.map (ev env) with
    | .builtin .len, [.map id] => match h.blk id with
      | some (.mapo es _) => some [(.int .i64 es.length, h)]
      | _ => none
    | _, _ => none
  | _ => none
def xop (P : Program) (call : CallX) (round : RoundX) (o : Oper) (env : List AV) (h : AH) : Option (List (AV × AH)) :=
  match bstep P o env h with
  | some l => some l
  | none => match astep P o env h with
    | .ok v h' => some [(v, h')]
    | .len _ v h' => some [(v, h')]
    | .call f args => call f args h
    | .round id args => round id args h
    | .any _ => xalts P o env h
    | .fail => none
/-- What is told in other words ahead of an operation. -/
abbrev Pre := Option (Array Oper) → Oper → List AV → AH → List AV × AH
def PreOk (pre : Pre) : Prop := ∀ d o env h, swk env h (pre d o env h).1 (pre d o env h).2
/-- The same, ahead of a whole region that draws its order. -/
def preL (pre : Pre) (ops : Array Oper) : List Oper → List AV → AH → List AV × AH
  | [], env, h => (env, h)
  | o :: r, env, h => match pre (some ops) o env h with
    | (env, h) => preL pre ops r env h
def preC (pre : Pre) : Code → List AV → AH → List AV × AH
  | .region _ ops true, env, h => preL pre ops ops.toList env h
  | .seq (.region _ ops true) _, env, h => preL pre ops ops.toList env h
  | _, env, h => (env, h)
def xops (P : Program) (pre : Pre) (call : CallX) (round : RoundX) (ops : Array Oper) : List Oper → List AV → AH → Option (List (List AV × AH))
  | [], env, h => some [(env, h)]
  | o :: r, env, h => match pre none o env h with
    | (env, h) => match aG ops o env with
      | some true => match xop P call round o env h with
        | some l => bindX (fun (v, h') => xops P pre call round ops r (setd env o.dst v) h') l
        | none => none
      | some false => xops P pre call round ops r (setd env o.dst aundef) h
      | none => none
def lowArgs (args : List AV) : Bool := lowL 0 0 args
abbrev Kf := List (Nat × Nat × List Blk)
def isCallV : Op → Bool
  | .call { callee := .value _, .. } => true
  | _ => false
/-- It has no order with an effect. -/
def looseX (all : Bool) (ops : Array Oper) (i : Nat) : Bool :=
  let b := Region.before ops
  ops.toList.zipIdx.any fun (o, j) => i != j && isEff o.op && (all || !isCallV o.op) && !cmpb b i j
/-- What it looks at: which block, and how that may stand meanwhile. -/
def looksX (P : Program) (ops : Array Oper) (o : Oper) (env : List AV) (h : AH) : Option (List (Nat × List Blk)) := match o.op with
  | .load _ a => match ev env a with
    | .ptr id _ => match h.blk id with
      | some b => some [(id, [b])]
      | none => none
    | _ => some []
  | .lookup t x i _ => match ev env x, P.underlying t with
    | .map id, some (.map kt et) => match h.blk id with
      | some b => if ops.any (fun o => match o.op with | .mapEntry _ _ _ => true | _ => false) then (match aEntry P h kt et (ev env x) (ev env i) with
        | some (_, h') => match h'.blk id with
          | some b' => some [(id, [b, b'])]
          | none => none
        | none => none) else some [(id, [b])]
      | none => none
    | _, _ => none
  | _ => none
abbrev Ca := List (Nat × List AH)
structure Xn where
  ns : List Nat := []
  kf : Kf := []
  ca : Ca := []
  fx : List (Nat × AH) := []
/-- The calls of a drawn region that turn nothing, and the heaps they may meet; the loads and look-ups that have no order with what is written, and what they read. -/
def xns (P : Program) (all : Bool) (call : CallX) (round : RoundX) (ops : Array Oper) : Nat → List Oper → List AV → AH → List (Nat × AH) → Xn
  | _, [], _, _, _ => {}
  | i, o :: r, env, h, past =>
    let eff := fun (v : AV) (h' : AH) => match xns P all call round ops (i + 1) r (setd env o.dst v) h' (past ++ [(i, h)]) with
      | q => { q with fx := (i, h') :: q.fx }
    match aG ops o env with
    | some true => match astep P o env h with
      | .ok v h' => match looksX P ops o env h with
        | some l => if looseX all ops i then (match xns P all call round ops (i + 1) r (setd env o.dst v) h' past with
          | q => { q with ns := i :: q.ns, kf := l.map (fun p => (i, p)) ++ q.kf }) else xns P all call round ops (i + 1) r (setd env o.dst v) h' past
        | none => if isEff o.op then eff v h' else xns P all call round ops (i + 1) r (setd env o.dst v) h' past
      | .len _ v h' => xns P all call round ops (i + 1) r (setd env o.dst v) h' past
      | .call f args =>
        let viaH := match call f args h with
          | some [(v, h')] => if h'.same h && looseX true ops i then (match xns P all call round ops (i + 1) r (setd env o.dst v) h past with
              | q => { q with ns := i :: q.ns, ca := (i, h :: ((past ++ q.fx).filter fun p => !cmpb (Region.before ops) i p.1).map (·.2)) :: q.ca })
            else eff v h'
          | _ => {}
        if !isCallV o.op then (match call f args h with
          | some [(v, h')] => eff v h'
          | _ => {})
        else if lowArgs args then (match call f args ⟨[], []⟩ with
        | some [(v, _)] => if v.gfree then (match xns P all call round ops (i + 1) r (setd env o.dst v) h past with
          | q => { q with ns := i :: q.ns }) else viaH
        | _ => {}) else viaH
      | .round id args => match round id args h with
        | some [(v, h')] => eff v h'
        | _ => {}
      | .fail => match bstep P o env h with
        | some [(v, h')] => if isEff o.op then eff v h' else xns P all call round ops (i + 1) r (setd env o.dst v) h' past
        | _ => {}
      | _ => {}
    | some false => xns P all call round ops (i + 1) r (setd env o.dst aundef) h past
    | none => {}
def isOkV (v : AV) : Res → Bool
  | .ok u _ => u.same v
  | _ => false
def keepAt (P : Program) (kf : Kf) (i : Nat) (o : Oper) (env : List AV) (h : AH) (v : AV) (id : Nat) : Bool :=
  decide (id < h.blks.length) && kf.any fun x => decide (x.1 = i) && decide (x.2.1 = id) && x.2.2.all fun b => isOkV v (astep P o env (h.put id b))
def loadKeep (P : Program) (kf : Kf) (i : Nat) (o : Oper) (env : List AV) (h : AH) (v : AV) : Bool := match o.op with
  | .load _ a => match ev env a with
    | .fptr _ => true
    | .ptr id _ => keepAt P kf i o env h v id
    | _ => false
  | .lookup _ x _ _ => match ev env x with
    | .map id => keepAt P kf i o env h v id
    | _ => false
  | _ => false
def keptX (h : AH) (x : Nat × Nat × List Blk) : Bool := match h.blk x.2.1 with
  | some c => x.2.2.any fun b => c.same b
  | none => false
def amongX (h : AH) (x : Nat × List AH) : Bool := x.2.any fun a => h.same a
def fokX (b : Nat) (kf : Kf) (ca : Ca) (h : AH) : Bool := (kf.all fun x => b.testBit x.1 || keptX h x) && ca.all fun x => b.testBit x.1 || amongX h x
def keptF (kf : Kf) (ca : Ca) (n : Nat) (h : AH) : Prop := (∀ x ∈ kf, x.1 = n → ∃ b ∈ x.2.2, h.blk x.2.1 = some b) ∧ ∀ x ∈ ca, x.1 = n → h ∈ x.2
def callKeep (call : CallX) (ca : Ca) (i : Nat) (f : FuncId) (args : List AV) (v : AV) : Bool := ca.any fun x => decide (x.1 = i) && x.2.all fun a => match call f args a with
  | some [(u, a')] => u.same v && a'.same a
  | _ => false
def xdraw (P : Program) (call : CallX) (round : RoundX) (ops : Array Oper) (Ns : List Nat) (kf : Kf) (ca : Ca) : Nat → List Oper → List AV → AH → Option (List AV × AH)
  | _, [], env, h => some (env, h)
  | i, o :: r, env, h => match Ns.contains i with
    | true => match aG ops o env with
      | some true => match astep P o env h with
        | .call f args => if isCallV o.op = false then none else if ca.any (fun x => decide (x.1 = i)) then (match call f args h with
            | some [(v, _)] => if callKeep call ca i f args v then xdraw P call round ops Ns kf ca (i + 1) r (setd env o.dst v) h else none
            | _ => none)
          else if lowArgs args then (match call f args ⟨[], []⟩ with
          | some [(v, _)] => if v.gfree then xdraw P call round ops Ns kf ca (i + 1) r (setd env o.dst v) h else none
          | _ => none) else none
        | .ok v _ => if loadKeep P kf i o env h v then xdraw P call round ops Ns kf ca (i + 1) r (setd env o.dst v) h else none
        | _ => none
      | _ => none
    | false => match aG ops o env with
      | some true => match astep P o env h with
        | .ok v h' => if (!isEff o.op || (anch ops Ns i && fokX ((Region.before ops).getD i 0) kf ca h')) = true then xdraw P call round ops Ns kf ca (i + 1) r (setd env o.dst v) h' else none
        | .len _ v h' => if (!isEff o.op || (anch ops Ns i && fokX ((Region.before ops).getD i 0) kf ca h')) = true then xdraw P call round ops Ns kf ca (i + 1) r (setd env o.dst v) h' else none
        | .call f args => match call f args h with
          | some [(v, h')] => if (anch ops Ns i && fokX ((Region.before ops).getD i 0) kf ca h') = true then xdraw P call round ops Ns kf ca (i + 1) r (setd env o.dst v) h' else none
          | _ => none
        | .round id args => match round id args h with
          | some [(v, h')] => if (anch ops Ns i && fokX ((Region.before ops).getD i 0) kf ca h') = true then xdraw P call round ops Ns kf ca (i + 1) r (setd env o.dst v) h' else none
          | _ => none
        | .fail => match bstep P o env h with
          | some [(v, h')] => if (bdraw o.op && (!isEff o.op || (anch ops Ns i && fokX ((Region.before ops).getD i 0) kf ca h'))) = true then xdraw P call round ops Ns kf ca (i + 1) r (setd env o.dst v) h' else none
          | _ => none
        | _ => none
      | some false => xdraw P call round ops Ns kf ca (i + 1) r (setd env o.dst aundef) h
      | none => none
def xloop (f : List AV → AH → Option (List XOut)) : Nat → List AV → AH → Option (List XOut)
  | 0, _, _ => none
  | n + 1, env, h => match f env h with
    | some l => bindX (fun o => match o with
      | (.normal, e, h) => xloop f n e h
      | o => some [o]) l
    | none => none
def unblock (id : Nat) : XOut → XOut
  | (.exit j, e, h) => if j = id then (.normal, e, h) else (.exit j, e, h)
  | o => o
def afterRF (id : Nat) (env : List AV) : AV × AH → Option (List XOut)
  | (_, h) => match h.blk id with
    | some (.loop st pe _ _ _ _) => match st with
      | .busy => none
      | _ => match pe with
        | none => some [(.normal, env, h.put id .dead)]
        | some .ret => some [(.ret, env, h.put id .dead)]
        | some (.exit i) => some [(.exit i, env, h.put id .dead)]
        | _ => none
    | _ => none
def xreg (P : Program) (call : CallX) (round : RoundX) (ops : Array Oper) (env : List AV) (h : AH) : Xn → Option (List XOut)
  | ⟨Ns, kf, ca, _⟩ => if P.follows .mixedOrders && drawOk ops Ns && (kf.all (keptX h) && ca.all (amongX h)) then (match xdraw P call round ops Ns kf ca 0 ops.toList env h with
        | some (e, h) => some [(.normal, e, h)]
        | none => none) else none
def xtry (P : Program) (call : CallX) (round : RoundX) (ops : Array Oper) (env : List AV) (h : AH) : Option (List XOut) :=
  match xreg P call round ops env h (xns P false call round ops 0 ops.toList env h []) with
  | some l => some l
  | none => xreg P call round ops env h (xns P true call round ops 0 ops.toList env h [])
/-- A row stands in what was laid as a list of its own. -/
def poor (ops : Array Oper) : List XOut → Bool
  | [(_, env, _)] => ops.any fun o => match o.op with
    | .buildSlice _ _ ps => ps.any fun p => match (ev env p.2).rws with
      | [] => false
      | _ => true
    | .mapUpdate _ _ _ x | .insert _ _ _ x | .entryStore _ _ _ x => match (ev env x).rws with
      | [] => false
      | _ => true
    | _ => false
  | _ => false
/-! A region whose order is drawn, order by order. -/
def silOp : Op → Bool
  | .move _ | .assign _ | .extract _ _ | .pick _ _ _ | .build _ _ | .buildSlice _ _ _ | .unOp _ _ _ | .binOp _ _ _ _ _ | .convert _ _ _ | .makeFunc _ _ _ | .slice _ _ _ _ _ | .field _ _ _ | .fieldAddr _ _ _ | .index _ _ _ | .indexAddr _ _ _ | .nilCheck _ => true
  | _ => false
def silX (P : Program) (ops : Array Oper) (env : List AV) (h : AH) (i : Nat) : Bool := match ops[i]? with
  | some o => silOp o.op && apartAll ops i && (match aG ops o env with
    | some true => match astep P o env h with
      | .ok _ _ => true
      | _ => false
    | some false => true
    | none => false)
  | none => false
/-- A call that neither asks for nor turns the heap. -/
def silC (P : Program) (call : CallX) (ops : Array Oper) (env : List AV) (h : AH) (i : Nat) : Bool := match ops[i]? with
  | some o => match aG ops o env with
    | some true => match astep P o env h with
      | .call f args => isCallV o.op && lowArgs args && apartAll ops i && (match call f args ⟨[], []⟩ with
        | some [(v, _)] => v.gfree
        | _ => false)
      | _ => false
    | _ => false
  | none => false
abbrev ASt := Array Bool × List AV × AH
def sameB : List Bool → List Bool → Bool
  | [], [] => true
  | a :: r, b :: s => (match a, b with | true, true => true | false, false => true | _, _ => false) && sameB r s
  | _, _ => false
def sameS (a b : ASt) : Bool := sameB a.1.toList b.1.toList && (sameL a.2.1 b.2.1 && a.2.2.same b.2.2)
def onceS : List ASt → List ASt
  | [] => []
  | a :: r => match onceS r with
    | l => match l.any (sameS a) with
      | true => l
      | false => a :: l
/-- One step of a state: what turns nothing is taken first; else all that is ready. -/
def xstp (P : Program) (call : CallX) (round : RoundX) (ops : Array Oper) (s : ASt) : Option (List ASt) := match s with
  | (listed, env, h) => match Region.ready .any ops listed with
    | [] => none
    | j :: r => match (j :: r).find? (fun i => silX P ops env h i || silC P call ops env h i) with
      | some i => match ops[i]? with
        | some o => match aG ops o env with
          | some true => match astep P o env h with
            | .ok v _ => if silX P ops env h i then some [(listed.setIfInBounds i true, setd env o.dst v, h)] else none
            | .call f args => if isCallV o.op && (lowArgs args && apartAll ops i) then (match call f args ⟨[], []⟩ with
              | some [(v, _)] => if v.gfree then some [(listed.setIfInBounds i true, setd env o.dst v, h)] else none
              | _ => none) else none
            | _ => none
          | some false => if apartAll ops i then some [(listed.setIfInBounds i true, setd env o.dst aundef, h)] else none
          | none => none
        | none => none
      | none => bindX (fun i => match ops[i]? with
          | some o => match aG ops o env with
            | some true => match xop P call round o env h with
              | some l => some (l.map fun (v, h') => (listed.setIfInBounds i true, setd env o.dst v, h'))
              | none => none
            | some false => some [(listed.setIfInBounds i true, setd env o.dst aundef, h)]
            | none => none
          | none => none) (j :: r)
/-- All states, step by step; like ones once. -/
def xlev (P : Program) (call : CallX) (round : RoundX) (ops : Array Oper) : Nat → List ASt → Option (List (List AV × AH))
  | 0, S => bindX (fun (s : ASt) => match Region.ready .any ops s.1 with
    | [] => some [s.2]
    | _ :: _ => none) S
  | n + 1, S => match bindX (xstp P call round ops) S with
    | some T => xlev P call round ops n (onceS T)
    | none => none
def xanyR (P : Program) (call : CallX) (round : RoundX) (ops : Array Oper) (env : List AV) (h : AH) : Option (List XOut) := match P.follows .mixedOrders with
  | true => match xlev P call round ops ops.size [(Array.replicate ops.size false, env, h)] with
    | some l => some (l.map fun (e, h) => (.normal, e, h))
    | none => none
  | false => none
/-- Something is laid out with no order to another such, or to a call. -/
def mixd (ops : Array Oper) : Bool :=
  let b := Region.before ops
  let isA := fun (o : Op) => match o with
    | .alloc _ => true
    | _ => false
  let isC := fun (o : Op) => match o with
    | .call _ => true
    | _ => false
  ops.toList.zipIdx.any fun (o, i) => isA o.op && ops.toList.zipIdx.any fun (p, j) => i != j && (isA p.op || isC p.op) && !cmpb b i j
def xdr0 (P : Program) (call : CallX) (round : RoundX) (ops : Array Oper) (env : List AV) (h : AH) : Option (List XOut) :=
  match xtry P call round ops env h with
  | some l => match poor ops l with
    | true => match xtry P (weakCall call) round ops env h with
      | some m => some m
      | none => some l
    | false => some l
  | none => match xtry P (weakCall call) round ops env h with
    | some l => some l
    | none => xanyR P call round ops env h
def xdr (P : Program) (call : CallX) (round : RoundX) (ops : Array Oper) (env : List AV) (h : AH) : Option (List XOut) := match mixd ops with
  | true => match xanyR P call round ops env h with
    | some l => some l
    | none => xdr0 P call round ops env h
  | false => xdr0 P call round ops env h
def xcode (P : Program) (pre : Pre) (call : CallX) (round : RoundX) (fuel : Nat) : Code → List AV → AH → Option (List XOut)
  | .skip, env, h => some [(.normal, env, h)]
  | .label _, env, h => some [(.normal, env, h)]
  | .exit id, env, h => some [(.exit id, env, h)]
  | .ret, env, h => some [(.ret, env, h)]
  | .region _ ops draw, env, h => match draw with
    | true => xdr P call round ops env h
    | false => match xops P pre call round ops ops.toList env h with
      | some l => some (l.map fun (e, h) => (.normal, e, h))
      | none => none
  | .seq a b, env, h => match xcode P pre call round fuel a env h with
    | some l => bindX (fun o => match o with
      | (.normal, e, h) => match preC pre b e h with
        | (e, h) => xcode P pre call round fuel b e h
      | o => some [o]) l
    | none => none
  | .cond c t e, env, h => if okop c then (match ev env c with
    | .bool true => xcode P pre call round fuel t env h
    | .bool false => xcode P pre call round fuel e env h
    | _ => none) else none
  | .block id body, env, h => match xcode P pre call round fuel body env h with
    | some l => some (l.map (unblock id))
    | none => none
  | .loop body, env, h => xloop (fun e h => xcode P pre call round fuel body e h) fuel env h
  | .rangeFunc f ps assign body, env, h => if okop f && noRF assign && noRF body then (match ev env f with
    | .fn (.func g) first caps => match call g (first ++ [.yld h.blks.length] ++ caps) (h.new (.loop .ready none env ps assign body)) with
      | some l => bindX (afterRF h.blks.length env) l
      | none => none
    | _ => none) else none
  | _, _, _ => none

/-! ### Soundness. -/
def CallOk (P : Program) (call : CallX) : Prop := ∀ f args h l, call f args h = some l → Spec P f args h fun r hh => (r, hh) ∈ l
def RoundOk (P : Program) (round : RoundX) : Prop := ∀ id args h l, round id args h = some l → SpecY P id args h fun r hh => (r, hh) ∈ l

section
variable {P : Program} {pre : Pre} {call : CallX} {round : RoundX}

theorem xalts_sound {o : Oper} {env : List AV} {h : AH} {S : AV → AH → Prop} {l : List (AV × AH)} (hs : astep P o env h = .any S) (hl : xalts P o env h = some l) : ∀ v h', S v h' → (v, h') ∈ l := by
  unfold xalts at hl
  split at hl
  · rename_i op t x y u ho
    simp only [astep, ho] at hs
    split at hs
    · split at hs
      · rename_i S' hq
        simp only [Res.any.injEq] at hs
        subst hs
        unfold aNilq at hq
        split at hl
        · rename_i k es hx hy
          rw [hx, hy] at hq
          simp only at hq
          split at hq
          · simp only [Option.some.injEq] at hq hl
            subst hq hl
            rintro v h' ⟨rfl, b, rfl, hb⟩
            cases b with
            | true => simp [hb rfl]
            | false => cases es <;> simp
          · simp only [Option.some.injEq] at hq hl
            subst hq hl
            rintro v h' ⟨rfl, b, rfl, hb⟩
            cases b with
            | true => simp [hb rfl]
            | false => cases es <;> simp
          · cases hq
        · rename_i q k es hx hy
          rw [hx, hy] at hq
          simp only at hq
          split at hq
          · simp only [Option.some.injEq] at hq hl
            subst hq hl
            rintro v h' ⟨rfl, b, rfl, hb⟩
            cases b with
            | true => simp [hb rfl]
            | false => cases es <;> simp
          · simp only [Option.some.injEq] at hq hl
            subst hq hl
            rintro v h' ⟨rfl, b, rfl, hb⟩
            cases b with
            | true => simp [hb rfl]
            | false => cases es <;> simp
          · cases hq
        · cases hl
      · unfold oo at hs; split at hs <;> cases hs
    · cases hs
  · rename_i c ho
    split at hl
    · rename_i id hc ha
      split at hl
      · rename_i es cl hb
        simp only [Option.some.injEq] at hl
        subst hl
        simp only [astep, ho] at hs
        split at hs
        · rw [hc] at hs
          simp only [ha] at hs
          intro v h' hS
          unfold aBuiltin at hs
          split at hs
          · rename_i x t y he1 he2 he3
            simp only [List.cons.injEq, and_true] at he3
            subst he3
            split at hs
            · simp at hs
            · simp [aLen] at hs
            · simp only [hb, Res.any.injEq] at hs
              subst hs
              obtain ⟨rfl, rfl⟩ := hS
              simp
            · cases hs
          · cases ‹Builtin.len = Builtin.append›
          · cases hs
        · cases hs
      · cases hl
    · cases hl
  · cases hl

theorem xop_sound (hc : CallOk P call) (hr : RoundOk P round) {o : Oper} {env : List AV} {h : AH} {l : List (AV × AH)} (hx : xop P call round o env h = some l) : rwp P h (astep P o env h) (fun r hh => (r, hh) ∈ l) ∨ bwp P o env h (fun r hh => (r, hh) ∈ l) := by
  unfold xop at hx
  split at hx
  · rename_i m hm
    simp only [Option.some.injEq] at hx
    subst hx
    exact .inr ⟨m, hm, fun p hp => hp⟩
  split at hx
  · rename_i v h' he; left; rw [he]; simp only [Option.some.injEq] at hx; subst hx; simp [rwp]
  · rename_i n v h' he; left; rw [he]; simp only [Option.some.injEq] at hx; subst hx; simp [rwp]
  · rename_i f args he; left; rw [he]; exact hc _ _ _ _ hx
  · rename_i id args he; left; rw [he]; exact hr _ _ _ _ hx
  · rename_i S he; left; rw [he]; exact xalts_sound he hx
  · cases hx

theorem xops_sound (hp : PreOk pre) (hc : CallOk P call) (hr : RoundOk P round) {ops : Array Oper} : ∀ (rest : List Oper) {env : List AV} {h : AH} {l : List (List AV × AH)}, xops P pre call round ops rest env h = some l → awpOps P ops (fun e h => (e, h) ∈ l) rest env h
  | [], env, h, l, hx => by simp only [xops, Option.some.injEq] at hx; subst hx; simp [awpOps]
  | o :: r, env, h, l, hx => by
    simp only [xops] at hx
    have hs := hp none o env h
    rcases hpre : pre none o env h with ⟨env, h⟩
    rw [hpre] at hx hs
    refine ops_swk hs ⟨env, h, swk.refl _ _, ?_⟩
    simp only at hx
    split at hx
    · rename_i hg
      rw [hg]
      split at hx
      · rename_i m hm
        simp only [gwp]
        have go : ∀ v h', (v, h') ∈ m → awpOps P ops (fun e h => (e, h) ∈ l) r (setd env o.dst v) h' := fun v h' hv => by
          obtain ⟨s, h1, h2⟩ := bindX_mem hx _ hv
          exact awpOps_mono (fun e h he => h2 _ he) _ _ _ (xops_sound hp hc hr r h1)
        exact (xop_sound hc hr hm).imp (rwp_mono go) fun ⟨l2, hl, hk⟩ => ⟨l2, hl, fun p hi => go _ _ (hk p hi)⟩
      · cases hx
    · rename_i hg
      rw [hg]
      exact xops_sound hp hc hr r hx
    · cases hx

theorem oo_call {h : AH} {x : Option AV} {f : FuncId} {a : List AV} (e : oo h x = .call f a) : False := by unfold oo at e; split at e <;> cases e
theorem oh_call {h : Option AH} {f : FuncId} {a : List AV} (e : oh h = .call f a) : False := by unfold oh at e; split at e <;> cases e
theorem ovh_call {h : Option (AV × AH)} {f : FuncId} {a : List AV} (e : ovh h = .call f a) : False := by unfold ovh at e; split at e <;> cases e
theorem aNext_call {h : AH} {x : AV} {f : FuncId} {a : List AV} (e : aNext h x = .call f a) : False := by
  unfold aNext at e
  repeat' split at e
  all_goals cases e
theorem aBuiltin_call {P : Program} {h : AH} {b : Builtin} {ts : List TypeId} {xs : List AV} {f : FuncId} {a : List AV} (e : aBuiltin P h b ts xs = .call f a) : False := by
  unfold aBuiltin at e
  repeat' split at e
  all_goals first | (cases e; done) | exact ovh_call e
theorem astep_call {P : Program} {o : Oper} {env : List AV} {h : AH} {f : FuncId} {args : List AV} (hv : isCallV o.op = true) (hs : astep P o env h = .call f args) : ∀ h2, astep P o env h2 = .call f args := by
  intro h2
  unfold isCallV at hv
  split at hv
  · rename_i f0 xs ts ho
    simp only [astep, ho] at hs ⊢
    split at hs
    · rename_i hok
      rw [if_pos hok]
      split at hs
      · cases hs
      · rename_i hne
        rw [if_neg hne]
        split at hs
        · exact hs
        · cases hs
        · cases hs
    · cases hs
  · cases hv
theorem RdL.low {h : AH} : ∀ {args : List AV}, lowL 0 0 args = true → RdL h args args
  | [], _ => .nil
  | a :: r, hl => by
    simp only [lowL, Bool.and_eq_true] at hl
    exact .cons (.low a hl.1) (RdL.low hl.2)
theorem h0_eq : (⟨[], []⟩ : AH) = h0 := rfl
theorem keptX_ok {h : AH} {x : Nat × Nat × List Blk} (k : keptX h x = true) : ∃ b ∈ x.2.2, h.blk x.2.1 = some b := by
  unfold keptX at k
  split at k
  · rename_i c hc
    rw [List.any_eq_true] at k
    obtain ⟨b, hb, hs⟩ := k
    exact ⟨b, hb, by rw [hc, Blk.same_eq hs]⟩
  · cases k
theorem amongX_ok {h : AH} {x : Nat × List AH} (k : amongX h x = true) : h ∈ x.2 := by
  unfold amongX at k
  rw [List.any_eq_true] at k
  obtain ⟨a, ha, hs⟩ := k
  rw [AH.same_eq hs]; exact ha
theorem keptF_all {kf : Kf} {ca : Ca} {h : AH} (k : (kf.all (keptX h) && ca.all (amongX h)) = true) (n : Nat) : keptF kf ca n h := by
  simp only [Bool.and_eq_true, List.all_eq_true] at k
  exact ⟨fun x hx _ => keptX_ok (k.1 x hx), fun x hx _ => amongX_ok (k.2 x hx)⟩
theorem fokX_ok {b : Nat} {Ns : List Nat} {kf : Kf} {ca : Ca} {h : AH} (k : fokX b kf ca h = true) : FOk b Ns (keptF kf ca) h := fun n _ hb => by
  unfold fokX at k
  simp only [Bool.and_eq_true, List.all_eq_true] at k
  refine ⟨fun x hx hn => ?_, fun x hx hn => ?_⟩
  · have := k.1 x hx
    rw [hn, hb, Bool.false_or] at this
    exact keptX_ok this
  · have := k.2 x hx
    rw [hn, hb, Bool.false_or] at this
    exact amongX_ok this
theorem callKeep_ok {P : Program} {call : CallX} (hc : CallOk P call) {kf : Kf} {ca : Ca} {i : Nat} {f : FuncId} {args : List AV} {v : AV} (k : callKeep call ca i f args v = true) : ∀ h2, keptF kf ca i h2 → Spec P f args h2 fun r hh => r = v ∧ hh = h2 := by
  intro h2 hF
  unfold callKeep at k
  simp only [Bool.and_eq_true, decide_eq_true_eq, List.any_eq_true] at k
  obtain ⟨x, hx, hi, hs⟩ := k
  have hm := hF.2 x hx hi
  rw [List.all_eq_true] at hs
  have h3 := hs h2 hm
  split at h3
  · rename_i u a' he
    simp only [Bool.and_eq_true] at h3
    refine (hc _ _ _ _ he).mono fun r hh hin => ?_
    simp only [List.mem_singleton, Prod.mk.injEq] at hin
    exact ⟨hin.1.trans (AV.same_eq h3.1), hin.2.trans (AH.same_eq h3.2)⟩
  · cases h3
/-- Two heaps that are alike at the block it looks at. -/
theorem load_at {P : Program} {o : Oper} {env : List AV} {h h2 : AH} {h1 : AH} {t : TypeId} {a : Operand} {id off : Nat} {v : AV} (ho : o.op = .load t a) (ha : ev env a = .ptr id off) (hb : h2.blk id = h.blk id) (he : astep P o env h = .ok v h1) : astep P o env h2 = .ok v h2 := by
  have key : ∀ ag n, aLoad h2 ag n (ev env a) = aLoad h ag n (ev env a) := fun ag n => by rw [ha]; simp only [aLoad, hb]
  simp only [astep, ho] at he ⊢
  split at he
  · rw [key]
    unfold oo at he ⊢
    split at he
    · simp only [Res.ok.injEq] at he
      rw [he.1]
    · cases he
  · cases he
theorem lookup_at {P : Program} {o : Oper} {env : List AV} {h h2 : AH} {h1 : AH} {t : TypeId} {x i : Operand} {k : Bool} {id : Nat} {v : AV} (ho : o.op = .lookup t x i k) (ha : ev env x = .map id) (hb : h2.blk id = h.blk id) (he : astep P o env h = .ok v h1) : astep P o env h2 = .ok v h2 := by
  have key : ∀ kt et, aLookup P h2 kt et k (ev env x) (ev env i) = aLookup P h kt et k (ev env x) (ev env i) := fun kt et => by rw [ha]; simp only [aLookup, hb]
  simp only [astep, ho] at he ⊢
  split at he
  · rename_i hok
    rw [if_pos hok]
    split at he
    · rw [key]
      unfold oo at he ⊢
      split at he
      · simp only [Res.ok.injEq] at he
        rw [he.1]
      · cases he
    · cases he
  · cases he
theorem keepAt_ok {P : Program} {kf : Kf} {ca : Ca} {i id : Nat} {o : Oper} {env : List AV} {h : AH} {v : AV} (k : keepAt P kf i o env h v id = true) (hat : ∀ h3 h2 h1, h2.blk id = h3.blk id → astep P o env h3 = .ok v h1 → astep P o env h2 = .ok v h2) : ∀ h2, keptF kf ca i h2 → astep P o env h2 = .ok v h2 := by
  intro h2 hF
  unfold keepAt at k
  simp only [Bool.and_eq_true, decide_eq_true_eq, List.any_eq_true] at k
  obtain ⟨hl, ⟨n1, j, alts⟩, hx, ⟨rfl, rfl⟩, hs⟩ := k
  obtain ⟨b, hb, hb2⟩ := hF.1 _ hx rfl
  rw [List.all_eq_true] at hs
  have h3 := hs b hb
  unfold isOkV at h3
  split at h3
  · rename_i u h1 he
    rw [AV.same_eq h3] at he
    refine hat _ _ _ ?_ he
    rw [hb2]
    simp only [AH.blk, AH.put]
    rw [List.getElem?_set_self hl]
  · cases h3
theorem loadKeep_ok {P : Program} {kf : Kf} {ca : Ca} {i : Nat} {o : Oper} {env : List AV} {h h1 : AH} {v : AV} (he : astep P o env h = .ok v h1) (k : loadKeep P kf i o env h v = true) : ∀ h2, keptF kf ca i h2 → astep P o env h2 = .ok v h2 := by
  unfold loadKeep at k
  split at k
  · rename_i t a ho
    split at k
    · rename_i cs hp
      intro h2 _
      have key : ∀ ag n, aLoad h2 ag n (ev env a) = aLoad h ag n (ev env a) := fun ag n => by rw [hp]; rfl
      simp only [astep, ho] at he ⊢
      split at he
      · rw [key]
        unfold oo at he ⊢
        split at he
        · simp only [Res.ok.injEq] at he
          rw [he.1]
        · cases he
      · cases he
    · rename_i id off hp
      exact keepAt_ok k fun h3 h2 h1 hb he => load_at ho hp hb he
    · cases k
  · rename_i t x j c ho
    split at k
    · rename_i id hp
      exact keepAt_ok k fun h3 h2 h1 hb he => lookup_at ho hp hb he
    · cases k
  · cases k
theorem weakCall_ok {P : Program} {call : CallX} (hc : CallOk P call) : CallOk P (weakCall call) := by
  intro f args h l hx
  unfold weakCall at hx
  split at hx
  · rename_i m hm
    simp only [Option.some.injEq] at hx
    subst hx
    refine (hc _ _ _ _ hm).weak fun r hh hin => ?_
    have hw : ∀ (r1 : AV) (h1 : AH), wk h [r] hh [r1] h1 → wk h [r] hh [(trimX h.blks.length h.toks.length r1.weak h1).1] (trimX h.blks.length h.toks.length r1.weak h1).2 := fun r1 h1 k =>
      k.trans ((wk.le (leL.cons (fun g v hv => V.weak r1 v hv) leL.nil)).trans trimX_wk)
    have hf := (frz_ok r.rws [r] hh).wk (hd := h)
    refine ⟨_, _, ?_, dedupX_mem (List.mem_map.2 ⟨_, hin, rfl⟩)⟩
    generalize frz r.rws [r] hh = q at hf ⊢
    obtain ⟨e1, h1⟩ := q
    split
    · rename_i r1 h2 he
      injection he with e2 e3
      subst e2 e3
      exact hw _ _ hf
    · exact hw _ _ (wk.refl _ _ _)
  · cases hx
theorem xdraw_sound (hc : CallOk P call) (hr : RoundOk P round) {ops : Array Oper} {Ns : List Nat} {kf : Kf} {ca : Ca} : ∀ (rest : List Oper) (i : Nat) {env : List AV} {h : AH} {e' : List AV} {h' : AH}, xdraw P call round ops Ns kf ca i rest env h = some (e', h') →
    awpDraw P ops Ns (keptF kf ca) (fun e h => (e, h) ∈ [(e', h')]) i rest env h
  | [], i, env, h, e', h', hx => by simp only [xdraw, Option.some.injEq] at hx; simp [awpDraw, hx]
  | o :: r, i, env, h, e', h', hx => by
    simp only [xdraw] at hx
    split at hx
    · rename_i hN
      split at hx
      · rename_i hg
        split at hx
        · rename_i f args he
          split at hx
          · cases hx
          rename_i hcv
          have hcv : isCallV o.op = true := by simpa using hcv
          split at hx
          · split at hx
            · rename_i v _ hcall
              split at hx
              · rename_i hk
                exact ⟨v, h, .inr (.inl ⟨hN, hg, rfl, .inl ⟨f, args, astep_call hcv he, callKeep_ok hc hk⟩⟩), .inr rfl, .inl rfl, xdraw_sound hc hr r (i + 1) hx⟩
              · cases hx
            · cases hx
          split at hx
          · rename_i hl
            split at hx
            · rename_i v _ hcall
              split at hx
              · rename_i hs
                refine ⟨v, h, .inr (.inl ⟨hN, hg, rfl, .inl ⟨f, args, astep_call hcv he, fun h2 _ => ?_⟩⟩), .inr rfl, .inl rfl, xdraw_sound hc hr r (i + 1) hx⟩
                refine (spec_h0 (RdL.low hl) (by rw [← h0_eq]; exact hc _ _ _ _ hcall) fun rr hh hm => ?_).mono ?_
                · simp only [List.mem_singleton, Prod.mk.injEq] at hm; rw [hm.1]; exact hs
                · rintro rr hh ⟨⟨h3, hm⟩, rfl⟩
                  simp only [List.mem_singleton, Prod.mk.injEq] at hm
                  exact ⟨hm.1, rfl⟩
              · cases hx
            · cases hx
          · cases hx
        · rename_i v h1 he
          split at hx
          · rename_i hk
            exact ⟨v, h, .inr (.inl ⟨hN, hg, rfl, .inr (loadKeep_ok he hk)⟩), .inr rfl, .inl rfl, xdraw_sound hc hr r (i + 1) hx⟩
          · cases hx
        · cases hx
      · cases hx
    · rename_i hN
      have go : ∀ v h1, AR P ops o env h v h1 → (anch ops Ns i = true ∨ h1.blks = h.blks) → (h1 = h ∨ FOk ((Region.before ops).getD i 0) Ns (keptF kf ca) h1) → xdraw P call round ops Ns kf ca (i + 1) r (setd env o.dst v) h1 = some (e', h') →
          awpDraw P ops Ns (keptF kf ca) (fun e h => (e, h) ∈ [(e', h')]) i (o :: r) env h := fun v h1 ha hb hf hk =>
        ⟨v, h1, .inl ⟨hN, ha⟩, hb, hf, xdraw_sound hc hr r (i + 1) hk⟩
      have go2 : ∀ v h1, AR P ops o env h v h1 → (!isEff o.op || (anch ops Ns i && fokX ((Region.before ops).getD i 0) kf ca h1)) = true → xdraw P call round ops Ns kf ca (i + 1) r (setd env o.dst v) h1 = some (e', h') →
          awpDraw P ops Ns (keptF kf ca) (fun e h => (e, h) ∈ [(e', h')]) i (o :: r) env h := fun v h1 ha hb hk => by
        simp only [Bool.or_eq_true, Bool.not_eq_true', Bool.and_eq_true] at hb
        rcases hb with hb | hb
        · have e := AR.still hb ha
          exact go v h1 ha (.inr (by rw [e])) (.inl e) hk
        · exact go v h1 ha (.inl hb.1) (.inr (fokX_ok hb.2)) hk
      split at hx
      · rename_i hg
        split at hx
        · rename_i v h1 he
          split at hx
          · rename_i hb; exact go2 v h1 (by simp [AR, hg, he]) hb hx
          · cases hx
        · rename_i n v h1 he
          split at hx
          · rename_i hb; exact go2 v h1 (by simp [AR, hg, he]) hb hx
          · cases hx
        · rename_i f args he
          split at hx
          · rename_i v h1 hcall
            split at hx
            · rename_i hb
              simp only [Bool.and_eq_true] at hb
              refine go v h1 ?_ (.inl hb.1) (.inr (fokX_ok hb.2)) hx
              simp only [AR, hg, he]
              refine (hc _ _ _ _ hcall).mono fun r hh hm => ?_
              simpa using hm
            · cases hx
          · cases hx
        · rename_i id args he
          split at hx
          · rename_i v h1 hcall
            split at hx
            · rename_i hb
              simp only [Bool.and_eq_true] at hb
              refine go v h1 ?_ (.inl hb.1) (.inr (fokX_ok hb.2)) hx
              simp only [AR, hg, he]
              refine (hr _ _ _ _ hcall).mono fun r hh hm => ?_
              simpa using hm
            · cases hx
          · cases hx
        · rename_i he
          split at hx
          · rename_i v h1 hb1
            split at hx
            · rename_i hb
              simp only [Bool.or_eq_true, Bool.not_eq_true', Bool.and_eq_true] at hb
              obtain ⟨hbd, hb⟩ := hb
              rcases hb with hb | hb
              · have e := (bstep_still hb hbd hb1).1
                exact ⟨v, h1, .inr (.inr ⟨hN, hbd, hg, hb1⟩), .inr (by rw [e]), .inl e, xdraw_sound hc hr r (i + 1) hx⟩
              · exact ⟨v, h1, .inr (.inr ⟨hN, hbd, hg, hb1⟩), .inl hb.1, .inr (fokX_ok hb.2), xdraw_sound hc hr r (i + 1) hx⟩
            · cases hx
          · cases hx
        · cases hx
      · rename_i hg
        exact go aundef h (by simp only [AR, hg]; exact ⟨trivial, trivial⟩) (.inr rfl) (.inl rfl) hx
      · cases hx

def InL (l : List XOut) : Exit → List AV → AH → Prop := fun x e h => (x, e, h) ∈ l

theorem xloop_sound {body : Code} {f : List AV → AH → Option (List XOut)} (hf : ∀ env h l, f env h = some l → awp P body (InL l) env h) {fuel : Nat} {env : List AV} {h : AH} {l : List XOut} (hx : xloop f fuel env h = some l) : awp P (.loop body) (InL l) env h := by
  refine ⟨fun n env h => ∃ m, xloop f n env h = some m ∧ ∀ o ∈ m, o ∈ l, ⟨fuel, env, h, wk.refl _ _ _, l, hx, fun _ h => h⟩, ?_⟩
  rintro n env h ⟨m, hm, hsub⟩
  cases n with
  | zero => simp [xloop] at hm
  | succ n =>
    simp only [xloop] at hm
    split at hm
    · rename_i l1 h1
      refine awp_mono ?_ body env h (hf env h l1 h1)
      intro x e h2 hin
      obtain ⟨s, k1, k2⟩ := bindX_mem hm _ hin
      cases x with
      | normal => exact ⟨n, e, h2, Nat.lt_succ_self _, wk.refl _ _ _, s, k1, fun o ho => hsub o (k2 o ho)⟩
      | _ =>
        simp only [Option.some.injEq] at k1
        subst k1
        exact hsub _ (k2 _ (by simp))
    · cases hm

theorem xreg_sound (hc : CallOk P call) (hr : RoundOk P round) {id : Nat} {ops : Array Oper} {env : List AV} {h : AH} {q : Xn} {l : List XOut} (hx : xreg P call round ops env h q = some l) : awp P (.region id ops true) (InL l) env h := by
  obtain ⟨Ns, kf, ca, fx⟩ := q
  simp only [xreg] at hx
  split at hx
  · rename_i hm
    rw [Bool.and_eq_true, Bool.and_eq_true] at hm
    split at hx
    · rename_i e' h' hd
      simp only [Option.some.injEq] at hx
      subst hx
      refine .inl ⟨_, keptF _ _, hm.1, keptF_all hm.2, awpDraw_mono ?_ _ _ _ _ (xdraw_sound hc hr _ _ hd)⟩
      intro e h hin
      simp only [List.mem_singleton, Prod.mk.injEq] at hin
      simp [InL, hin]
    · cases hx
  · cases hx

theorem xtry_sound (hc : CallOk P call) (hr : RoundOk P round) {id : Nat} {ops : Array Oper} {env : List AV} {h : AH} {l : List XOut} (hx : xtry P call round ops env h = some l) : awp P (.region id ops true) (InL l) env h := by
  unfold xtry at hx
  split at hx
  · rename_i m hm
    simp only [Option.some.injEq] at hx
    subst hx
    exact xreg_sound hc hr hm
  · exact xreg_sound hc hr hx
theorem oo_sil {h h1 h' : AH} {x : Option AV} {v : AV} (e : oo h x = .ok v h1) : oo h' x = .ok v h' := by
  unfold oo at e ⊢
  split at e
  · injection e with e1 e2; rw [e1]
  · cases e
theorem aNilq_hh {P : Program} {op : BinOp} {t : TypeId} {h h' : AH} {x y : AV} (e : aNilq P op t h x y = none) : aNilq P op t h' x y = none := by
  unfold aNilq at e ⊢
  repeat' split at e
  all_goals first | (cases e; done) | simp_all
theorem astep_sil {P : Program} {o : Oper} {env : List AV} {h h1 : AH} {v : AV} (ho : silOp o.op = true) (he : astep P o env h = .ok v h1) : ∀ h', astep P o env h' = .ok v h' := by
  intro h'
  unfold astep at he ⊢
  cases hop : o.op <;> rw [hop] at ho he <;> simp only [silOp] at ho <;> try (cases ho)
  case binOp op t x y u =>
    simp only at he ⊢
    split at he
    · rename_i hk
      rw [if_pos hk]
      split at he
      · cases he
      · rename_i hq
        rw [aNilq_hh hq]
        exact oo_sil he
    · cases he
  all_goals
    simp only at he ⊢
    repeat' split at he
    all_goals first
      | (cases he; done)
      | (injection he with e1 e2; subst e1; simp_all; done)
      | (have he2 := oo_sil (h' := h') he; clear he; simp_all; done)
theorem sameB_eq : ∀ {a b : List Bool}, sameB a b = true → a = b
  | [], [], _ => rfl
  | a :: r, b :: s, h => by
    simp only [sameB, Bool.and_eq_true] at h
    rw [sameB_eq h.2]
    cases a <;> cases b <;> simp at h <;> rfl
  | [], _ :: _, h => by simp [sameB] at h
  | _ :: _, [], h => by simp [sameB] at h
theorem sameS_eq {a b : ASt} (h : sameS a b = true) : a = b := by
  simp only [sameS, Bool.and_eq_true] at h
  exact Prod.ext (Array.toList_inj.1 (sameB_eq h.1)) (Prod.ext (sameL_eq h.2.1) (AH.same_eq h.2.2))
theorem onceS_mem : ∀ {l : List ASt} {x : ASt}, x ∈ l → x ∈ onceS l
  | a :: r, x, hx => by
    rw [onceS]
    rcases List.mem_cons.1 hx with rfl | hx
    · split
      · rename_i hs
        rw [List.any_eq_true] at hs
        obtain ⟨y, hy, hs⟩ := hs
        rw [sameS_eq hs]; exact hy
      · exact List.mem_cons_self
    · split
      · exact onceS_mem hx
      · exact List.mem_cons_of_mem _ (onceS_mem hx)
/-- What one step's states come to, it comes to. -/
theorem xstp_sound (hc : CallOk P call) (hr : RoundOk P round) {ops : Array Oper} {Q : List AV → AH → Prop} {n : Nat} {s : ASt} {T : List ASt} (hx : xstp P call round ops s = some T) (hk : ∀ t ∈ T, awpAny P ops Q n t.1 t.2.1 t.2.2) : awpAny P ops Q (n + 1) s.1 s.2.1 s.2.2 := by
  obtain ⟨listed, env, h⟩ := s
  simp only [xstp] at hx
  split at hx
  · cases hx
  · rename_i j r e
    split at hx
    · rename_i i hf
      have hi : i ∈ Region.ready .any ops listed := by rw [e]; exact List.mem_of_find?_eq_some hf
      split at hx
      · rename_i o ho
        split at hx
        · rename_i hg
          split at hx
          · rename_i v h1 ha
            split at hx
            · rename_i hs
              simp only [Option.some.injEq] at hx; subst hx
              unfold silX at hs
              rw [ho] at hs
              simp only [Bool.and_eq_true] at hs
              exact any_sil (v := v) ho hs.1.2 n hi (.inl ⟨hg, astep_sil hs.1.1 ha⟩) (hk _ (List.mem_singleton.2 rfl))
            · cases hx
          · rename_i f args ha
            split at hx
            · rename_i hl
              rw [Bool.and_eq_true, Bool.and_eq_true] at hl
              split at hx
              · rename_i v _ hcall
                split at hx
                · rename_i hs
                  simp only [Option.some.injEq] at hx; subst hx
                  refine any_sil (v := v) ho hl.2.2 n hi (.inr (.inr ⟨hg, f, args, astep_call hl.1 ha, fun h2 => ?_⟩)) (hk _ (List.mem_singleton.2 rfl))
                  refine (spec_h0 (RdL.low hl.2.1) (by rw [← h0_eq]; exact hc _ _ _ _ hcall) fun rr hh hm => ?_).mono ?_
                  · simp only [List.mem_singleton, Prod.mk.injEq] at hm; rw [hm.1]; exact hs
                  · rintro rr hh ⟨⟨h3, hm⟩, rfl⟩
                    simp only [List.mem_singleton, Prod.mk.injEq] at hm
                    exact ⟨hm.1, rfl⟩
                · cases hx
              · cases hx
            · cases hx
          · cases hx
        · rename_i hg
          split at hx
          · rename_i hs
            simp only [Option.some.injEq] at hx; subst hx
            exact any_sil (v := aundef) ho hs n hi (.inr (.inl ⟨hg, rfl⟩)) (hk _ (List.mem_singleton.2 rfl))
          · cases hx
        · cases hx
      · cases hx
    · refine ⟨fun k => (by rw [e] at k; cases k), fun i hi o ho => ?_⟩
      rw [e] at hi
      obtain ⟨s, h1, h2⟩ := bindX_mem hx i hi
      rw [ho] at h1
      simp only at h1
      split at h1
      · rename_i hg
        rw [hg]
        split at h1
        · rename_i q hq
          simp only [Option.some.injEq] at h1; subst h1
          have go : ∀ v h', (v, h') ∈ q → awpAny P ops Q n (listed.setIfInBounds i true) (setd env o.dst v) h' := fun v h' hv => hk _ (h2 _ (List.mem_map.2 ⟨_, hv, rfl⟩))
          exact (xop_sound hc hr hq).imp (rwp_mono go) fun ⟨l2, hl, hk⟩ => ⟨l2, hl, fun p hi => go _ _ (hk p hi)⟩
        · cases h1
      · rename_i hg
        rw [hg]
        simp only [Option.some.injEq] at h1; subst h1
        exact hk _ (h2 _ (List.mem_singleton.2 rfl))
      · cases h1
theorem xlev_sound (hc : CallOk P call) (hr : RoundOk P round) {ops : Array Oper} : ∀ (n : Nat) {S : List ASt} {l : List (List AV × AH)}, xlev P call round ops n S = some l → ∀ s ∈ S, awpAny P ops (fun e h => (e, h) ∈ l) n s.1 s.2.1 s.2.2
  | 0, S, l, hx, s, hs => by
    simp only [xlev] at hx
    obtain ⟨t, h1, h2⟩ := bindX_mem hx s hs
    split at h1
    · rename_i e
      simp only [Option.some.injEq] at h1; subst h1
      exact ⟨e, h2 _ (List.mem_singleton.2 rfl)⟩
    · cases h1
  | n + 1, S, l, hx, s, hs => by
    simp only [xlev] at hx
    split at hx
    · rename_i T hT
      obtain ⟨t, h1, h2⟩ := bindX_mem hT s hs
      exact xstp_sound hc hr h1 fun u hu => xlev_sound hc hr n hx u (onceS_mem (h2 _ hu))
    · cases hx
theorem xanyR_sound (hc : CallOk P call) (hr : RoundOk P round) {id : Nat} {ops : Array Oper} {env : List AV} {h : AH} {l : List XOut} (hx : xanyR P call round ops env h = some l) : awp P (.region id ops true) (InL l) env h := by
  unfold xanyR at hx
  split at hx
  · rename_i hm
    split at hx
    · rename_i m hq
      simp only [Option.some.injEq] at hx; subst hx
      refine .inr ⟨hm, awpAny_mono (fun e h he => ?_) _ _ _ _ (xlev_sound hc hr _ hq _ (List.mem_singleton.2 rfl))⟩
      exact List.mem_map.2 ⟨(e, h), he, rfl⟩
    · cases hx
  · cases hx
theorem xdr0_sound (hc : CallOk P call) (hr : RoundOk P round) {id : Nat} {ops : Array Oper} {env : List AV} {h : AH} {l : List XOut} (hx : xdr0 P call round ops env h = some l) : awp P (.region id ops true) (InL l) env h := by
  unfold xdr0 at hx
  split at hx
  · rename_i m hm
    split at hx
    · split at hx
      · rename_i m2 hm2
        simp only [Option.some.injEq] at hx
        subst hx
        exact xtry_sound (weakCall_ok hc) hr hm2
      · simp only [Option.some.injEq] at hx
        subst hx
        exact xtry_sound hc hr hm
    · simp only [Option.some.injEq] at hx
      subst hx
      exact xtry_sound hc hr hm
  · split at hx
    · rename_i m hm
      simp only [Option.some.injEq] at hx
      subst hx
      exact xtry_sound (weakCall_ok hc) hr hm
    · exact xanyR_sound hc hr hx
theorem xdr_sound (hc : CallOk P call) (hr : RoundOk P round) {id : Nat} {ops : Array Oper} {env : List AV} {h : AH} {l : List XOut} (hx : xdr P call round ops env h = some l) : awp P (.region id ops true) (InL l) env h := by
  unfold xdr at hx
  split at hx
  · split at hx
    · rename_i m hm
      simp only [Option.some.injEq] at hx
      subst hx
      exact xanyR_sound hc hr hm
    · exact xdr0_sound hc hr hx
  · exact xdr0_sound hc hr hx
theorem preL_ok (hp : PreOk pre) (ops : Array Oper) : ∀ (l : List Oper) (env : List AV) (h : AH), swk env h (preL pre ops l env h).1 (preL pre ops l env h).2
  | [], env, h => swk.refl env h
  | o :: r, env, h => by
    unfold preL
    exact (hp (some ops) o env h).trans (preL_ok hp ops r _ _)
theorem preC_ok (hp : PreOk pre) (c : Code) (env : List AV) (h : AH) : swk env h (preC pre c env h).1 (preC pre c env h).2 := by
  unfold preC
  split
  · exact preL_ok hp _ _ _ _
  · exact preL_ok hp _ _ _ _
  · exact swk.refl _ _
theorem xcode_sound (hp : PreOk pre) (hc : CallOk P call) (hr : RoundOk P round) {fuel : Nat} : ∀ (c : Code) {env : List AV} {h : AH} {l : List XOut}, xcode P pre call round fuel c env h = some l → awp P c (InL l) env h
  | .skip, env, h, l, hx => by simp only [xcode, Option.some.injEq] at hx; subst hx; simp [awp, InL]
  | .label _, env, h, l, hx => by simp only [xcode, Option.some.injEq] at hx; subst hx; simp [awp, InL]
  | .exit _, env, h, l, hx => by simp only [xcode, Option.some.injEq] at hx; subst hx; simp [awp, InL]
  | .ret, env, h, l, hx => by simp only [xcode, Option.some.injEq] at hx; subst hx; simp [awp, InL]
  | .region _ ops draw, env, h, l, hx => by
    cases draw with
    | true =>
      simp only [xcode] at hx
      exact xdr_sound hc hr hx
    | false =>
      simp only [xcode] at hx
      split at hx
      · rename_i m hm
        simp only [Option.some.injEq] at hx
        subst hx
        refine awpOps_mono ?_ _ _ _ (xops_sound hp hc hr _ hm)
        intro e h hin
        exact List.mem_map.2 ⟨(e, h), hin, rfl⟩
      · cases hx
  | .seq a b, env, h, l, hx => by
    simp only [xcode] at hx
    split at hx
    · rename_i l1 h1
      refine awp_mono ?_ a env h (xcode_sound hp hc hr a h1)
      intro x e h2 hin
      obtain ⟨s, k1, k2⟩ := bindX_mem hx _ hin
      cases x with
      | normal => exact ⟨_, _, (preC_ok hp b e h2).wk, awp_mono (fun x e h hi => k2 _ hi) b _ _ (xcode_sound hp hc hr b k1)⟩
      | _ =>
        simp only [Option.some.injEq] at k1
        subst k1
        exact k2 _ (by simp)
    · cases hx
  | .cond c t e, env, h, l, hx => by
    simp only [xcode] at hx
    split at hx
    · rename_i hok
      refine ⟨hok, ?_⟩
      split at hx
      · rename_i he; rw [he]; exact xcode_sound hp hc hr t hx
      · rename_i he; rw [he]; exact xcode_sound hp hc hr e hx
      · cases hx
    · cases hx
  | .block id body, env, h, l, hx => by
    simp only [xcode] at hx
    split at hx
    · rename_i m hm
      simp only [Option.some.injEq] at hx
      subst hx
      refine awp_mono ?_ body env h (xcode_sound hp hc hr body hm)
      intro x e h2 hin
      have key : unblock id (x, e, h2) ∈ m.map (unblock id) := List.mem_map.2 ⟨_, hin, rfl⟩
      cases x with
      | exit j =>
        simp only [unblock] at key
        by_cases hj : j = id
        · simp only [hj, if_true] at key ⊢; exact key
        · simp only [hj, if_false] at key ⊢; exact key
      | _ => exact key
    · cases hx
  | .loop body, env, h, l, hx => by
    simp only [xcode] at hx
    exact xloop_sound (fun env h l => xcode_sound hp hc hr body) hx
  | .rangeFunc f ps assign body, env, h, l, hx => by
    simp only [xcode] at hx
    split at hx
    · rename_i hok
      simp only [Bool.and_eq_true] at hok
      refine ⟨hok.1.1, hok.1.2, hok.2, env, h, wk.refl _ _ _, ?_⟩
      split at hx
      · rename_i g first caps he
        rw [he]
        split at hx
        · rename_i m hm
          refine (hc _ _ _ _ hm).mono ?_
          intro r hh hin
          obtain ⟨s, k1, k2⟩ := bindX_mem hx _ hin
          simp only [afterRF] at k1
          split at k1
          · rename_i st pe e1 e2 e3 e4 hb
            refine ⟨st, pe, _, _, _, _, hb, ?_, ?_⟩
            · rintro rfl; cases k1
            · split at k1
              · cases k1
              · split at k1
                · simp only [Option.some.injEq] at k1; subst k1; exact k2 _ (by simp)
                · simp only [Option.some.injEq] at k1; subst k1; exact k2 _ (by simp)
                · simp only [Option.some.injEq] at k1; subst k1; exact k2 _ (by simp)
                · cases k1
          · cases k1
        · cases hx
      · cases hx
    · cases hx
  | .scope _, _, _, _, hx => by simp [xcode] at hx
  | .goto _, _, _, _, hx => by simp [xcode] at hx
  | .refuse _, _, _, _, hx => by simp [xcode] at hx
end
#print axioms xcode_sound
end Go.Vv
