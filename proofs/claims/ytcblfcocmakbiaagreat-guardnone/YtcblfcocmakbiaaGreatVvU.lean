/- More rules: guards, places in slices and texts, drawn orders, folded loops. -/
import Derived.Test.YtcblfcocmakbiaaGreatVvT
namespace Go.Vv
set_option linter.unusedVariables false
set_option linter.unusedSimpArgs false
open Go

theorem aG_gv {ops : Array Oper} {o : Oper} {env : List AV} {j d : Nat} {want b c : Bool} (hg : o.guard = some (j, want)) (hd : (ops[j]?).bind (·.dst) = some d) (he : env[d]? = some (gv b (.bool c))) : aG ops o env = some (b && (c == want)) := by
  simp only [aG, hg, hd, he]
  cases b <;> simp [gv, aundef]
theorem evo_gv {env : List AV} {x : Operand} {b : Bool} {v : AV} (hx : evo env x = some (gv b v)) (hb : b = true) : evo env x = some v := by subst hb; rw [gv_true] at hx; exact hx
theorem gT {t : Bool} (h : t = true) : (t == true) = true := by rw [h]; rfl
theorem gF {t : Bool} (h : t = false) : (t == false) = true := by rw [h]; rfl
theorem gT2 {b t : Bool} (hb : b = true) (h : t = true) : (b && (t == true)) = true := by rw [hb, h]; rfl
theorem gF2 {b t : Bool} (hb : b = true) (h : t = false) : (b && (t == false)) = true := by rw [hb, h]; rfl
theorem and_l {a b : Bool} (h : (a && b) = true) : a = true := by cases a <;> simp_all
theorem pick_bb {t q r : Bool} : (if t then AV.bool q else .bool r) = .bool (if t then q else r) := by cases t <;> rfl
theorem pick_and {t q b : Bool} (hg : t = true → b = true) : (if t then gv b (.bool q) else .bool false) = AV.bool (t && q) := by cases t <;> simp [gv] ; simp [hg rfl]
theorem pick_or {t q b : Bool} (hg : t = false → b = true) : (if t then .bool true else gv b (.bool q)) = AV.bool (t || q) := by cases t <;> simp [gv] ; simp [hg rfl]
theorem pick_g1 {t q r b : Bool} (hg : t = true → b = true) : (if t then gv b (.bool q) else .bool r) = AV.bool (if t then q else r) := by cases t <;> simp [gv] ; simp [hg rfl]
theorem pick_g2 {t q r b : Bool} (hg : t = false → b = true) : (if t then .bool r else gv b (.bool q)) = AV.bool (if t then r else q) := by cases t <;> simp [gv] ; simp [hg rfl]
theorem pick_g3 {t q r b c : Bool} (hg : t = true → b = true) (hg' : t = false → c = true) : (if t then gv b (.bool q) else gv c (.bool r)) = AV.bool (if t then q else r) := by cases t <;> simp [gv] <;> simp [hg, hg']
theorem pick_ii {t : Bool} {k : IntKind} {a b : Int} : (if t then AV.int k a else .int k b) = .int k (if t then a else b) := by cases t <;> rfl
theorem pick_ig1 {t b : Bool} {k : IntKind} {x y : Int} (hg : t = true → b = true) : (if t then gv b (.int k x) else .int k y) = AV.int k (if t then x else y) := by cases t <;> simp [gv] ; simp [hg rfl]
theorem pick_ig2 {t b : Bool} {k : IntKind} {x y : Int} (hg : t = false → b = true) : (if t then .int k y else gv b (.int k x)) = AV.int k (if t then y else x) := by cases t <;> simp [gv] ; simp [hg rfl]


section
variable {P : Program} {ops : Array Oper} {Q : List AV → AH → Prop} {o : Oper} {rest : List Oper} {env env' : List AV} {h : AH}
theorem ops_end (he : env = env') (hk : Q env' h) : awpOps P ops Q [] env h := by subst he; exact hk

/-! ### A byte of a text; a row of a slice. -/
theorem ops_str {t : TypeId} {x i : Operand} {s : List UInt8} {k : IntKind} {n : Int} {z : Nat} (hg : aG ops o env = some true) (ho : o.op = .index t x i) (ht : Ty P t .string z) (hx : evo env x = some (.str s)) (hi : evo env i = some (.int k n))
    (h0 : 0 ≤ n) (hn : n < s.length) {env' : UInt8 → List AV} (hd : ∀ b : UInt8, dso o.dst env (.int .u8 b.toNat) = some (env' b)) (hk : ∀ b : UInt8, s[n.toNat]? = some b → awpOps P ops Q rest (env' b) h) : awpOps P ops Q (o :: rest) env h := by
  have hl : n.toNat < s.length := by omega
  refine ops_ok hg (s_indexStr ho ht hx hi ?_) (hd _) (hk s[n.toNat] (List.getElem?_eq_getElem hl))
  simp only [aIndexStr, h0, if_true, List.getElem?_eq_getElem hl, Option.map_some]
theorem ops_row {α : Type} {row : α → List AV} {L : List α} {t e : TypeId} {x i : Operand} {a : AV} {k : IntKind} {n : Int} {z : Nat} (hg : aG ops o env = some true) (ho : o.op = .indexAddr t x i) (ht : El P t e z) (hx : evo env x = some a) (hi : evo env i = some (.int k n))
    (ha : a = .sl z (L.map row) ∨ ∃ q, a = .osl q z (L.map row)) (h0 : 0 ≤ n) (hn : n < L.length) {env' : α → List AV} (hd : ∀ y : α, dso o.dst env (.fptr (row y)) = some (env' y)) (hk : ∀ y : α, L[n.toNat]? = some y → awpOps P ops Q rest (env' y) h) : awpOps P ops Q (o :: rest) env h := by
  have hl : n.toNat < L.length := by omega
  have hi2 : (L.map row)[n.toNat]? = some (row L[n.toNat]) := by rw [List.getElem?_map, List.getElem?_eq_getElem hl]; rfl
  refine ops_ok hg (s_indexAddr ho ht hx hi (v := .fptr (row L[n.toNat])) ?_) (hd _) (hk L[n.toNat] (List.getElem?_eq_getElem hl))
  rcases ha with rfl | ⟨q, rfl⟩ <;> simp only [aIndexAddr, h0, and_self, if_true, hi2, Option.map_some]
theorem ops_grow {α : Type} {row : α → List AV} {L : List α} {t e : TypeId} {x i : Operand} {a : AV} {k : IntKind} {n : Int} {z : Nat} {b : Bool} (d : α) (hg : aG ops o env = some b) (ho : o.op = .indexAddr t x i) (ht : El P t e z) (hx : b = true → evo env x = some a) (hi : b = true → evo env i = some (.int k n))
    (ha : a = .sl z (L.map row) ∨ ∃ q, a = .osl q z (L.map row)) (h0 : b = true → 0 ≤ n ∧ n < L.length) (hd : dso o.dst env (gv b (.fptr (row (L.getD n.toNat d)))) = some env') (hk : awpOps P ops Q rest env' h) : awpOps P ops Q (o :: rest) env h := by
  refine ops_gv hg (fun hb => ?_) hd hk
  obtain ⟨h0, hn⟩ := h0 hb
  have hl : n.toNat < L.length := by omega
  have hi2 : (L.map row)[n.toNat]? = some (row (L.getD n.toNat d)) := by rw [List.getElem?_map, List.getElem?_eq_getElem hl, List.getD_eq_getElem?_getD, List.getElem?_eq_getElem hl]; rfl
  refine s_indexAddr ho ht (hx hb) (hi hb) ?_
  rcases ha with rfl | ⟨q, rfl⟩ <;> simp only [aIndexAddr, h0, and_self, if_true, hi2, Option.map_some]

/-! ### Drawn orders. -/
variable {i : Nat} {Ns : List Nat} {F : Nat → AH → Prop}
theorem draw_nil (hk : Q env h) : awpDraw P ops Ns F Q i [] env h := hk
theorem draw_end (he : env = env') (hk : Q env' h) : awpDraw P ops Ns F Q i [] env h := by subst he; exact hk
theorem draw_ok (hN : Ns.contains i = false) {v : AV} (hg : aG ops o env = some true) (ha : astep P o env h = .ok v h) (hd : dso o.dst env v = some env') (hk : awpDraw P ops Ns F Q (i + 1) rest env' h) : awpDraw P ops Ns F Q i (o :: rest) env h :=
  ⟨v, h, .inl ⟨hN, by simp only [AR, hg, ha, and_self]⟩, .inr rfl, .inl rfl, by rw [dso_ok hd]; exact hk⟩
theorem draw_eff (hN : Ns.contains i = false) {v : AV} {h' : AH} (hF : FOk ((Region.before ops).getD i 0) Ns F h') (hc : anch ops Ns i = true) (hg : aG ops o env = some true) (ha : astep P o env h = .ok v h') (hd : dso o.dst env v = some env') (hk : awpDraw P ops Ns F Q (i + 1) rest env' h') : awpDraw P ops Ns F Q i (o :: rest) env h :=
  ⟨v, h', .inl ⟨hN, by simp only [AR, hg, ha, and_self]⟩, .inl hc, .inr hF, by rw [dso_ok hd]; exact hk⟩
theorem draw_len (hN : Ns.contains i = false) {n : Nat} {v : AV} (hg : aG ops o env = some true) (ha : astep P o env h = .len n v h) (hd : dso o.dst env v = some env') (hk : awpDraw P ops Ns F Q (i + 1) rest env' h) : awpDraw P ops Ns F Q i (o :: rest) env h :=
  ⟨v, h, .inl ⟨hN, by simp only [AR, hg, ha, and_self]⟩, .inr rfl, .inl rfl, by rw [dso_ok hd]; exact hk⟩
theorem draw_call (hN : Ns.contains i = false) {f : FuncId} {args : List AV} {v : AV} (hg : aG ops o env = some true) (ha : astep P o env h = .call f args) (hs : Spec P f args h fun r h' => r = v ∧ h' = h) (hd : dso o.dst env v = some env') (hk : awpDraw P ops Ns F Q (i + 1) rest env' h) :
    awpDraw P ops Ns F Q i (o :: rest) env h := ⟨v, h, .inl ⟨hN, by simp only [AR, hg, ha]; exact hs⟩, .inr rfl, .inl rfl, by rw [dso_ok hd]; exact hk⟩
theorem draw_callN (hN : Ns.contains i = true) {f : FuncId} {args : List AV} {v : AV} (hg : aG ops o env = some true) (ha : ∀ h2, astep P o env h2 = .call f args) (hs : ∀ h2, F i h2 → Spec P f args h2 fun r hh => r = v ∧ hh = h2) (hd : dso o.dst env v = some env') (hk : awpDraw P ops Ns F Q (i + 1) rest env' h) :
    awpDraw P ops Ns F Q i (o :: rest) env h := ⟨v, h, .inr (.inl ⟨hN, hg, rfl, .inl ⟨f, args, ha, hs⟩⟩), .inr rfl, .inl rfl, by rw [dso_ok hd]; exact hk⟩
theorem draw_okN (hN : Ns.contains i = true) {v : AV} (hg : aG ops o env = some true) (ha : ∀ h2, F i h2 → astep P o env h2 = .ok v h2) (hd : dso o.dst env v = some env') (hk : awpDraw P ops Ns F Q (i + 1) rest env' h) :
    awpDraw P ops Ns F Q i (o :: rest) env h := ⟨v, h, .inr (.inl ⟨hN, hg, rfl, .inr ha⟩), .inr rfl, .inl rfl, by rw [dso_ok hd]; exact hk⟩
theorem draw_gv (hN : Ns.contains i = false) {b : Bool} {v : AV} (hg : aG ops o env = some b) (ha : b = true → astep P o env h = .ok v h) (hd : dso o.dst env (gv b v) = some env') (hk : awpDraw P ops Ns F Q (i + 1) rest env' h) : awpDraw P ops Ns F Q i (o :: rest) env h := by
  cases b with
  | true => rw [gv_true] at hd; exact draw_ok hN hg (ha rfl) hd hk
  | false => exact ⟨aundef, h, .inl ⟨hN, by simp [AR, hg]⟩, .inr rfl, .inl rfl, by rw [gv_false] at hd; rw [dso_ok hd]; exact hk⟩
theorem draw_glen (hN : Ns.contains i = false) {b : Bool} {n : Nat} {v : AV} (hg : aG ops o env = some b) (ha : b = true → astep P o env h = .len n v h) (hd : dso o.dst env (gv b v) = some env') (hk : awpDraw P ops Ns F Q (i + 1) rest env' h) : awpDraw P ops Ns F Q i (o :: rest) env h := by
  cases b with
  | true => rw [gv_true] at hd; exact draw_len hN hg (ha rfl) hd hk
  | false => exact ⟨aundef, h, .inl ⟨hN, by simp [AR, hg]⟩, .inr rfl, .inl rfl, by rw [gv_false] at hd; rw [dso_ok hd]; exact hk⟩
theorem draw_gcall (hN : Ns.contains i = false) {b : Bool} {f : FuncId} {args : List AV} {v : AV} (hg : aG ops o env = some b) (ha : b = true → astep P o env h = .call f args) (hs : b = true → Spec P f args h fun r h' => r = v ∧ h' = h)
    (hd : dso o.dst env (gv b v) = some env') (hk : awpDraw P ops Ns F Q (i + 1) rest env' h) : awpDraw P ops Ns F Q i (o :: rest) env h := by
  cases b with
  | true => rw [gv_true] at hd; exact draw_call hN hg (ha rfl) (hs rfl) hd hk
  | false => exact ⟨aundef, h, .inl ⟨hN, by simp [AR, hg]⟩, .inr rfl, .inl rfl, by rw [gv_false] at hd; rw [dso_ok hd]; exact hk⟩
variable {i0 : Nat}
theorem draw_str (hN : Ns.contains i0 = false) {t : TypeId} {x i : Operand} {s : List UInt8} {k : IntKind} {n : Int} {z : Nat} (hg : aG ops o env = some true) (ho : o.op = .index t x i) (ht : Ty P t .string z) (hx : evo env x = some (.str s)) (hi : evo env i = some (.int k n))
    (h0 : 0 ≤ n) (hn : n < s.length) {env' : UInt8 → List AV} (hd : ∀ b : UInt8, dso o.dst env (.int .u8 b.toNat) = some (env' b)) (hk : ∀ b : UInt8, s[n.toNat]? = some b → awpDraw P ops Ns F Q (i0 + 1) rest (env' b) h) : awpDraw P ops Ns F Q i0 (o :: rest) env h := by
  have hl : n.toNat < s.length := by omega
  refine draw_ok hN hg (s_indexStr ho ht hx hi ?_) (hd _) (hk s[n.toNat] (List.getElem?_eq_getElem hl))
  simp only [aIndexStr, h0, if_true, List.getElem?_eq_getElem hl, Option.map_some]
theorem draw_row (hN : Ns.contains i0 = false) {α : Type} {row : α → List AV} {L : List α} {t e : TypeId} {x i : Operand} {a : AV} {k : IntKind} {n : Int} {z : Nat} (hg : aG ops o env = some true) (ho : o.op = .indexAddr t x i) (ht : El P t e z) (hx : evo env x = some a) (hi : evo env i = some (.int k n))
    (ha : a = .sl z (L.map row) ∨ ∃ q, a = .osl q z (L.map row)) (h0 : 0 ≤ n) (hn : n < L.length) {env' : α → List AV} (hd : ∀ y : α, dso o.dst env (.fptr (row y)) = some (env' y)) (hk : ∀ y : α, L[n.toNat]? = some y → awpDraw P ops Ns F Q (i0 + 1) rest (env' y) h) : awpDraw P ops Ns F Q i0 (o :: rest) env h := by
  have hl : n.toNat < L.length := by omega
  have hi2 : (L.map row)[n.toNat]? = some (row L[n.toNat]) := by rw [List.getElem?_map, List.getElem?_eq_getElem hl]; rfl
  refine draw_ok hN hg (s_indexAddr ho ht hx hi (v := .fptr (row L[n.toNat])) ?_) (hd _) (hk L[n.toNat] (List.getElem?_eq_getElem hl))
  rcases ha with rfl | ⟨q, rfl⟩ <;> simp only [aIndexAddr, h0, and_self, if_true, hi2, Option.map_some]
theorem draw_grow (hN : Ns.contains i0 = false) {α : Type} {row : α → List AV} {L : List α} {t e : TypeId} {x i : Operand} {a : AV} {k : IntKind} {n : Int} {z : Nat} {b : Bool} (d : α) (hg : aG ops o env = some b) (ho : o.op = .indexAddr t x i) (ht : El P t e z) (hx : b = true → evo env x = some a) (hi : b = true → evo env i = some (.int k n))
    (ha : a = .sl z (L.map row) ∨ ∃ q, a = .osl q z (L.map row)) (h0 : b = true → 0 ≤ n ∧ n < L.length) (hd : dso o.dst env (gv b (.fptr (row (L.getD n.toNat d)))) = some env') (hk : awpDraw P ops Ns F Q (i0 + 1) rest env' h) : awpDraw P ops Ns F Q i0 (o :: rest) env h := by
  refine draw_gv hN hg (fun hb => ?_) hd hk
  obtain ⟨h0, hn⟩ := h0 hb
  have hl : n.toNat < L.length := by omega
  have hi2 : (L.map row)[n.toNat]? = some (row (L.getD n.toNat d)) := by rw [List.getElem?_map, List.getElem?_eq_getElem hl, List.getD_eq_getElem?_getD, List.getElem?_eq_getElem hl]; rfl
  refine s_indexAddr ho ht (hx hb) (hi hb) ?_
  rcases ha with rfl | ⟨q, rfl⟩ <;> simp only [aIndexAddr, h0, and_self, if_true, hi2, Option.map_some]
end

/-- A call's arguments, each as one of its type. -/
inductive Fx (P : Program) : List (TypeId × AV) → List AV → Prop
  | nil : Fx P [] []
  | cons {t : TypeId} {v v' : AV} {r : List (TypeId × AV)} {s : List AV} : tyfix P t v = v' → Fx P r s → Fx P ((t, v) :: r) (v' :: s)
theorem Fx.eq {P : Program} {l : List (TypeId × AV)} {s : List AV} (h : Fx P l s) : fixL P l = s := by
  induction h with
  | nil => rfl
  | cons h _ ih => simp only [fixL, h, ih]
theorem s_call0 {P : Program} {o : Oper} {env : List AV} {h : AH} {c : Call} {f : Operand} {g : FuncId} {l : List (TypeId × AV)} {args : List AV} (ho : o.op = .call c) (hc : c.callee = .value f) (hf : evo env f = some (.fn (.func g) [] []))
    (hl : argo env c.args.toList c.argTypes.toList = some l) (ha : Fx P l args) : astep P o env h = .call g args :=
  s_call ho hc hf hl (by simp [ha.eq])
theorem s_callC {P : Program} {o : Oper} {env : List AV} {h : AH} {c : Call} {f : Operand} {g : FuncId} {l : List (TypeId × AV)} {args first caps all : List AV} (ho : o.op = .call c) (hc : c.callee = .value f) (hf : evo env f = some (.fn (.func g) first caps))
    (hl : argo env c.args.toList c.argTypes.toList = some l) (ha : Fx P l args) (hall : first ++ args ++ caps = all) : astep P o env h = .call g all :=
  s_call ho hc hf hl (by rw [ha.eq, hall])
/-- A loop, its slots told as changes of those at its head. -/
theorem r_loopU {P : Program} {Q : Exit → List AV → AH → Prop} {env : List AV} {h : AH} {body : Code} {σ : Type} (U : σ → List (Nat × AV)) (inv : σ → Prop) (μ : σ → Nat) (s0 : σ) {E : σ → List AV} (_hE : ∀ s, upd env (U s) = E s) (h0 : leL env (E s0)) (hi : inv s0)
    (hs : ∀ s, inv s → awp P body (loopQ (fun env' h' => ∃ s', inv s' ∧ μ s' < μ s ∧ wk h env' h' (E s') h) Q) (E s) h) : awp P (.loop body) Q env h :=
  r_loop E (fun _ => h) inv μ s0 (wk.le h0) hi hs
theorem r_loopH {P : Program} {Q : Exit → List AV → AH → Prop} {env : List AV} {h : AH} {body : Code} {σ : Type} (U : σ → List (Nat × AV)) (H : σ → AH) (inv : σ → Prop) (μ : σ → Nat) (s0 : σ) {E : σ → List AV} (_hE : ∀ s, upd env (U s) = E s) (h0 : leL env (E s0)) (hh : h = H s0) (hi : inv s0)
    (hs : ∀ s, inv s → awp P body (loopQ (fun env' h' => ∃ s', inv s' ∧ μ s' < μ s ∧ wk (H s) env' h' (E s') (H s')) Q) (E s) (H s)) : awp P (.loop body) Q env h :=
  r_loop E H inv μ s0 (by rw [← hh]; exact wk.le h0) hi hs
#print axioms r_loopU
end Go.Vv
