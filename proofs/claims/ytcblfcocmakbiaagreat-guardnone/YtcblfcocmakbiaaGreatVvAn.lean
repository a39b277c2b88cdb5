/- Regions whose order is drawn, step by step: what turns nothing may be taken first. -/
import Derived.Test.YtcblfcocmakbiaaGreatVvZ
namespace Go.Vv
set_option linter.unusedVariables false
set_option linter.unusedSimpArgs false
open Go Go.RowKit Go.Lib

theorem ready_mem {ops : Array Oper} {listed : Array Bool} {i : Nat} : i ∈ Region.ready .any ops listed ↔ i < ops.size ∧ listed.getD i true = false ∧ ∀ o, ops[i]? = some o → ∀ e ∈ o.after, Region.binds .any e = true → listed.getD e.on false = true := by
  unfold Region.ready
  rw [List.mem_filter, List.mem_range]
  refine and_congr_right fun hi => ?_
  have ho : ops[i]? = some ops[i] := Array.getElem?_eq_getElem hi
  simp only [Bool.and_eq_true, Bool.not_eq_true', ho, Option.map_some, Option.getD_some]
  refine and_congr_right fun _ => ?_
  rw [Array.all_eq_true_iff_forall_mem]
  constructor
  · intro h o e1 e he hb
    cases e1
    have := h e he
    rw [hb] at this
    simpa using this
  · intro h e he
    cases hb : Region.binds .any e with
    | false => rfl
    | true => simpa using h _ rfl e he hb
theorem set_getD {a : Array Bool} {i j : Nat} {d : Bool} (h : i ≠ j) : (a.setIfInBounds i true).getD j d = a.getD j d := by
  simp [Array.getD_eq_getD_getElem?, h]
theorem set_getT {a : Array Bool} {i j : Nat} (h : a.getD j false = true) : (a.setIfInBounds i true).getD j false = true := by
  by_cases e : i = j
  · subst e
    rw [Array.getD_eq_getD_getElem?] at h ⊢
    rw [Array.getElem?_setIfInBounds]
    simp only [if_true]
    split
    · rfl
    · rename_i hn; rw [Array.getElem?_eq_none (by omega)] at h; simp at h
  · rw [set_getD e]; exact h
theorem ready_set {ops : Array Oper} {listed : Array Bool} {i j : Nat} (h : i ∈ Region.ready .any ops listed) (hne : j ≠ i) : i ∈ Region.ready .any ops (listed.setIfInBounds j true) := by
  rw [ready_mem] at h ⊢
  exact ⟨h.1, by rw [set_getD hne]; exact h.2.1, fun o ho e he hb => set_getT (h.2.2 o ho e he hb)⟩
theorem set_comm2 {a : Array Bool} {i j : Nat} : (a.setIfInBounds i true).setIfInBounds j true = (a.setIfInBounds j true).setIfInBounds i true := by
  apply Array.ext_getElem?
  intro k
  simp only [Array.getElem?_setIfInBounds, Array.size_setIfInBounds]
  by_cases h1 : i = k <;> by_cases h2 : j = k <;> simp [h1, h2]
theorem setd_comm {env : List AV} {d d' : Option Tmp} {v v' : AV} (h : d' = none ∨ d ≠ d') : setd (setd env d v) d' v' = setd (setd env d' v') d v := by
  cases d with
  | none => rfl
  | some d =>
    cases d' with
    | none => rfl
    | some d' =>
      simp only [setd]
      exact List.set_comm _ _ (fun e => by rcases h with h | h <;> simp_all)
/-- Neither looks at what the other makes; and they make two things. -/
def apart (ops : Array Oper) (o p : Oper) : Bool :=
  (match o.dst with | some d => !(p.looksAt ops).contains d && p.dst != some d | none => true) &&
  (match p.dst with | some d => !(o.looksAt ops).contains d | none => true)
/-- All that may be ready beside it are apart from it. -/
def apartAll (ops : Array Oper) (i : Nat) : Bool := match ops[i]? with
  | none => false
  | some o => ops.toList.zipIdx.all fun (p, j) => i == j || (p.after.any fun e => Region.binds .any e && e.on == i) || (o.after.any fun e => Region.binds .any e && e.on == j) || apart ops o p
theorem apart_of {ops : Array Oper} {listed : Array Bool} {i j : Nat} {o p : Oper} (h : apartAll ops i = true) (ho : ops[i]? = some o) (hp : ops[j]? = some p) (hne : i ≠ j) (hi : i ∈ Region.ready .any ops listed) (hj : j ∈ Region.ready .any ops listed) : apart ops o p = true := by
  unfold apartAll at h
  rw [ho] at h
  simp only [List.all_eq_true, Prod.forall] at h
  have hm : (p, j) ∈ ops.toList.zipIdx := by
    rw [List.mem_zipIdx_iff_getElem?]; simpa using hp
  have h := h p j hm
  rw [ready_mem] at hi hj
  simp only [Bool.or_eq_true, beq_iff_eq, Array.any_eq_true'] at h
  rcases h with ((h | ⟨e, he, h⟩) | ⟨e, he, h⟩) | h
  · exact absurd h hne
  · exfalso
    simp only [Bool.and_eq_true, beq_iff_eq] at h
    have k := hj.2.2 p hp e he h.1
    have k2 := hi.2.1
    rw [h.2] at k
    rw [Array.getD_eq_getD_getElem?] at k k2
    cases hh : listed[i]? with
    | none => rw [hh] at k; simp at k
    | some b => rw [hh] at k k2; simp at k k2; rw [k] at k2; cases k2
  · exfalso
    simp only [Bool.and_eq_true, beq_iff_eq] at h
    have k := hi.2.2 o ho e he h.1
    have k2 := hj.2.1
    rw [h.2] at k
    rw [Array.getD_eq_getD_getElem?] at k k2
    cases hh : listed[j]? with
    | none => rw [hh] at k; simp at k
    | some b => rw [hh] at k k2; simp at k k2; rw [k] at k2; cases k2
  · exact h
/-- It makes v, whatever the heap, and turns nothing. -/
def Sil (P : Program) (ops : Array Oper) (o : Oper) (env : List AV) (v : AV) : Prop :=
  (aG ops o env = some true ∧ ∀ h, astep P o env h = .ok v h) ∨ (aG ops o env = some false ∧ v = aundef) ∨
  (aG ops o env = some true ∧ ∃ f args, (∀ h, astep P o env h = .call f args) ∧ ∀ h, Spec P f args h fun r hh => r = v ∧ hh = h)
theorem looks_env {ops : Array Oper} {o : Oper} {env : List AV} {d : Option Tmp} {v : AV} (h : ∀ t, d = some t → t ∉ o.looksAt ops) : (∀ t ∈ o.looksAt ops, (setd env d v)[t]? = env[t]?) ∧ ∀ x ∈ o.op.operands, ev (setd env d v) x = ev env x := by
  have h1 : ∀ t ∈ o.looksAt ops, (setd env d v)[t]? = env[t]? := fun t ht => setd_get_ne fun e => h t e ht
  exact ⟨h1, fun x hx => ev_congr fun t e => h1 t (looks_op (by rw [← e]; exact hx))⟩
theorem apart_l {ops : Array Oper} {o p : Oper} (h : apart ops o p = true) : (∀ t, o.dst = some t → t ∉ p.looksAt ops) ∧ (∀ t, p.dst = some t → t ∉ o.looksAt ops) ∧ (p.dst = none ∨ o.dst ≠ p.dst) := by
  unfold apart at h
  rw [Bool.and_eq_true] at h
  refine ⟨fun t e => ?_, fun t e => ?_, ?_⟩
  · have h1 := h.1; rw [e] at h1; simp only [Bool.and_eq_true, Bool.not_eq_true', List.contains_eq_mem, decide_eq_false_iff_not] at h1; exact h1.1
  · have h1 := h.2; rw [e] at h1; simpa [List.contains_eq_mem] using h1
  · cases hp : p.dst with
    | none => exact .inl rfl
    | some t =>
      right
      intro e
      have h1 := h.1
      rw [e, hp] at h1
      simp at h1
theorem any_sil {P : Program} {ops : Array Oper} {Q : List AV → AH → Prop} {i : Nat} {o : Oper} {v : AV} (ho : ops[i]? = some o) (hap : apartAll ops i = true) : ∀ (m : Nat) {listed : Array Bool} {env : List AV} {h : AH}, i ∈ Region.ready .any ops listed → Sil P ops o env v →
    awpAny P ops Q m (listed.setIfInBounds i true) (setd env o.dst v) h → awpAny P ops Q (m + 1) listed env h
  | m, listed, env, h, hi, hs, hk => by
    refine ⟨fun e => (by rw [e] at hi; cases hi), fun j hj p hp => ?_⟩
    by_cases hne : j = i
    · subst hne
      rw [ho] at hp; cases hp
      rcases hs with ⟨h1, h2⟩ | ⟨h1, rfl⟩ | ⟨h1, f, args, h2, h3⟩
      · rw [h1, h2]; exact .inl hk
      · rw [h1]; exact hk
      · rw [h1, h2]
        exact .inl ((h3 h).mono fun r hh e => by rw [e.1, e.2]; exact hk)
    · have hj' := ready_set hj (Ne.symm hne)
      obtain ⟨a1, a2, a3⟩ := apart_l (apart_of hap ho hp (Ne.symm hne) hi hj)
      cases m with
      | zero => rw [hk.1] at hj'; cases hj'
      | succ m =>
        have hk := hk.2 j hj' p hp
        obtain ⟨b1, b2⟩ := looks_env (env := env) (v := v) a1
        rw [aG_congr b1, astep_congr b2] at hk
        have go : ∀ v' h', awpAny P ops Q m ((listed.setIfInBounds i true).setIfInBounds j true) (setd (setd env o.dst v) p.dst v') h' → awpAny P ops Q (m + 1) (listed.setIfInBounds j true) (setd env p.dst v') h' := fun v' h' hh => by
          obtain ⟨c1, c2⟩ := looks_env (env := env) (v := v') a2
          refine any_sil (v := v) ho hap m (ready_set hi hne) ?_ ?_
          · rcases hs with ⟨h1, h2⟩ | ⟨h1, h2⟩ | ⟨h1, f, args, h2, h3⟩
            · exact .inl ⟨by rw [aG_congr c1]; exact h1, fun h => by rw [astep_congr c2]; exact h2 h⟩
            · exact .inr (.inl ⟨by rw [aG_congr c1]; exact h1, h2⟩)
            · exact .inr (.inr ⟨by rw [aG_congr c1]; exact h1, f, args, fun h => by rw [astep_congr c2]; exact h2 h, h3⟩)
          · rw [set_comm2, setd_comm a3] at hh
            exact hh
        cases hb : aG ops p env with
        | none => rw [hb] at hk; exact hk
        | some b =>
          rw [hb] at hk
          cases b with
          | true => exact hk.imp (rwp_mono go) fun ⟨l, hl, hq⟩ => ⟨l, by rw [← bstep_congr b2]; exact hl, fun q hi => go _ _ (hq q hi)⟩
          | false => exact go _ _ hk
/-- One that is ready alone. -/
theorem any_one {P : Program} {ops : Array Oper} {Q : List AV → AH → Prop} {i : Nat} {o : Oper} (ho : ops[i]? = some o) {m : Nat} {listed : Array Bool} {env : List AV} {h : AH} (hr : Region.ready .any ops listed = [i])
    (hk : gwp (aG ops o env) (fun K => rwp P h (astep P o env h) K ∨ bwp P o env h K) h fun v h' => awpAny P ops Q m (listed.setIfInBounds i true) (setd env o.dst v) h') : awpAny P ops Q (m + 1) listed env h := by
  refine ⟨fun e => (by rw [hr] at e; cases e), fun j hj p hp => ?_⟩
  rw [hr, List.mem_singleton] at hj
  subst hj
  rw [ho] at hp; cases hp
  exact hk
/-! ### Rules. -/
def anyAt (P : Program) (ops : Array Oper) (Q : List AV → AH → Prop) (m : Nat) (listed : Array Bool) (env : List AV) (h : AH) (i : Nat) : Prop := ∀ o, ops[i]? = some o →
  gwp (aG ops o env) (fun K => rwp P h (astep P o env h) K ∨ bwp P o env h K) h fun v h' => awpAny P ops Q m (listed.setIfInBounds i true) (setd env o.dst v) h'
section
variable {P : Program} {l : List Oper} {Q : List AV → AH → Prop} {m i j : Nat} {listed : Array Bool} {env env' : List AV} {h h' : AH} {o : Oper} {v : AV}
theorem any_end (hr : (Region.ready .any ⟨l⟩ listed == []) = true) (hk : Q env h) : awpAny P ⟨l⟩ Q m listed env h := by
  have hr := eq_of_beq hr
  cases m with
  | zero => exact ⟨hr, hk⟩
  | succ m => exact ⟨fun _ => hk, fun i hi => by rw [hr] at hi; cases hi⟩
theorem any_s (hr : (Region.ready .any ⟨l⟩ listed).contains i = true) (hap : apartAll ⟨l⟩ i = true) (ho : l[i]? = some o) (hg : aG ⟨l⟩ o env = some true) (ha : ∀ h, astep P o env h = .ok v h) (hd : dso o.dst env v = some env')
    (hk : awpAny P ⟨l⟩ Q m (listed.setIfInBounds i true) env' h) : awpAny P ⟨l⟩ Q (m + 1) listed env h := by
  refine any_sil (v := v) (by simpa using ho) hap m (by simpa [List.contains_eq_mem] using hr) (.inl ⟨hg, ha⟩) ?_
  rw [dso_ok hd]; exact hk
theorem any_at (ho : l[i]? = some o) (hg : aG ⟨l⟩ o env = some true) (ha : astep P o env h = .ok v h') (hd : dso o.dst env v = some env') (hk : awpAny P ⟨l⟩ Q m (listed.setIfInBounds i true) env' h') : anyAt P ⟨l⟩ Q m listed env h i := by
  intro p hp
  have : o = p := by
    have hp' : l[i]? = some p := by simpa using hp
    rw [ho] at hp'; exact Option.some.inj hp'
  subst this
  rw [hg, ha]
  exact .inl (by simp only [rwp]; rw [dso_ok hd]; exact hk)
theorem any_1 (hr : (Region.ready .any ⟨l⟩ listed == [i]) = true) (hi : anyAt P ⟨l⟩ Q m listed env h i) : awpAny P ⟨l⟩ Q (m + 1) listed env h := by
  have hr := eq_of_beq hr
  refine ⟨fun e => (by rw [hr] at e; cases e), fun k hk o ho => ?_⟩
  rw [hr, List.mem_singleton] at hk
  subst hk
  exact hi o ho
theorem any_2 (hr : (Region.ready .any ⟨l⟩ listed == [i, j]) = true) (hi : anyAt P ⟨l⟩ Q m listed env h i) (hj : anyAt P ⟨l⟩ Q m listed env h j) : awpAny P ⟨l⟩ Q (m + 1) listed env h := by
  have hr := eq_of_beq hr
  refine ⟨fun e => (by rw [hr] at e; cases e), fun k hk o ho => ?_⟩
  rw [hr] at hk
  rcases List.mem_cons.1 hk with rfl | hk
  · exact hi o ho
  · rw [List.mem_singleton] at hk; subst hk; exact hj o ho
end
/-- A region whose order is drawn, step by step. -/
theorem r_any {P : Program} {Q : Exit → List AV → AH → Prop} {env : List AV} {h : AH} {id : Nat} {l : List Oper} (n : Nat) (hn : l.length = n) (hm : P.follows .mixedOrders = true) (hk : awpAny P ⟨l⟩ (Q .normal) n (Array.replicate n false) env h) : awp P (.region id ⟨l⟩ true) Q env h := by
  refine .inr ⟨hm, ?_⟩
  subst hn
  exact hk
end Go.Vv
