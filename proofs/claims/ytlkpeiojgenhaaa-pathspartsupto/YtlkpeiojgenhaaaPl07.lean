/- Layer 7, plainly: which trees may be. -/
import Derived.Test.YtlkpeiojgenhaaaPl05
namespace Go.Vv
set_option linter.unusedVariables false
set_option linter.unusedSimpArgs false
open Go
mutual
def GNode.dep : GNode → Nat
  | ⟨_, _, sb⟩ => GNode.deps sb + 1
def GNode.deps : List GNode → Nat
  | [] => 0
  | x :: r => max x.dep (GNode.deps r)
end
theorem dep_mem {x : GNode} : ∀ {t : List GNode}, x ∈ t → x.dep ≤ GNode.deps t
  | [], h => by cases h
  | y :: r, h => by
    simp only [GNode.deps]
    rcases List.mem_cons.1 h with rfl | h
    · omega
    · have := dep_mem h; omega
theorem dep_subs (x : GNode) : GNode.deps x.subs + 1 = x.dep := by cases x; simp [GNode.dep]
/-- Small, and as the model's values are. -/
def Small (t : List GNode) : Prop := GNode.wfs t ∧ GNode.bks t ≤ 1048576
theorem bk_pos (x : GNode) : 1 ≤ x.bk := by cases x; simp only [GNode.bk]; omega
theorem len_bks : ∀ t : List GNode, t.length ≤ GNode.bks t
  | [] => by simp [GNode.bks]
  | x :: r => by have := len_bks r; have := bk_pos x; simp only [GNode.bks, List.length_cons]; omega
theorem bk_mem {x : GNode} : ∀ {t : List GNode}, x ∈ t → x.bk ≤ GNode.bks t
  | [], h => by cases h
  | y :: r, h => by
    simp only [GNode.bks]
    rcases List.mem_cons.1 h with rfl | h
    · omega
    · have := bk_mem h; omega
theorem sum_len {α : Type} {f : α → Nat} (h : ∀ x, 1 ≤ f x) : ∀ l : List α, l.length ≤ (l.map f).sum
  | [] => by simp
  | x :: r => by have := sum_len h r; have := h x; simp only [List.length_cons, List.map_cons, List.sum_cons]; omega
theorem sum_mem {α : Type} {f : α → Nat} {x : α} : ∀ {l : List α}, x ∈ l → f x ≤ (l.map f).sum
  | [], h => by cases h
  | y :: r, h => by
    simp only [List.map_cons, List.sum_cons]
    rcases List.mem_cons.1 h with rfl | h
    · omega
    · have := sum_mem (f := f) h; omega
theorem bk_node (x : GNode) : x.name.length + 1 + ((x.leaves.map GLeaf.bk).sum + 1) + (GNode.bks x.subs + 1) ≤ x.bk := by cases x; simp only [GNode.bk]; omega
theorem Small.subs {t : List GNode} (h : Small t) {x : GNode} (hx : x ∈ t) : Small x.subs := by
  refine ⟨?_, by have := bk_mem hx; have := bk_node x; have := h.2; omega⟩
  have := (GNode.wfs_iff t).1 h.1 x hx
  cases x; simp only [GNode.wf] at this; exact this.2.2
theorem Small.len {t : List GNode} (h : Small t) : t.length ≤ 1048576 := Nat.le_trans (len_bks t) h.2
structure LeafOk (l : GLeaf) : Prop where
  items : l.items.length ≤ 1048576
  tombs : l.tombs.length ≤ 1048576
  time : 0 ≤ l.time
theorem Small.leaf {t : List GNode} (h : Small t) {x : GNode} (hx : x ∈ t) {l : GLeaf} (hl : l ∈ x.leaves) : LeafOk l := by
  have h1 := bk_mem hx; have h2 := bk_node x; have h3 := h.2
  have h4 : l.bk ≤ _ := sum_mem (f := GLeaf.bk) hl
  have h5 : (l.items.map GItem.bk).sum + 1 + ((l.tombs.map GDot.bk).sum + 1) ≤ l.bk := by unfold GLeaf.bk; omega
  have h6 := sum_len (f := GItem.bk) (fun x => by unfold GItem.bk; omega) l.items
  have h7 := sum_len (f := GDot.bk) (fun x => by unfold GDot.bk; omega) l.tombs
  refine ⟨by omega, by omega, ?_⟩
  have := (GNode.wfs_iff t).1 h.1 x hx
  cases x; simp only [GNode.wf] at this
  have := this.2.1.2 l hl
  unfold GLeaf.wf at this
  have := this.2.2.1
  unfold InK at this; simp [IntKind.min, IntKind.max, IntKind.signed, IntKind.bits] at this; omega
theorem Small.leaves {t : List GNode} (h : Small t) {x : GNode} (hx : x ∈ t) : x.leaves.length ≤ 1048576 := by
  have h1 := bk_mem hx; have h2 := bk_node x; have h3 := h.2
  have h6 := sum_len (f := GLeaf.bk) (fun x => by unfold GLeaf.bk; omega) x.leaves
  omega
/-- Names rise. -/
def upB (t : List GNode) : Bool := allI (fun i x => decide (i = 0) || Op.bytesLess (t.getD (i - 1) default).name x.name) t
/-- Leaves that may be, of rising types. -/
def leavesB (ls : List GLeaf) : Bool := allI (fun i l => leafB l && (decide (i = 0) || decide ((ls.getD (i - 1) default).typ < l.typ))) ls
mutual
def nodeB (d : Nat) : GNode → Bool
  | ⟨nm, ls, sb⟩ => nameB nm && !(ls.isEmpty && sb.isEmpty) && ((sb.isEmpty || decide (d + 1 < 3)) && upB sb && nodesB (d + 1) sb) && leavesB ls
def nodesB (d : Nat) : List GNode → Bool
  | [] => true
  | x :: r => nodeB d x && nodesB d r
end
def treeB (d : Nat) (t : List GNode) : Bool := (t.isEmpty || decide (d < 3)) && upB t && nodesB d t
theorem nodesB_all (d : Nat) : ∀ t, nodesB d t = t.all (nodeB d)
  | [] => rfl
  | x :: r => by simp only [nodesB, List.all_cons, nodesB_all d r]
theorem nodeB_eq (d : Nat) (x : GNode) : nodeB d x = (nameB x.name && !(x.leaves.isEmpty && x.subs.isEmpty) && treeB (d + 1) x.subs && leavesB x.leaves) := by cases x; rfl
theorem up_nodes (d : Nat) (t : List GNode) : allI (fun i x => nodeB d x && (decide (i = 0) || Op.bytesLess (t.getD (i - 1) default).name x.name)) t = (upB t && nodesB d t) := by
  rw [Bool.eq_iff_iff, allI_iff, nodesB_all]
  simp only [Bool.and_eq_true, upB, allI_iff, List.all_eq_true]
  constructor
  · intro h
    exact ⟨fun i x hx => (h i x hx).2, fun x hx => by obtain ⟨i, hi⟩ := List.mem_iff_getElem?.1 hx; exact (h i x hi).1⟩
  · rintro ⟨h1, h2⟩ i x hx
    exact ⟨h2 x (List.mem_of_getElem? hx), h1 i x hx⟩
theorem lenE {α : Type} (l : List α) : ((l.length : Int) == 0) = l.isEmpty := by cases l <;> simp; omega
theorem treeXmayN_is : ∀ (n : Nat) (t : List GNode) (d : Nat), GNode.deps t < n → d ≤ 3 → Small t → treeXmayN n t (d : Int) = some (treeB d t)
  | 0, _, _, h, _, _ => by omega
  | n + 1, t, d, h, hd, hs => by
    unfold treeXmayN
    by_cases hc : (decide ((t.length : Int) > 0) && ((d : Int) == 3)) = true
    · rw [if_pos hc]
      simp only [Bool.and_eq_true, decide_eq_true_eq, beq_iff_eq] at hc
      have : t.isEmpty = false := by cases t <;> simp at hc ⊢
      have hd3 : decide (d < 3) = false := decide_eq_false (by omega)
      simp [treeB, this, hd3]
    · rw [if_neg hc]
      have hte : (t.isEmpty || decide (d < 3)) = true := by
        simp only [Bool.and_eq_true, decide_eq_true_eq, beq_iff_eq] at hc
        cases t with
        | nil => rfl
        | cons x r => simp at hc ⊢; omega
      have hl := hs.len
      rw [lp_all (r := false) (fun i x => nodeB d x && (decide (i = 0) || Op.bytesLess (t.getD (i - 1) default).name x.name)), up_nodes]
      · unfold treeB; rw [hte, Bool.true_and]
        cases upB t && nodesB d t <;> rfl
      · intro i x hx
        have hi : i < t.length := (List.getElem?_eq_some_iff.1 hx).1
        have hm := List.mem_of_getElem? hx
        have hdp := dep_mem hm
        have hds := dep_subs x
        have hne : 0 < t.length := by omega
        have hd3 : d < 3 := by
          simp only [Bool.and_eq_true, decide_eq_true_eq, beq_iff_eq] at hc; omega
        have hw : IntKind.wrap .i64 ((d : Int) + 1) = ((d + 1 : Nat) : Int) := by rw [w64n (by omega)]; omega
        have ih := treeXmayN_is n x.subs (d + 1) (by omega) (by omega) (hs.subs hm)
        have hll := hs.leaves hm
        have hsl := (hs.subs hm).len
        have hw2 : IntKind.wrap .i64 ((x.leaves.length : Int) + (x.subs.length : Int)) = ((x.leaves.length + x.subs.length : Nat) : Int) := by rw [w64n (by omega)]; omega
        have hz : ((((x.leaves.length + x.subs.length : Nat) : Int)) == 0) = (x.leaves.isEmpty && x.subs.isEmpty) := by
          cases h1 : x.leaves <;> cases h2 : x.subs <;> simp <;> omega
        rw [opIsName_is, hw, ih, hw2, hz, nodeB_eq]
        have hlv : lp (loopL (fun (n2 : Nat) (x2 : GLeaf) (s2 : Unit) => (((leafMay x2).bind fun v43 => (chk ((((!v43) == false) && ((decide ((n2 : Int) > (0 : Int))) == true)) = true → 0 ≤ (IntKind.wrap .i64 ((n2 : Int) - (1 : Int))) ∧ (IntKind.wrap .i64 ((n2 : Int) - (1 : Int))) < ((x.leaves).length : Int)) ((if ((!v43) || ((decide ((n2 : Int) > (0 : Int))) && (decide (((x.leaves).getD (IntKind.wrap .i64 ((n2 : Int) - (1 : Int))).toNat default).typ ≥ x2.typ)))) = true then some (.ret (.ret false)) else some (.nxt ()))))) : Option (Out (Out Bool Unit) Unit))) x.leaves 0 ()) (fun (s2 : Unit) => some (.nxt ())) = if leavesB x.leaves = true then some (.nxt ()) else some (.ret false) := by
          rw [lp_all (r := .ret false) (fun i l => leafB l && (decide (i = 0) || decide ((x.leaves.getD (i - 1) default).typ < l.typ)))]
          · rfl
          · intro j l hjl
            have hjx : j < x.leaves.length := (List.getElem?_eq_some_iff.1 hjl).1
            have hlo := hs.leaf hm (List.mem_of_getElem? hjl)
            rw [leafMay_is (by have := hlo.items; simp only [maxLen]; omega) (by have := hlo.tombs; simp only [maxLen]; omega)]
            simp only [Option.bind_some]
            rcases j with _ | j
            · cases leafB l <;> simp [chk]
            · rw [wrap_succ (by simp only [maxLen]; omega), pos_succ, Int.toNat_natCast, chk_true (by intro _; omega)]
              have e : decide ((x.leaves.getD j default).typ ≥ l.typ) = !decide ((x.leaves.getD j default).typ < l.typ) := by rw [Bool.eq_iff_iff]; simp
              rw [e, Nat.add_sub_cancel]
              generalize (x.leaves.getD j default) = y
              cases leafB l <;> cases decide (y.typ < l.typ) <;> simp
        rw [hlv]
        simp only [Option.bind_some]
        rcases i with _ | j
        · cases nameB x.name <;> cases (x.leaves.isEmpty && x.subs.isEmpty) <;> cases treeB (d + 1) x.subs <;> cases leavesB x.leaves <;> simp [chk]
        · rw [wrap_succ (by simp only [maxLen]; omega), pos_succ, Int.toNat_natCast, chk_true (by intro _; omega), Nat.add_sub_cancel]
          generalize (t.getD j default) = y
          cases nameB x.name <;> cases (x.leaves.isEmpty && x.subs.isEmpty) <;> cases treeB (d + 1) x.subs <;> cases leavesB x.leaves <;> cases Op.bytesLess y.name x.name <;> simp
theorem treeMay_is {t : List GNode} (h : Small t) : treeMay t = some (treeB 0 t) := by
  unfold treeMay treeXmay
  have := anyN_of (g := fun n => treeXmayN n t 0) (r := treeB 0 t) (GNode.deps t + 1) (fun n hn => by have := treeXmayN_is n t 0 (by omega) (by omega) h; simpa using this)
  rw [this]; rfl
theorem ref07XmayN_is : ∀ (n : Nat) (t : List GNode) (d : Nat), GNode.deps t < n → d ≤ 3 → Small t → ref07XmayN n t (d : Int) = some (treeB d t)
  | 0, _, _, h, _, _ => by omega
  | n + 1, t, d, h, hd, hs => by
    unfold ref07XmayN
    have hl := hs.len
    rw [lp_all (r := false) (fun i x => decide (d < 3) && (nodeB d x && (decide (i = 0) || Op.bytesLess (t.getD (i - 1) default).name x.name)))]
    · have e : allI (fun i x => decide (d < 3) && (nodeB d x && (decide (i = 0) || Op.bytesLess (t.getD (i - 1) default).name x.name))) t = treeB d t := by
        unfold treeB
        rw [Bool.and_assoc, ← up_nodes]
        cases hd3 : decide (d < 3)
        · cases t with
          | nil => rfl
          | cons x r => simp [allI]
        · simp
      rw [e]; cases treeB d t <;> rfl
    · intro i x hx
      have hi : i < t.length := (List.getElem?_eq_some_iff.1 hx).1
      have hm := List.mem_of_getElem? hx
      have hdp := dep_mem hm
      have hds := dep_subs x
      have hg3 : decide ((d : Int) ≥ 3) = !decide (d < 3) := by rw [Bool.eq_iff_iff]; simp; omega
      rw [hg3]
      by_cases hd3 : d < 3
      · have hw : IntKind.wrap .i64 ((d : Int) + 1) = ((d + 1 : Nat) : Int) := by rw [w64n (by omega)]; omega
        have ih := ref07XmayN_is n x.subs (d + 1) (by omega) (by omega) (hs.subs hm)
        have hll := hs.leaves hm
        rw [ref04IsName_is, hw, ih, nodeB_eq, lenE, lenE]
        have hlv : lp (loopL (fun (n2 : Nat) (x2 : GLeaf) (s2 : Unit) => (((ref05May x2).bind fun v50 => (chk ((((!v50) == false) && ((decide ((n2 : Int) > (0 : Int))) == true)) = true → 0 ≤ (IntKind.wrap .i64 ((n2 : Int) - (1 : Int))) ∧ (IntKind.wrap .i64 ((n2 : Int) - (1 : Int))) < ((x.leaves).length : Int)) ((chk ((((!v50) == false) && ((decide ((n2 : Int) > (0 : Int))) == true)) = true → 0 ≤ (n2 : Int) ∧ (n2 : Int) < ((x.leaves).length : Int)) ((if ((!v50) || ((decide ((n2 : Int) > (0 : Int))) && (decide (((x.leaves).getD (IntKind.wrap .i64 ((n2 : Int) - (1 : Int))).toNat default).typ ≥ ((x.leaves).getD (n2 : Int).toNat default).typ)))) = true then some (.ret (.ret false)) else some (.nxt ()))))))) : Option (Out (Out Bool Unit) Unit))) x.leaves 0 ()) (fun (s2 : Unit) => some (.nxt ())) = if leavesB x.leaves = true then some (.nxt ()) else some (.ret false) := by
          rw [lp_all (r := .ret false) (fun i l => leafB l && (decide (i = 0) || decide ((x.leaves.getD (i - 1) default).typ < l.typ)))]
          · rfl
          · intro j l hjl
            have hjx : j < x.leaves.length := (List.getElem?_eq_some_iff.1 hjl).1
            have hle : x.leaves.getD j default = l := by rw [List.getD_eq_getElem?_getD, hjl]; rfl
            have hlo := hs.leaf hm (List.mem_of_getElem? hjl)
            rw [ref05May_is (by have := hlo.items; simp only [maxLen]; omega) (by have := hlo.tombs; simp only [maxLen]; omega) hlo.time]
            simp only [Option.bind_some]
            rcases j with _ | j
            · cases leafB l <;> simp [chk]
            · rw [wrap_succ (by simp only [maxLen]; omega), pos_succ, Int.toNat_natCast, Int.toNat_natCast, hle, chk_true (by intro _; omega), chk_true (by intro _; omega)]
              have e : decide ((x.leaves.getD j default).typ ≥ l.typ) = !decide ((x.leaves.getD j default).typ < l.typ) := by rw [Bool.eq_iff_iff]; simp
              rw [e, Nat.add_sub_cancel]
              generalize (x.leaves.getD j default) = y
              cases leafB l <;> cases decide (y.typ < l.typ) <;> simp
        rw [hlv, decide_eq_true hd3]
        simp only [Option.bind_some, Bool.not_true, Bool.false_or, Bool.true_and, BEq.rfl, if_true]
        rcases i with _ | j
        · cases nameB x.name <;> cases (x.leaves.isEmpty && x.subs.isEmpty) <;> cases treeB (d + 1) x.subs <;> cases leavesB x.leaves <;> simp [chk]
        · rw [wrap_succ (by simp only [maxLen]; omega), pos_succ, Int.toNat_natCast, chk_true (by intro _; omega), Nat.add_sub_cancel]
          generalize (t.getD j default) = y
          cases nameB x.name <;> cases (x.leaves.isEmpty && x.subs.isEmpty) <;> cases treeB (d + 1) x.subs <;> cases leavesB x.leaves <;> cases Op.bytesLess y.name x.name <;> simp
      · rw [decide_eq_false hd3]
        simp [chk]
theorem ref07May_is {t : List GNode} (h : Small t) : ref07May t = some (treeB 0 t) := by
  unfold ref07May ref07Xmay
  have := anyN_of (g := fun n => ref07XmayN n t 0) (r := treeB 0 t) (GNode.deps t + 1) (fun n hn => by have := ref07XmayN_is n t 0 (by omega) (by omega) h; simpa using this)
  rw [this]; rfl
end Go.Vv
