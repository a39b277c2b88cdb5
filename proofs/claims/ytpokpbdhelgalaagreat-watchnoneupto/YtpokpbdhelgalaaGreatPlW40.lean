/- Plain laws, as far as they are leaned on. -/
import Derived.Test.YtpokpbdhelgalaaGreatD
import Derived.Test.YtpokpbdhelgalaaGreatVvQ
namespace Go.Vv
set_option linter.unusedVariables false
set_option linter.unusedSimpArgs false
open Go
mutual
def GNode.dep : GNode → Nat
  | ⟨_, _, sb⟩ => GNode.deps sb + 1
def GNode.deps : List GNode → Nat
  | [] => 0
  | x :: r => max x.dep (GNode.deps r)
end
theorem dep_mem {x : GNode} : ∀ {t : List GNode}, x ∈ t → x.dep ≤ GNode.deps t
  | [], h => by cases h
  | y :: r, h => by
    simp only [GNode.deps]
    rcases List.mem_cons.1 h with rfl | h
    · omega
    · have := dep_mem h; omega
theorem dep_subs (x : GNode) : GNode.deps x.subs + 1 = x.dep := by cases x; simp [GNode.dep]
/-- Small, and as the model's values are. -/
def Small (t : List GNode) : Prop := GNode.wfs t ∧ GNode.bks t ≤ 1048576
theorem bk_pos (x : GNode) : 1 ≤ x.bk := by cases x; simp only [GNode.bk]; omega
theorem len_bks : ∀ t : List GNode, t.length ≤ GNode.bks t
  | [] => by simp [GNode.bks]
  | x :: r => by have := len_bks r; have := bk_pos x; simp only [GNode.bks, List.length_cons]; omega
theorem bk_mem {x : GNode} : ∀ {t : List GNode}, x ∈ t → x.bk ≤ GNode.bks t
  | [], h => by cases h
  | y :: r, h => by
    simp only [GNode.bks]
    rcases List.mem_cons.1 h with rfl | h
    · omega
    · have := bk_mem h; omega
theorem sum_len {α : Type} {f : α → Nat} (h : ∀ x, 1 ≤ f x) : ∀ l : List α, l.length ≤ (l.map f).sum
  | [] => by simp
  | x :: r => by have := sum_len h r; have := h x; simp only [List.length_cons, List.map_cons, List.sum_cons]; omega
theorem bk_node (x : GNode) : x.name.length + 1 + ((x.leaves.map GLeaf.bk).sum + 1) + (GNode.bks x.subs + 1) ≤ x.bk := by cases x; simp only [GNode.bk]; omega
theorem Small.subs {t : List GNode} (h : Small t) {x : GNode} (hx : x ∈ t) : Small x.subs := by
  refine ⟨?_, by have := bk_mem hx; have := bk_node x; have := h.2; omega⟩
  have := (GNode.wfs_iff t).1 h.1 x hx
  cases x; simp only [GNode.wf] at this; exact this.2.2
theorem Small.len {t : List GNode} (h : Small t) : t.length ≤ 1048576 := Nat.le_trans (len_bks t) h.2
theorem Small.leaves {t : List GNode} (h : Small t) {x : GNode} (hx : x ∈ t) : x.leaves.length ≤ 1048576 := by
  have h1 := bk_mem hx; have h2 := bk_node x; have h3 := h.2
  have h6 := sum_len (f := GLeaf.bk) (fun x => by unfold GLeaf.bk; omega) x.leaves
  omega
theorem loopW_end {σ ρ : Type} {f : σ → Option (Out ρ σ)} (inv : σ → Prop) (μ : σ → Nat) (h : ∀ s, inv s → (∃ s', f s = some (.brk s')) ∨ ∃ s', f s = some (.nxt s') ∧ inv s' ∧ μ s' < μ s) : ∀ (k : Nat) (s : σ), μ s = k → inv s → ∃ s', loopW f s = some (.inr s') := by
  intro k
  induction k using Nat.strongRecOn with
  | _ k ih =>
    intro s hk hi
    rw [loopW_eq]
    rcases h s hi with ⟨s', e⟩ | ⟨s', e, h1, h2⟩
    · exact ⟨s', by rw [e]⟩
    · rw [e]; exact ih (μ s') (by omega) s' rfl h1
theorem lpW_end {σ ρ : Type} {f : σ → Option (Out ρ σ)} {rest : σ → Option ρ} (inv : σ → Prop) (μ : σ → Nat) (hr : ∀ s, ∃ v, rest s = some v) (s0 : σ) (hi : inv s0) (h : ∀ s, inv s → (∃ s', f s = some (.brk s')) ∨ ∃ s', f s = some (.nxt s') ∧ inv s' ∧ μ s' < μ s) : ∃ v, lp (loopW f s0) rest = some v := by
  obtain ⟨s', e⟩ := loopW_end inv μ h _ s0 rfl hi
  rw [e]; exact hr s'
theorem idx_mem {α : Type} {L : List α} {i : Int} {x : α} (h : idx L i = some x) : x ∈ L := by
  unfold idx at h
  split at h
  · exact List.mem_of_getElem? h
  · cases h
theorem size_tot : ∀ (n : Nat) (t : List GNode) (d : Int), GNode.deps t < n → Small t → ∃ v, ref07XsizeN n t d = some v
  | 0, _, _, h, _ => by omega
  | n + 1, t, d, h, hs => by
    unfold ref07XsizeN
    have hl := hs.len
    refine lpW_end (fun s => 0 ≤ s.2 ∧ s.2 ≤ (t.length : Int)) (fun s => (t.length - s.2.toNat)) (fun _ => ⟨_, rfl⟩) _ ⟨by simp, by simp⟩ (fun s hi => ?_)
    rcases s with ⟨a, i⟩
    obtain ⟨k, rfl⟩ : ∃ k : Nat, i = (k : Int) := ⟨i.toNat, by have := hi.1; simp at this; omega⟩
    by_cases hc : (decide ((k : Int) < (t.length : Int)) && decide (d < 10)) = true
    · right
      simp only [Bool.and_eq_true, decide_eq_true_eq] at hc
      have hk : k < t.length := by omega
      have hm : t[k] ∈ t := List.getElem_mem hk
      have hdp := dep_mem hm
      have hds := dep_subs t[k]
      obtain ⟨v, hv⟩ := size_tot n t[k].subs (IntKind.wrap .i64 (d + 1)) (by omega) (hs.subs hm)
      have hll := hs.leaves hm
      obtain ⟨s2, e2⟩ := loopW_end (ρ := Out Int (Int × Int)) (σ := Int × Int) (f := fun s2 : Int × Int => (((idx t (k : Int)).bind fun y102 => (if decide (s2.2 < ((y102.leaves).length : Int)) = true then ((idx t (k : Int)).bind fun y105 => ((idx y105.leaves s2.2).bind fun y106 => (lp (loopL (fun (n3 : Nat) (x3 : GItem) (s3 : Int) => (some (.nxt (IntKind.wrap .i64 ((IntKind.wrap .i64 (s3 + (1 : Int))) + ((x3.text).length : Int)))) : Option (Out _ Int))) y106.items 0 (IntKind.wrap .i64 ((IntKind.wrap .i64 ((IntKind.wrap .i64 (s2.1 + (1 : Int))) + ((y106.text).length : Int))) + ((y106.tombs).length : Int)))) fun (s3 : Int) => some (.nxt (s3, (IntKind.wrap .i64 (s2.2 + (1 : Int)))))))) else some (.brk (s2.1, s2.2)))) : Option (Out (Out Int (Int × Int)) (Int × Int))))
        (fun s => 0 ≤ s.2 ∧ s.2 ≤ (t[k].leaves.length : Int)) (fun s => (t[k].leaves.length - s.2.toNat)) (fun s hi => by
          rcases s with ⟨b, i⟩
          obtain ⟨q, rfl⟩ : ∃ q : Nat, i = (q : Int) := ⟨i.toNat, by have := hi.1; simp at this; omega⟩
          simp only [idx_at hk, Option.bind_some]
          by_cases hq : q < t[k].leaves.length
          · right
            have hq2 : decide ((q : Int) < (t[k].leaves.length : Int)) = true := by simpa using hq
            simp only [hq2, if_true, idx_at hq, Option.bind_some]
            rw [loopL_fold (fun (s3 : Int) (x3 : GItem) => IntKind.wrap .i64 ((IntKind.wrap .i64 (s3 + (1 : Int))) + ((x3.text).length : Int))) _ 0 _ (fun _ _ _ _ => rfl), lp_inr]
            refine ⟨_, rfl, ?_, ?_⟩
            · simp only; rw [w64n (by omega)]; omega
            · simp only; rw [w64n (by omega)]; omega
          · left
            have hq2 : decide ((q : Int) < (t[k].leaves.length : Int)) = false := by simp; omega
            simp only [hq2]
            exact ⟨_, rfl⟩) _ ((IntKind.wrap .i64 ((IntKind.wrap .i64 ((IntKind.wrap .i64 (a + (1 : Int))) + ((t[k].name).length : Int))) + v)), (0 : Int)) rfl ⟨by simp, by simp⟩
      refine ⟨(s2.1, IntKind.wrap .i64 ((k : Int) + 1)), ?_, ?_, ?_⟩
      · simp only [hc, decide_true, Bool.and_self, if_true, idx_at hk, Option.bind_some, hv]
        simp only [idx_at hk, Option.bind_some] at e2
        rw [e2]; rfl
      · simp only; rw [w64n (by omega)]; omega
      · simp only; rw [w64n (by omega)]; omega
    · left
      refine ⟨(a, (k : Int)), ?_⟩
      simp only at hc ⊢
      rw [if_neg hc]
theorem size_fuel : ∀ (n m : Nat) (t : List GNode) (d : Int), GNode.deps t < n → GNode.deps t < m → ref07XsizeN n t d = ref07XsizeN m t d
  | 0, _, _, _, h, _ => by omega
  | _ + 1, 0, _, _, _, h => by omega
  | n + 1, m + 1, t, d, h1, h2 => by
    unfold ref07XsizeN
    congr 2
    funext s
    split
    · cases hx : idx t s.2 with
      | none => rfl
      | some y =>
        have hdp := dep_mem (idx_mem hx)
        have hds := dep_subs y
        simp only [Option.bind_some]
        rw [size_fuel n m y.subs _ (by omega) (by omega)]
    · rfl
theorem ref07Great_tot {t : List GNode} (h : Small t) : ∃ b, ref07Great t = some b := by
  unfold ref07Great ref07Xsize
  obtain ⟨v, hv⟩ : ∃ v, ∀ n, GNode.deps t + 1 ≤ n → ref07XsizeN n t 0 = some v := by
    obtain ⟨v, hv⟩ := size_tot (GNode.deps t + 1) t 0 (by omega) h
    exact ⟨v, fun n hn => by rw [size_fuel n (GNode.deps t + 1) t 0 (by omega) (by omega)]; exact hv⟩
  rw [anyN_of (GNode.deps t + 1) hv]
  exact ⟨_, rfl⟩

theorem law40Xgreat_tot (o : GVarvelaw40Op) (h : Small o.t) : ∃ b, law40Xgreat ([o] : List GVarvelaw40Op) = some b := by
  obtain ⟨g, hg⟩ := ref07Great_tot h
  unfold law40Xgreat
  simp only [loopL, hg]
  cases h1 : decide (((o.p).length : Int) > (10 : Int)) <;> cases g <;> simp [lp]
theorem law40WatchNone_top (o : GVarvelaw40Op) (hw : GVarvelaw40Op.wf o) (hb : GVarvelaw40Op.bk o ≤ 1048576) : law40WatchNone o = some true := by
  have hs : Small o.t := by
    obtain ⟨_, _, _, h4⟩ := hw
    refine ⟨(GNode.wfs_iff o.t).2 h4.2, ?_⟩
    rw [GNode.bks_eq]
    simp only [GVarvelaw40Op.bk] at hb
    omega
  obtain ⟨b, hg⟩ := law40Xgreat_tot o hs
  unfold law40WatchNone law40Xknown
  rw [hg]
  cases b <;> rfl

end Go.Vv
