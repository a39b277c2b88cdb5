/- The law varve.varvelaw40.WatchNone holds: for every input it returns true, and each argument reads as it read. No condition. -/
import Derived.Test.YtpokpbdhelgalaaGreatRows
import Derived.Test.YtpokpbdhelgalaaGreatW1
import Derived.Test.YtpokpbdhelgalaaGreatPlW40
import Derived.Test.YtpokpbdhelgalaaGreatVvUp
import Derived.ProofKit
import Derived.HandedShaped
import Derived.OpenShut
namespace Go.Proofs.YtpokpbdhelgalaaGreat
open Go Go.Vv Go.ChangeShapes Go.WideShapes Go.ChangeAt Go.RowKit
set_option maxRecDepth 100000
set_option linter.unusedVariables false
set_option linter.unusedSimpArgs false
theorem co9 : Tryz.prog.cellsOf 9 = 1 := by kernel_rfl
theorem rdt22 {H : Type} {enc : TypeId × Value → H} {W : World} (n : Nat) : RdN enc Tryz.prog W n 22 (fun L : (List Str) => [AV.sl 1 (L.map strRow)]) (fun L => L.length ≤ maxLen ∧ ∀ y ∈ L, y.length ≤ maxLen) (fun L => (L.map (fun s => s.length + 1)).sum + 1) :=
  rd_slice Tryz.underlying22 co9 (by decide) (fun _ => rfl) (fun _ => rfl) (fun m _ => (rd_str Tryz.underlying9))
theorem co60 : Tryz.prog.cellsOf 60 = 3 := by kernel_rfl
theorem co24 : Tryz.prog.cellsOf 24 = 1 := by kernel_rfl
theorem co58 : Tryz.prog.cellsOf 58 = 1 := by kernel_rfl
theorem co5 : Tryz.prog.cellsOf 5 = 1 := by kernel_rfl
theorem co49 : Tryz.prog.cellsOf 49 = 1 := by kernel_rfl
theorem co51 : Tryz.prog.cellsOf 51 = 2 := by kernel_rfl
theorem rdGActor {H : Type} {enc : TypeId × Value → H} {W : World} (n : Nat) : RdN enc Tryz.prog W n 51 GActor.row GActor.wf GActor.bk :=
  (rd_struct (l := (match Tryz.prog.underlying 51 with | some (.struct fs) => fs.toList | _ => [])) (fs := (match Tryz.prog.underlying 51 with | some (.struct fs) => fs | _ => #[])) (by kernel_rfl) (by kernel_rfl) co51 (fun m _ => (rf_cons rfl co5 rfl (rd_int Tryz.underlying5) (rf_cons rfl co49 rfl (rd_int Tryz.underlying49) (rf_nil (by decide)))))).map (fun p => GActor.mk p.1 p.2.1) (fun _ => rfl) (fun a h => by simpa [GActor.wf, and_assoc] using h) (fun _ => rfl)
theorem co31 : Tryz.prog.cellsOf 31 = 1 := by kernel_rfl
theorem co53 : Tryz.prog.cellsOf 53 = 3 := by kernel_rfl
theorem rdGDot {H : Type} {enc : TypeId × Value → H} {W : World} (n : Nat) : RdN enc Tryz.prog W n 53 GDot.row GDot.wf GDot.bk :=
  (rd_struct (l := (match Tryz.prog.underlying 53 with | some (.struct fs) => fs.toList | _ => [])) (fs := (match Tryz.prog.underlying 53 with | some (.struct fs) => fs | _ => #[])) (by kernel_rfl) (by kernel_rfl) co53 (fun m _ => (rf_cons rfl co51 rfl (rdGActor _) (rf_cons rfl co31 rfl (rd_int Tryz.underlying31) (rf_nil (by decide)))))).map (fun p => GDot.mk p.1 p.2.1) (fun _ => rfl) (fun a h => by simpa [GDot.wf, and_assoc] using h) (fun _ => rfl)
theorem co106 : Tryz.prog.cellsOf 106 = 5 := by kernel_rfl
theorem rdGItem {H : Type} {enc : TypeId × Value → H} {W : World} (n : Nat) : RdN enc Tryz.prog W n 106 GItem.row GItem.wf GItem.bk :=
  (rd_struct (l := (match Tryz.prog.underlying 106 with | some (.struct fs) => fs.toList | _ => [])) (fs := (match Tryz.prog.underlying 106 with | some (.struct fs) => fs | _ => #[])) (by kernel_rfl) (by kernel_rfl) co106 (fun m _ => (rf_cons rfl co31 rfl (rd_int Tryz.underlying31) (rf_cons rfl co53 rfl (rdGDot _) (rf_cons rfl co9 rfl (rd_str Tryz.underlying9) (rf_nil (by decide))))))).map (fun p => GItem.mk p.1 p.2.1 p.2.2.1) (fun _ => rfl) (fun a h => by simpa [GItem.wf, and_assoc] using h) (fun _ => rfl)
theorem rdt54 {H : Type} {enc : TypeId × Value → H} {W : World} (n : Nat) : RdN enc Tryz.prog W n 54 (fun L : (List GItem) => [AV.sl 5 (L.map GItem.row)]) (fun L => L.length ≤ maxLen ∧ ∀ y ∈ L, GItem.wf y) (fun L => (L.map GItem.bk).sum + 1) :=
  rd_slice Tryz.underlying54 co106 (by decide) (fun _ => rfl) (fun _ => rfl) (fun m _ => (rdGItem _))
theorem rdt55 {H : Type} {enc : TypeId × Value → H} {W : World} (n : Nat) : RdN enc Tryz.prog W n 55 (fun L : (List GDot) => [AV.sl 3 (L.map GDot.row)]) (fun L => L.length ≤ maxLen ∧ ∀ y ∈ L, GDot.wf y) (fun L => (L.map GDot.bk).sum + 1) :=
  rd_slice Tryz.underlying55 co53 (by decide) (fun _ => rfl) (fun _ => rfl) (fun m _ => (rdGDot _))
theorem co2 : Tryz.prog.cellsOf 2 = 1 := by kernel_rfl
theorem co54 : Tryz.prog.cellsOf 54 = 1 := by kernel_rfl
theorem co55 : Tryz.prog.cellsOf 55 = 1 := by kernel_rfl
theorem co57 : Tryz.prog.cellsOf 57 = 9 := by kernel_rfl
theorem rdGLeaf {H : Type} {enc : TypeId × Value → H} {W : World} (n : Nat) : RdN enc Tryz.prog W n 57 GLeaf.row GLeaf.wf GLeaf.bk :=
  (rd_struct (l := (match Tryz.prog.underlying 57 with | some (.struct fs) => fs.toList | _ => [])) (fs := (match Tryz.prog.underlying 57 with | some (.struct fs) => fs | _ => #[])) (by kernel_rfl) (by kernel_rfl) co57 (fun m _ => (rf_cons rfl co5 rfl (rd_int Tryz.underlying5) (rf_cons rfl co2 rfl (rd_int Tryz.underlying2) (rf_cons rfl co31 rfl (rd_int Tryz.underlying31) (rf_cons rfl co53 rfl (rdGDot _) (rf_cons rfl co9 rfl (rd_str Tryz.underlying9) (rf_cons rfl co54 rfl (rdt54 _) (rf_cons rfl co55 rfl (rdt55 _) (rf_nil (by decide))))))))))).map (fun p => GLeaf.mk p.1 p.2.1 p.2.2.1 p.2.2.2.1 p.2.2.2.2.1 p.2.2.2.2.2.1 p.2.2.2.2.2.2.1) (fun _ => rfl) (fun a h => by simpa [GLeaf.wf, and_assoc] using h) (fun _ => rfl)
theorem rdt58 {H : Type} {enc : TypeId × Value → H} {W : World} (n : Nat) : RdN enc Tryz.prog W n 58 (fun L : (List GLeaf) => [AV.sl 9 (L.map GLeaf.row)]) (fun L => L.length ≤ maxLen ∧ ∀ y ∈ L, GLeaf.wf y) (fun L => (L.map GLeaf.bk).sum + 1) :=
  rd_slice Tryz.underlying58 co57 (by decide) (fun _ => rfl) (fun _ => rfl) (fun m _ => (rdGLeaf _))
theorem rdGNode {H : Type} {enc : TypeId × Value → H} {W : World} (n : Nat) : RdN enc Tryz.prog W n 60 GNode.row GNode.wf GNode.bk := by
  induction n using Nat.strongRecOn with
  | _ n ih =>
    exact (rd_struct (l := (match Tryz.prog.underlying 60 with | some (.struct fs) => fs.toList | _ => [])) (fs := (match Tryz.prog.underlying 60 with | some (.struct fs) => fs | _ => #[])) (by kernel_rfl) (by kernel_rfl) co60 (fun m hm => (rf_cons rfl co9 rfl (rd_str Tryz.underlying9) (rf_cons rfl co58 rfl (rdt58 _) (rf_cons rfl co24 rfl (rd_slice Tryz.underlying24 co60 (by decide) (fun y => by rw [GNode.row_eq]; rfl) (fun y => by rw [GNode.row_eq]; rfl) (fun q hq => ih q (by omega))) (rf_nil (by decide))))))).map (fun p => GNode.mk p.1 p.2.1 p.2.2.1) (fun _ => GNode.row_eq _) (fun a h => by simp only [GNode.wf, GNode.wfs_iff]; simp only [and_assoc, and_true] at h ⊢; first | exact h | simp_all) (fun _ => by simp only [GNode.bk, GNode.bks_eq])
theorem rdt24 {H : Type} {enc : TypeId × Value → H} {W : World} (n : Nat) : RdN enc Tryz.prog W n 24 (fun L : (List GNode) => [AV.sl 3 (L.map GNode.row)]) (fun L => L.length ≤ maxLen ∧ ∀ y ∈ L, GNode.wf y) (fun L => (L.map GNode.bk).sum + 1) :=
  rd_slice Tryz.underlying24 co60 (by decide) (fun y => by rw [GNode.row_eq]; rfl) (fun y => by rw [GNode.row_eq]; rfl) (fun m _ => (rdGNode _))
theorem co3 : Tryz.prog.cellsOf 3 = 1 := by kernel_rfl
theorem co22 : Tryz.prog.cellsOf 22 = 1 := by kernel_rfl
theorem co26 : Tryz.prog.cellsOf 26 = 4 := by kernel_rfl
theorem rdGVarvelaw40Op {H : Type} {enc : TypeId × Value → H} {W : World} (n : Nat) : RdN enc Tryz.prog W n 26 GVarvelaw40Op.row GVarvelaw40Op.wf GVarvelaw40Op.bk :=
  (rd_struct (l := (match Tryz.prog.underlying 26 with | some (.struct fs) => fs.toList | _ => [])) (fs := (match Tryz.prog.underlying 26 with | some (.struct fs) => fs | _ => #[])) (by kernel_rfl) (by kernel_rfl) co26 (fun m _ => (rf_cons rfl co3 rfl (rd_int Tryz.underlying3) (rf_cons rfl co3 rfl (rd_int Tryz.underlying3) (rf_cons rfl co22 rfl (rdt22 _) (rf_cons rfl co24 rfl (rdt24 _) (rf_nil (by decide)))))))).map (fun p => GVarvelaw40Op.mk p.1 p.2.1 p.2.2.1 p.2.2.2.1) (fun _ => rfl) (fun a h => by simpa [GVarvelaw40Op.wf, and_assoc] using h) (fun _ => rfl)
theorem ownWatchNone : ownKnob Tryz.prog.godebug = none := by kernel_rfl
theorem laidWatchNone : laidOutB Tryz.prog = true := by kernel_rfl
mutual
theorem ub {H : Type} : ∀ d : DataW H, Rows.uptoBulk d = vBulk d
  | .lit l => by cases l <;> simp only [Rows.uptoBulk, vBulk]
  | .nil => by simp only [Rows.uptoBulk, vBulk]
  | .ptr d => by simp only [Rows.uptoBulk, vBulk, ub d]
  | .slice e s => by simp only [Rows.uptoBulk, vBulk, ubAll e, ubAll s]
  | .agg p => by simp only [Rows.uptoBulk, vBulk, ubAll p]
  | .iface _ d => by simp only [Rows.uptoBulk, vBulk, ub d]
  | .map e => by simp only [Rows.uptoBulk, vBulk, ubEs e]
  | .held _ => by simp only [Rows.uptoBulk, vBulk]
theorem ubAll {H : Type} : ∀ l : List (DataW H), Rows.uptoBulkAll l = vBulkAll l
  | [] => by simp only [Rows.uptoBulkAll, vBulkAll]
  | d :: r => by simp only [Rows.uptoBulkAll, vBulkAll, ub d, ubAll r]
theorem ubEs {H : Type} : ∀ l : List (Lit × DataW H), Rows.uptoBulkEntries l = vBulkEs l
  | [] => by simp only [Rows.uptoBulkEntries, vBulkEs]
  | x :: r => by simp only [Rows.uptoBulkEntries, vBulkEs, ubE x, ubEs r]; omega
theorem ubE {H : Type} : ∀ x : Lit × DataW H, Rows.uptoBulkEntry x = vBulkE x
  | (l, d) => by cases l <;> simp only [Rows.uptoBulkEntry, vBulkE, ub d]
end
theorem contractWatchNone (H : Type) (enc : TypeId × Value → H) (W : World) (base : Nat) (args : Array Value) (ds gs : List (DataW H)) (before : List MemPlace)
    (hval : ∀ (j : Nat) t v, Tryz.f3.params[j]? = some t → args[j]? = some v → Value.okWide Tryz.prog W .any base t v)
    (hW : DataW.Whole enc Tryz.prog Tryz.f3.params.toList Rows.watchNoneSpec.vars false W args.toList ds gs before) (hk : Rows.uptoSmall H (ds ++ gs) = true) (hsh : W.ShapedOpen Tryz.prog) :
    Calls Tryz.prog 3 args W fun e W' => ∃ v, e = .returned v ∧ Rows.watchNoneSpec.post enc Tryz.prog Tryz.f3 false true false false W args v W' := by
  haveI : GOk Tryz.prog W.heap.size W := ⟨hsh, Nat.le_refl _⟩
  have hW' := hW
  obtain ⟨p, q, hA0, hV, rfl, hfz, hnd⟩ := hW
  have hA : DataW.TrodAll enc Tryz.prog W 0 (fun _ => true) true Tryz.f3.params.toList args.toList ds p := hA0
  rw [Tryz.params3] at hA hval
  obtain ⟨v0, vs0, d0, ds0, p0, q0, hargs, rfl, rfl, t0, r0⟩ := trodAll_cons hA
  obtain ⟨rfl, rfl, rfl⟩ := trodAll_nil r0
  obtain rfl : args = #[v0] := by cases args; simp_all
  obtain ⟨rfl, rfl⟩ := trodVars_none hV
  clear hA0
  simp only [List.append_nil] at hW'
  obtain ⟨y0, hy0, wf0, bk0⟩ := rd_arg (fun n => (rdGVarvelaw40Op _)) t0
  have hv0 := V.of_agg (by have := hval 0 26 v0 rfl rfl; simp only [Value.okWide, Tryz.underlying26] at this; obtain ⟨us, h, _⟩ := this; exact ⟨us, h⟩) rfl hy0
  have hlt : ∀ x ∈ p0, x.block < W.heap.size := fun x hx => by simpa using hW'.lt x hx
  have hbk : GVarvelaw40Op.bk y0 ≤ 1048576 := by
    have h := of_decide_eq_true hk
    simp only [List.cons_append, List.nil_append, List.append_nil, Rows.uptoBulkAll, ub] at h
    omega
  refine ((ok3 (h := h0) rfl ((law40WatchNone_top) y0 wf0 hbk)).2 W.heap.size W (g0 W) W _ (rel0 W) (VL.cons hv0 (by simp [VL]))).mono fun e W' ⟨v, r, h', g', he, ⟨hr, hh⟩, hg, hR, hv⟩ => ?_
  subst he hr
  simp only [V] at hv
  subst hv
  exact ⟨_, rfl, post_of_below (pv := []) hW' hR.below (fun _ _ _ => (trodAll_cons_mk (shut_bool Tryz.underlying4 _) trodAll_mk0)) (fun sp hsp => (trodAll_cons_mk (WideElems.Trod_stays laidWatchNone (by kernel_rfl) (of_decide_eq_true (by kernel_rfl)) t0 (fun x hx => hR.below.same (hlt x (by simp [hx]))) (fun x hx => hsp x (by simp [hx]))) trodAll_mk0)) (fun _ _ => rfl) (by simp) (ok_one (by kernel_rfl) rfl (okWide_bool_mk Tryz.underlying4 _))⟩
set_option maxRecDepth 100000 in
theorem liftedWatchNone (os : Os) (started : os.Started) (H : Type) (enc : TypeId × Value → H) (F : Stop.Interp) :
    ReturnsInHanded {} Tryz.checked os 3 .any ((Rows.OpenSpec.upto Rows.watchNoneSpec).pre6 enc Tryz.prog Tryz.f3 Rows.watchNoneUptoRow.domain false) (((Rows.OpenSpec.upto Rows.watchNoneSpec).at F).post enc Tryz.prog Tryz.f3 false true false false) := by
  refine returns_cond_shaped (C := Tryz.checked) (s := (Rows.OpenSpec.upto Rows.watchNoneSpec)) (k := Rows.uptoSmall) rfl ownWatchNone started (by kernel_rfl) Tryz.func3
    (OpenSpec.witness (enc := enc) (C := Tryz.checked) (s := (Rows.OpenSpec.upto Rows.watchNoneSpec)) (k := Rows.uptoSmall) rfl false ⟨#[], #[.agg #[.int .i64 0, .int .i64 0, .slice none 0 0, .slice none 0 0]], []⟩ 8 (by kernel_rfl) (by kernel_rfl) (by kernel_rfl)
      (x := (([.agg [.lit (.int .i64 0), .lit (.int .i64 0), .nil, .nil]], [], []))) (by kernel_rfl) rfl (by kernel_rfl)) ?_
  intro W base args ds gs before hval hW hk hsh
  exact contractWatchNone H enc W base args ds gs before hval hW hk hsh
set_option maxHeartbeats 4000000 in
theorem closedWatchNone : joinedFacts Tryz.pinned.checked.prog 3 Tryz.f3 (Rows.OpenSpec.upto Rows.watchNoneSpec).bare Rows.watchNoneUptoRow = true := by
  unfold joinedFacts
  simp only [Bool.and_eq_true]
  repeat' apply And.intro
  all_goals as_aux_lemma => kernel_rfl
theorem namedWatchNone : Tryz.pinned.checked.prog.funcNamed Rows.watchNoneUptoRow.func = some 3 := by kernel_rfl
theorem instWatchNone : Tryz.f3.isInstance Tryz.pinned.checked.prog Rows.watchNoneUptoRow.origin Rows.watchNoneUptoRow.targs := of_decide_eq_true (by kernel_rfl)
theorem WatchNoneUptoHolds : Rows.WatchNoneUptoSaid :=
  OpenClaim.holds_of_cond 3 Tryz.f3 rfl rfl rfl rfl rfl rfl rfl ⟨rfl, rfl, rfl, rfl, rfl⟩ rfl rfl rfl rfl rfl namedWatchNone Tryz.func3 closedWatchNone
    instWatchNone (by unfold Func.isWrapper; first | (rw [if_pos (by decide +kernel)]; kernel_rfl) | (rw [if_neg (by decide +kernel)]; exact ⟨rfl, rfl⟩))
    (fun os started H enc _ F => liftedWatchNone os started H enc F)
end Go.Proofs.YtpokpbdhelgalaaGreat
