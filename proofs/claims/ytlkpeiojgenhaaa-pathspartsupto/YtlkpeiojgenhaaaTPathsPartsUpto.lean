/- The law varve.varvelaw30.PathsParts holds: for every input it returns true, and each argument reads as it read. No condition. -/
import Derived.Test.YtlkpeiojgenhaaaRows
import Derived.Test.YtlkpeiojgenhaaaW3
import Derived.Test.YtlkpeiojgenhaaaPl04
import Derived.Test.YtlkpeiojgenhaaaPl00
import Derived.Test.YtlkpeiojgenhaaaPl05
import Derived.Test.YtlkpeiojgenhaaaPl07
import Derived.Test.YtlkpeiojgenhaaaPl07b
import Derived.Test.YtlkpeiojgenhaaaPl30
import Derived.Test.YtlkpeiojgenhaaaPl30b
import Derived.Test.YtlkpeiojgenhaaaPl30c
import Derived.Test.YtlkpeiojgenhaaaPl30d
import Derived.Test.YtlkpeiojgenhaaaPl30n
import Derived.Test.YtlkpeiojgenhaaaPl30p
import Derived.Test.YtlkpeiojgenhaaaVvUp
import Derived.ProofKit
import Derived.HandedShaped
import Derived.OpenShut
namespace Go.Proofs.Ytlkpeiojgenhaaa
open Go Go.Vv Go.ChangeShapes Go.WideShapes Go.ChangeAt Go.RowKit
set_option maxRecDepth 100000
set_option linter.unusedVariables false
set_option linter.unusedSimpArgs false
theorem co85 : Try.prog.cellsOf 85 = 3 := by kernel_rfl
theorem co54 : Try.prog.cellsOf 54 = 1 := by kernel_rfl
theorem co83 : Try.prog.cellsOf 83 = 1 := by kernel_rfl
theorem co5 : Try.prog.cellsOf 5 = 1 := by kernel_rfl
theorem co22 : Try.prog.cellsOf 22 = 1 := by kernel_rfl
theorem co24 : Try.prog.cellsOf 24 = 2 := by kernel_rfl
theorem rdGActor {H : Type} {enc : TypeId × Value → H} {W : World} (n : Nat) : RdN enc Try.prog W n 24 GActor.row GActor.wf GActor.bk :=
  (rd_struct (l := (match Try.prog.underlying 24 with | some (.struct fs) => fs.toList | _ => [])) (fs := (match Try.prog.underlying 24 with | some (.struct fs) => fs | _ => #[])) (by kernel_rfl) (by kernel_rfl) co24 (fun m _ => (rf_cons rfl co5 rfl (rd_int Try.underlying5) (rf_cons rfl co22 rfl (rd_int Try.underlying22) (rf_nil (by decide)))))).map (fun p => GActor.mk p.1 p.2.1) (fun _ => rfl) (fun a h => by simpa [GActor.wf, and_assoc] using h) (fun _ => rfl)
theorem co25 : Try.prog.cellsOf 25 = 1 := by kernel_rfl
theorem co27 : Try.prog.cellsOf 27 = 3 := by kernel_rfl
theorem rdGDot {H : Type} {enc : TypeId × Value → H} {W : World} (n : Nat) : RdN enc Try.prog W n 27 GDot.row GDot.wf GDot.bk :=
  (rd_struct (l := (match Try.prog.underlying 27 with | some (.struct fs) => fs.toList | _ => [])) (fs := (match Try.prog.underlying 27 with | some (.struct fs) => fs | _ => #[])) (by kernel_rfl) (by kernel_rfl) co27 (fun m _ => (rf_cons rfl co24 rfl (rdGActor _) (rf_cons rfl co25 rfl (rd_int Try.underlying25) (rf_nil (by decide)))))).map (fun p => GDot.mk p.1 p.2.1) (fun _ => rfl) (fun a h => by simpa [GDot.wf, and_assoc] using h) (fun _ => rfl)
theorem co9 : Try.prog.cellsOf 9 = 1 := by kernel_rfl
theorem co73 : Try.prog.cellsOf 73 = 5 := by kernel_rfl
theorem rdGItem {H : Type} {enc : TypeId × Value → H} {W : World} (n : Nat) : RdN enc Try.prog W n 73 GItem.row GItem.wf GItem.bk :=
  (rd_struct (l := (match Try.prog.underlying 73 with | some (.struct fs) => fs.toList | _ => [])) (fs := (match Try.prog.underlying 73 with | some (.struct fs) => fs | _ => #[])) (by kernel_rfl) (by kernel_rfl) co73 (fun m _ => (rf_cons rfl co25 rfl (rd_int Try.underlying25) (rf_cons rfl co27 rfl (rdGDot _) (rf_cons rfl co9 rfl (rd_str Try.underlying9) (rf_nil (by decide))))))).map (fun p => GItem.mk p.1 p.2.1 p.2.2.1) (fun _ => rfl) (fun a h => by simpa [GItem.wf, and_assoc] using h) (fun _ => rfl)
theorem rdt63 {H : Type} {enc : TypeId × Value → H} {W : World} (n : Nat) : RdN enc Try.prog W n 63 (fun L : (List GItem) => [AV.sl 5 (L.map GItem.row)]) (fun L => L.length ≤ maxLen ∧ ∀ y ∈ L, GItem.wf y) (fun L => (L.map GItem.bk).sum + 1) :=
  rd_slice Try.underlying63 co73 (by decide) (fun _ => rfl) (fun _ => rfl) (fun m _ => (rdGItem _))
theorem rdt29 {H : Type} {enc : TypeId × Value → H} {W : World} (n : Nat) : RdN enc Try.prog W n 29 (fun L : (List GDot) => [AV.sl 3 (L.map GDot.row)]) (fun L => L.length ≤ maxLen ∧ ∀ y ∈ L, GDot.wf y) (fun L => (L.map GDot.bk).sum + 1) :=
  rd_slice Try.underlying29 co27 (by decide) (fun _ => rfl) (fun _ => rfl) (fun m _ => (rdGDot _))
theorem co2 : Try.prog.cellsOf 2 = 1 := by kernel_rfl
theorem co63 : Try.prog.cellsOf 63 = 1 := by kernel_rfl
theorem co29 : Try.prog.cellsOf 29 = 1 := by kernel_rfl
theorem co65 : Try.prog.cellsOf 65 = 9 := by kernel_rfl
theorem rdGLeaf {H : Type} {enc : TypeId × Value → H} {W : World} (n : Nat) : RdN enc Try.prog W n 65 GLeaf.row GLeaf.wf GLeaf.bk :=
  (rd_struct (l := (match Try.prog.underlying 65 with | some (.struct fs) => fs.toList | _ => [])) (fs := (match Try.prog.underlying 65 with | some (.struct fs) => fs | _ => #[])) (by kernel_rfl) (by kernel_rfl) co65 (fun m _ => (rf_cons rfl co5 rfl (rd_int Try.underlying5) (rf_cons rfl co2 rfl (rd_int Try.underlying2) (rf_cons rfl co25 rfl (rd_int Try.underlying25) (rf_cons rfl co27 rfl (rdGDot _) (rf_cons rfl co9 rfl (rd_str Try.underlying9) (rf_cons rfl co63 rfl (rdt63 _) (rf_cons rfl co29 rfl (rdt29 _) (rf_nil (by decide))))))))))).map (fun p => GLeaf.mk p.1 p.2.1 p.2.2.1 p.2.2.2.1 p.2.2.2.2.1 p.2.2.2.2.2.1 p.2.2.2.2.2.2.1) (fun _ => rfl) (fun a h => by simpa [GLeaf.wf, and_assoc] using h) (fun _ => rfl)
theorem rdt83 {H : Type} {enc : TypeId × Value → H} {W : World} (n : Nat) : RdN enc Try.prog W n 83 (fun L : (List GLeaf) => [AV.sl 9 (L.map GLeaf.row)]) (fun L => L.length ≤ maxLen ∧ ∀ y ∈ L, GLeaf.wf y) (fun L => (L.map GLeaf.bk).sum + 1) :=
  rd_slice Try.underlying83 co65 (by decide) (fun _ => rfl) (fun _ => rfl) (fun m _ => (rdGLeaf _))
theorem rdGNode {H : Type} {enc : TypeId × Value → H} {W : World} (n : Nat) : RdN enc Try.prog W n 85 GNode.row GNode.wf GNode.bk := by
  induction n using Nat.strongRecOn with
  | _ n ih =>
    exact (rd_struct (l := (match Try.prog.underlying 85 with | some (.struct fs) => fs.toList | _ => [])) (fs := (match Try.prog.underlying 85 with | some (.struct fs) => fs | _ => #[])) (by kernel_rfl) (by kernel_rfl) co85 (fun m hm => (rf_cons rfl co9 rfl (rd_str Try.underlying9) (rf_cons rfl co83 rfl (rdt83 _) (rf_cons rfl co54 rfl (rd_slice Try.underlying54 co85 (by decide) (fun y => by rw [GNode.row_eq]; rfl) (fun y => by rw [GNode.row_eq]; rfl) (fun q hq => ih q (by omega))) (rf_nil (by decide))))))).map (fun p => GNode.mk p.1 p.2.1 p.2.2.1) (fun _ => GNode.row_eq _) (fun a h => by simp only [GNode.wf, GNode.wfs_iff]; simp only [and_assoc, and_true] at h ⊢; first | exact h | simp_all) (fun _ => by simp only [GNode.bk, GNode.bks_eq])
theorem rdt54 {H : Type} {enc : TypeId × Value → H} {W : World} (n : Nat) : RdN enc Try.prog W n 54 (fun L : (List GNode) => [AV.sl 3 (L.map GNode.row)]) (fun L => L.length ≤ maxLen ∧ ∀ y ∈ L, GNode.wf y) (fun L => (L.map GNode.bk).sum + 1) :=
  rd_slice Try.underlying54 co85 (by decide) (fun y => by rw [GNode.row_eq]; rfl) (fun y => by rw [GNode.row_eq]; rfl) (fun m _ => (rdGNode _))
theorem rdt28 {H : Type} {enc : TypeId × Value → H} {W : World} (n : Nat) : RdN enc Try.prog W n 28 (fun L : (List Str) => [AV.sl 1 (L.map strRow)]) (fun L => L.length ≤ maxLen ∧ ∀ y ∈ L, y.length ≤ maxLen) (fun L => (L.map (fun s => s.length + 1)).sum + 1) :=
  rd_slice Try.underlying28 co9 (by decide) (fun _ => rfl) (fun _ => rfl) (fun m _ => (rd_str Try.underlying9))
theorem ownPathsParts : ownKnob Try.prog.godebug = none := by kernel_rfl
theorem laidPathsParts : laidOutB Try.prog = true := by kernel_rfl
mutual
theorem ub {H : Type} : ∀ d : DataW H, Rows.uptoBulk d = vBulk d
  | .lit l => by cases l <;> simp only [Rows.uptoBulk, vBulk]
  | .nil => by simp only [Rows.uptoBulk, vBulk]
  | .ptr d => by simp only [Rows.uptoBulk, vBulk, ub d]
  | .slice e s => by simp only [Rows.uptoBulk, vBulk, ubAll e, ubAll s]
  | .agg p => by simp only [Rows.uptoBulk, vBulk, ubAll p]
  | .iface _ d => by simp only [Rows.uptoBulk, vBulk, ub d]
  | .map e => by simp only [Rows.uptoBulk, vBulk, ubEs e]
  | .held _ => by simp only [Rows.uptoBulk, vBulk]
theorem ubAll {H : Type} : ∀ l : List (DataW H), Rows.uptoBulkAll l = vBulkAll l
  | [] => by simp only [Rows.uptoBulkAll, vBulkAll]
  | d :: r => by simp only [Rows.uptoBulkAll, vBulkAll, ub d, ubAll r]
theorem ubEs {H : Type} : ∀ l : List (Lit × DataW H), Rows.uptoBulkEntries l = vBulkEs l
  | [] => by simp only [Rows.uptoBulkEntries, vBulkEs]
  | x :: r => by simp only [Rows.uptoBulkEntries, vBulkEs, ubE x, ubEs r]; omega
theorem ubE {H : Type} : ∀ x : Lit × DataW H, Rows.uptoBulkEntry x = vBulkE x
  | (l, d) => by cases l <;> simp only [Rows.uptoBulkEntry, vBulkE, ub d]
end
theorem contractPathsParts (H : Type) (enc : TypeId × Value → H) (W : World) (base : Nat) (args : Array Value) (ds gs : List (DataW H)) (before : List MemPlace)
    (hval : ∀ (j : Nat) t v, Try.f7.params[j]? = some t → args[j]? = some v → Value.okWide Try.prog W .any base t v)
    (hW : DataW.Whole enc Try.prog Try.f7.params.toList Rows.pathsPartsSpec.vars false W args.toList ds gs before) (hk : Rows.uptoSmall H (ds ++ gs) = true) (hsh : W.ShapedOpen Try.prog) :
    Calls Try.prog 7 args W fun e W' => ∃ v, e = .returned v ∧ Rows.pathsPartsSpec.post enc Try.prog Try.f7 false true false false W args v W' := by
  haveI : GOk Try.prog W.heap.size W := ⟨hsh, Nat.le_refl _⟩
  have hW' := hW
  obtain ⟨p, q, hA0, hV, rfl, hfz, hnd⟩ := hW
  have hA : DataW.TrodAll enc Try.prog W 0 (fun _ => true) true Try.f7.params.toList args.toList ds p := hA0
  rw [Try.params7] at hA hval
  obtain ⟨v0, vs0, d0, ds0, p0, q0, hargs, rfl, rfl, t0, r0⟩ := trodAll_cons hA
  obtain ⟨v1, vs1, d1, ds1, p1, q1, rfl, rfl, rfl, t1, r1⟩ := trodAll_cons r0
  obtain ⟨rfl, rfl, rfl⟩ := trodAll_nil r1
  obtain rfl : args = #[v0, v1] := by cases args; simp_all
  obtain ⟨rfl, rfl⟩ := trodVars_none hV
  clear hA0
  simp only [List.append_nil] at hW'
  obtain ⟨y0, hy0, wf0, bk0⟩ := rd_arg (fun n => (rdt54 _)) t0
  have hv0 := V.of_one (by rintro cs rfl; have := hval 0 54 _ rfl rfl; simp [Value.okWide, Try.underlying54, Cell.okWide, Cell.ok] at this) hy0
  obtain ⟨y1, hy1, wf1, bk1⟩ := rd_arg (fun n => (rdt28 _)) t1
  have hv1 := V.of_one (by rintro cs rfl; have := hval 1 28 _ rfl rfl; simp [Value.okWide, Try.underlying28, Cell.okWide, Cell.ok] at this) hy1
  have hlt : ∀ x ∈ (p0 ++ p1), x.block < W.heap.size := fun x hx => by simpa using hW'.lt x hx
  have hbk : ((y0.map GNode.bk).sum + 1) + ((y1.map (fun s => s.length + 1)).sum + 1) ≤ 1048576 := by
    have h := of_decide_eq_true hk
    simp only [List.cons_append, List.nil_append, List.append_nil, Rows.uptoBulkAll, ub] at h
    omega
  refine ((ok7 (h := h0) ((law30PathsParts_top) y0 y1 wf0 wf1 hbk)).2 W.heap.size W (g0 W) W _ (rel0 W) (VL.cons hv0 (VL.cons hv1 (by simp [VL])))).mono fun e W' ⟨v, r, h', g', he, ⟨hr, hh⟩, hg, hR, hv⟩ => ?_
  subst he hr
  simp only [V] at hv
  subst hv
  exact ⟨_, rfl, post_of_below (pv := []) hW' hR.below (fun _ _ _ => (trodAll_cons_mk (shut_bool Try.underlying4 _) trodAll_mk0)) (fun sp hsp => (trodAll_cons_mk (WideElems.Trod_stays laidPathsParts (by kernel_rfl) (of_decide_eq_true (by kernel_rfl)) t0 (fun x hx => hR.below.same (hlt x (by simp [hx]))) (fun x hx => hsp x (by simp [hx]))) (trodAll_cons_mk (WideElems.Trod_stays laidPathsParts (by kernel_rfl) (of_decide_eq_true (by kernel_rfl)) t1 (fun x hx => hR.below.same (hlt x (by simp [hx]))) (fun x hx => hsp x (by simp [hx]))) trodAll_mk0))) (fun _ _ => rfl) (by simp) (ok_one (by kernel_rfl) rfl (okWide_bool_mk Try.underlying4 _))⟩
set_option maxRecDepth 100000 in
theorem liftedPathsParts (os : Os) (started : os.Started) (H : Type) (enc : TypeId × Value → H) (F : Stop.Interp) :
    ReturnsInHanded {} Try.checked os 7 .any ((Rows.OpenSpec.upto Rows.pathsPartsSpec).pre6 enc Try.prog Try.f7 Rows.pathsPartsUptoRow.domain false) (((Rows.OpenSpec.upto Rows.pathsPartsSpec).at F).post enc Try.prog Try.f7 false true false false) := by
  refine returns_cond_shaped (C := Try.checked) (s := (Rows.OpenSpec.upto Rows.pathsPartsSpec)) (k := Rows.uptoSmall) rfl ownPathsParts started (by kernel_rfl) Try.func7
    (OpenSpec.witness (enc := enc) (C := Try.checked) (s := (Rows.OpenSpec.upto Rows.pathsPartsSpec)) (k := Rows.uptoSmall) rfl false ⟨#[], #[.slice none 0 0, .slice none 0 0], []⟩ 8 (by kernel_rfl) (by kernel_rfl) (by kernel_rfl)
      (x := (([.nil, .nil], [], []))) (by kernel_rfl) rfl (by kernel_rfl)) ?_
  intro W base args ds gs before hval hW hk hsh
  exact contractPathsParts H enc W base args ds gs before hval hW hk hsh
theorem PathsPartsUptoHolds : Rows.PathsPartsUptoSaid :=
  OpenClaim.holds_of_cond 7 Try.f7 rfl rfl rfl rfl rfl rfl rfl ⟨rfl, rfl, rfl, rfl, rfl⟩ rfl rfl rfl rfl rfl (by kernel_rfl) Try.func7 (by kernel_rfl)
    (of_decide_eq_true (by kernel_rfl)) (by unfold Func.isWrapper; first | (rw [if_pos (by decide +kernel)]; kernel_rfl) | (rw [if_neg (by decide +kernel)]; exact ⟨rfl, rfl⟩))
    (fun os started H enc _ F => liftedPathsParts os started H enc F)
end Go.Proofs.Ytlkpeiojgenhaaa
