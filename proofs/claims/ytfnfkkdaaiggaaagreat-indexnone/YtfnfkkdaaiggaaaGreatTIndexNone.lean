/- The law varve.varvelaw41.IndexNone holds: for every input it returns true, and each argument reads as it read. No condition. -/
import Derived.Test.YtfnfkkdaaiggaaaGreatRows
import Derived.Test.YtfnfkkdaaiggaaaGreatW1
import Derived.Test.YtfnfkkdaaiggaaaGreatPl41
import Derived.Test.YtfnfkkdaaiggaaaGreatVvUp
import Derived.ProofKit
import Derived.HandedShaped
import Derived.OpenShut
namespace Go.Proofs.YtfnfkkdaaiggaaaGreat
open Go Go.Vv Go.ChangeShapes Go.WideShapes Go.ChangeAt Go.RowKit
set_option maxRecDepth 100000
set_option linter.unusedVariables false
set_option linter.unusedSimpArgs false
theorem co9 : Tryz.prog.cellsOf 9 = 1 := by kernel_rfl
theorem rdt38 {H : Type} {enc : TypeId × Value → H} {W : World} (n : Nat) : RdN enc Tryz.prog W n 38 (fun L : (List Str) => [AV.sl 1 (L.map strRow)]) (fun L => L.length ≤ maxLen ∧ ∀ y ∈ L, y.length ≤ maxLen) (fun L => (L.map (fun s => s.length + 1)).sum + 1) :=
  rd_slice Tryz.underlying38 co9 (by decide) (fun _ => rfl) (fun _ => rfl) (fun m _ => (rd_str Tryz.underlying9))
theorem co5 : Tryz.prog.cellsOf 5 = 1 := by kernel_rfl
theorem co43 : Tryz.prog.cellsOf 43 = 1 := by kernel_rfl
theorem co45 : Tryz.prog.cellsOf 45 = 2 := by kernel_rfl
theorem rdGActor {H : Type} {enc : TypeId × Value → H} {W : World} (n : Nat) : RdN enc Tryz.prog W n 45 GActor.row GActor.wf GActor.bk :=
  (rd_struct (l := (match Tryz.prog.underlying 45 with | some (.struct fs) => fs.toList | _ => [])) (fs := (match Tryz.prog.underlying 45 with | some (.struct fs) => fs | _ => #[])) (by kernel_rfl) (by kernel_rfl) co45 (fun m _ => (rf_cons rfl co5 rfl (rd_int Tryz.underlying5) (rf_cons rfl co43 rfl (rd_int Tryz.underlying43) (rf_nil (by decide)))))).map (fun p => GActor.mk p.1 p.2.1) (fun _ => rfl) (fun a h => by simpa [GActor.wf, and_assoc] using h) (fun _ => rfl)
theorem co42 : Tryz.prog.cellsOf 42 = 1 := by kernel_rfl
theorem co47 : Tryz.prog.cellsOf 47 = 3 := by kernel_rfl
theorem rdGDot {H : Type} {enc : TypeId × Value → H} {W : World} (n : Nat) : RdN enc Tryz.prog W n 47 GDot.row GDot.wf GDot.bk :=
  (rd_struct (l := (match Tryz.prog.underlying 47 with | some (.struct fs) => fs.toList | _ => [])) (fs := (match Tryz.prog.underlying 47 with | some (.struct fs) => fs | _ => #[])) (by kernel_rfl) (by kernel_rfl) co47 (fun m _ => (rf_cons rfl co45 rfl (rdGActor _) (rf_cons rfl co42 rfl (rd_int Tryz.underlying42) (rf_nil (by decide)))))).map (fun p => GDot.mk p.1 p.2.1) (fun _ => rfl) (fun a h => by simpa [GDot.wf, and_assoc] using h) (fun _ => rfl)
theorem co82 : Tryz.prog.cellsOf 82 = 5 := by kernel_rfl
theorem rdGItem {H : Type} {enc : TypeId × Value → H} {W : World} (n : Nat) : RdN enc Tryz.prog W n 82 GItem.row GItem.wf GItem.bk :=
  (rd_struct (l := (match Tryz.prog.underlying 82 with | some (.struct fs) => fs.toList | _ => [])) (fs := (match Tryz.prog.underlying 82 with | some (.struct fs) => fs | _ => #[])) (by kernel_rfl) (by kernel_rfl) co82 (fun m _ => (rf_cons rfl co42 rfl (rd_int Tryz.underlying42) (rf_cons rfl co47 rfl (rdGDot _) (rf_cons rfl co9 rfl (rd_str Tryz.underlying9) (rf_nil (by decide))))))).map (fun p => GItem.mk p.1 p.2.1 p.2.2.1) (fun _ => rfl) (fun a h => by simpa [GItem.wf, and_assoc] using h) (fun _ => rfl)
theorem rdt48 {H : Type} {enc : TypeId × Value → H} {W : World} (n : Nat) : RdN enc Tryz.prog W n 48 (fun L : (List GItem) => [AV.sl 5 (L.map GItem.row)]) (fun L => L.length ≤ maxLen ∧ ∀ y ∈ L, GItem.wf y) (fun L => (L.map GItem.bk).sum + 1) :=
  rd_slice Tryz.underlying48 co82 (by decide) (fun _ => rfl) (fun _ => rfl) (fun m _ => (rdGItem _))
theorem rdt49 {H : Type} {enc : TypeId × Value → H} {W : World} (n : Nat) : RdN enc Tryz.prog W n 49 (fun L : (List GDot) => [AV.sl 3 (L.map GDot.row)]) (fun L => L.length ≤ maxLen ∧ ∀ y ∈ L, GDot.wf y) (fun L => (L.map GDot.bk).sum + 1) :=
  rd_slice Tryz.underlying49 co47 (by decide) (fun _ => rfl) (fun _ => rfl) (fun m _ => (rdGDot _))
theorem co2 : Tryz.prog.cellsOf 2 = 1 := by kernel_rfl
theorem co48 : Tryz.prog.cellsOf 48 = 1 := by kernel_rfl
theorem co49 : Tryz.prog.cellsOf 49 = 1 := by kernel_rfl
theorem co51 : Tryz.prog.cellsOf 51 = 9 := by kernel_rfl
theorem rdGLeaf {H : Type} {enc : TypeId × Value → H} {W : World} (n : Nat) : RdN enc Tryz.prog W n 51 GLeaf.row GLeaf.wf GLeaf.bk :=
  (rd_struct (l := (match Tryz.prog.underlying 51 with | some (.struct fs) => fs.toList | _ => [])) (fs := (match Tryz.prog.underlying 51 with | some (.struct fs) => fs | _ => #[])) (by kernel_rfl) (by kernel_rfl) co51 (fun m _ => (rf_cons rfl co5 rfl (rd_int Tryz.underlying5) (rf_cons rfl co2 rfl (rd_int Tryz.underlying2) (rf_cons rfl co42 rfl (rd_int Tryz.underlying42) (rf_cons rfl co47 rfl (rdGDot _) (rf_cons rfl co9 rfl (rd_str Tryz.underlying9) (rf_cons rfl co48 rfl (rdt48 _) (rf_cons rfl co49 rfl (rdt49 _) (rf_nil (by decide))))))))))).map (fun p => GLeaf.mk p.1 p.2.1 p.2.2.1 p.2.2.2.1 p.2.2.2.2.1 p.2.2.2.2.2.1 p.2.2.2.2.2.2.1) (fun _ => rfl) (fun a h => by simpa [GLeaf.wf, and_assoc] using h) (fun _ => rfl)
theorem co38 : Tryz.prog.cellsOf 38 = 1 := by kernel_rfl
theorem co4 : Tryz.prog.cellsOf 4 = 1 := by kernel_rfl
theorem co53 : Tryz.prog.cellsOf 53 = 22 := by kernel_rfl
theorem rdGEdit {H : Type} {enc : TypeId × Value → H} {W : World} (n : Nat) : RdN enc Tryz.prog W n 53 GEdit.row GEdit.wf GEdit.bk :=
  (rd_struct (l := (match Tryz.prog.underlying 53 with | some (.struct fs) => fs.toList | _ => [])) (fs := (match Tryz.prog.underlying 53 with | some (.struct fs) => fs | _ => #[])) (by kernel_rfl) (by kernel_rfl) co53 (fun m _ => (rf_cons rfl co38 rfl (rdt38 _) (rf_cons rfl co5 rfl (rd_int Tryz.underlying5) (rf_cons rfl co4 rfl (rd_bool Tryz.underlying4) (rf_cons rfl co4 rfl (rd_bool Tryz.underlying4) (rf_cons rfl co51 rfl (rdGLeaf _) (rf_cons rfl co51 rfl (rdGLeaf _) (rf_nil (by decide)))))))))).map (fun p => GEdit.mk p.1 p.2.1 p.2.2.1 p.2.2.2.1 p.2.2.2.2.1 p.2.2.2.2.2.1) (fun _ => rfl) (fun a h => by simpa [GEdit.wf, and_assoc] using h) (fun _ => rfl)
theorem rdt22 {H : Type} {enc : TypeId × Value → H} {W : World} (n : Nat) : RdN enc Tryz.prog W n 22 (fun L : (List GEdit) => [AV.sl 22 (L.map GEdit.row)]) (fun L => L.length ≤ maxLen ∧ ∀ y ∈ L, GEdit.wf y) (fun L => (L.map GEdit.bk).sum + 1) :=
  rd_slice Tryz.underlying22 co53 (by decide) (fun _ => rfl) (fun _ => rfl) (fun m _ => (rdGEdit _))
theorem ownIndexNone : ownKnob Tryz.prog.godebug = none := by kernel_rfl
theorem laidIndexNone : laidOutB Tryz.prog = true := by kernel_rfl
theorem contractIndexNone (H : Type) (enc : TypeId × Value → H) (W : World) (base : Nat) (args : Array Value) (ds gs : List (DataW H)) (before : List MemPlace)
    (hval : ∀ (j : Nat) t v, Tryz.f3.params[j]? = some t → args[j]? = some v → Value.okWide Tryz.prog W .any base t v)
    (hW : DataW.Whole enc Tryz.prog Tryz.f3.params.toList Rows.indexNoneSpec.vars false W args.toList ds gs before) (hsh : W.ShapedOpen Tryz.prog) :
    Calls Tryz.prog 3 args W fun e W' => ∃ v, e = .returned v ∧ Rows.indexNoneSpec.post enc Tryz.prog Tryz.f3 false true false false W args v W' := by
  haveI : GOk Tryz.prog W.heap.size W := ⟨hsh, Nat.le_refl _⟩
  have hW' := hW
  obtain ⟨p, q, hA0, hV, rfl, hfz, hnd⟩ := hW
  have hA : DataW.TrodAll enc Tryz.prog W 0 (fun _ => true) true Tryz.f3.params.toList args.toList ds p := hA0
  rw [Tryz.params3] at hA hval
  obtain ⟨v0, vs0, d0, ds0, p0, q0, hargs, rfl, rfl, t0, r0⟩ := trodAll_cons hA
  obtain ⟨v1, vs1, d1, ds1, p1, q1, rfl, rfl, rfl, t1, r1⟩ := trodAll_cons r0
  obtain ⟨rfl, rfl, rfl⟩ := trodAll_nil r1
  obtain rfl : args = #[v0, v1] := by cases args; simp_all
  obtain ⟨rfl, rfl⟩ := trodVars_none hV
  clear hA0
  simp only [List.append_nil] at hW'
  obtain ⟨y0, hy0, wf0, bk0⟩ := rd_arg (fun n => (rd_str Tryz.underlying9)) t0
  have hv0 := V.of_one (by rintro cs rfl; have := hval 0 9 _ rfl rfl; simp [Value.okWide, Tryz.underlying9, Cell.okWide, Cell.ok] at this) hy0
  obtain ⟨y1, hy1, wf1, bk1⟩ := rd_arg (fun n => (rdt22 _)) t1
  have hv1 := V.of_one (by rintro cs rfl; have := hval 1 22 _ rfl rfl; simp [Value.okWide, Tryz.underlying22, Cell.okWide, Cell.ok] at this) hy1
  have hlt : ∀ x ∈ (p0 ++ p1), x.block < W.heap.size := fun x hx => by simpa using hW'.lt x hx
  refine ((ok3 (h := h0) rfl ((law41IndexNone_top) y0 y1 wf0 wf1)).2 W.heap.size W (g0 W) W _ (rel0 W) (VL.cons hv0 (VL.cons hv1 (by simp [VL])))).mono fun e W' ⟨v, r, h', g', he, ⟨hr, hh⟩, hg, hR, hv⟩ => ?_
  subst he hr
  simp only [V] at hv
  subst hv
  exact ⟨_, rfl, post_of_below (pv := []) hW' hR.below (fun _ _ _ => (trodAll_cons_mk (shut_bool Tryz.underlying4 _) trodAll_mk0)) (fun sp hsp => (trodAll_cons_mk (WideElems.Trod_stays laidIndexNone (by kernel_rfl) (of_decide_eq_true (by kernel_rfl)) t0 (fun x hx => hR.below.same (hlt x (by simp [hx]))) (fun x hx => hsp x (by simp [hx]))) (trodAll_cons_mk (WideElems.Trod_stays laidIndexNone (by kernel_rfl) (of_decide_eq_true (by kernel_rfl)) t1 (fun x hx => hR.below.same (hlt x (by simp [hx]))) (fun x hx => hsp x (by simp [hx]))) trodAll_mk0))) (fun _ _ => rfl) (by simp) (ok_one (by kernel_rfl) rfl (okWide_bool_mk Tryz.underlying4 _))⟩
set_option maxRecDepth 100000 in
theorem liftedIndexNone (os : Os) (started : os.Started) (H : Type) (enc : TypeId × Value → H) :
    ReturnsInHanded {} Tryz.checked os 3 .any (Rows.indexNoneSpec.pre6 enc Tryz.prog Tryz.f3 Rows.indexNoneRow.domain false) (Rows.indexNoneSpec.post enc Tryz.prog Tryz.f3 false true false false) := by
  refine returnsInHanded_of_change_shaped (C := Tryz.checked) ownIndexNone started (by kernel_rfl) Tryz.func3
    (ChangeSpec.witness6 (enc := enc) (C := Tryz.checked) false ⟨#[], #[.string ⟨#[]⟩, .slice none 0 0], []⟩ 8 (by kernel_rfl) (by kernel_rfl) (by kernel_rfl) (by kernel_rfl)) ?_
  intro W base args ds gs before hval hW _ _ hsh _
  exact contractIndexNone H enc W base args ds gs before hval hW hsh
set_option maxHeartbeats 4000000 in
theorem closedIndexNone : joinedFacts Tryz.pinned.checked.prog 3 Tryz.f3 Rows.indexNoneSpec Rows.indexNoneRow = true := by
  unfold joinedFacts
  simp only [Bool.and_eq_true]
  repeat' apply And.intro
  all_goals as_aux_lemma => kernel_rfl
theorem namedIndexNone : Tryz.pinned.checked.prog.funcNamed Rows.indexNoneRow.func = some 3 := by kernel_rfl
theorem instIndexNone : Tryz.f3.isInstance Tryz.pinned.checked.prog Rows.indexNoneRow.origin Rows.indexNoneRow.targs := of_decide_eq_true (by kernel_rfl)
theorem IndexNoneHolds : Rows.IndexNoneSaid :=
  OpenClaim.holds_of_wide 3 Tryz.f3 rfl rfl rfl rfl rfl rfl rfl ⟨rfl, rfl, rfl, rfl, rfl⟩ rfl rfl rfl rfl rfl namedIndexNone Tryz.func3 closedIndexNone
    instIndexNone (by unfold Func.isWrapper; first | (rw [if_pos (by decide +kernel)]; kernel_rfl) | (rw [if_neg (by decide +kernel)]; exact ⟨rfl, rfl⟩))
    (fun os started H enc _ => liftedIndexNone os started H enc)
end Go.Proofs.YtfnfkkdaaiggaaaGreat
