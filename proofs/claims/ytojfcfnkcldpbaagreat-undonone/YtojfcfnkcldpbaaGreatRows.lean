/-
  NARROWER THAN 'FOR EVERY INPUT', by the rows' own cells (each row's printed sentence says how): WatchNone: loops.
  DERIVED. THE GIVEN ROWS OF THIS SEAT. 6 by the template 'for every input the law returns true; each argument reads behind the call as it read before'; 0 by the template 'total and deterministic' (their statements: YtojfcfnkcldpbaaGreatTotals.lean).
  GIVEN WITH THE SEED: the statements are not yours to turn. If you find one false, say at which input.
  Laid BY PROGRAM, IN A SANDBOX (cutbox-rows.mjs): the forced cells as the released guide's own fill.sh prints them over the translation 2e0648759b11af68… (all of the seat's roots in one cut). By AI agents, Wed Nov 11 2026. No macro, syntax, notation, axiom, sorry.
-/
import Derived.Test.YtojfcfnkcldpbaaGreatChecked
import GoSem.Claim
import GoSem.ClaimJoined
import GoSem.ClaimMapViews
import Derived.JoinedTies
import Derived.KernelRfl
namespace Go.Proofs.YtojfcfnkcldpbaaGreat
/- THE CELL 'sum', in the pinned program and in every row, IS THE sha256 OF THE DUMP (.gsa) THAT YtojfcfnkcldpbaaGreatProg.lean LOADS. Nothing in Lean hashes anything: it is a label: what it is worth is what the hold of that sum in a sandbox is worth. -/
noncomputable def Tryz.pinned : Pinned := { name := "ytojfcfnkcldpbaagreat", sum := "2e0648759b11af680f6bfa8b7ee27bc64ed346631ed7fe6c38c04b2f5ec0758b", checked := Tryz.checked }
namespace Rows
def none {H : Type} : Left H := { results := [], args := [] }

/-- 'varvelaw32.TraceNone': WHATEVER THE INPUT: true; the input reads as it did. -/
def traceNoneSpec : ChangeSpec := { name := "traceNone", fn := fun _ => fun
  | [d1, d2] => { results := [.lit (.bool true)], args := [d1, d2] }
  | _ => none }
def traceNoneRow : OpenClaim := { program := "ytojfcfnkcldpbaagreat", sum := "2e0648759b11af680f6bfa8b7ee27bc64ed346631ed7fe6c38c04b2f5ec0758b", func := "varve/varvelaw32.TraceNone", spec := "traceNone", inPlace := ["maps.clone", "slices.overlaps[varve/api.Item]", "internal/bytealg.abigen_runtime_cmpstring", "slices.overlaps[varve/api.Node]", "slices.overlaps[varve/api.Leaf]"], unfollowed := true, recurses := true, plainKeys := false, apart := false }
def TraceNoneSaid : Prop := traceNoneRow.holds Tryz.pinned (OpenSpec.ofChange traceNoneSpec)

/-- ITS FALSE NEIGHBOUR: 'it returns false'. Refute it at one input. -/
def traceNoneWrong : ChangeSpec := { name := "traceNone", fn := fun _ => fun
  | [d1, d2] => { results := [.lit (.bool false)], args := [d1, d2] }
  | _ => none }
def TraceNoneWrongFalsely : Prop := traceNoneRow.holds Tryz.pinned (OpenSpec.ofChange traceNoneWrong)

/-- 'varvelaw41.IndexNone': WHATEVER THE INPUT: true; the input reads as it did. -/
def indexNoneSpec : ChangeSpec := { name := "indexNone", fn := fun _ => fun
  | [d1, d2] => { results := [.lit (.bool true)], args := [d1, d2] }
  | _ => none }
def indexNoneRow : OpenClaim := { program := "ytojfcfnkcldpbaagreat", sum := "2e0648759b11af680f6bfa8b7ee27bc64ed346631ed7fe6c38c04b2f5ec0758b", func := "varve/varvelaw41.IndexNone", spec := "indexNone", inPlace := ["internal/abi.NoEscape", "internal/bytealg.MakeNoZero", "internal/bytealg.abigen_runtime_cmpstring", "maps.clone"], unfollowed := true, recurses := true, plainKeys := false, apart := false }
def IndexNoneSaid : Prop := indexNoneRow.holds Tryz.pinned (OpenSpec.ofChange indexNoneSpec)

/-- ITS FALSE NEIGHBOUR: 'it returns false'. Refute it at one input. -/
def indexNoneWrong : ChangeSpec := { name := "indexNone", fn := fun _ => fun
  | [d1, d2] => { results := [.lit (.bool false)], args := [d1, d2] }
  | _ => none }
def IndexNoneWrongFalsely : Prop := indexNoneRow.holds Tryz.pinned (OpenSpec.ofChange indexNoneWrong)

/-- 'varvelaw40.WatchNone': WHATEVER THE INPUT: true; the input reads as it did. -/
def watchNoneSpec : ChangeSpec := { name := "watchNone", fn := fun _ => fun
  | [d] => { results := [.lit (.bool true)], args := [d] }
  | _ => none }
def watchNoneRow : OpenClaim := { program := "ytojfcfnkcldpbaagreat", sum := "2e0648759b11af680f6bfa8b7ee27bc64ed346631ed7fe6c38c04b2f5ec0758b", func := "varve/varvelaw40.WatchNone", spec := "watchNone", inPlace := ["internal/abi.NoEscape", "internal/bytealg.MakeNoZero", "maps.clone"], unfollowed := true, recurses := true, loops := true, plainKeys := false, apart := false }
def WatchNoneSaid : Prop := watchNoneRow.holds Tryz.pinned (OpenSpec.ofChange watchNoneSpec)

/-- ITS FALSE NEIGHBOUR: 'it returns false'. Refute it at one input. -/
def watchNoneWrong : ChangeSpec := { name := "watchNone", fn := fun _ => fun
  | [d] => { results := [.lit (.bool false)], args := [d] }
  | _ => none }
def WatchNoneWrongFalsely : Prop := watchNoneRow.holds Tryz.pinned (OpenSpec.ofChange watchNoneWrong)

/-- 'varvelaw38.GuardNone': WHATEVER THE INPUT: true; the input reads as it did. -/
def guardNoneSpec : ChangeSpec := { name := "guardNone", fn := fun _ => fun
  | [d1, d2] => { results := [.lit (.bool true)], args := [d1, d2] }
  | _ => none }
def guardNoneRow : OpenClaim := { program := "ytojfcfnkcldpbaagreat", sum := "2e0648759b11af680f6bfa8b7ee27bc64ed346631ed7fe6c38c04b2f5ec0758b", func := "varve/varvelaw38.GuardNone", spec := "guardNone", inPlace := ["maps.clone", "slices.overlaps[varve/api.Item]", "internal/bytealg.abigen_runtime_cmpstring", "slices.overlaps[varve/api.Node]", "slices.overlaps[varve/api.Leaf]"], unfollowed := true, recurses := true, plainKeys := false, apart := false }
def GuardNoneSaid : Prop := guardNoneRow.holds Tryz.pinned (OpenSpec.ofChange guardNoneSpec)

/-- ITS FALSE NEIGHBOUR: 'it returns false'. Refute it at one input. -/
def guardNoneWrong : ChangeSpec := { name := "guardNone", fn := fun _ => fun
  | [d1, d2] => { results := [.lit (.bool false)], args := [d1, d2] }
  | _ => none }
def GuardNoneWrongFalsely : Prop := guardNoneRow.holds Tryz.pinned (OpenSpec.ofChange guardNoneWrong)

/-- 'varvelaw34.UndoNone': WHATEVER THE INPUT: true; the input reads as it did. -/
def undoNoneSpec : ChangeSpec := { name := "undoNone", fn := fun _ => fun
  | [d] => { results := [.lit (.bool true)], args := [d] }
  | _ => none }
def undoNoneRow : OpenClaim := { program := "ytojfcfnkcldpbaagreat", sum := "2e0648759b11af680f6bfa8b7ee27bc64ed346631ed7fe6c38c04b2f5ec0758b", func := "varve/varvelaw34.UndoNone", spec := "undoNone", inPlace := ["maps.clone", "slices.overlaps[varve/api.Item]", "internal/bytealg.abigen_runtime_cmpstring", "slices.overlaps[varve/api.Node]", "slices.overlaps[varve/api.Leaf]"], unfollowed := true, recurses := true, plainKeys := false, apart := false }
def UndoNoneSaid : Prop := undoNoneRow.holds Tryz.pinned (OpenSpec.ofChange undoNoneSpec)

/-- ITS FALSE NEIGHBOUR: 'it returns false'. Refute it at one input. -/
def undoNoneWrong : ChangeSpec := { name := "undoNone", fn := fun _ => fun
  | [d] => { results := [.lit (.bool false)], args := [d] }
  | _ => none }
def UndoNoneWrongFalsely : Prop := undoNoneRow.holds Tryz.pinned (OpenSpec.ofChange undoNoneWrong)

/-- 'varvelaw33.TravelNone': WHATEVER THE INPUT: true; the input reads as it did. -/
def travelNoneSpec : ChangeSpec := { name := "travelNone", fn := fun _ => fun
  | [d1, d2] => { results := [.lit (.bool true)], args := [d1, d2] }
  | _ => none }
def travelNoneRow : OpenClaim := { program := "ytojfcfnkcldpbaagreat", sum := "2e0648759b11af680f6bfa8b7ee27bc64ed346631ed7fe6c38c04b2f5ec0758b", func := "varve/varvelaw33.TravelNone", spec := "travelNone", inPlace := ["slices.overlaps[varve/api.Item]", "internal/bytealg.abigen_runtime_cmpstring", "slices.overlaps[varve/api.Node]", "slices.overlaps[varve/api.Leaf]", "internal/abi.NoEscape", "internal/bytealg.MakeNoZero"], unfollowed := true, recurses := true, plainKeys := false, apart := false }
def TravelNoneSaid : Prop := travelNoneRow.holds Tryz.pinned (OpenSpec.ofChange travelNoneSpec)

/-- ITS FALSE NEIGHBOUR: 'it returns false'. Refute it at one input. -/
def travelNoneWrong : ChangeSpec := { name := "travelNone", fn := fun _ => fun
  | [d1, d2] => { results := [.lit (.bool false)], args := [d1, d2] }
  | _ => none }
def TravelNoneWrongFalsely : Prop := travelNoneRow.holds Tryz.pinned (OpenSpec.ofChange travelNoneWrong)

/- THE SECOND FORM. 'bulk': how many values and letters a reading holds, each counted each time it is reached (what is shared counts as often as it is met; a slice's spare places count too). A statement '..UptoSaid' is the law's where the arguments, and the package variables that the reading takes, are together of bulk at most 1048576: NARROWER than '..Said'. Prove '..Said' where nothing that the law and all that it calls make is longer than what came in: it says more and counts as full. Else prove '..UptoSaid'. A law counts once. -/
mutual
def uptoBulk {H : Type} : DataW H → Nat
  | .lit (.string bytes) => bytes.length + 1
  | .lit _ => 1
  | .nil => 1
  | .ptr d => uptoBulk d + 1
  | .slice elems spare => uptoBulkAll elems + uptoBulkAll spare + 1
  | .agg parts => uptoBulkAll parts + 1
  | .iface _ d => uptoBulk d + 1
  | .map entries => uptoBulkEntries entries + 1
  | .held _ => 1
def uptoBulkAll {H : Type} : List (DataW H) → Nat
  | [] => 0
  | d :: r => uptoBulk d + uptoBulkAll r
def uptoBulkEntries {H : Type} : List (Lit × DataW H) → Nat
  | [] => 0
  | x :: r => uptoBulkEntry x + uptoBulkEntries r
def uptoBulkEntry {H : Type} : Lit × DataW H → Nat
  | (.string bytes, d) => bytes.length + uptoBulk d + 1
  | (_, d) => uptoBulk d + 1
 end
def uptoSmall : (H : Type) → List (DataW H) → Bool := fun _ ds => decide (uptoBulkAll ds ≤ 1048576)
def OpenSpec.upto (s : _root_.Go.ChangeSpec) : _root_.Go.OpenSpec := { _root_.Go.OpenSpec.ofChange s with cond := some uptoSmall }

/-- 'varvelaw32.TraceNone', WHERE WHAT IT READS IS OF BULK AT MOST 1048576: true; the input reads as it did. -/
def traceNoneUptoRow : OpenClaim := { program := "ytojfcfnkcldpbaagreat", sum := "2e0648759b11af680f6bfa8b7ee27bc64ed346631ed7fe6c38c04b2f5ec0758b", func := "varve/varvelaw32.TraceNone", spec := "traceNone", inPlace := ["maps.clone", "slices.overlaps[varve/api.Item]", "internal/bytealg.abigen_runtime_cmpstring", "slices.overlaps[varve/api.Node]", "slices.overlaps[varve/api.Leaf]"], unfollowed := true, recurses := true, plainKeys := false, apart := false, narrowed := true }
def TraceNoneUptoSaid : Prop := traceNoneUptoRow.holds Tryz.pinned (OpenSpec.upto traceNoneSpec)

/-- 'varvelaw41.IndexNone', WHERE WHAT IT READS IS OF BULK AT MOST 1048576: true; the input reads as it did. -/
def indexNoneUptoRow : OpenClaim := { program := "ytojfcfnkcldpbaagreat", sum := "2e0648759b11af680f6bfa8b7ee27bc64ed346631ed7fe6c38c04b2f5ec0758b", func := "varve/varvelaw41.IndexNone", spec := "indexNone", inPlace := ["internal/abi.NoEscape", "internal/bytealg.MakeNoZero", "internal/bytealg.abigen_runtime_cmpstring", "maps.clone"], unfollowed := true, recurses := true, plainKeys := false, apart := false, narrowed := true }
def IndexNoneUptoSaid : Prop := indexNoneUptoRow.holds Tryz.pinned (OpenSpec.upto indexNoneSpec)

/-- 'varvelaw40.WatchNone', WHERE WHAT IT READS IS OF BULK AT MOST 1048576: true; the input reads as it did. -/
def watchNoneUptoRow : OpenClaim := { program := "ytojfcfnkcldpbaagreat", sum := "2e0648759b11af680f6bfa8b7ee27bc64ed346631ed7fe6c38c04b2f5ec0758b", func := "varve/varvelaw40.WatchNone", spec := "watchNone", inPlace := ["internal/abi.NoEscape", "internal/bytealg.MakeNoZero", "maps.clone"], unfollowed := true, recurses := true, loops := true, plainKeys := false, apart := false, narrowed := true }
def WatchNoneUptoSaid : Prop := watchNoneUptoRow.holds Tryz.pinned (OpenSpec.upto watchNoneSpec)

/-- 'varvelaw38.GuardNone', WHERE WHAT IT READS IS OF BULK AT MOST 1048576: true; the input reads as it did. -/
def guardNoneUptoRow : OpenClaim := { program := "ytojfcfnkcldpbaagreat", sum := "2e0648759b11af680f6bfa8b7ee27bc64ed346631ed7fe6c38c04b2f5ec0758b", func := "varve/varvelaw38.GuardNone", spec := "guardNone", inPlace := ["maps.clone", "slices.overlaps[varve/api.Item]", "internal/bytealg.abigen_runtime_cmpstring", "slices.overlaps[varve/api.Node]", "slices.overlaps[varve/api.Leaf]"], unfollowed := true, recurses := true, plainKeys := false, apart := false, narrowed := true }
def GuardNoneUptoSaid : Prop := guardNoneUptoRow.holds Tryz.pinned (OpenSpec.upto guardNoneSpec)

/-- 'varvelaw34.UndoNone', WHERE WHAT IT READS IS OF BULK AT MOST 1048576: true; the input reads as it did. -/
def undoNoneUptoRow : OpenClaim := { program := "ytojfcfnkcldpbaagreat", sum := "2e0648759b11af680f6bfa8b7ee27bc64ed346631ed7fe6c38c04b2f5ec0758b", func := "varve/varvelaw34.UndoNone", spec := "undoNone", inPlace := ["maps.clone", "slices.overlaps[varve/api.Item]", "internal/bytealg.abigen_runtime_cmpstring", "slices.overlaps[varve/api.Node]", "slices.overlaps[varve/api.Leaf]"], unfollowed := true, recurses := true, plainKeys := false, apart := false, narrowed := true }
def UndoNoneUptoSaid : Prop := undoNoneUptoRow.holds Tryz.pinned (OpenSpec.upto undoNoneSpec)

/-- 'varvelaw33.TravelNone', WHERE WHAT IT READS IS OF BULK AT MOST 1048576: true; the input reads as it did. -/
def travelNoneUptoRow : OpenClaim := { program := "ytojfcfnkcldpbaagreat", sum := "2e0648759b11af680f6bfa8b7ee27bc64ed346631ed7fe6c38c04b2f5ec0758b", func := "varve/varvelaw33.TravelNone", spec := "travelNone", inPlace := ["slices.overlaps[varve/api.Item]", "internal/bytealg.abigen_runtime_cmpstring", "slices.overlaps[varve/api.Node]", "slices.overlaps[varve/api.Leaf]", "internal/abi.NoEscape", "internal/bytealg.MakeNoZero"], unfollowed := true, recurses := true, plainKeys := false, apart := false, narrowed := true }
def TravelNoneUptoSaid : Prop := travelNoneUptoRow.holds Tryz.pinned (OpenSpec.upto travelNoneSpec)

end Rows
end Go.Proofs.YtojfcfnkcldpbaaGreat
