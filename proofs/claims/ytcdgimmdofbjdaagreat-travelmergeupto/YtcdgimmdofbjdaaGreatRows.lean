/-
  NARROWER THAN 'FOR EVERY INPUT', by the rows' own cells (each row's printed sentence says how): TravelMakes: loops · TravelMerge: loops.
  DERIVED. THE GIVEN ROWS OF THIS SEAT. 2 by the template 'for every input the law returns true; each argument reads behind the call as it read before'; 0 by the template 'total and deterministic' (their statements: YtcdgimmdofbjdaaGreatTotals.lean).
  GIVEN WITH THE SEED: the statements are not yours to turn. If you find one false, say at which input.
  Laid BY PROGRAM, IN A SANDBOX (cutbox-rows.mjs): the forced cells as the released guide's own fill.sh prints them over the translation e7d9ecb324db9fb1… (all of the seat's roots in one cut). By AI agents, Wed Nov 11 2026. No macro, syntax, notation, axiom, sorry.
-/
import Derived.Test.YtcdgimmdofbjdaaGreatChecked
import GoSem.Claim
import GoSem.ClaimJoined
import GoSem.ClaimMapViews
import Derived.JoinedTies
import Derived.KernelRfl
namespace Go.Proofs.YtcdgimmdofbjdaaGreat
/- THE CELL 'sum', in the pinned program and in every row, IS THE sha256 OF THE DUMP (.gsa) THAT YtcdgimmdofbjdaaGreatProg.lean LOADS. Nothing in Lean hashes anything: it is a label: what it is worth is what the hold of that sum in a sandbox is worth. -/
noncomputable def Tryz.pinned : Pinned := { name := "ytcdgimmdofbjdaagreat", sum := "e7d9ecb324db9fb10a86de58d1cbcad6d0c8b091665741028e9b2230ebe96c47", checked := Tryz.checked }
namespace Rows
def none {H : Type} : Left H := { results := [], args := [] }

/-- 'varvelaw33.TravelMakes': WHATEVER THE INPUT: true; the input reads as it did. -/
def travelMakesSpec : ChangeSpec := { name := "travelMakes", fn := fun _ => fun
  | [d1, d2, d3, d4, d5] => { results := [.lit (.bool true)], args := [d1, d2, d3, d4, d5] }
  | _ => none }
def travelMakesRow : OpenClaim := { program := "ytcdgimmdofbjdaagreat", sum := "e7d9ecb324db9fb10a86de58d1cbcad6d0c8b091665741028e9b2230ebe96c47", func := "varve/varvelaw33.TravelMakes", spec := "travelMakes", inPlace := ["slices.overlaps[varve/api.Item]", "internal/bytealg.abigen_runtime_cmpstring", "slices.overlaps[varve/api.Node]", "slices.overlaps[varve/api.Leaf]", "internal/abi.NoEscape", "internal/bytealg.MakeNoZero"], unfollowed := true, recurses := true, loops := true, plainKeys := false, apart := false }
def TravelMakesSaid : Prop := travelMakesRow.holds Tryz.pinned (OpenSpec.ofChange travelMakesSpec)

/-- ITS FALSE NEIGHBOUR: 'it returns false'. Refute it at one input. -/
def travelMakesWrong : ChangeSpec := { name := "travelMakes", fn := fun _ => fun
  | [d1, d2, d3, d4, d5] => { results := [.lit (.bool false)], args := [d1, d2, d3, d4, d5] }
  | _ => none }
def TravelMakesWrongFalsely : Prop := travelMakesRow.holds Tryz.pinned (OpenSpec.ofChange travelMakesWrong)

/-- 'varvelaw33.TravelMerge': WHATEVER THE INPUT: true; the input reads as it did. -/
def travelMergeSpec : ChangeSpec := { name := "travelMerge", fn := fun _ => fun
  | [d1, d2, d3, d4] => { results := [.lit (.bool true)], args := [d1, d2, d3, d4] }
  | _ => none }
def travelMergeRow : OpenClaim := { program := "ytcdgimmdofbjdaagreat", sum := "e7d9ecb324db9fb10a86de58d1cbcad6d0c8b091665741028e9b2230ebe96c47", func := "varve/varvelaw33.TravelMerge", spec := "travelMerge", inPlace := ["slices.overlaps[varve/api.Item]", "internal/bytealg.abigen_runtime_cmpstring", "slices.overlaps[varve/api.Node]", "slices.overlaps[varve/api.Leaf]"], unfollowed := true, recurses := true, loops := true, plainKeys := false, apart := false }
def TravelMergeSaid : Prop := travelMergeRow.holds Tryz.pinned (OpenSpec.ofChange travelMergeSpec)

/-- ITS FALSE NEIGHBOUR: 'it returns false'. Refute it at one input. -/
def travelMergeWrong : ChangeSpec := { name := "travelMerge", fn := fun _ => fun
  | [d1, d2, d3, d4] => { results := [.lit (.bool false)], args := [d1, d2, d3, d4] }
  | _ => none }
def TravelMergeWrongFalsely : Prop := travelMergeRow.holds Tryz.pinned (OpenSpec.ofChange travelMergeWrong)

/- THE SECOND FORM. 'bulk': how many values and letters a reading holds, each counted each time it is reached (what is shared counts as often as it is met; a slice's spare places count too). A statement '..UptoSaid' is the law's where the arguments, and the package variables that the reading takes, are together of bulk at most 1048576: NARROWER than '..Said'. Prove '..Said' where nothing that the law and all that it calls make is longer than what came in: it says more and counts as full. Else prove '..UptoSaid'. A law counts once. -/
mutual
def uptoBulk {H : Type} : DataW H → Nat
  | .lit (.string bytes) => bytes.length + 1
  | .lit _ => 1
  | .nil => 1
  | .ptr d => uptoBulk d + 1
  | .slice elems spare => uptoBulkAll elems + uptoBulkAll spare + 1
  | .agg parts => uptoBulkAll parts + 1
  | .iface _ d => uptoBulk d + 1
  | .map entries => uptoBulkEntries entries + 1
  | .held _ => 1
def uptoBulkAll {H : Type} : List (DataW H) → Nat
  | [] => 0
  | d :: r => uptoBulk d + uptoBulkAll r
def uptoBulkEntries {H : Type} : List (Lit × DataW H) → Nat
  | [] => 0
  | x :: r => uptoBulkEntry x + uptoBulkEntries r
def uptoBulkEntry {H : Type} : Lit × DataW H → Nat
  | (.string bytes, d) => bytes.length + uptoBulk d + 1
  | (_, d) => uptoBulk d + 1
 end
def uptoSmall : (H : Type) → List (DataW H) → Bool := fun _ ds => decide (uptoBulkAll ds ≤ 1048576)
def OpenSpec.upto (s : _root_.Go.ChangeSpec) : _root_.Go.OpenSpec := { _root_.Go.OpenSpec.ofChange s with cond := some uptoSmall }

/-- 'varvelaw33.TravelMakes', WHERE WHAT IT READS IS OF BULK AT MOST 1048576: true; the input reads as it did. -/
def travelMakesUptoRow : OpenClaim := { program := "ytcdgimmdofbjdaagreat", sum := "e7d9ecb324db9fb10a86de58d1cbcad6d0c8b091665741028e9b2230ebe96c47", func := "varve/varvelaw33.TravelMakes", spec := "travelMakes", inPlace := ["slices.overlaps[varve/api.Item]", "internal/bytealg.abigen_runtime_cmpstring", "slices.overlaps[varve/api.Node]", "slices.overlaps[varve/api.Leaf]", "internal/abi.NoEscape", "internal/bytealg.MakeNoZero"], unfollowed := true, recurses := true, loops := true, plainKeys := false, apart := false, narrowed := true }
def TravelMakesUptoSaid : Prop := travelMakesUptoRow.holds Tryz.pinned (OpenSpec.upto travelMakesSpec)

/-- 'varvelaw33.TravelMerge', WHERE WHAT IT READS IS OF BULK AT MOST 1048576: true; the input reads as it did. -/
def travelMergeUptoRow : OpenClaim := { program := "ytcdgimmdofbjdaagreat", sum := "e7d9ecb324db9fb10a86de58d1cbcad6d0c8b091665741028e9b2230ebe96c47", func := "varve/varvelaw33.TravelMerge", spec := "travelMerge", inPlace := ["slices.overlaps[varve/api.Item]", "internal/bytealg.abigen_runtime_cmpstring", "slices.overlaps[varve/api.Node]", "slices.overlaps[varve/api.Leaf]"], unfollowed := true, recurses := true, loops := true, plainKeys := false, apart := false, narrowed := true }
def TravelMergeUptoSaid : Prop := travelMergeUptoRow.holds Tryz.pinned (OpenSpec.upto travelMergeSpec)

end Rows
end Go.Proofs.YtcdgimmdofbjdaaGreat
