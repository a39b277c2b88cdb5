/-
  NARROWER THAN 'FOR EVERY INPUT', by the rows' own cells (each row's printed sentence says how): PathsNarrow: loops · PathsSelect: loops · PathsParts: loops · MeterSums: loops.
  DERIVED. THE GIVEN ROWS OF THIS SEAT. 6 by the template 'for every input the law returns true; each argument reads behind the call as it read before'; 0 by the template 'total and deterministic' (their statements: YtlkpeiojgenhaaaTotals.lean).
  GIVEN WITH THE SEED: the statements are not yours to turn. If you find one false, say at which input.
  Laid BY PROGRAM, IN A SANDBOX (cutbox-rows.mjs): the forced cells as the released guide's own fill.sh prints them over the translation 95841371519f48a5… (all of the seat's roots in one cut). By AI agents, Wed Nov 11 2026. No macro, syntax, notation, axiom, sorry.
-/
import Derived.Test.YtlkpeiojgenhaaaChecked
import GoSem.Claim
import GoSem.ClaimJoined
import GoSem.ClaimMapViews
import Derived.JoinedTies
import Derived.KernelRfl
namespace Go.Proofs.Ytlkpeiojgenhaaa
/- THE CELL 'sum', in the pinned program and in every row, IS THE sha256 OF THE DUMP (.gsa) THAT YtlkpeiojgenhaaaProg.lean LOADS. Nothing in Lean hashes anything: it is a label: what it is worth is what the hold of that sum in a sandbox is worth. -/
noncomputable def Try.pinned : Pinned := { name := "ytlkpeiojgenhaaa", sum := "95841371519f48a571d85c93e1a15fe9bc2a2b06da380e199dfe9f1d17b24f37", checked := Try.checked }
namespace Rows
def none {H : Type} : Left H := { results := [], args := [] }

/-- 'varvelaw04.OpMay': WHATEVER THE INPUT: true; the input reads as it did. -/
def opMaySpec : ChangeSpec := { name := "opMay", fn := fun _ => fun
  | [d1, d2, d3] => { results := [.lit (.bool true)], args := [d1, d2, d3] }
  | _ => none }
def opMayRow : OpenClaim := { program := "ytlkpeiojgenhaaa", sum := "95841371519f48a571d85c93e1a15fe9bc2a2b06da380e199dfe9f1d17b24f37", func := "varve/varvelaw04.OpMay", spec := "opMay", unfollowed := true, recurses := true, plainKeys := false, apart := false }
def OpMaySaid : Prop := opMayRow.holds Try.pinned (OpenSpec.ofChange opMaySpec)

/-- ITS FALSE NEIGHBOUR: 'it returns false'. Refute it at one input. -/
def opMayWrong : ChangeSpec := { name := "opMay", fn := fun _ => fun
  | [d1, d2, d3] => { results := [.lit (.bool false)], args := [d1, d2, d3] }
  | _ => none }
def OpMayWrongFalsely : Prop := opMayRow.holds Try.pinned (OpenSpec.ofChange opMayWrong)

/-- 'varvelaw42.RightsIdle': WHATEVER THE INPUT: true; the input reads as it did. -/
def rightsIdleSpec : ChangeSpec := { name := "rightsIdle", fn := fun _ => fun
  | [d1, d2, d3, d4] => { results := [.lit (.bool true)], args := [d1, d2, d3, d4] }
  | _ => none }
def rightsIdleRow : OpenClaim := { program := "ytlkpeiojgenhaaa", sum := "95841371519f48a571d85c93e1a15fe9bc2a2b06da380e199dfe9f1d17b24f37", func := "varve/varvelaw42.RightsIdle", spec := "rightsIdle", unfollowed := true, recurses := true, plainKeys := false, apart := false }
def RightsIdleSaid : Prop := rightsIdleRow.holds Try.pinned (OpenSpec.ofChange rightsIdleSpec)

/-- ITS FALSE NEIGHBOUR: 'it returns false'. Refute it at one input. -/
def rightsIdleWrong : ChangeSpec := { name := "rightsIdle", fn := fun _ => fun
  | [d1, d2, d3, d4] => { results := [.lit (.bool false)], args := [d1, d2, d3, d4] }
  | _ => none }
def RightsIdleWrongFalsely : Prop := rightsIdleRow.holds Try.pinned (OpenSpec.ofChange rightsIdleWrong)

/-- 'varvelaw30.PathsNarrow': WHATEVER THE INPUT: true; the input reads as it did. -/
def pathsNarrowSpec : ChangeSpec := { name := "pathsNarrow", fn := fun _ => fun
  | [d1, d2, d3] => { results := [.lit (.bool true)], args := [d1, d2, d3] }
  | _ => none }
def pathsNarrowRow : OpenClaim := { program := "ytlkpeiojgenhaaa", sum := "95841371519f48a571d85c93e1a15fe9bc2a2b06da380e199dfe9f1d17b24f37", func := "varve/varvelaw30.PathsNarrow", spec := "pathsNarrow", inPlace := ["internal/abi.NoEscape", "internal/bytealg.MakeNoZero"], unfollowed := true, recurses := true, loops := true, plainKeys := false, apart := false }
def PathsNarrowSaid : Prop := pathsNarrowRow.holds Try.pinned (OpenSpec.ofChange pathsNarrowSpec)

/-- ITS FALSE NEIGHBOUR: 'it returns false'. Refute it at one input. -/
def pathsNarrowWrong : ChangeSpec := { name := "pathsNarrow", fn := fun _ => fun
  | [d1, d2, d3] => { results := [.lit (.bool false)], args := [d1, d2, d3] }
  | _ => none }
def PathsNarrowWrongFalsely : Prop := pathsNarrowRow.holds Try.pinned (OpenSpec.ofChange pathsNarrowWrong)

/-- 'varvelaw30.PathsSelect': WHATEVER THE INPUT: true; the input reads as it did. -/
def pathsSelectSpec : ChangeSpec := { name := "pathsSelect", fn := fun _ => fun
  | [d1, d2] => { results := [.lit (.bool true)], args := [d1, d2] }
  | _ => none }
def pathsSelectRow : OpenClaim := { program := "ytlkpeiojgenhaaa", sum := "95841371519f48a571d85c93e1a15fe9bc2a2b06da380e199dfe9f1d17b24f37", func := "varve/varvelaw30.PathsSelect", spec := "pathsSelect", inPlace := ["internal/abi.NoEscape", "internal/bytealg.MakeNoZero"], unfollowed := true, recurses := true, loops := true, plainKeys := false, apart := false }
def PathsSelectSaid : Prop := pathsSelectRow.holds Try.pinned (OpenSpec.ofChange pathsSelectSpec)

/-- ITS FALSE NEIGHBOUR: 'it returns false'. Refute it at one input. -/
def pathsSelectWrong : ChangeSpec := { name := "pathsSelect", fn := fun _ => fun
  | [d1, d2] => { results := [.lit (.bool false)], args := [d1, d2] }
  | _ => none }
def PathsSelectWrongFalsely : Prop := pathsSelectRow.holds Try.pinned (OpenSpec.ofChange pathsSelectWrong)

/-- 'varvelaw30.PathsParts': WHATEVER THE INPUT: true; the input reads as it did. -/
def pathsPartsSpec : ChangeSpec := { name := "pathsParts", fn := fun _ => fun
  | [d1, d2] => { results := [.lit (.bool true)], args := [d1, d2] }
  | _ => none }
def pathsPartsRow : OpenClaim := { program := "ytlkpeiojgenhaaa", sum := "95841371519f48a571d85c93e1a15fe9bc2a2b06da380e199dfe9f1d17b24f37", func := "varve/varvelaw30.PathsParts", spec := "pathsParts", inPlace := ["internal/abi.NoEscape", "internal/bytealg.MakeNoZero"], unfollowed := true, recurses := true, loops := true, plainKeys := false, apart := false }
def PathsPartsSaid : Prop := pathsPartsRow.holds Try.pinned (OpenSpec.ofChange pathsPartsSpec)

/-- ITS FALSE NEIGHBOUR: 'it returns false'. Refute it at one input. -/
def pathsPartsWrong : ChangeSpec := { name := "pathsParts", fn := fun _ => fun
  | [d1, d2] => { results := [.lit (.bool false)], args := [d1, d2] }
  | _ => none }
def PathsPartsWrongFalsely : Prop := pathsPartsRow.holds Try.pinned (OpenSpec.ofChange pathsPartsWrong)

/-- 'varvelaw45.MeterSums': WHATEVER THE INPUT: true; the input reads as it did. -/
def meterSumsSpec : ChangeSpec := { name := "meterSums", fn := fun _ => fun
  | [d] => { results := [.lit (.bool true)], args := [d] }
  | _ => none }
def meterSumsRow : OpenClaim := { program := "ytlkpeiojgenhaaa", sum := "95841371519f48a571d85c93e1a15fe9bc2a2b06da380e199dfe9f1d17b24f37", func := "varve/varvelaw45.MeterSums", spec := "meterSums", unfollowed := true, recurses := true, loops := true, plainKeys := false, apart := false }
def MeterSumsSaid : Prop := meterSumsRow.holds Try.pinned (OpenSpec.ofChange meterSumsSpec)

/-- ITS FALSE NEIGHBOUR: 'it returns false'. Refute it at one input. -/
def meterSumsWrong : ChangeSpec := { name := "meterSums", fn := fun _ => fun
  | [d] => { results := [.lit (.bool false)], args := [d] }
  | _ => none }
def MeterSumsWrongFalsely : Prop := meterSumsRow.holds Try.pinned (OpenSpec.ofChange meterSumsWrong)

/- THE SECOND FORM. 'bulk': how many values and letters a reading holds, each counted each time it is reached (what is shared counts as often as it is met; a slice's spare places count too). A statement '..UptoSaid' is the law's where the arguments, and the package variables that the reading takes, are together of bulk at most 1048576: NARROWER than '..Said'. Prove '..Said' where nothing that the law and all that it calls make is longer than what came in: it says more and counts as full. Else prove '..UptoSaid'. A law counts once. -/
mutual
def uptoBulk {H : Type} : DataW H → Nat
  | .lit (.string bytes) => bytes.length + 1
  | .lit _ => 1
  | .nil => 1
  | .ptr d => uptoBulk d + 1
  | .slice elems spare => uptoBulkAll elems + uptoBulkAll spare + 1
  | .agg parts => uptoBulkAll parts + 1
  | .iface _ d => uptoBulk d + 1
  | .map entries => uptoBulkEntries entries + 1
  | .held _ => 1
def uptoBulkAll {H : Type} : List (DataW H) → Nat
  | [] => 0
  | d :: r => uptoBulk d + uptoBulkAll r
def uptoBulkEntries {H : Type} : List (Lit × DataW H) → Nat
  | [] => 0
  | x :: r => uptoBulkEntry x + uptoBulkEntries r
def uptoBulkEntry {H : Type} : Lit × DataW H → Nat
  | (.string bytes, d) => bytes.length + uptoBulk d + 1
  | (_, d) => uptoBulk d + 1
 end
def uptoSmall : (H : Type) → List (DataW H) → Bool := fun _ ds => decide (uptoBulkAll ds ≤ 1048576)
def OpenSpec.upto (s : _root_.Go.ChangeSpec) : _root_.Go.OpenSpec := { _root_.Go.OpenSpec.ofChange s with cond := some uptoSmall }

/-- 'varvelaw04.OpMay', WHERE WHAT IT READS IS OF BULK AT MOST 1048576: true; the input reads as it did. -/
def opMayUptoRow : OpenClaim := { program := "ytlkpeiojgenhaaa", sum := "95841371519f48a571d85c93e1a15fe9bc2a2b06da380e199dfe9f1d17b24f37", func := "varve/varvelaw04.OpMay", spec := "opMay", unfollowed := true, recurses := true, plainKeys := false, apart := false, narrowed := true }
def OpMayUptoSaid : Prop := opMayUptoRow.holds Try.pinned (OpenSpec.upto opMaySpec)

/-- 'varvelaw42.RightsIdle', WHERE WHAT IT READS IS OF BULK AT MOST 1048576: true; the input reads as it did. -/
def rightsIdleUptoRow : OpenClaim := { program := "ytlkpeiojgenhaaa", sum := "95841371519f48a571d85c93e1a15fe9bc2a2b06da380e199dfe9f1d17b24f37", func := "varve/varvelaw42.RightsIdle", spec := "rightsIdle", unfollowed := true, recurses := true, plainKeys := false, apart := false, narrowed := true }
def RightsIdleUptoSaid : Prop := rightsIdleUptoRow.holds Try.pinned (OpenSpec.upto rightsIdleSpec)

/-- 'varvelaw30.PathsNarrow', WHERE WHAT IT READS IS OF BULK AT MOST 1048576: true; the input reads as it did. -/
def pathsNarrowUptoRow : OpenClaim := { program := "ytlkpeiojgenhaaa", sum := "95841371519f48a571d85c93e1a15fe9bc2a2b06da380e199dfe9f1d17b24f37", func := "varve/varvelaw30.PathsNarrow", spec := "pathsNarrow", inPlace := ["internal/abi.NoEscape", "internal/bytealg.MakeNoZero"], unfollowed := true, recurses := true, loops := true, plainKeys := false, apart := false, narrowed := true }
def PathsNarrowUptoSaid : Prop := pathsNarrowUptoRow.holds Try.pinned (OpenSpec.upto pathsNarrowSpec)

/-- 'varvelaw30.PathsSelect', WHERE WHAT IT READS IS OF BULK AT MOST 1048576: true; the input reads as it did. -/
def pathsSelectUptoRow : OpenClaim := { program := "ytlkpeiojgenhaaa", sum := "95841371519f48a571d85c93e1a15fe9bc2a2b06da380e199dfe9f1d17b24f37", func := "varve/varvelaw30.PathsSelect", spec := "pathsSelect", inPlace := ["internal/abi.NoEscape", "internal/bytealg.MakeNoZero"], unfollowed := true, recurses := true, loops := true, plainKeys := false, apart := false, narrowed := true }
def PathsSelectUptoSaid : Prop := pathsSelectUptoRow.holds Try.pinned (OpenSpec.upto pathsSelectSpec)

/-- 'varvelaw30.PathsParts', WHERE WHAT IT READS IS OF BULK AT MOST 1048576: true; the input reads as it did. -/
def pathsPartsUptoRow : OpenClaim := { program := "ytlkpeiojgenhaaa", sum := "95841371519f48a571d85c93e1a15fe9bc2a2b06da380e199dfe9f1d17b24f37", func := "varve/varvelaw30.PathsParts", spec := "pathsParts", inPlace := ["internal/abi.NoEscape", "internal/bytealg.MakeNoZero"], unfollowed := true, recurses := true, loops := true, plainKeys := false, apart := false, narrowed := true }
def PathsPartsUptoSaid : Prop := pathsPartsUptoRow.holds Try.pinned (OpenSpec.upto pathsPartsSpec)

/-- 'varvelaw45.MeterSums', WHERE WHAT IT READS IS OF BULK AT MOST 1048576: true; the input reads as it did. -/
def meterSumsUptoRow : OpenClaim := { program := "ytlkpeiojgenhaaa", sum := "95841371519f48a571d85c93e1a15fe9bc2a2b06da380e199dfe9f1d17b24f37", func := "varve/varvelaw45.MeterSums", spec := "meterSums", unfollowed := true, recurses := true, loops := true, plainKeys := false, apart := false, narrowed := true }
def MeterSumsUptoSaid : Prop := meterSumsUptoRow.holds Try.pinned (OpenSpec.upto meterSumsSpec)

end Rows
end Go.Proofs.Ytlkpeiojgenhaaa
