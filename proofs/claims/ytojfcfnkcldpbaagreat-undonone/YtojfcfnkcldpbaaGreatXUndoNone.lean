/- What the law comes to, computed over abstract states. -/
import Derived.Test.YtojfcfnkcldpbaaGreatVxL
import Derived.Test.YtojfcfnkcldpbaaGreatD
import Derived.Test.YtojfcfnkcldpbaaGreatProg
namespace Go.Vv
open Go Go.Proofs
set_option linter.unusedVariables false
set_option linter.unusedSimpArgs false
def mc199TryzRen : Go.Shelf.Ren :=
  { f := fun x => match x with
      | 5 => 199
      | 7 => 172
      | n => n
    t := fun x => match x with
      | 4 => 4
      | 20 => 20
      | 23 => 31
      | 25 => 43
      | 3 => 93
      | n => n
    g := fun n => n }
theorem mc199TryzLays : Go.Proofs.SlLaysW.n5 Tryz.prog mc199TryzRen where
  mixed := by kernel_rfl
  f5 := ⟨Tryz.f199.name, by kernel_rfl, Tryz.func199.trans (by kernel_rfl)⟩
  f7 := Tryz.func172.trans (by kernel_rfl)
  t4 := Tryz.underlying4
  a4 := Tryz.isAgg4
  z4 := Tryz.sizeOf4
  v4 := Tryz.zeroValue4
  t20 := Tryz.underlying20
  a20 := Tryz.isAgg20
  z20 := Tryz.sizeOf20
  v20 := Tryz.zeroValue20
  t23 := Tryz.underlying31
  a23 := Tryz.isAgg31
  z23 := Tryz.sizeOf31
  v23 := Tryz.zeroValue31
def xlib : CallX := mcLib [199]
theorem xlib_ok : CallOk Tryz.prog xlib := (mcLib_ok (fun f hf => by
    simp only [List.mem_cons, List.not_mem_nil, or_false] at hf
    rcases hf with rfl
    · exact ⟨_, mc199TryzLays, rfl⟩
))
def xown (f : FuncId) : Bool := [69, 103, 150, 151, 189, 192, 241, 258, 263, 294, 318, 321, 322, 396, 442, 489, 494].contains f
def lawUndoNone (y0 : GDot) : Option Bool := some true
theorem xUndoNone (y0 : GDot) : (xall Tryz.prog nopre xlib xown 1000 80).1 7 [.agg [.int .u8 y0.actor.rep, .int .u32 y0.actor.inc, .int .u64 y0.seq]] ⟨[], []⟩ = some [(.bool true, ⟨[], []⟩)] := by kernel_rfl
theorem ok7 {y0 : GDot} {res : Bool} {h : AH} (hF : lawUndoNone y0 = some res) : Spec Tryz.prog 7 [.agg [.int .u8 y0.actor.rep, .int .u32 y0.actor.inc, .int .u64 y0.seq]] h (fun rr hh => rr = .bool res ∧ hh = h) := by
  obtain rfl := Option.some.inj hF
  exact spec_x nopre_ok xlib_ok (xUndoNone y0) (by simp [lowL, AV.low])
theorem lawUndoNoneis (y0 : GDot) {q0 : Prop} (_ : q0) : lawUndoNone y0 = some true := rfl
end Go.Vv
