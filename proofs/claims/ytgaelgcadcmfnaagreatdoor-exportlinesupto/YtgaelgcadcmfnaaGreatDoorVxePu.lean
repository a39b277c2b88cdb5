/- strconv.ParseUint at base 16, of two bytes. -/
import Derived.Shelf.Pu.ErrVarParseUint
import Derived.Lib.ConvBytes
set_option linter.all false
namespace Go.Proofs
open Go Go.Shelf Go.RowKit Go.Lib
variable {P:Program} {ρ:Ren}
def hexv (c:UInt8):Option Nat:=if 48<=c.toNat/\c.toNat<=57 then some (c.toNat - 48) else if 97<=(c ||| 32).toNat/\(c ||| 32).toNat<=102 then some ((c ||| 32).toNat - 87) else none
theorem low_is:∀n:Fin 256,bits .or .u8 (n.val:Int) 32=((UInt8.ofNat n.val ||| 32).toNat:Int):=by decide +kernel
theorem low_u8 (c:UInt8):bits .or .u8 (c.toNat:Int) 32=((c ||| 32).toNat:Int):=by
 have h:=low_is ⟨c.toNat,c.toNat_lt⟩;simpa using h
theorem hi_is:∀n:Fin 256,97<=(UInt8.ofNat n.val ||| 32).toNat->(UInt8.ofNat n.val ||| 32).toNat<=102->57 < n.val:=by decide +kernel
theorem hi_u8 (c:UInt8) (h1:97<=(c ||| 32).toNat) (h2:(c ||| 32).toNat<=102):57 < c.toNat:=by
 have h:=hi_is ⟨c.toNat,c.toNat_lt⟩;simp only [UInt8.ofNat_toNat] at h;exact h h1 h2
def pu16R (T:TypeId) (a b:UInt8):Value:=match hexv a,hexv b with
 | some x,some y=>.tuple #[.int .u64 (16 * x+y:Nat),.nilIface]
 | _,_=>.tuple #[.int .u64 0,.iface T (.int .i64 2)]
set_option maxHeartbeats 8000000 in
set_option maxRecDepth 100000 in
theorem pu16 (L:LaysPu.n16 P ρ) (a b:UInt8) (w:World) :
  Calls P (ρ.f 16) #[.string ⟨#[a,b]⟩,.int .i64 16,.int .i64 8] w λe w'=>e=.returned (pu16R (ρ.t 34) a b)/\w'=Lib.bytesWorld w (ρ.t 5) ⟨#[a,b]⟩:=by
 have mixed:=L.mixed;have t9:=L.t9;have a9:=L.a9;have z9:=L.z9;have v9:=L.v9;have t3:=L.t3;have a3:=L.a3;have z3:=L.z3;have v3:=L.v3;have t22:=L.t22;have a22:=L.a22;have z22:=L.z22;have v22:=L.v22;have t24:=L.t24;have a24:=L.a24;have z24:=L.z24;have v24:=L.v24;have t4:=L.t4;have a4:=L.a4;have z4:=L.z4;have v4:=L.v4;have t34:=L.t34;have a34:=L.a34;have z34:=L.z34;have v34:=L.v34;have t5:=L.t5;have a5:=L.a5;have z5:=L.z5;have v5:=L.v5;have t36:=L.t36;have a36:=L.a36;have z36:=L.z36;have v36:=L.v36;have t37:=L.t37;have a37:=L.a37;have z37:=L.z37;have v37:=L.v37;have t0:=L.t0;have a0:=L.a0;have z0:=L.z0;have v0:=L.v0;have e19:∀args w,(callFunc (ρ.f 19) args).run P w=.ok (.enter (ρ.f 19) args) w:=enters_of L.f19 (by kernel_rfl) rfl;have hemp:(⟨#[a,b]⟩:ByteArray).toList.isEmpty=false:=by
  rw [<- decide_eq_emptyBytes];exact decide_eq_false (λh=>by have:=congrArg ByteArray.size h;simp [ByteArray.size] at this)
 have hsz:(⟨#[a,b]⟩:ByteArray).size=2:=rfl;have hcv:=Lib.run_convert_string_bytes (P:=P) w (ρ.t 9) (ρ.t 37) (ρ.t 5) ⟨#[a,b]⟩ (u:=.string) L.t9 L.t37 L.t5;have hB0:(Lib.bytesWorld w (ρ.t 5) ⟨#[a,b]⟩).cell? ⟨w.heap.size,0,none⟩=some (.int .u8 a.toNat):=Lib.bytesWorld_cell w (ρ.t 5) ⟨#[a,b]⟩ 0 (show 0 < 2 by omega);have hB1:(Lib.bytesWorld w (ρ.t 5) ⟨#[a,b]⟩).cell? ⟨w.heap.size,1,none⟩=some (.int .u8 b.toNat):=Lib.bytesWorld_cell w (ρ.t 5) ⟨#[a,b]⟩ 1 (show 1 < 2 by omega);obtain ⟨W1,hW1⟩:∃W1,W1=Lib.bytesWorld w (ρ.t 5) ⟨#[a,b]⟩:=⟨_,rfl⟩
 rw [<- hW1] at hcv hB0 hB1 ⊢;clear hW1;rw [hsz] at hcv;have hmv:IntKind.u64.wrap (IntKind.u64.wrap 256 - 1)=255:=by
  rw [IntKind.wrap_u64,IntKind.wrap_u64];decide
 have h95:bits BinOp.or IntKind.u8 95 32=127:=by kernel_rfl
 have la:=low_u8 a;have lb:=low_u8 b;have ha:=a.toNat_lt;have hb:=b.toNat_lt;have ga:hexv a=if 48<=a.toNat/\a.toNat<=57 then some (a.toNat - 48) else if 97<=(a ||| 32).toNat/\(a ||| 32).toNat<=102 then some ((a ||| 32).toNat - 87) else none:=rfl
 have gb:hexv b=if 48<=b.toNat/\b.toNat<=57 then some (b.toNat - 48) else if 97<=(b ||| 32).toNat/\(b ||| 32).toNat<=102 then some ((b ||| 32).toNat - 87) else none:=rfl
 have na:=hi_u8 a;have nb:=hi_u8 b;have hla:=(a ||| 32).toNat_lt;have hlb:=(b ||| 32).toNat_lt;obtain ⟨va,hva⟩:∃v,v=(a ||| 32).toNat:=⟨_,rfl⟩
 obtain ⟨vb,hvb⟩:∃v,v=(b ||| 32).toNat:=⟨_,rfl⟩
 rw [<- hva] at la ga hla na;rw [<- hvb] at lb gb hlb nb;obtain ⟨R,hR⟩:∃R,R=pu16R (ρ.t 34) a b:=⟨_,rfl⟩
 rw [<- hR];have HR:=Lib.hid (And.intro hR (And.intro ga gb));clear hR ga gb hva hvb;generalize a.toNat=x at *;generalize b.toNat=y at *;have ka:(x:Int) ≠ 95 \/ (va:Int)=127:=by
  by_cases e:(x:Int)=95
  ·rw [e,h95] at la;omega
  ·exact .inl e
 have kb:(y:Int) ≠ 95 \/ (vb:Int)=127:=by
  by_cases e:(y:Int)=95
  ·rw [e,h95] at lb;omega
  ·exact .inl e
 go_enter L.f16,BodyPu.n16_ntmps ρ
 go_wp2
 refine wp_loop_rounds 3 ?_;rw [rounds_succ];by_cases hA:48<=x/\x<=57
 ·obtain ⟨hA0,hA1⟩:=hA
  go_wp2_with (go_at_fn (ρ.f 19);refine (AnyPu.internal_strconv_lower { L with } _ _).mono ?_;rintro e w' ⟨rfl,rfl⟩)
  rw [rounds_succ];by_cases hB:48<=y/\y<=57
  ·obtain ⟨hB0,hB1⟩:=hB
   go_wp2_with (go_at_fn (ρ.f 19);refine (AnyPu.internal_strconv_lower { L with } _ _).mono ?_;rintro e w' ⟨rfl,rfl⟩)
   rw [rounds_succ]
   go_wp2
   go_ret2
   obtain ⟨h1,h2,h3⟩:=HR.out;refine ⟨?_,rfl⟩;rw [h1];unfold pu16R;rw [h2,h3];simp [*]
   try omega
  ·by_cases hC:97<=vb/\vb<=102
   ·obtain ⟨hC0,hC1⟩:=hC;have hC2:=nb hC0 hC1
    go_wp2_with (go_at_fn (ρ.f 19);refine (AnyPu.internal_strconv_lower { L with } _ _).mono ?_;rintro e w' ⟨rfl,rfl⟩)
    all_goals try (exfalso;omega)
    rw [rounds_succ]
    go_wp2
    go_ret2
    obtain ⟨h1,h2,h3⟩:=HR.out;refine ⟨?_,rfl⟩;rw [h1];unfold pu16R;rw [h2,h3];simp [*]
    try omega
   ·go_wp2_with (go_at_fn (ρ.f 19);refine (AnyPu.internal_strconv_lower { L with } _ _).mono ?_;rintro e w' ⟨rfl,rfl⟩)
    all_goals try (exfalso;omega)
    all_goals go_ret2
    all_goals obtain ⟨h1,h2,h3⟩:=HR.out
    all_goals refine ⟨?_,rfl⟩
    all_goals rw [h1]
    all_goals unfold pu16R
    all_goals rw [h2,h3]
    all_goals simp [*]
 ·by_cases hD:97<=va/\va<=102
  ·obtain ⟨hD0,hD1⟩:=hD;have hD2:=na hD0 hD1
   go_wp2_with (go_at_fn (ρ.f 19);refine (AnyPu.internal_strconv_lower { L with } _ _).mono ?_;rintro e w' ⟨rfl,rfl⟩)
   all_goals try (exfalso;omega)
   rw [rounds_succ];by_cases hB:48<=y/\y<=57
   ·obtain ⟨hB0,hB1⟩:=hB
    go_wp2_with (go_at_fn (ρ.f 19);refine (AnyPu.internal_strconv_lower { L with } _ _).mono ?_;rintro e w' ⟨rfl,rfl⟩)
    rw [rounds_succ]
    go_wp2
    go_ret2
    obtain ⟨h1,h2,h3⟩:=HR.out;refine ⟨?_,rfl⟩;rw [h1];unfold pu16R;rw [h2,h3];simp [*]
    try omega
   ·by_cases hC:97<=vb/\vb<=102
    ·obtain ⟨hC0,hC1⟩:=hC;have hC2:=nb hC0 hC1
     go_wp2_with (go_at_fn (ρ.f 19);refine (AnyPu.internal_strconv_lower { L with } _ _).mono ?_;rintro e w' ⟨rfl,rfl⟩)
     all_goals try (exfalso;omega)
     rw [rounds_succ]
     go_wp2
     go_ret2
     obtain ⟨h1,h2,h3⟩:=HR.out;refine ⟨?_,rfl⟩;rw [h1];unfold pu16R;rw [h2,h3];simp [*]
     try omega
    ·go_wp2_with (go_at_fn (ρ.f 19);refine (AnyPu.internal_strconv_lower { L with } _ _).mono ?_;rintro e w' ⟨rfl,rfl⟩)
     all_goals try (exfalso;omega)
     all_goals go_ret2
     all_goals obtain ⟨h1,h2,h3⟩:=HR.out
     all_goals refine ⟨?_,rfl⟩
     all_goals rw [h1]
     all_goals unfold pu16R
     all_goals rw [h2,h3]
     all_goals simp [*]
  ·go_wp2_with (go_at_fn (ρ.f 19);refine (AnyPu.internal_strconv_lower { L with } _ _).mono ?_;rintro e w' ⟨rfl,rfl⟩)
   all_goals try (exfalso;omega)
   all_goals go_ret2
   all_goals obtain ⟨h1,h2,h3⟩:=HR.out
   all_goals refine ⟨?_,rfl⟩
   all_goals rw [h1]
   all_goals unfold pu16R
   all_goals rw [h2,h3]
   all_goals simp [*]
end Go.Proofs
