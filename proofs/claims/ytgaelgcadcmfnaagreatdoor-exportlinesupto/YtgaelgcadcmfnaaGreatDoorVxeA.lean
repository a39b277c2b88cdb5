/- Numbers as texts: at base 10, and at base 16 of numbers from 256 to 511. -/
import Derived.Shelf.LaysM
import Derived.Shelf.Strconv.Itoa4
import Derived.Lib.ItoaMem
import Derived.WalkKit
import Derived.BigCall
import Derived.BigGuard
import Derived.Handy
import Derived.Lib.VarintBits
import Derived.Test.YtgaelgcadcmfnaaGreatDoorProg
set_option linter.all false
namespace Go.Proofs
open Go Go.Shelf Go.RowKit Go.Sort Go.Lib
def qI:Go.Shelf.Ren :=
 { f:=(λx=>match x with | 129=>183 | 173=>58 | 246=>103 | 283=>152 | 284=>153 | 285=>154 | 286=>155 | 317=>182 | 318=>184 | 319=>185 | 320=>186 | 337=>210 | 338=>211 | n=>n),t:=(λx=>match x with | 0=>0 | 2=>2 | 3=>3 | 4=>4 | 5=>5 | 9=>9 | 20=>20 | 37=>56 | 46=>208 | 51=>26 | 53=>25 | 171=>196 | 173=>199 | 212=>221 | 213=>222 | 232=>252 | 233=>253 | n=>n),g:=(λx=>match x with | 17=>1 | 18=>4 | 19=>5 | n=>n) }
theorem itoaTryzLays:Go.Proofs.LaysM.n173 Tryz.prog qI where
 mixed:=by kernel_rfl
 f129:=Tryz.func183.trans (by kernel_rfl)
 f173:=Tryz.func58.trans (by kernel_rfl)
 f246:=Tryz.func103.trans (by kernel_rfl)
 f283:=Tryz.func152.trans (by kernel_rfl)
 f284:=Tryz.func153.trans (by kernel_rfl)
 f285:=Tryz.func154.trans (by kernel_rfl)
 f286:=Tryz.func155.trans (by kernel_rfl)
 f317:=Tryz.func182.trans (by kernel_rfl)
 f318:=Tryz.func184.trans (by kernel_rfl)
 f319:=Tryz.func185.trans (by kernel_rfl)
 f320:=Tryz.func186.trans (by kernel_rfl)
 f337:=Tryz.func210.trans (by kernel_rfl)
 f338:=Tryz.func211.trans (by kernel_rfl)
 t0:=Tryz.underlying0
 a0:=Tryz.isAgg0
 z0:=Tryz.sizeOf0
 v0:=Tryz.zeroValue0
 t2:=Tryz.underlying2
 a2:=Tryz.isAgg2
 z2:=Tryz.sizeOf2
 v2:=Tryz.zeroValue2
 t3:=Tryz.underlying3
 a3:=Tryz.isAgg3
 z3:=Tryz.sizeOf3
 v3:=Tryz.zeroValue3
 t4:=Tryz.underlying4
 a4:=Tryz.isAgg4
 z4:=Tryz.sizeOf4
 v4:=Tryz.zeroValue4
 t5:=Tryz.underlying5
 a5:=Tryz.isAgg5
 z5:=Tryz.sizeOf5
 v5:=Tryz.zeroValue5
 t9:=Tryz.underlying9
 a9:=Tryz.isAgg9
 z9:=Tryz.sizeOf9
 v9:=Tryz.zeroValue9
 t20:=Tryz.underlying20
 a20:=Tryz.isAgg20
 z20:=Tryz.sizeOf20
 v20:=Tryz.zeroValue20
 t37:=Tryz.underlying56
 a37:=Tryz.isAgg56
 z37:=Tryz.sizeOf56
 v37:=Tryz.zeroValue56
 t46:=Tryz.underlying208
 a46:=Tryz.isAgg208
 z46:=Tryz.sizeOf208
 v46:=Tryz.zeroValue208
 t51:=Tryz.underlying26
 a51:=Tryz.isAgg26
 z51:=Tryz.sizeOf26
 v51:=Tryz.zeroValue26
 t53:=Tryz.underlying25
 a53:=Tryz.isAgg25
 z53:=Tryz.sizeOf25
 v53:=Tryz.zeroValue25
 t171:=Tryz.underlying196
 a171:=Tryz.isAgg196
 z171:=Tryz.sizeOf196
 v171:=Tryz.zeroValue196
 t173:=Tryz.underlying199
 a173:=Tryz.isAgg199
 z173:=Tryz.sizeOf199
 v173:=Tryz.zeroValue199
 t212:=Tryz.underlying221
 a212:=Tryz.isAgg221
 z212:=Tryz.sizeOf221
 v212:=Tryz.zeroValue221
 t213:=Tryz.underlying222
 a213:=Tryz.isAgg222
 z213:=Tryz.sizeOf222
 t232:=Tryz.underlying252
 a232:=Tryz.isAgg252
 z232:=Tryz.sizeOf252
 v232:=Tryz.zeroValue252
 t233:=Tryz.underlying253
 a233:=Tryz.isAgg253
 z233:=Tryz.sizeOf253
 v233:=Tryz.zeroValue253
 g17:=by kernel_rfl
 g18:=by kernel_rfl
 g19:=by kernel_rfl
 i0:=by kernel_rfl
 i2:=by kernel_rfl
 i3:=by kernel_rfl
 i4:=by kernel_rfl
 i5:=by kernel_rfl
 i9:=by kernel_rfl
 i20:=by kernel_rfl
 i37:=by kernel_rfl
 i46:=by kernel_rfl
 i51:=by kernel_rfl
 i53:=by kernel_rfl
 i171:=by kernel_rfl
 i173:=by kernel_rfl
 i212:=by kernel_rfl
 i232:=by kernel_rfl
 i233:=by kernel_rfl
 m17:=by kernel_rfl
 m18:=by kernel_rfl
 m19:=by kernel_rfl
theorem holds_zero0 (w:World) (T:TypeId) (nd:Nat) (hs:nd<=24):Holds (λ(b:UInt8)=>Value.int .u8 (b.toNat:Int)) (w.alloc (.cells zeros24 T)) w.heap.size 0 (Array.replicate nd (0:UInt8)):=λj hj=>by
 have hj':j < nd:=by simpa using hj
 refine ⟨?_,World.frozen?_alloc_new _ _ _ _⟩;rw [World.cell?_alloc_new,zeros24_at _ (by omega),getElem!_pos _ j hj];simp
theorem fin_pos0 (w:World) (o:Obj) (dk:Array UInt8) (k:Nat):∃os,(putRow (λ(b:UInt8)=>Value.int .u8 (b.toNat:Int)) (w.alloc o) w.heap.size 0 dk).drewN k=grow (w.drewN k) os:=by
 rw [alloc_eq_grow];obtain ⟨os',_,e⟩:=putRow_grow_new (λ(b:UInt8)=>Value.int .u8 (b.toNat:Int)) w #[o] w.heap.size 0 dk (Nat.le_refl _);exact ⟨os',by rw [e];rfl⟩
set_option maxHeartbeats 6400000 in
set_option maxRecDepth 100000 in
theorem fmtU10 (u : Nat) (hu64 : u < 18446744073709551616) (w : World) (htab : Lib.TabIs Tryz.prog w "internal/strconv.uint64pow10" .u64 Lib.pow10Tab) :
  Calls Tryz.prog 192 #[.int .u64 u,.int .i64 10] w λe w'=>e=.returned (.string ⟨(Lib.decDigits u).toArray⟩)/\∃k os,w'=grow (w.drewN k) os:=by
 have L:=itoaTryzLays;by_cases hs:u < 100
 ·go_enter Tryz.func192,Tryz.ntmps192
  go_wp2_with (go_at_call 152;refine (Any.internal_strconv_small (P:=Tryz.prog) (ρ:=qI) { L with } u hs _).mono ?_;rintro e w' ⟨rfl,rfl⟩)
  go_ret
  exact ⟨rfl,0,#[],by simp [World.drewN_zero]⟩
 ·have hu1:1<=u:=by omega
  have hnd20:Lib.nDigits u<=20:=by have:=Lib.numDigits_eq u hu1 hu64;split at this <;> omega
  have hal:Tryz.prog.arrayLen 196=24:=by kernel_rfl
  have hsl1:∀W,(Instr.sliceAt 196 (.pointer (some ⟨w.heap.size,0,none⟩)) none (some (.int .i64 (Lib.nDigits u:Int))) none).run Tryz.prog W=.ok (.slice (some ⟨w.heap.size,0,none⟩) (Lib.nDigits u) 24) W:=λW=>by
   have L171:Tryz.prog.underlying 196=some (TypeDesc.array 24 5):=L.t171;rw [run_sliceAt_array_h W 196 ⟨w.heap.size,0,none⟩ (by simp [Program.arrayLen,Program.elem,L171]) .i64 (Lib.nDigits u:Int) (by omega) (by rw [hal];omega)]
   go_simp
  have hH0:=holds_zero0 w 196 (Lib.nDigits u) (by omega);have hfmt:=Any.internal_strconv_formatBase10 (P:=Tryz.prog) (ρ:=qI) { L with } w.heap.size 0 24 u (Array.replicate (Lib.nDigits u) 0) (w.alloc (.cells Lib.zeros24 196)) hH0 (by rw [Array.size_replicate];exact Lib.lt_pow_nDigits u) hu64 (by rw [Array.size_replicate];omega);rw [Array.size_replicate] at hfmt;have HH0:=Lib.hid hH0;clear hH0 hal
  go_enter Tryz.func192,Tryz.ntmps192
  go_wp2_with (first
   | (go_at_call 153;refine (Any.internal_strconv_numDigits (P:=Tryz.prog) (ρ:=qI) { L with } u hu1 hu64 _ (Lib.tabIs_alloc htab _)).mono ?_;rintro e w' ⟨rfl,rfl⟩))
  go_at_call 154
  refine hfmt.mono ?_
  rintro e w' ⟨rfl,k,v',dk,rfl,hF⟩
  have hcv:(convert 56 9 (.slice (some ⟨w.heap.size,0,none⟩) (Lib.nDigits u) 24)).run Tryz.prog ((putRow (λ(b:UInt8)=>Value.int .u8 (b.toNat:Int)) (w.alloc (.cells Lib.zeros24 196)) w.heap.size 0 dk).drewN k)=.ok (.string ⟨(Lib.decDigits u).toArray⟩) ((putRow (λ(b:UInt8)=>Value.int .u8 (b.toNat:Int)) (w.alloc (.cells Lib.zeros24 196)) w.heap.size 0 dk).drewN k):=by
   have h:=run_convert_bytes_back (P:=Tryz.prog) ((putRow (λ(b:UInt8)=>Value.int .u8 (b.toNat:Int)) (w.alloc (.cells Lib.zeros24 196)) w.heap.size 0 dk).drewN k) 56 9 5 ⟨w.heap.size,0,none⟩ 24 (Lib.decDigits u) L.t37 L.t5 L.t9 (λj hj=>by
    rw [Lib.row_is_numeral hF j hj,Lib.add_plain,World.cell?_drewN];exact cell?_putRow (λ(b:UInt8)=>Value.int .u8 (b.toNat:Int)) _ w.heap.size 0 _ dk HH0.out (by rw [hF.size,Array.size_replicate]) j (by rw [hF.size];rw [Lib.decDigits_length] at hj;exact hj))
   rw [Lib.decDigits_length] at h;exact h
  go_wp2
  go_ret
  obtain ⟨os,eo⟩:=fin_pos0 w (.cells Lib.zeros24 196) dk k;exact ⟨rfl,k,os,eo⟩
set_option maxRecDepth 100000 in
theorem fmt10 (u : Nat) (hu64 : u < 18446744073709551616) (w : World) (htab : Lib.TabIs Tryz.prog w "internal/strconv.uint64pow10" .u64 Lib.pow10Tab) :
  Calls Tryz.prog 158 #[.int .u64 u,.int .i64 10] w λe w'=>e=.returned (.string ⟨(Lib.decDigits u).toArray⟩)/\∃k os,w'=grow (w.drewN k) os:=by
 go_enter Tryz.func158,Tryz.ntmps158
 go_wp2_with (go_at_call 192;refine (fmtU10 u hu64 _ htab).mono ?_;rintro e w' ⟨rfl,k,os,rfl⟩)
 go_ret
 exact ⟨rfl,k,os,rfl⟩
set_option maxRecDepth 100000 in
theorem tz16 (w:World) (hT:w.cell? ⟨5,15,none⟩=some (.int .u8 4)):Calls Tryz.prog 186 #[.int .u64 16] w λe w'=>e=.returned (.int .i64 4)/\w'=w:=by
 go_enter Tryz.func186,Tryz.ntmps186
 have e15:(IntKind.u64.wrap (bits BinOp.and IntKind.u64 16 (IntKind.u64.wrap (-16)) * 285870213051353865) / 288230376151711744)=15:=by kernel_rfl
 go_wp2
 go_ret
 exact ⟨rfl,rfl⟩
def hexd (n:Nat):UInt8:=if n < 10 then UInt8.ofNat (48+n) else UInt8.ofNat (87+n)
theorem cv16 (w:World) (x y z:UInt8):(convert 56 9 (.slice (some ⟨w.heap.size,62,none⟩) 3 3)).run Tryz.prog (w.alloc (.cells (((Tryz.zeroCells222.setIfInBounds 64 (.int .u8 (x.toNat:Int))).setIfInBounds 63 (.int .u8 (y.toNat:Int))).setIfInBounds 62 (.int .u8 (z.toNat:Int))) 222))=.ok (.string ⟨#[z,y,x]⟩) (w.alloc (.cells (((Tryz.zeroCells222.setIfInBounds 64 (.int .u8 (x.toNat:Int))).setIfInBounds 63 (.int .u8 (y.toNat:Int))).setIfInBounds 62 (.int .u8 (z.toNat:Int))) 222)):=by
 have hs:Tryz.zeroCells222.size=65:=by kernel_rfl
 have h:=run_convert_bytes_back (P:=Tryz.prog) (w.alloc (.cells (((Tryz.zeroCells222.setIfInBounds 64 (.int .u8 (x.toNat:Int))).setIfInBounds 63 (.int .u8 (y.toNat:Int))).setIfInBounds 62 (.int .u8 (z.toNat:Int))) 222)) 56 9 5 ⟨w.heap.size,62,none⟩ 3 [z,y,x] Tryz.underlying56 Tryz.underlying5 Tryz.underlying9 (λj hj=>by
  have e:(⟨w.heap.size,62,none⟩:Addr).add j=⟨w.heap.size,62+j,none⟩:=by
   unfold Addr.add;split <;> simp_all
  rw [e,World.cell?_alloc_new];have:j=0 \/ j=1 \/ j=2:=by simp at hj;omega
  rcases this with rfl | rfl | rfl <;> simp [hs])
 exact h
theorem hexbs:∀n:Fin 16,(#[48,49,50,51,52,53,54,55,56,57,97,98,99,100,101,102,103,104,105,106,107,108,109,110,111,112,113,114,115,116,117,118,119,120,121,122]:Array UInt8)[n.val]?=some (hexd n.val):=by decide
set_option maxHeartbeats 6400000 in
set_option maxRecDepth 100000 in
theorem fb16 (u:Nat) (h0:256<=u) (h1:u < 512) (w:World) (hT:w.cell? ⟨5,15,none⟩=some (.int .u8 4)) :
  Calls Tryz.prog 155 #[.slice none 0 0,.int .u64 u,.int .i64 16,.bool false,.bool false] w λe w'=>e=.returned (.tuple #[.slice none 0 0,.string ⟨#[49,hexd (u / 16 % 16),hexd (u % 16)]⟩])/\∃k os,w'=grow (w.drewN k) os:=by
 have hTa:(w.alloc (Obj.cells Tryz.zeroCells222 222)).cell? ⟨5,15,none⟩=some (.int .u8 4):=by
  rw [World.cell?_alloc_lt w _ ⟨5,15,none⟩ (World.block_lt_of_cell? w ⟨5,15,none⟩ hT)];exact hT
 have hb:(bits BinOp.and IntKind.i64 16 15==0)=true:=by kernel_rfl
 have hm1:bits BinOp.and IntKind.u64 (u:Int) 15=((u % 16:Nat):Int):=(Go.bits_mask .u64 64 (by decide) Go.wraps_u64 4 (by decide) u (by omega) (by omega)).trans (by omega);have hm2:bits BinOp.and IntKind.u64 ((u:Int) / 16) 15=((u / 16 % 16:Nat):Int):=(Go.bits_mask .u64 64 (by decide) Go.wraps_u64 4 (by decide) ((u:Int) / 16) (by omega) (by omega)).trans (by omega);have hm3:(u:Int) / 16 / 16=1:=by omega
 go_enter Tryz.func155,Tryz.ntmps155
 go_wp2_with (first
  | (go_at_call 186;refine (tz16 _ hTa).mono ?_;rintro e w' ⟨rfl,rfl⟩)
  | go_in)
 go_rounds 3
 rw [cv16]
 go_wp2
 go_ret2
 refine ⟨?_,0,#[_],by simp [World.drewN_zero];exact alloc_eq_grow _ _⟩;have g:∀(n:Nat) (hn:n < 16) (hb:n < (⟨#[48,49,50,51,52,53,54,55,56,57,97,98,99,100,101,102,103,104,105,106,107,108,109,110,111,112,113,114,115,116,117,118,119,120,121,122]⟩:ByteArray).size),(⟨#[48,49,50,51,52,53,54,55,56,57,97,98,99,100,101,102,103,104,105,106,107,108,109,110,111,112,113,114,115,116,117,118,119,120,121,122]⟩:ByteArray)[n]'hb=hexd n:=λn hn hb=>Option.some.inj ((Array.getElem?_eq_getElem hb).symm.trans (hexbs ⟨n,hn⟩));rw [g 1 (by omega),g _ (Nat.mod_lt _ (by omega)),g _ (Nat.mod_lt _ (by omega))];rfl
set_option maxRecDepth 100000 in
theorem fmtU16 (u:Nat) (h0:256<=u) (h1:u < 512) (w:World) (hT:w.cell? ⟨5,15,none⟩=some (.int .u8 4)) :
  Calls Tryz.prog 192 #[.int .u64 u,.int .i64 16] w λe w'=>e=.returned (.string ⟨#[49,hexd (u / 16 % 16),hexd (u % 16)]⟩)/\∃k os,w'=grow (w.drewN k) os:=by
 go_enter Tryz.func192,Tryz.ntmps192
 go_wp2_with (go_at_call 155;refine (fb16 u h0 h1 _ hT).mono ?_;rintro e w' ⟨rfl,k,os,rfl⟩)
 go_ret
 exact ⟨rfl,k,os,rfl⟩
set_option maxRecDepth 100000 in
theorem fmt16 (u:Nat) (h0:256<=u) (h1:u < 512) (w:World) (hT:w.cell? ⟨5,15,none⟩=some (.int .u8 4)) :
  Calls Tryz.prog 158 #[.int .u64 u,.int .i64 16] w λe w'=>e=.returned (.string ⟨#[49,hexd (u / 16 % 16),hexd (u % 16)]⟩)/\∃k os,w'=grow (w.drewN k) os:=by
 go_enter Tryz.func158,Tryz.ntmps158
 go_wp2_with (go_at_call 192;refine (fmtU16 u h0 h1 _ hT).mono ?_;rintro e w' ⟨rfl,k,os,rfl⟩)
 go_ret
 exact ⟨rfl,k,os,rfl⟩
end Go.Proofs
