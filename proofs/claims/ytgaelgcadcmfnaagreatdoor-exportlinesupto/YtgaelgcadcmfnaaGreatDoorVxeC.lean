/- Hex. -/
import Derived.Test.YtgaelgcadcmfnaaGreatDoorVxeA
import Derived.Test.YtgaelgcadcmfnaaGreatDoorVxeB
import Derived.Test.YtgaelgcadcmfnaaGreatDoorVvBs
set_option linter.all false
namespace Go.Proofs
open Go Go.Shelf Go.RowKit Go.Sort Go.Lib
def bldTryzRen:Go.Shelf.Ren :=
 { f:=(λx=>match x with | 156=>26 | 165=>66 | 166=>20 | 169=>21 | 240=>47 | 241=>113 | 276=>92 | 277=>161 | n=>n),t:=(λx=>match x with | 0=>0 | 3=>3 | 4=>4 | 9=>9 | 20=>20 | 31=>24 | 37=>56 | 70=>55 | 72=>58 | 75=>62 | 76=>63 | 127=>104 | 164=>135 | 5=>5 | 80=>65 | n=>n),g:=(λn=>n) }
theorem bldTryzLays:Go.Proofs.Lays.n156 Tryz.prog bldTryzRen where
 mixed:=by kernel_rfl
 f156:=Tryz.func26.trans (by kernel_rfl)
 f165:=Tryz.func66.trans (by kernel_rfl)
 f166:=Tryz.func20.trans (by kernel_rfl)
 f169:=Tryz.func21.trans (by kernel_rfl)
 f240:=Tryz.func47.trans (by kernel_rfl)
 f241:=Tryz.func113.trans (by kernel_rfl)
 f276:=Tryz.func92.trans (by kernel_rfl)
 f277:=Tryz.func161.trans (by kernel_rfl)
 t0:=Tryz.underlying0
 a0:=Tryz.isAgg0
 z0:=Tryz.sizeOf0
 v0:=Tryz.zeroValue0
 t3:=Tryz.underlying3
 a3:=Tryz.isAgg3
 z3:=Tryz.sizeOf3
 v3:=Tryz.zeroValue3
 t4:=Tryz.underlying4
 a4:=Tryz.isAgg4
 z4:=Tryz.sizeOf4
 v4:=Tryz.zeroValue4
 t9:=Tryz.underlying9
 a9:=Tryz.isAgg9
 z9:=Tryz.sizeOf9
 v9:=Tryz.zeroValue9
 t20:=Tryz.underlying20
 a20:=Tryz.isAgg20
 z20:=Tryz.sizeOf20
 v20:=Tryz.zeroValue20
 t31:=Tryz.underlying24
 a31:=Tryz.isAgg24
 z31:=Tryz.sizeOf24
 v31:=Tryz.zeroValue24
 t37:=Tryz.underlying56
 a37:=Tryz.isAgg56
 z37:=Tryz.sizeOf56
 v37:=Tryz.zeroValue56
 t70:=Tryz.underlying55
 a70:=Tryz.isAgg55
 z70:=Tryz.sizeOf55
 v70:=Tryz.zeroValue55
 t72:=Tryz.underlying58
 a72:=Tryz.isAgg58
 z72:=Tryz.sizeOf58
 v72:=Tryz.zeroValue58
 t75:=Tryz.underlying62
 a75:=Tryz.isAgg62
 z75:=Tryz.sizeOf62
 v75:=Tryz.zeroValue62
 t76:=Tryz.underlying63
 a76:=Tryz.isAgg63
 z76:=Tryz.sizeOf63
 v76:=Tryz.zeroValue63
 t127:=Tryz.underlying104
 a127:=Tryz.isAgg104
 z127:=Tryz.sizeOf104
 v127:=Tryz.zeroValue104
 t164:=Tryz.underlying135
 a164:=Tryz.isAgg135
 z164:=Tryz.sizeOf135
 v164:=Tryz.zeroValue135
theorem bldTryzExtra:Go.Proofs.Builder.Extra Tryz.prog bldTryzRen where
 sizeBuilder:=by kernel_rfl
 liesBuilder:=by kernel_rfl
 t5:=Tryz.underlying5
 a5:=Tryz.isAgg5
 z5:=Tryz.sizeOf5
 v5:=Tryz.zeroValue5
 infoByte:=by kernel_rfl
 cellsByte:=by kernel_rfl
 sizeByte:=by kernel_rfl
 neB5:=by decide
def hexs (s:List UInt8):List UInt8:=s.flatMap λx=>[hexd (x.toNat / 16),hexd (x.toNat % 16)]
theorem hexs_len (s:List UInt8):(hexs s).length=2 * s.length:=by
 induction s with
 | nil=>rfl
 | cons x r ih=>simp only [hexs,List.flatMap_cons,List.length_append,List.length_cons,List.length_nil] at ih ⊢;omega
theorem hexs_take (s:List UInt8) (k:Nat) (hk:k < s.length):hexs (s.take (k+1))=hexs (s.take k)++[hexd (s[k].toNat / 16),hexd (s[k].toNat % 16)]:=by
 have e:s.take (k+1)=s.take k++[s[k]]:=(List.take_append_getElem hk).symm;rw [e];simp only [hexs,List.flatMap_append,List.flatMap_cons,List.flatMap_nil,List.append_nil]
theorem x6 (w:World) (k:Nat) (os:Array Obj) (row:Option Nat):w.grownBy (grow (w.drewN k) os) row:=by
 refine ⟨rfl,rfl,rfl,by simp [grow,World.drewN],λq hq _=>?_⟩;simp only [grow,World.drewN];rw [Array.getElem?_append_left hq]
theorem Bd.kept {T e:TypeId} {w w':World} {b:Nat} {s:List UInt8} {v:Value} (h:Bd T e w b s v) (hg:w.grownBy w' none):Bd T e w' b s v:=by
 obtain ⟨⟨p,h1,h2⟩,h3,h4⟩:=h;exact ⟨⟨p,(hg.block b (Array.getElem?_eq_some_iff.1 h1).1 (by simp)).trans h1,h2⟩,h3.kept hg (by cases v.ownBlock <;> simp),h4⟩
set_option maxHeartbeats 4000000 in
set_option maxRecDepth 100000 in
theorem hexX (s:List UInt8) (h0:s ≠ []) (hs:2 * s.length<=140737488355328) (w:World) (hT:w.cell? ⟨5,15,none⟩=some (.int .u8 4)) :
  Calls Tryz.prog 107 #[.string ⟨s.toArray⟩] w λe w'=>e=.returned (.string ⟨(hexs s).toArray⟩)/\Below w.heap.size w w':=by
 have hne:((⟨s.toArray⟩:ByteArray)==⟨#[]⟩)=false:=by
  cases s with
  | nil=>exact absurd rfl h0
  | cons x r=>rfl
 have hcv:∀W,(convert 9 56 (.string ⟨s.toArray⟩)).run Tryz.prog W=_:=λW=>run_bytes_of_string (P:=Tryz.prog) W 9 56 5 ⟨s.toArray⟩ Tryz.underlying9 Tryz.underlying56 Tryz.underlying5;have hie:s.isEmpty=false:=by
  cases s with
  | nil=>exact absurd rfl h0
  | cons x r=>rfl
 have h5:5 < w.heap.size:=World.block_lt_of_cell? w ⟨5,15,none⟩ hT
 go_enter Tryz.func107,Tryz.ntmps107
 go_wp2
 go_loopw [11] (λi wr=>∃(k:Nat) (v:Value),k<=s.length/\i=.int .i64 k/\Bd (bldTryzRen.t 72) (bldTryzRen.t 5) wr w.heap.size (hexs (s.take k)) v/\(∀q,v.ownBlock=some q->w.heap.size+2<=q)/\Below w.heap.size w wr/\Hid (∀j x,s[j]?=some x->wr.cell? ⟨w.heap.size+1,j,none⟩=some (.int .u8 x.toNat))/\w.heap.size+2<=wr.heap.size) (λi _=>s.length - (RowKit.intOf i).toNat)
 case atStart =>
  refine ⟨0,.slice none 0 0,Nat.zero_le _,rfl,⟨⟨.pointer none,?_,.inl rfl⟩,?_,by simp [Value.ownBlock]⟩,by simp [Value.ownBlock],?_,?_,by simp⟩
  ·show ((w.alloc _).alloc _).heap[w.heap.size]?=_;rw [heap_alloc_old (w.alloc (Obj.cells #[Value.pointer none,Value.slice none 0 0] 58)) _ (by simp),heap_alloc_new w _];rfl
  ·exact World.ownsRow_nil _ _ _ _
  ·exact ((((Below.refl _ _).alloc (Nat.le_refl _) _).alloc (by simp) _).drew)
  ·refine λj x hj=>?_;have hjl:j < s.length:=(List.getElem?_eq_some_iff.1 hj).1;have h1:=bytesRow_at ⟨s.toArray⟩ (grownCap (w.alloc (Obj.cells #[Value.pointer none,Value.slice none 0 0] 58)) s.length 0 5) j (by simpa using hjl);show ((w.alloc _).alloc _).cell? ⟨w.heap.size+1,j,none⟩=_;have e1:(w.alloc (Obj.cells #[Value.pointer none,Value.slice none 0 0] 58)).heap.size=w.heap.size+1:=by simp
   rw [<- e1,cell_of_row _ _ j _ _ _ (heap_alloc_new (w.alloc (Obj.cells #[Value.pointer none,Value.slice none 0 0] 58)) _),h1];have hb2:=(List.getElem?_eq_some_iff.1 hj).2;simp [hb2]
 case round =>
  obtain ⟨k,v,hk,rfl,hbd,hv,hbw,hcells,hsz⟩:=hrel;by_cases hlt:k < s.length
  ·have hx:=hcells.out k _ (List.getElem?_eq_getElem hlt);have hT2:wr.cell? ⟨5,15,none⟩=some (.int .u8 4):=(hbw.cell (p:=⟨5,15,none⟩) h5).trans hT;have hu:s[k].toNat < 256:=s[k].toNat_lt;have hext:∀a b:UInt8,((⟨#[49,a,b]⟩:ByteArray).extract 1 3)=⟨[a,b].toArray⟩:=λa b=>rfl;have he1:(s[k].toNat+256) / 16 % 16=s[k].toNat / 16:=by omega
   have he2:(s[k].toNat+256) % 16=s[k].toNat % 16:=by omega
   go_wp2_with (first
    | (go_at_call 158;refine (fmt16 (s[k].toNat+256) (by omega) (by omega) _ hT2).mono ?_;rintro e w' ⟨rfl,kk,os,rfl⟩)
    | (go_at_call 20;refine (writeX (ρ:=bldTryzRen) { bldTryzLays with } bldTryzExtra w.heap.size (hexs (s.take k)) [hexd (s[k].toNat / 16),hexd (s[k].toNat % 16)] v _ (hbd.kept (x6 wr kk os none)) (by rw [hexs_len,List.length_take];simp;omega)).mono ?_;rintro e w2 ⟨rfl,v',hbd2,hbut,hv2⟩))
   have hsame:∀q,q < wr.heap.size->q ≠ w.heap.size->v.ownBlock ≠ some q->w2.heap[q]?=wr.heap[q]?:=λq h1 h2 h3 =>
    (hbut.block q (by have:=(x6 wr kk os none).size;omega) h2 h3).trans ((x6 wr kk os none).block q h1 (by simp))
   have hz:wr.heap.size<=w2.heap.size:=by have:=(x6 wr kk os none).size;have:=hbut.size;omega
   refine ⟨⟨k+1,v',by omega,by simp,?_,?_,?_,?_,by omega⟩,?_⟩
   ·rw [hexs_take s k hlt];exact hbd2
   ·intro q hq;rcases hv2 q hq with h | h
    ·exact hv q h
    ·have:=(x6 wr kk os none).size;omega
   ·exact ⟨hbut.os.trans hbw.os,hbut.tape.trans hbw.tape,hbut.output.trans hbw.output,by omega,λq hq=>(hsame q (by omega) (by omega) (λe=>by have:=hv q e;omega)).trans (hbw.block q hq)⟩
   ·intro j x hj;refine (World.cell?_of_block (w:=wr) (w':=w2) (a:=⟨w.heap.size+1,j,none⟩) (hsame (w.heap.size+1) (by omega) (by omega) (λe=>by have:=hv _ e;omega))).trans (hcells.out j x hj)
   ·simp only [RowKit.intOf];omega
  ·have hk2:k=s.length:=by omega
   subst hk2;rw [List.take_length] at hbd
   go_wp2_with (first
    | (go_at_call 21;refine (stringX (ρ:=bldTryzRen) { bldTryzLays with } bldTryzExtra w.heap.size w.heap.size (hexs s) v wr hbd (Nat.le_refl _) (λq hq=>by have:=hv q hq;omega) (by omega)).mono ?_;rintro e w2 ⟨rfl,hw2⟩))
   go_ret
   exact ⟨rfl,hbw.trans hw2⟩
theorem hexX0 (w:World):Calls Tryz.prog 107 #[.string ⟨([]:List UInt8).toArray⟩] w λe w'=>e=.returned (.string ⟨([45]:List UInt8).toArray⟩)/\Below w.heap.size w w':=by
 go_enter Tryz.func107,Tryz.ntmps107
 go_wp2
 go_ret
 exact ⟨rfl,Below.refl _ _⟩
end Go.Proofs
