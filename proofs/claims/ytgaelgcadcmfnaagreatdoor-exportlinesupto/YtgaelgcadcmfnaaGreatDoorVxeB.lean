/- A strings.Builder's methods, with all that they change told. -/
import Derived.Shelf.Strings.OnBuilder
import Derived.Handy
set_option linter.all false
namespace Go.Proofs
open Go Go.Shelf Go.RowKit Go.Lib
section
variable {P:Program}
theorem run_append_x (w:World) (t u ty e:TypeId) (i:TypeInfo) (ht:P.underlying t=some (.slice e)) (hu:P.underlying u=some .string) (hi:P.info? e=some i) (hz:i.zero=some (.int .u8 0))
  (hsize:i.size=1) (hby:i.bytes=1) (v:Value) (n:Nat) (xs:List Value) (hown:w.ownsRow 0 e 1 v n xs) (s:ByteArray) (h63:n+s.size<=maxLen) (hbytes:n+s.size<=140737488355328) :
  ∃v' w',(Builtin.append_ #[t,u] ty #[v,.string s]).run P w=.ok v' w'/\w'.ownsRow 0 e 1 v' (n+s.size) (xs++strCells s)/\w.grownBy w' v.ownBlock /\
   ∀k,v'.ownBlock=some k->v.ownBlock=some k \/ w.heap.size<=k:=by
 obtain ⟨v',w',hr,ho,hg,_⟩:=run_append_own_string (P:=P) w 0 t u ty e i ht hu hi hz hsize hby v n xs hown s h63 hbytes (Nat.zero_le _);refine ⟨v',w',hr,ho,hg,λk hk=>?_⟩;rcases hown.2 with ⟨rfl,rfl⟩ | ⟨g,cap,cur,rfl,_,hgc,hnc,hcm,hcs,htake⟩
 ·obtain ⟨v2,w2,hr2,ho2,_⟩:=run_append_own_string (P:=P) w w.heap.size t u ty e i ht hu hi hz hsize hby (.slice none 0 0) 0 xs ⟨hown.1,.inl ⟨rfl,rfl⟩⟩ s h63 hbytes (Nat.le_refl _);rw [hr] at hr2;injection hr2 with e1 e2;subst e1;exact .inr (ho2.lt k hk).1
 ·by_cases hroom:n+s.size<=cap
  ·have hr2:=run_append_room_string (P:=P) w t u ty e i ht hu hi hsize g n cap cur hgc s hroom (by omega);rw [hr] at hr2;injection hr2 with e1 e2;subst e1;exact .inl hk
  ·have hxl:xs.length=n:=by simpa using hown.1
   have holds:∀j u,xs[j]?=some u->w.cell? ((⟨g,0,none⟩:Addr).add j)=some u:=hown.cells (g:=g) rfl;have hr2:=run_append_grow_string (P:=P) w t u ty e i (.int .u8 0) ht hu hi hz ⟨g,0,none⟩ n cap xs (by rw [hsize];simpa using hxl) holds s (by omega) (by simp only [maxLen] at h63;omega) (by rw [hby];exact growslice_fits (by omega) (by omega));rw [hr] at hr2;injection hr2 with e1 e2;subst e1;simp only [Value.ownBlock,Option.some.injEq] at hk;exact .inr (by omega)
theorem wpList_append_x {ops:Array Oper} {rest:List Oper} {o:Oper} {a:Act} {w:World} {Q:Exit->Act->World->Prop} (hgd:o.guard=none) (sl x:Operand) (t u:TypeId)
  (ho:o.op=.call { callee:=.builtin .append,args:=#[sl,x],argTypes:=#[t,u] })
  (e:TypeId) (i:TypeInfo) (ht:P.underlying t=some (.slice e)) (hu:P.underlying u=some .string) (hi:P.info? e=some i) (hz:i.zero=some (.int .u8 0))
  (hsize:i.size=1) (hby:i.bytes=1)
  (v:Value) (n:Nat) (xs:List Value) (hs:a.eval sl=v) (hown:w.ownsRow 0 e 1 v n xs) (s:ByteArray) (hx:a.eval x=.string s)
  (h63:n+s.size<=maxLen) (hbytes:n+s.size<=140737488355328)
  (h:∀v' w',w'.ownsRow 0 e 1 v' (n+s.size) (xs++strCells s)->w.grownBy w' v.ownBlock->(∀k,v'.ownBlock=some k->v.ownBlock=some k \/ w.heap.size<=k)->wpList P ops Q rest (a.put o.dst v') w'):wpList P ops Q (o::rest) a w:=by
 refine wpList_plain hgd λK hK=>?_;obtain ⟨v',w',hr,h2,h3,h4⟩:=run_append_x (P:=P) w t u o.type e i ht hu hi hz hsize hby v n xs hown s h63 hbytes;unfold Oper.wp execOp;simp only [ho,resolve,invoke,builtin,Sem.run_bind,Sem.run_pure,Result.andThen_ok,List.map_toArray,List.map_cons,List.map_nil,hs,hx,hr];exact hK _ _ (h v' w' h2 h3 h4)
def AsideX (p:Prop):Prop:=p
structure Bd (T e:TypeId) (w:World) (b:Nat) (s:List UInt8) (v:Value):Prop where
 box:∃p,w.heap[b]?=some (.cells #[p,v] T (0,0))/\(p=.pointer none \/ p=.pointer (some ⟨b,0,none⟩))
 own:w.ownsRow 0 e 1 v s.length (byteCells s)
 ne:v.ownBlock ≠ some b
structure But (b:Nat) (v:Value) (w w':World):Prop where
 os:w'.os=w.os
 tape:w'.tape=w.tape
 output:w'.output=w.output
 size:w.heap.size<=w'.heap.size
 block:∀k,k < w.heap.size->k ≠ b->v.ownBlock ≠ some k->w'.heap[k]?=w.heap[k]?
variable {ρ:Ren}
set_option maxHeartbeats 2000000 in
set_option maxRecDepth 100000 in
theorem writeX (L:Lays.n166 P ρ) (X:Builder.Extra P ρ) (b:Nat) (bs:List UInt8) (s:List UInt8) (v:Value) (w:World) (h:Bd (ρ.t 72) (ρ.t 5) w b bs v) (hlen:bs.length+s.length<=140737488355328) :
  Calls P (ρ.f 166) #[.pointer (some ⟨b,0,none⟩),.string ⟨s.toArray⟩] w λe w'=>e=.returned (.tuple #[.int .i64 s.length,.nilIface])/\∃v',Bd (ρ.t 72) (ρ.t 5) w' b (bs++s) v'/\But b v w w'/\∀k,v'.ownBlock=some k->v.ownBlock=some k \/ w.heap.size<=k:=by
 obtain ⟨⟨p,hbk0,hp⟩,hown0,hne⟩:=h;obtain ⟨i0,hi,hz0,hz1,hz2⟩:=info_parts X.infoByte;have mixed:=L.mixed;have t72:=L.t72;have a72:=L.a72;have z72:=L.z72;have v72:=L.v72;have u72:=run_underlying L.t72;have t70:=L.t70;have a70:=L.a70;have z70:=L.z70;have v70:=L.v70;have u70:=run_underlying L.t70;have t37:=L.t37;have a37:=L.a37;have z37:=L.z37;have v37:=L.v37;have u37:=run_underlying L.t37;have t3:=L.t3;have a3:=L.a3;have z3:=L.z3;have v3:=L.v3;have u3:=run_underlying L.t3;have t9:=L.t9;have a9:=L.a9;have z9:=L.z9;have v9:=L.v9;have u9:=run_underlying L.t9;have t4:=L.t4;have a4:=L.a4;have z4:=L.z4;have v4:=L.v4;have u4:=run_underlying L.t4;have t164:=L.t164;have a164:=L.a164;have z164:=L.z164;have v164:=L.v164;have u164:=run_underlying L.t164;have t5:=X.t5;have a5:=X.a5;have z5:=X.z5;have v5:=X.v5;have u5:=run_underlying X.t5;have e240:∀args w,(callFunc (ρ.f 240) args).run P w=.ok (.enter (ρ.f 240) args) w:=enters_of L.f240 (by kernel_rfl) rfl;have blt:b < w.heap.size:=(Array.getElem?_eq_some_iff.1 hbk0).1;have cc:Calls P (ρ.f 240) #[.pointer (some ⟨b,0,none⟩)] w λe w'=>e=.returned (.tuple #[])/\w'.heap[b]?=some (.cells #[.pointer (some ⟨b,0,none⟩),v] (ρ.t 72) (0,0))/\w.grownBy w' (some b):=by
  rcases hp with rfl | rfl
  ·refine (Any.Builder_copyCheck_fresh { L with } X.toX72 b w (by rw [Lib.cell_of_heap hbk0];rfl) (by simp [World.shape?,hbk0]) (Lib.frozen_of_heap hbk0 0)).mono ?_
   rintro e w' ⟨rfl,rfl⟩
   refine ⟨rfl,?_,rfl,rfl,rfl,by simp,λk _ hk=>Below.heap_setCell _ _ _ _ (λe=>hk (by rw [e]))⟩;simp [World.setCell,Array.getElem?_modify,hbk0]
  ·refine (Any.Builder_copyCheck_used { L with } X.toX72 b w (by rw [Lib.cell_of_heap hbk0];rfl)).mono ?_
   rintro e w' ⟨rfl,rfl⟩
   exact ⟨rfl,hbk0,rfl,rfl,rfl,Nat.le_refl _,λ_ _ _=>rfl⟩
 go_enter L.f166,Body.n166_ntmps ρ
 go_wp2_with (go_at_fn (ρ.f 240);refine cc.mono ?_)
 rintro e w1 ⟨rfl,hbk,hg1⟩
 have hown:w1.ownsRow 0 (ρ.t 5) 1 v bs.length (byteCells bs):=hown0.kept hg1 (.inr hne);have c0:w1.cell? ⟨b,0,none⟩=some (.pointer (some ⟨b,0,none⟩)):=by rw [Lib.cell_of_heap hbk];rfl
 have c1:w1.cell? ⟨b,1,none⟩=some v:=by rw [Lib.cell_of_heap hbk];rfl
 have HG1:AsideX (w.grownBy w1 (some b)):=hg1;clear hg1 cc hown0
 go_wp2_with (at_builtin;refine wpList_append_x rfl _ _ (ρ.t 37) (ρ.t 9) rfl (ρ.t 5) i0 L.t37 L.t9 hi hz0 hz1 hz2 _ _ _ rfl hown ⟨s.toArray⟩ rfl ?c3 ?c4 ?_)
 case c3=>simp [ByteArray.size];unfold maxLen;omega
 case c4=>simpa [ByteArray.size] using hlen
 intro v' w2 hown' hgrow hk';have hlt:b < w1.heap.size:=(Array.getElem?_eq_some_iff.1 hbk).1;have hb2:w2.heap[b]?=some (.cells #[.pointer (some ⟨b,0,none⟩),v] (ρ.t 72) (0,0)):=by
  rw [hgrow.block b hlt (λe=>hne e.symm)];exact hbk
 have d0:w2.cell? ⟨b,0,none⟩=some (.pointer (some ⟨b,0,none⟩)):=by rw [Lib.cell_of_heap hb2];rfl
 have d1:w2.cell? ⟨b,1,none⟩=some v:=by rw [Lib.cell_of_heap hb2];rfl
 have f1:w2.frozen? ⟨b,1,none⟩=false:=Lib.frozen_of_heap hb2 1;obtain ⟨ao,n',cap,rfl⟩:∃ao n' cap,v'=.slice ao n' cap:=by
  rcases hown'.2 with ⟨hv,_⟩ | ⟨g,cap,cur,hv,_⟩
  ·exact ⟨_,_,_,hv⟩
  ·exact ⟨_,_,_,hv⟩
 go_wp2
 go_ret2
 have hg1:w.grownBy w1 (some b):=HG1;have hnb:(Value.slice ao n' cap).ownBlock ≠ some b:=λe=>by
  rcases hk' b e with h | h
  ·exact hne h
  ·omega
 refine ⟨rfl,_,⟨⟨_,?_,.inr rfl⟩,?_,hnb⟩,⟨?_,?_,?_,?_,?_⟩,λk hk=>(hk' k hk).imp id (λh=>by have:=hg1.size;omega)⟩
 ·simp [World.setCell,Array.getElem?_modify,hb2]
 ·have e1:(byteCells bs++strCells ⟨s.toArray⟩)=byteCells (bs++s):=by simp [byteCells,strCells]
  rw [e1] at hown';have e2:bs.length+s.length=(bs++s).length:=by simp
  rw [e2] at hown';refine hown'.kept (row:=some b) ⟨rfl,rfl,rfl,by simp,λk _ hk=>Below.heap_setCell _ _ _ _ (λe=>hk (by rw [e]))⟩ (.inr hnb)
 ·exact hgrow.os.trans hg1.os
 ·exact hgrow.tape.trans hg1.tape
 ·exact hgrow.output.trans hg1.output
 ·have:=hgrow.size;have:=hg1.size;simp;omega
 ·intro k hk hkb hkv;rw [Below.heap_setCell _ _ _ _ (λe=>hkb e),hgrow.block k (by have:=hg1.size;omega) (λe=>hkv e.symm),hg1.block k hk (λe=>hkb (Option.some.inj e))]
theorem stringX (L:Lays.n169 P ρ) (X:Builder.Extra P ρ) (B b:Nat) (s:List UInt8) (v:Value) (w:World) (h:Bd (ρ.t 72) (ρ.t 5) w b s v) (hb:B<=b) (hk:∀k,v.ownBlock=some k->B<=k) (hw:B<=w.heap.size) :
  Calls P (ρ.f 169) #[.pointer (some ⟨b,0,none⟩)] w λe w'=>e=.returned (.string ⟨s.toArray⟩)/\Below B w w':=by
 obtain ⟨⟨p,hbk,hp⟩,hown,hne⟩:=h;have hown':w.ownsRow B (ρ.t 5) 1 v (byteCells s).length (byteCells s):=by
  rw [byteCells_length];refine ⟨hown.1,hown.2.imp id ?_⟩
  rintro ⟨g,cap,cur,rfl,_,r⟩
  exact ⟨g,cap,cur,rfl,hk g rfl,r⟩
 refine Any.Builder_String_any L X B b s w ?_ hw;rcases hp with rfl | rfl
 ·exact .inl ⟨hb,v,hbk,hown',hne⟩
 ·exact .inr ⟨hb,v,hbk,hown',hne⟩
end
end Go.Proofs
