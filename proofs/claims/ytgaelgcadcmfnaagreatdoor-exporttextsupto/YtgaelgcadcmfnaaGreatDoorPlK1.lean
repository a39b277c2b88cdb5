/- A row's line; the text of rows. -/
import Derived.Test.YtgaelgcadcmfnaaGreatDoorPlK0
set_option linter.all false
namespace Go.Vv
open Go
variable {n:Int} {d:GC} {x it:GF} {α:Type} {l:GE} {r:GH} {t:List GA} {c:UInt8}
section
theorem loopL_push {α b ρ:Type} {f:Nat->α->List b->Option (Out ρ (List b))} {g:α->b}:∀(L:List α) (k:Nat) (s:List b),(∀i x a,x ∈ L->a.length+1<=s.length+L.length->f i x a=some (.nxt (a++[g x])))->zo f L k s=some (.inr (s++L.map g))
 | [],k,s,_=>by simp [zo]
 | x::r,k,s,h=>by
  simp only [zo];rw [h k x s (by simp) (by simp)];show zo f r (k+1) (s++[g x])=_;rw [loopL_push r (k+1) (s++[g x]) λi y a e hs=>h i y a (by simp [e]) (by simp at hs ⊢;omega)];simp
theorem qX (h:InK .u64 n):0<=n/\n < 18446744073709551616:=by
 unfold InK at h;simp [IntKind.min,IntKind.max,IntKind.signed,IntKind.bits] at h;omega
theorem inI64 (h:InK .i64 n):-9223372036854775808<=n/\n<=9223372036854775807:=by
 unfold InK at h;simp [IntKind.min,IntKind.max,IntKind.signed,IntKind.bits] at h;omega
theorem inU8 (h:InK .u8 n):0<=n/\n < 256:=by
 unfold InK at h;simp [IntKind.min,IntKind.max,IntKind.signed,IntKind.bits] at h;omega
theorem inU32 (h:InK .u32 n):0<=n/\n < 4294967296:=by
 unfold InK at h;simp [IntKind.min,IntKind.max,IntKind.signed,IntKind.bits] at h;omega
theorem wrapU64 (h:0<=n/\n < 18446744073709551616):IntKind.wrap .u64 n=n:=by
 rw [IntKind.wrap_u64];omega
def wh (n:Int):zc:=Lib.decDigits n.toNat
theorem number_is (h:0<=n/\n < 18446744073709551616):yZ n=some (wh n):=by
 unfold yZ vM fmtU wh;rw [uq ⟨h.1,h.2,rfl⟩];rfl
theorem yK (h:0<=n/\n < 18446744073709551616):(wh n).length<=20:=xA _ (by omega)
def dotT (d:GC):zc:=(((wh d.actor.rep++[46])++wh d.actor.inc)++[46])++wh d.seq
theorem yU (h:GC.wf d):(dotT d).length<=62:=by
 obtain ⟨⟨b,a⟩,e⟩:=h;have f:=yK (n:=d.actor.rep) (by have:=inU8 b;omega);have g:=yK (n:=d.actor.inc) (by have:=inU32 a;omega);have i:=yK (qX e);simp only [dotT,ue,ud,ug];omega
theorem dot_is (h:GC.wf d):xc d=some (dotT d):=by
 obtain ⟨⟨b,a⟩,e⟩:=h;have g1:0<=d.actor.rep/\d.actor.rep < 18446744073709551616:=by have:=inU8 b;omega
 have g2:0<=d.actor.inc/\d.actor.inc < 18446744073709551616:=by have:=inU32 a;omega
 have g3:=qX e;have f:=yK g1;have i:=yK g2;have j:=yK g3;have g:maxLen=9223372036854775807:=rfl;unfold xc;rw [wrapU64 g1,wrapU64 g2,number_is g1,number_is g2,number_is g3];simp only [ua];rw [zj (by simp only [ue,ud,ug];omega),zj (by simp only [ue,ud,ug];omega),zj (by simp only [ue,ud,ug];omega),zj (by simp only [ue,ud,ug];omega)];rfl
def hexL (s:zc):zc:=if s=[] then [45] else Proofs.hexs s
theorem x6 (s:zc):(hexL s).length<=2 * s.length+1:=by
 unfold hexL;split
 ·simp
 ·rw [Proofs.hexs_len];omega
theorem hex_is {s:zc} (h:s.length<=1073741824):qy s=some (hexL s):=by
 unfold qy hexT hexL;split
 ·rfl
 ·rw [uq (by omega)]
def xb (x:GF):zc:=(dotT x.dot++[61])++hexL x.text
def xZ (d:GC):zc:=[33]++dotT d
def qr (x:GF):zc:=(((wh x.time++[64])++dotT x.dot)++[61])++hexL x.text
theorem bk_item (x:GF):x.bk=x.text.length+8:=by
 unfold GF.bk GC.bk GI.bk;omega
theorem bk_dot (x:GC):x.bk=5:=rfl
theorem itemT_len (h:GF.wf x):(xb x).length+1<=20 * x.bk:=by
 have:=yU h.2.1;have:=x6 x.text;rw [bk_item];simp only [xb,ue,ud,ug];omega
theorem tombT_len (h:GC.wf d):(xZ d).length+1<=20 * d.bk:=by
 have:=yU h;rw [bk_dot];simp only [xZ,ue,ud,ug];omega
theorem logT_len (h:GF.wf x):(qr x).length+1<=20 * x.bk:=by
 have:=yU h.2.1;have:=yK (qX h.1);have:=x6 x.text;rw [bk_item];simp only [qr,ue,ud,ug];omega
theorem lens_map {α:Type} {f:α->zc} {b:α->Nat} {c:Nat}:∀(L:List α),(∀x ∈ L,(f x).length+1<=c * b x)->Lib.lens (L.map f)+L.length<=c * (L.map b).sum
 | [],_=>by simp [Lib.lens]
 | x::r,h=>by
  have g:=h x (by simp);have e:=lens_map (f:=f) r λy a=>h y (by simp [a]);simp only [Lib.lens,ut,tg,ud,py] at e ⊢;omega
theorem mem_bk {b:α->Nat} {x:α} {L:List α} (h:x ∈ L):b x<=(L.map b).sum:=sum_mem h
theorem len_bk {α:Type} {b:α->Nat} (a:∀x,1<=b x):∀L:List α,L.length<=(L.map b).sum
 | []=>by simp
 | x::r=>by have:=len_bk a r;have:=a x;simp only [ud,ut,tg];omega
theorem bk_leaf (l:GE):l.bk=l.text.length+(l.items.map GF.bk).sum+(l.tombs.map GC.bk).sum+12:=by
 have:=bk_dot l.dot;unfold GE.bk;omega
def zK (l:GE):List zc :=
 if l.typ=1 then [Lib.itoa l.n]
 else if l.typ=2 then (if l.time=0 then [[45]] else [wh l.time,dotT l.dot,hexL l.text])
 else if l.typ=3 then l.items.map xb++l.tombs.map xZ
 else l.items.map qr
theorem parts_is (h:GE.wf l) (G:l.bk<=1073741824) (z:l.typ=1 \/ l.typ=2 \/ l.typ=3 \/ l.typ=4):qD l.typ.toNat l=some (zK l)/\Lib.lens (zK l)+(zK l).length<=40 * l.bk:=by
 obtain ⟨E,D,y,q,L,⟨H,j⟩,K,p⟩:=h;have B:=bk_leaf l;have J:maxLen=9223372036854775807:=rfl;have u:yY=2147483648:=rfl;have k:∀x ∈ l.items,x.text.length<=1073741824:=λx hx=>by
  have:=mem_bk (b:=GF.bk) hx;have:=bk_item x;omega
 have I:=len_bk (b:=GF.bk) (λx=>by rw [bk_item];omega) l.items;have lt:=len_bk (b:=GC.bk) (λx=>by rw [bk_dot];omega) l.tombs;rcases z with e | e | e | e
 ·have hi:=inI64 D;have a:zK l=[Lib.itoa l.n]:=by simp [zK,e]
  rw [a,e];refine ⟨?_,?_⟩
  ·show wO l=_;unfold wO qg fmtI;rw [uq ⟨hi.1,hi.2,rfl⟩];rfl
  ·have:(Lib.itoa l.n).length<=21:=by
    unfold Lib.itoa;split
    ·have:=xA l.n.natAbs (by omega);simp only [ud];omega
    ·have:=xA l.n.toNat (by omega)
     omega
   simp only [Lib.lens,ut,tG,tg,pF,ud,ug];omega
 ·have v:=qX y;rw [e];by_cases h0:l.time=0
  ·have a:zK l=[[45]]:=by simp [zK,e,h0]
   rw [a];refine ⟨?_,by simp [Lib.lens];omega⟩;show xk l=_;unfold xk;simp [h0]
  ·have a:zK l=[wh l.time,dotT l.dot,hexL l.text]:=by simp [zK,e,h0]
   rw [a];have o:=yK v;have w:=yU q;have m:=x6 l.text;refine ⟨?_,by simp [Lib.lens];omega⟩;show xk l=_;unfold xk;rw [uD (by simpa using h0),number_is v,dot_is q,hex_is (by omega)];rfl
 ·have a:zK l=l.items.map xb++l.tombs.map xZ:=by simp [zK,e]
  rw [a,e];refine ⟨?_,?_⟩
  ·show exportXset l=_;unfold exportXset;rw [loopL_push (g:=xb) l.items 0 [] λi x s hx hs=>?_]
   ·simp only [lp,uR];rw [loopL_push (g:=xZ) l.tombs 0 _ λi x s hx hs=>?_];have o:=yU (p x hx);simp only [ux] at hs;rw [dot_is (p x hx)];simp only [ua];rw [zj (by simp only [ue,ud,ug];omega),zj (by simp only [ue,ud,ug];omega)];rfl
   ·have o:=yU (j x hx).2.1;have w:=x6 x.text;have m:=k x hx;simp only [ug] at hs;rw [dot_is (j x hx).2.1,hex_is m];simp only [ua];rw [zj (by simp only [ue,ud,ug];omega),zj (by simp only [ue,ud,ug];omega),zj (by simp only [ue,ud,ug];omega)];rfl
  ·have A:=lens_map (f:=xb) (b:=GF.bk) (c:=20) l.items λx hx=>itemT_len (j x hx);have F:=lens_map (f:=xZ) (b:=GC.bk) (c:=20) l.tombs λx hx=>tombT_len (p x hx);have C:Lib.lens (l.items.map xb++l.tombs.map xZ)=Lib.lens (l.items.map xb)+Lib.lens (l.tombs.map xZ):=by simp [Lib.lens]
   rw [C,ue,ux,ux];omega
 ·have a:zK l=l.items.map qr:=by simp [zK,e]
  rw [a,e];refine ⟨?_,?_⟩
  ·show exportXlog l=_;unfold exportXlog;rw [loopL_push (g:=qr) l.items 0 [] λi x s hx hs=>?_]
   ·rfl
   ·have k0:=yK (qX (j x hx).1);have o:=yU (j x hx).2.1;have w:=x6 x.text;have m:=k x hx;simp only [ug] at hs;rw [number_is (qX (j x hx).1),dot_is (j x hx).2.1,hex_is m];simp only [ua];rw [zj (by simp only [ue,ud,ug];omega),zj (by simp only [ue,ud,ug];omega),zj (by simp only [ue,ud,ug];omega),zj (by simp only [ue,ud,ug];omega),zj (by simp only [ue,ud,ug];omega)];rfl
  ·have A:=lens_map (f:=qr) (b:=GF.bk) (c:=20) l.items λx hx=>logT_len (j x hx);rw [ux];omega

noncomputable def z7 (r:GH):zc:=(zO r).getD []
theorem join_len (xs:List zc) (sep:zc):(Lib.join xs sep).length<=Lib.lens xs+xs.length * sep.length:=by
 cases xs with
 | nil=>simp [Lib.join_nil]
 | cons x r =>
  rw [Lib.join_cons,ue,Lib.joinTail_length];simp only [Lib.lens,ut,tg,ud,tf,Nat.mul_comm sep.length];omega
theorem join_is {xs:List zc} {sep:zc} (a:xs.length<=140737488355328) (h:Lib.lens xs+xs.length * sep.length<=140737488355328):xO xs sep=some (Lib.join xs sep):=by
 unfold xO strJoin;rw [uq ⟨a,uA (join_len xs sep) h⟩]
theorem lens_le {c:Nat}:∀(xs:List zc),(∀x ∈ xs,x.length<=c)->Lib.lens xs<=c * xs.length
 | [],_=>by simp [Lib.lens]
 | x::r,h=>by
  have e:=h x (by simp);have b:=lens_le r λy a=>h y (by simp [a]);simp only [Lib.lens,ut,tg,ud,py] at b ⊢;omega
theorem leafB_typ (h:leafB l=true):l.typ=1 \/ l.typ=2 \/ l.typ=3 \/ l.typ=4:=by
 unfold leafB at h;split at h
 ·simp_all
 ·split at h
  ·simp_all
  ·split at h
   ·simp_all
   ·split at h
    ·simp_all
    ·cases h
def xX (n:Int):zc:=if n=1 then [99,111,117,110,116,101,114] else if n=2 then [114,101,103,105,115,116,101,114] else if n=3 then [115,101,116] else [108,111,103]
theorem parts_len (l:GE):(zK l).length<=l.items.length+l.tombs.length+3:=by
 unfold zK
 repeat' split
 all_goals simp
 all_goals omega
theorem line_is (i:GE.wf r.leaf) (u:r.leaf.bk<=1073741824) :
  zO r=some (if xu r.path=true/\leafB r.leaf=true then Lib.join ([Lib.join r.path [47],xX r.leaf.typ]++zK r.leaf) [32] else []) /\
   (z7 r).length+1<=60 * r.leaf.bk:=by
 have B:=bk_leaf r.leaf;have J:maxLen=9223372036854775807:=rfl;have o:yY=2147483648:=rfl;have key:zO r=some (if xu r.path=true/\leafB r.leaf=true then Lib.join ([Lib.join r.path [47],xX r.leaf.typ]++zK r.leaf) [32] else [])/\((if xu r.path=true/\leafB r.leaf=true then Lib.join ([Lib.join r.path [47],xX r.leaf.typ]++zK r.leaf) [32] else []):zc).length+1<=60 * r.leaf.bk:=by
  unfold zO;rw [opMayPath_is];simp only [ua];cases hp:xu r.path with
  | false=>simp;omega
  | true =>
   have v:=i.2.2.2.2.2.1.1;have C:=i.2.2.2.2.2.2.1;simp only [tv,tB,ur,leafMay_is v C,ua,tI];cases hl:leafB r.leaf with
   | false=>simp;omega
   | true =>
    have k:=leafB_typ hl;obtain ⟨A,H⟩:=parts_is i u k;have G:=parts_len r.leaf;have I:=len_bk (b:=GF.bk) (λx=>by rw [bk_item];omega) r.leaf.items;have lt:=len_bk (b:=GC.bk) (λx=>by rw [bk_dot];omega) r.leaf.tombs;have f:r.path.length<=3/\∀s ∈ r.path,s.length<=12:=by
     unfold xu at hp;simp only [uf,ui,uu] at hp;refine ⟨hp.1.2,λs hs=>?_⟩;have:=hp.2 s hs;unfold nameB at this;simp only [uf,ui] at this;exact this.1.2
    have E:=lens_le r.path f.2;have D:=join_len r.path [47];simp only [ud,ug] at D;have q:xO r.path [47]=some (Lib.join r.path [47]):=join_is (by omega) (by simp;omega);have w:(xX r.leaf.typ).length<=8:=by
     unfold xX
     repeat' split
     all_goals simp
    have g:Lib.lens ([Lib.join r.path [47],xX r.leaf.typ]++zK r.leaf)=(Lib.join r.path [47]).length+(xX r.leaf.typ).length+Lib.lens (zK r.leaf):=by
     simp [Lib.lens];omega
    have F:xO ([Lib.join r.path [47],xX r.leaf.typ]++zK r.leaf) [32]=some (Lib.join ([Lib.join r.path [47],xX r.leaf.typ]++zK r.leaf) [32]):=by
     refine join_is ?_ ?_
     ·simp only [ue,ud,ug];omega
     ·rw [g];simp only [ue,ud,ug];omega
    have h:=join_len ([Lib.join r.path [47],xX r.leaf.typ]++zK r.leaf) [32];rw [g] at h;simp only [ue,ud,ug] at h;refine ⟨?_,by simp only [sZ,ur];omega⟩;simp only [tv,uo,uH,sZ,ur];unfold exportXkinds;simp only [ua];have a:∀y:GL,y.parts=r.leaf.typ.toNat->y.word=xX r.leaf.typ->((xO r.path [47]).bind λj=>(qD y.parts r.leaf).bind λm=>zU (([j,y.word]:List zc).length+m.length<=yY) ((xO (([j,y.word]:List zc)++m) [32]).bind λv9=>some v9))=some (Lib.join ([Lib.join r.path [47],xX r.leaf.typ]++zK r.leaf) [32]):=by
     intro y z p;rw [q,z,A,p];simp only [ua];rw [zj (by simp only [ud,ug];omega),F];rfl
    rcases k with e | e | e | e
    ·rw [e] at a ⊢;exact a _ rfl rfl
    ·rw [e] at a ⊢;exact a _ rfl rfl
    ·rw [e] at a ⊢;exact a _ rfl rfl
    ·rw [e] at a ⊢;exact a _ rfl rfl
 refine ⟨key.1,?_⟩;unfold z7;rw [key.1];exact key.2
theorem rows_sum:∀(t:List GA) (a:List zc),(GA.wfs t->∀r ∈ zp a t,GE.wf r.leaf)/\((zp a t).map λr=>r.leaf.bk).sum<=GA.bks t:=by
 refine xY (λa=>⟨λ_ r h=>by simp [zp] at h,by simp [zp,GA.bks]⟩) ?_;intro x r hx h a;have j:=hx (a++[x.name]);have i:=h a;have e:zp a (x::r)=(x.leaves.map (λl=>GH.mk (a++[x.name]) l)++zp (a++[x.name]) x.subs)++zp a r:=by
  simp only [zp];rw [yz]
 rw [e];refine ⟨λg q f=>?_,?_⟩
 ·simp only [GA.wfs] at g;have b:=g.1;rw [uE,uE] at f;rcases f with (f | f) | f
  ·obtain ⟨l,m,rfl⟩:=th.1 f;cases x;simp only [GA.wf] at b;exact b.2.1.2 l m
  ·refine j.1 ?_ q f;cases x;simp only [GA.wf] at b;exact b.2.2
  ·exact i.1 g.2 q f
 ·have o:=bk_node x;simp only [tH,rk,sr,GA.bks];have k:(x.leaves.map ((λr:GH=>r.leaf.bk) ∘ λl=>GH.mk (a++[x.name]) l)).sum=(x.leaves.map GE.bk).sum:=rfl;rw [k];have:=j.2;have:=i.2;omega
def RowsFine (R:List GH):Prop:=(∀r ∈ R,GE.wf r.leaf)/\(R.map λr=>r.leaf.bk).sum<=16777216
theorem rows_fine (h:Small t):RowsFine (zp [] t):=⟨(rows_sum t []).1 h.1,uA (rows_sum t []).2 h.2⟩
theorem RowsFine.filter {R:List GH} (h:RowsFine R) (q:GH->Bool):RowsFine (R.filter q):=by
 refine ⟨λr a=>h.1 r (tm.1 a).1,uA ?_ h.2⟩;have:∀L:List GH,((L.filter q).map λr=>r.leaf.bk).sum<=(L.map λr=>r.leaf.bk).sum:=by
  intro L
  induction L with
  | nil=>simp
  | cons x r ih =>
   simp only [rK];split
   ·simp only [ut,tg];omega
   ·simp only [ut,tg];omega
 exact this R
theorem RowsFine.line {R:List GH} (h:RowsFine R) {r:GH} (a:r ∈ R):zO r=some (z7 r)/\(z7 r).length+1<=60 * r.leaf.bk:=by
 have g:r.leaf.bk<=16777216:=uA (mem_bk (b:=λr:GH=>r.leaf.bk) a) h.2;obtain ⟨f,e⟩:=line_is (h.1 r a) (by omega);refine ⟨?_,e⟩;unfold z7;rw [f];rfl
theorem lines_len:∀(R:List GH),(∀r ∈ R,(z7 r).length+1<=60 * r.leaf.bk)->(yr z7 R).length<=60 * (R.map λr=>r.leaf.bk).sum
 | [],_=>by simp [yr]
 | x::r,h=>by
  have e:=h x (by simp);have b:=lines_len r λy a=>h y (by simp [a]);simp only [yr,u6,ue,ud,ug,ut,tg,py] at b ⊢;omega
theorem RowsFine.len {R:List GH} (h:RowsFine R):(yr z7 R).length<=1006632960:=by
 have:=lines_len R λr a=>(h.line a).2;have:=h.2;omega
theorem text_is (h:Small t) (b:treeB 0 t=true):vz t=some (yr z7 (zp [] t)):=by
 have a:=rows_fine h;unfold vz;rw [pathsRows_is h,uq b,ua];unfold linesO;have e:=a.len;rw [uq ⟨λx hx=>by rw [(a.line hx).1];rfl,by show (yr z7 _).length<=_;omega⟩];rfl
theorem numT_small (h0:0<=n) (h:n < 10):wh n=[UInt8.ofNat (48+n.toNat)]:=by
 unfold wh;rw [Lib.decDigits,rS (by omega)]
theorem known44:wL=some true:=by
 have b:zO (GH.mk ([([97]:zc),([98]:zc)]:List zc) (GE.mk (1:Int) (-5:Int) (0:Int) (GC.mk (GI.mk (0:Int) (0:Int)) (0:Int)) ([]:zc) ([]:List GF) ([]:List GC)))=some ([97,47,98,32,99,111,117,110,116,101,114,32,45,53]:zc):=by
  rw [(line_is (by simp [GE.wf,GC.wf,GI.wf,InK,IntKind.min,IntKind.max,IntKind.signed,IntKind.bits]) (by simp [GE.bk,GC.bk,GI.bk])).1];rw [uq ⟨by decide,by decide⟩];have e:zK (GE.mk (1:Int) (-5:Int) (0:Int) (GC.mk (GI.mk (0:Int) (0:Int)) (0:Int)) ([]:zc) ([]:List GF) ([]:List GC))=[[45,53]]:=by
   have a:Lib.decDigits 5=[53]:=by rw [Lib.decDigits,rS (by omega)];rfl
   simp only [zK,ur,Lib.itoa];rw [uq (by omega)];show [45::Lib.decDigits 5]=_;rw [a]
  rw [e];rfl
 have a2:zO (GH.mk ([([97]:zc)]:List zc) (GE.mk (3:Int) (0:Int) (0:Int) (GC.mk (GI.mk (0:Int) (0:Int)) (0:Int)) ([]:zc) ([(GF.mk (0:Int) (GC.mk (GI.mk (0:Int) (1:Int)) 2) ([117]:zc))]:List GF) ([GC.mk (GI.mk (0:Int) (1:Int)) 1]:List GC)))=some ([97,32,115,101,116,32,48,46,49,46,50,61,55,53,32,33,48,46,49,46,49]:zc):=by
  rw [(line_is (by simp [GE.wf,GF.wf,GC.wf,GI.wf,InK,IntKind.min,IntKind.max,IntKind.signed,IntKind.bits,maxLen]) (by simp [GE.bk,GF.bk,GC.bk,GI.bk])).1];rw [uq ⟨by decide,by decide⟩];have e:zK (GE.mk (3:Int) (0:Int) (0:Int) (GC.mk (GI.mk (0:Int) (0:Int)) (0:Int)) ([]:zc) ([(GF.mk (0:Int) (GC.mk (GI.mk (0:Int) (1:Int)) 2) ([117]:zc))]:List GF) ([GC.mk (GI.mk (0:Int) (1:Int)) 1]:List GC))=[[48,46,49,46,50,61,55,53],[33,48,46,49,46,49]]:=by
   simp only [zK,xb,xZ,dotT,ut,tG];rw [numT_small (n:=0) (by omega) (by omega),numT_small (n:=1) (by omega) (by omega),numT_small (n:=2) (by omega) (by omega)];rfl
  rw [e];rfl
 unfold wL vj;rw [b];simp only [ua];rw [a2];rfl
end
section
def qb (c:UInt8):zc->List zc
 | []=>[[]]
 | x::r=>if x=c then []::qb c r else (x::(qb c r).headD [])::(qb c r).tail
theorem cutL_ne (c:UInt8) (s:zc):qb c s=(qb c s).headD []::(qb c s).tail:=by
 cases s with
 | nil=>rfl
 | cons x r=>unfold qb;split <;> rfl
theorem cutL_one {c:UInt8}:∀{a:zc},c ∉ a->qb c a=[a]
 | [],_=>rfl
 | x::r,h=>by
  simp only [uw,rC] at h;unfold qb;rw [uD λe=>h.1 e.symm,cutL_one h.2];rfl
theorem cutL_app {c:UInt8}:∀{a:zc} (b:zc),c ∉ a->qb c (a++c::b)=a::qb c b
 | [],b,_=>by show qb c (c::b)=_;rw [qb,uq rfl]
 | x::r,b,h=>by
  simp only [uw,rC] at h;show qb c (x::(r++c::b))=_;rw [qb,uD λe=>h.1 e.symm,cutL_app b h.2];rfl
theorem join_two (x y:zc) (r:List zc) (c:UInt8):Lib.join (x::y::r) [c]=x++c::Lib.join (y::r) [c]:=by
 rw [Lib.join_cons,Lib.join_cons];simp [Lib.joinTail]
theorem cutL_join {c:UInt8}:∀{xs:List zc},xs ≠ []->(∀x ∈ xs,c ∉ x)->qb c (Lib.join xs [c])=xs
 | [],h,_=>absurd rfl h
 | [x],_,h=>by rw [Lib.join_one];exact cutL_one (h x (by simp))
 | x::y::r,_,h=>by
  rw [join_two,cutL_app _ (h x (by simp)),cutL_join (by simp) λz a=>h z (by simp [a])]
theorem cutL_mem (c:UInt8):∀(s p:zc),p ∈ qb c s->p.length<=s.length/\c ∉ p
 | [],p,h=>by simp [qb] at h;subst h;simp
 | x::r,p,h=>by
  have a:=cutL_mem c r;have e:=cutL_ne c r;unfold qb at h;split at h
  ·rcases uw.1 h with rfl | h
   ·simp
   ·have:=a p h;simp only [ud];exact ⟨by omega,this.2⟩
  ·rename_i hx;rcases uw.1 h with rfl | h
   ·have:=a ((qb c r).headD []) (by rw [e];simp);simp only [ud,uw,rC];exact ⟨by omega,λe=>hx e.symm,this.2⟩
   ·have:=a p (by rw [e];simp [h]);simp only [ud];exact ⟨by omega,this.2⟩
theorem index_hd (c:UInt8) (r:zc):Lib.index (c::r) [c]=0:=by simp [Lib.index]
theorem index_tl {x:UInt8} (r:zc) (h:x ≠ c):Lib.index (x::r) [c]=if Lib.index r [c]==-1 then -1 else Lib.index r [c]+1:=by
 rw [Lib.index];rw [uD];simp [List.isPrefixOf];exact λe=>h e.symm
theorem split_is {s:zc} (h:s.length<=16777216):strSplit s [c]=some (qb c s):=by
 unfold strSplit;rw [uq ⟨by omega,by simp⟩];unfold Lib.split;rw [Lib.count_one];congr 1;clear h
 induction s with
 | nil=>rfl
 | cons x r ih =>
  unfold qb;by_cases hx:x=c
  ·subst hx;rw [uq rfl,List.count_cons_self,Lib.splitK,index_hd];simp [ih]
  ·rw [uD hx,List.count_cons_of_ne hx,<- ih];cases hk:r.count c with
   | zero=>rfl
   | succ k =>
    have hi:Lib.index r [c] ≠ -1:=λe=>by
     have:=Lib.count_miss e;rw [Lib.count_one] at this;omega
    have i:=Lib.index_ge r [c];obtain ⟨n,g⟩:∃n:Nat,Lib.index r [c]=n:=⟨(Lib.index r [c]).toNat,by omega⟩
    have a:((n:Int)==-1)=false:=by rw [sJ];omega
    have f:((n:Int)+1==-1)=false:=by rw [sJ];omega
    have b:((n:Int)+1).toNat=n+1:=by omega
    rw [Lib.splitK,Lib.splitK,index_tl r hx,g];simp [a,f,b]
theorem cut_none {s:zc} (h:c ∉ s):Lib.index s [c]=-1:=by
 induction s with
 | nil=>rfl
 | cons x r ih =>
  simp only [uw,rC] at h;rw [index_tl r λe=>h.1 e.symm,ih h.2];rfl
theorem cut_hit {a b:zc} (h:c ∉ a):Lib.index (a++c::b) [c]=a.length:=by
 induction a with
 | nil=>exact index_hd c b
 | cons x r ih =>
  simp only [uw,rC] at h;rw [te,index_tl _ λe=>h.1 e.symm,ih h.2];have f:((r.length:Int)==-1)=false:=by rw [sJ];omega
  simp [f]
theorem cutT_none {s:zc} (h:c ∉ s):Lib.cut s [c]=(s,[],false):=by
 unfold Lib.cut;rw [cut_none h,uD (by omega)]
theorem cutT_hit {a b:zc} (h:c ∉ a):Lib.cut (a++c::b) [c]=(a,b,true):=by
 unfold Lib.cut;rw [cut_hit h,uq (by omega)];simp
theorem cut_cases (s:zc) (c:UInt8):c ∉ s \/ ∃a b,s=a++c::b/\c ∉ a:=by
 induction s with
 | nil=>simp
 | cons x r ih =>
  by_cases hx:x=c
  ·exact .inr ⟨[],r,by simp [hx],by simp⟩
  ·rcases ih with h | ⟨a,b,e,h⟩
   ·exact .inl (by simp only [uw,rC];exact ⟨λe=>hx e.symm,h⟩)
   ·exact .inr ⟨x::a,b,by rw [e];rfl,by simp only [uw,rC];exact ⟨λe=>hx e.symm,h⟩⟩
theorem strCut_is {s:zc} (h:s.length<=16777216):strCut s [c]=some (Lib.cut s [c]):=by
 unfold strCut;rw [uq (by omega)]
theorem cut_lens (s:zc) (c:UInt8):(Lib.cut s [c]).1.length<=s.length/\(Lib.cut s [c]).2.1.length<=s.length:=by
 rcases cut_cases s c with h | ⟨a,b,rfl,h⟩
 ·rw [cutT_none h];simp
 ·rw [cutT_hit h];simp;omega
end
section
noncomputable def dotE (x:zc) (r0 i0 d0:Int):Option (Bool×Int×Int×Int) :=
 ((yj x ([46]:zc)).bind λv1=>(zU (((((v1).length:Int) != (3:Int))==false)=true->0<=(0:Int)/\(0:Int) < ((v1).length:Int)) (((if ((((v1).length:Int) != (3:Int))==false)=true then ((zu ((v1).getD (0:Int).toNat default) (10:Int) (64:Int)).bind λv2=>some (v2.2,v2.1)) else some (default,(0:Int)):Option (Bool×Int)).bind λv3=>(zU ((((((v1).length:Int) != (3:Int)) || (!v3.1))==false)=true->0<=(1:Int)/\(1:Int) < ((v1).length:Int)) (((if (((((v1).length:Int) != (3:Int)) || (!v3.1))==false)=true then ((zu ((v1).getD (1:Int).toNat default) (10:Int) (64:Int)).bind λv4=>some (v4.2,v4.1)) else some (default,(0:Int)):Option (Bool×Int)).bind λv5=>(zU (((((((v1).length:Int) != (3:Int)) || (!v3.1)) || (!v5.1))==false)=true->0<=(2:Int)/\(2:Int) < ((v1).length:Int)) (((if ((((((v1).length:Int) != (3:Int)) || (!v3.1)) || (!v5.1))==false)=true then ((zu ((v1).getD (2:Int).toNat default) (10:Int) (64:Int)).bind λv6=>some (v6.2,v6.1)) else some (default,d0):Option (Bool×Int)).bind λv7=>(if ((((((((v1).length:Int) != (3:Int)) || (!v3.1)) || (!v5.1)) || (!v7.1)) || (decide (v3.2 >= (16:Int)))) || (decide (v5.2 > (4:Int))))=true then some (false,r0,i0,v7.2) else some (true,(IntKind.wrap .u8 (v3.2)),(IntKind.wrap .u32 (v5.2)),v7.2))))))))))))
noncomputable def hexE (x d:zc):Option (Bool×zc) :=
 (if (x==([45]:zc))=true then some (true,([]:zc)) else (lp (yA (λ(s2:(List UInt8)×Int)=>((if (decide ((IntKind.wrap .i64 (s2.2+(1:Int))) < ((x).length:Int)))=true then ((slc x s2.2 (IntKind.wrap .i64 (s2.2+(2:Int)))).bind λm1=>((zu m1 (16:Int) (8:Int)).bind λv2=>(if (!v2.2)=true then some (.ret (false,d)) else (zU (0<=(IntKind.wrap .u8 (v2.1))/\(IntKind.wrap .u8 (v2.1)) < 256) ((zU ((s2.1).length+(([(UInt8.ofNat (IntKind.wrap .u8 (v2.1)).toNat)]:List UInt8)).length<=yY) (some (.nxt ((s2.1++([(UInt8.ofNat (IntKind.wrap .u8 (v2.1)).toNat)]:List UInt8)),(IntKind.wrap .i64 (s2.2+(2:Int)))))))))))) else some (.brk (s2.1,s2.2))):Option (Out _ ((List UInt8)×Int)))) (([]:List UInt8),(0:Int))) λ(s2:(List UInt8)×Int)=>(zU ((s2.1).length<=maxLen) (some ((decide (((x).length:Int) > (0:Int))),s2.1)))))
noncomputable def itemE (x:zc):Option (Bool×Int×Int×Int×zc) :=
 ((xi x ([61]:zc)).bind λv1=>((if (v1.2.2==true)=true then (dotE v1.1 0 0 0) else some (default,(0:Int),(0:Int),(0:Int)):Option (Bool×Int×Int×Int)).bind λv2=>((if ((v1.2.2&&v2.1)==true)=true then (hexE v1.2.1 []) else some (default,([]:zc)):Option (Bool×zc)).bind λv3=>some (((v1.2.2&&v2.1)&&v3.1),v2.2.1,v2.2.2.1,v2.2.2.2,v3.2))))
noncomputable def tombE (x:zc) (t:List GC) (y:GC):Option (Bool×List GC) :=
 ((yj x ([46]:zc)).bind λv1=>(zU (((((v1).length:Int) != (3:Int))==false)=true->0<=(0:Int)/\(0:Int) < ((v1).length:Int)) (((if ((((v1).length:Int) != (3:Int))==false)=true then ((zu ((v1).getD (0:Int).toNat default) (10:Int) (64:Int)).bind λv2=>some (v2.2,v2.1)) else some (default,(0:Int)):Option (Bool×Int)).bind λv3=>(zU ((((((v1).length:Int) != (3:Int)) || (!v3.1))==false)=true->0<=(1:Int)/\(1:Int) < ((v1).length:Int)) (((if (((((v1).length:Int) != (3:Int)) || (!v3.1))==false)=true then ((zu ((v1).getD (1:Int).toNat default) (10:Int) (64:Int)).bind λv4=>some (v4.2,v4.1)) else some (default,(0:Int)):Option (Bool×Int)).bind λv5=>(zU (((((((v1).length:Int) != (3:Int)) || (!v3.1)) || (!v5.1))==false)=true->0<=(2:Int)/\(2:Int) < ((v1).length:Int)) (((if ((((((v1).length:Int) != (3:Int)) || (!v3.1)) || (!v5.1))==false)=true then ((zu ((v1).getD (2:Int).toNat default) (10:Int) (64:Int)).bind λv6=>some (v6.2,((t++([(GC.mk (GI.mk (0:Int) (0:Int)) (0:Int))]:List GC)).set (IntKind.wrap .i64 (((((t++([(GC.mk (GI.mk (0:Int) (0:Int)) (0:Int))]:List GC))).length:Nat):Int) - (1:Int))).toNat (GC.mk y.actor v6.1)))) else some (default,(t++([(GC.mk (GI.mk (0:Int) (0:Int)) (0:Int))]:List GC))):Option (Bool×(List GC))).bind λv7=>(zU ((v7.2).length=((t++([(GC.mk (GI.mk (0:Int) (0:Int)) (0:Int))]:List GC))).length) (if ((((((((v1).length:Int) != (3:Int)) || (!v3.1)) || (!v5.1)) || (!v7.1)) || (decide (v3.2 >= (16:Int)))) || (decide (v5.2 > (4:Int))))=true then some (false,v7.2) else ((xQ v7.2 (IntKind.wrap .i64 (((((t++([(GC.mk (GI.mk (0:Int) (0:Int)) (0:Int))]:List GC))).length:Nat):Int) - (1:Int)))).bind λy8=>((xQ (v7.2.set (IntKind.wrap .i64 (((((t++([(GC.mk (GI.mk (0:Int) (0:Int)) (0:Int))]:List GC))).length:Nat):Int) - (1:Int))).toNat (GC.mk (GI.mk (IntKind.wrap .u8 (v3.2)) y8.actor.inc) y8.seq)) (IntKind.wrap .i64 (((((t++([(GC.mk (GI.mk (0:Int) (0:Int)) (0:Int))]:List GC))).length:Nat):Int) - (1:Int)))).bind λy9=>some (true,((v7.2.set (IntKind.wrap .i64 (((((t++([(GC.mk (GI.mk (0:Int) (0:Int)) (0:Int))]:List GC))).length:Nat):Int) - (1:Int))).toNat (GC.mk (GI.mk (IntKind.wrap .u8 (v3.2)) y8.actor.inc) y8.seq)).set (IntKind.wrap .i64 (((((t++([(GC.mk (GI.mk (0:Int) (0:Int)) (0:Int))]:List GC))).length:Nat):Int) - (1:Int))).toNat (GC.mk (GI.mk y9.actor.rep (IntKind.wrap .u32 (v5.2))) y9.seq)))))))))))))))))
noncomputable def rdF1 (v67:List zc):Nat->zc->(Int)->Option (Out (GH×Bool) (Int)) :=
 (λ(n1:Nat) (x1:zc) (s1:Int)=>(((((wo x1 (10:Int) (64:Int)).bind λv1=>some ((((n1:Int)==(0:Int))&&v1.2),v1.1)):Option (Bool×Int)).bind λv2=>(if (!v2.1)=true then some (.ret ((GH.mk v67 (GE.mk (IntKind.wrap .u8 ((IntKind.wrap .i64 ((0:Int)+(1:Int))))) v2.2 (0:Int) (GC.mk (GI.mk (0:Int) (0:Int)) (0:Int)) ([]:zc) ([]:List GF) ([]:List GC))),false)) else some (.nxt v2.2))):Option (Out _ Int)))
noncomputable def rdF2 (v67:List zc):Nat->zc->(Int×Int×Int×Int×zc)->Option (Out (GH×Bool) (Int×Int×Int×Int×zc)) :=
 (λ(n1:Nat) (x1:zc) (s1:Int×Int×Int×Int×zc)=>((((if (((n1:Int)==(0:Int))&&(x1==([45]:zc)))=true then some (true,s1.1,s1.2.1,s1.2.2.1,s1.2.2.2.1,s1.2.2.2.2) else (if ((n1:Int)==(0:Int))=true then ((((zu x1 (10:Int) (64:Int)).bind λv1=>some (v1.2,v1.1)):Option (Bool×Int)).bind λv2=>some (v2.1,v2.2,s1.2.1,s1.2.2.1,s1.2.2.2.1,s1.2.2.2.2)) else (if ((n1:Int)==(1:Int))=true then (((dotE x1 s1.2.1 s1.2.2.1 s1.2.2.2.1):Option (Bool×Int×Int×Int)).bind λv3=>some (v3.1,s1.1,v3.2.1,v3.2.2.1,v3.2.2.2,s1.2.2.2.2)) else ((if (((n1:Int)==(2:Int))==true)=true then (hexE x1 s1.2.2.2.2) else some (default,s1.2.2.2.2):Option (Bool×zc)).bind λv4=>some ((((n1:Int)==(2:Int))&&v4.1),s1.1,s1.2.1,s1.2.2.1,s1.2.2.2.1,v4.2))))):Option (Bool×Int×Int×Int×Int×zc)).bind λv5=>(if (!v5.1)=true then some (.ret ((GH.mk v67 (GE.mk (IntKind.wrap .u8 ((IntKind.wrap .i64 ((1:Int)+(1:Int))))) (0:Int) v5.2.1 (GC.mk (GI.mk v5.2.2.1 v5.2.2.2.1) v5.2.2.2.2.1) v5.2.2.2.2.2 ([]:List GF) ([]:List GC))),false)) else some (.nxt (v5.2.1,v5.2.2.1,v5.2.2.2.1,v5.2.2.2.2.1,v5.2.2.2.2.2)))):Option (Out _ (Int×Int×Int×Int×zc))))
noncomputable def rdF3 (v67:List zc):Nat->zc->(List GF×List GC)->Option (Out (GH×Bool) (List GF×List GC)) :=
 (λ(n1:Nat) (x1:zc) (s1:(List GF)×(List GC))=>(((((xC x1 ([33]:zc)).bind λv1=>(if v1.2=true then (zU ((s1.2).length+(([(GC.mk (GI.mk (0:Int) (0:Int)) (0:Int))]:List GC)).length<=yY) (((xQ (s1.2++([(GC.mk (GI.mk (0:Int) (0:Int)) (0:Int))]:List GC)) (IntKind.wrap .i64 (((((s1.2++([(GC.mk (GI.mk (0:Int) (0:Int)) (0:Int))]:List GC))).length:Nat):Int) - (1:Int)))).bind λy2=>(((tombE v1.1 s1.2 y2):Option (Bool×(List GC))).bind λv3=>(zU ((v3.2).length=((s1.2++([(GC.mk (GI.mk (0:Int) (0:Int)) (0:Int))]:List GC))).length) (some (v3.1,s1.1,v3.2))))))) else (((itemE x1):Option (Bool×Int×Int×Int×zc)).bind λv4=>(zU ((s1.1).length+(([(GF.mk (0:Int) (GC.mk (GI.mk v4.2.1 v4.2.2.1) v4.2.2.2.1) v4.2.2.2.2)]:List GF)).length<=yY) (some (v4.1,(s1.1++([(GF.mk (0:Int) (GC.mk (GI.mk v4.2.1 v4.2.2.1) v4.2.2.2.1) v4.2.2.2.2)]:List GF)),s1.2)))))):Option (Bool×(List GF)×(List GC))).bind λv5=>(if (!v5.1)=true then some (.ret ((GH.mk v67 (GE.mk (IntKind.wrap .u8 ((IntKind.wrap .i64 ((2:Int)+(1:Int))))) (0:Int) (0:Int) (GC.mk (GI.mk (0:Int) (0:Int)) (0:Int)) ([]:zc) v5.2.1 v5.2.2)),false)) else some (.nxt (v5.2.1,v5.2.2)))):Option (Out _ ((List GF)×(List GC)))))
noncomputable def rdF4 (v67:List zc):Nat->zc->((List GF))->Option (Out (GH×Bool) ((List GF))) :=
 (λ(n1:Nat) (x1:zc) (s1:(List GF))=>(((((xi x1 ([64]:zc)).bind λv1=>((if (v1.2.2==true)=true then ((zu v1.1 (10:Int) (64:Int)).bind λv2=>some (v2.2,v2.1)) else some (default,(0:Int)):Option (Bool×Int)).bind λv3=>((if ((v1.2.2&&v3.1)==true)=true then (itemE v1.2.1) else some (default,(0:Int),(0:Int),(0:Int),([]:zc)):Option (Bool×Int×Int×Int×zc)).bind λv4=>(zU ((s1).length+(([(GF.mk v3.2 (GC.mk (GI.mk v4.2.1 v4.2.2.1) v4.2.2.2.1) v4.2.2.2.2)]:List GF)).length<=yY) (some (((v1.2.2&&v3.1)&&v4.1),(s1++([(GF.mk v3.2 (GC.mk (GI.mk v4.2.1 v4.2.2.1) v4.2.2.2.1) v4.2.2.2.2)]:List GF)))))))):Option (Bool×(List GF))).bind λv5=>(if (!v5.1)=true then some (.ret ((GH.mk v67 (GE.mk (IntKind.wrap .u8 ((IntKind.wrap .i64 ((3:Int)+(1:Int))))) (0:Int) (0:Int) (GC.mk (GI.mk (0:Int) (0:Int)) (0:Int)) ([]:zc) v5.2 ([]:List GC))),false)) else some (.nxt v5.2))):Option (Out _ (List GF))))
noncomputable def wordE (v1:List zc):Option Int :=
 ((zU ((4:Int)<=9223372036854775807) (lp (zo (λ(n1:Nat) (x1:Nat) (s1:Unit)=>((if n1=0 then ((z8 (GL.mk ([99,111,117,110,116,101,114]:zc) 1 1) v1).bind λv57=>(if v57=true then some (.ret ((0:Nat):Int)) else some (.nxt ()))) else (if n1=1 then ((z8 (GL.mk ([114,101,103,105,115,116,101,114]:zc) 2 2) v1).bind λv59=>(if v59=true then some (.ret ((1:Nat):Int)) else some (.nxt ()))) else (if n1=2 then ((z8 (GL.mk ([115,101,116]:zc) 3 3) v1).bind λv61=>(if v61=true then some (.ret ((2:Nat):Int)) else some (.nxt ()))) else ((z8 (GL.mk ([108,111,103]:zc) 4 4) v1).bind λv63=>(if v63=true then some (.ret ((3:Nat):Int)) else some (.nxt ())))))):Option (Out _ Unit))) (List.range (((4:Int)).toNat)) 0 ()) λ(s1:Unit)=>some (-1:Int))):Option Int)
noncomputable def rlE (s0:zc):Option (GH×Bool) :=
  ((yj s0 ([32]:zc)).bind λv1=>(if (decide (((v1).length:Int) < (2:Int)))=true then some ((GH.mk ([]:List zc) zLf),false) else ((some ():Option Unit).bind λv4=>((wordE v1).bind λv5=>(if (decide (v5 < (0:Int)))=true then some ((GH.mk ([]:List zc) zLf),false) else ((xQ v1 (0:Int)).bind λy66=>((yj y66 ([47]:zc)).bind λv67=>((slc v1 (2:Int) ((v1).length:Int)).bind λm68=>(if v5=0 then (lp (zo (rdF1 v67) m68 0 (0:Int)) λ(s1:Int)=>((zO (GH.mk v67 (GE.mk (IntKind.wrap .u8 ((IntKind.wrap .i64 ((0:Int)+(1:Int))))) s1 (0:Int) (GC.mk (GI.mk (0:Int) (0:Int)) (0:Int)) ([]:zc) ([]:List GF) ([]:List GC)))).bind λv98=>some ((GH.mk v67 (GE.mk (IntKind.wrap .u8 ((IntKind.wrap .i64 ((0:Int)+(1:Int))))) s1 (0:Int) (GC.mk (GI.mk (0:Int) (0:Int)) (0:Int)) ([]:zc) ([]:List GF) ([]:List GC))),(v98==s0)))) else (if v5=1 then (lp (zo (rdF2 v67) m68 0 ((0:Int),(0:Int),(0:Int),(0:Int),([]:zc))) λ(s1:Int×Int×Int×Int×zc)=>((zO (GH.mk v67 (GE.mk (IntKind.wrap .u8 ((IntKind.wrap .i64 ((1:Int)+(1:Int))))) (0:Int) s1.1 (GC.mk (GI.mk s1.2.1 s1.2.2.1) s1.2.2.2.1) s1.2.2.2.2 ([]:List GF) ([]:List GC)))).bind λv578=>some ((GH.mk v67 (GE.mk (IntKind.wrap .u8 ((IntKind.wrap .i64 ((1:Int)+(1:Int))))) (0:Int) s1.1 (GC.mk (GI.mk s1.2.1 s1.2.2.1) s1.2.2.2.1) s1.2.2.2.2 ([]:List GF) ([]:List GC))),(v578==s0)))) else (if v5=2 then (lp (zo (rdF3 v67) m68 0 (([]:List GF),([]:List GC))) λ(s1:(List GF)×(List GC))=>((zO (GH.mk v67 (GE.mk (IntKind.wrap .u8 ((IntKind.wrap .i64 ((2:Int)+(1:Int))))) (0:Int) (0:Int) (GC.mk (GI.mk (0:Int) (0:Int)) (0:Int)) ([]:zc) s1.1 s1.2))).bind λv1722=>some ((GH.mk v67 (GE.mk (IntKind.wrap .u8 ((IntKind.wrap .i64 ((2:Int)+(1:Int))))) (0:Int) (0:Int) (GC.mk (GI.mk (0:Int) (0:Int)) (0:Int)) ([]:zc) s1.1 s1.2)),(v1722==s0)))) else (if v5=3 then (lp (zo (rdF4 v67) m68 0 ([]:List GF)) λ(s1:(List GF))=>((zO (GH.mk v67 (GE.mk (IntKind.wrap .u8 ((IntKind.wrap .i64 ((3:Int)+(1:Int))))) (0:Int) (0:Int) (GC.mk (GI.mk (0:Int) (0:Int)) (0:Int)) ([]:zc) s1 ([]:List GC)))).bind λv2722=>some ((GH.mk v67 (GE.mk (IntKind.wrap .u8 ((IntKind.wrap .i64 ((3:Int)+(1:Int))))) (0:Int) (0:Int) (GC.mk (GI.mk (0:Int) (0:Int)) (0:Int)) ([]:zc) s1 ([]:List GC))),(v2722==s0)))) else none))))))))))))
theorem rl_eq (s:zc):xl s=rlE s:=rfl
end
section
def qW (x:UInt8):Bool:=decide (48<=x.toNat)&&decide (x.toNat<=57)
def valD (a:Nat) (l:zc):Nat:=l.foldl (λa x=>a * 10+(x.toNat - 48)) a
theorem valD_ge:∀(l:zc) (a:Nat),a<=valD a l
 | [],a=>uh a
 | x::r,a=>by
  have:=valD_ge r (a * 10+(x.toNat - 48));show a<=valD (a * 10+(x.toNat - 48)) r;omega
theorem digit_nat {k:Nat} (h:k < 10):(UInt8.ofNat (48+k)).toNat=48+k:=by
 rw [UInt8.toNat_ofNat'];omega
theorem dec_val (n:Nat):valD 0 (Lib.decDigits n)=n/\(Lib.decDigits n).all qW=true/\Lib.decDigits n ≠ []:=by
 induction n using Nat.strongRecOn with
 | _ n ih =>
  rw [Lib.decDigits];split
  ·rename_i h;refine ⟨?_,?_,by simp⟩
   ·show 0 * 10+((UInt8.ofNat (48+n)).toNat - 48)=n;rw [digit_nat h];omega
   ·simp only [uX,s9,tO,qW,digit_nat h];simp;omega
  ·rename_i h;obtain ⟨a,b,e⟩:=ih (n / 10) (by omega);refine ⟨?_,?_,by simp⟩
   ·unfold valD at a ⊢;rw [List.foldl_append,a];show n / 10 * 10+((UInt8.ofNat (48+n % 10)).toNat - 48)=n;rw [digit_nat (by omega)];omega
   ·rw [tV,b];simp only [uX,s9,tO,qW,digit_nat (show n % 10 < 10 by omega)];simp;omega
theorem parseM_dig {M:Nat} (e:M<=18446744073709551615):∀(l:zc) (a:Nat),l.all qW=true->valD a l<=M->Lib.parseUintM M a l=.ok (valD a l)
 | [],a,_,_=>rfl
 | x::r,a,h,hv=>by
  simp only [uX,uf,qW,ui] at h;have b:valD (a * 10+(x.toNat - 48)) r<=M:=hv;have f:=valD_ge r (a * 10+(x.toNat - 48));rw [Lib.parseUintM,uq h.1,uD (by omega),uD (by omega),parseM_dig e r _ (by simpa [qW] using h.2) b];rfl
theorem puR_num (h:0<=n/\n < 18446744073709551616):puR (wh n)=(n,true):=by
 obtain ⟨a,b,e⟩:=dec_val n.toNat
 unfold puR wh Lib.parseUintB;rw [uD e,parseM_dig (by omega) _ 0 b (by rw [a];omega),a];simp only [tE,tK];omega
theorem parseI_itoa (h:-9223372036854775808<=n/\n<=9223372036854775807):Lib.parseIntB 64 (Lib.itoa n)=.ok n:=by
 unfold Lib.itoa;by_cases hn:n < 0
 ·rw [uq hn];obtain ⟨b,a,f⟩:=dec_val n.natAbs;unfold Lib.parseIntB;simp only;have e:Lib.parseUintB 64 (Lib.decDigits n.natAbs)=.ok n.natAbs:=by
   unfold Lib.parseUintB;rw [uD f,parseM_dig (by omega) _ 0 a (by rw [b];omega),b]
  simp only [show (45:UInt8).toNat=45 from rfl,or_true,ur,e];rw [uD (by simp),uD (by omega)];congr 1;omega
 ·rw [uD hn];obtain ⟨b,a,f⟩:=dec_val n.toNat
  have e:Lib.parseUintB 64 (Lib.decDigits n.toNat)=.ok n.toNat:=by
   unfold Lib.parseUintB;rw [uD f,parseM_dig (by omega) _ 0 a (by rw [b];omega),b]
  obtain ⟨c,r,g⟩:∃c r,Lib.decDigits n.toNat=c::r:=s5 f;rw [g] at e a ⊢;simp only [uX,uf,qW,ui] at a;unfold Lib.parseIntB;simp only;rw [uD (by omega),e];simp only;rw [uD (by omega),uD (by omega),uD (by omega)];congr 1;omega
theorem piR_num (h:-9223372036854775808<=n/\n<=9223372036854775807):piR (Lib.itoa n)=(n,true):=by
 unfold piR;rw [parseI_itoa h]
theorem pU {x:zc} (h:x.length<=16777216):zu x 10 64=some (puR x):=by
 unfold zu parseU;rw [uq ⟨rfl,rfl⟩,uq (by omega)]
theorem pI {x:zc} (h:x.length<=16777216):wo x 10 64=some (piR x):=by
 unfold wo parseI;rw [uq ⟨rfl,rfl,by omega⟩]
theorem pH (a b:UInt8):zu [a,b] 16 8=some (phR a b):=rfl
def dotR (x:zc) (r0 i0 d0:Int):Bool×Int×Int×Int:=match qb 46 x with
 | [a,b,c]=>if (puR a).2=false then (false,r0,i0,d0) else if (puR b).2=false then (false,r0,i0,d0) else if (puR c).2=false \/ (puR a).1 >= 16 \/ (puR b).1 > 4 then (false,r0,i0,(puR c).1) else (true,IntKind.wrap .u8 (puR a).1,IntKind.wrap .u32 (puR b).1,(puR c).1)
 | _=>(false,r0,i0,d0)
theorem dotE_is {x:zc} (hx:x.length<=16777216) (i i0 h:Int):dotE x i i0 h=some (dotR x i i0 h):=by
 unfold dotE dotR;rw [yj,split_is hx];have f:=λp j=>(cutL_mem 46 x p j).1;generalize qb 46 x=q at f ⊢;simp only [ua]
 match q with
 | []=>simp [zU]
 | [a]=>simp [zU]
 | [a,b]=>simp [zU]
 | [a,b,c] =>
  have k:=pU (uA (f a (by simp)) hx);have m:=pU (uA (f b (by simp)) hx);have o:=pU (uA (f c (by simp)) hx);cases h1:(puR a).2 <;> cases h2:(puR b).2 <;> cases g:(puR c).2 <;> simp [zU,k,m,o,h1,h2,g] <;> grind
 | a::b::c::d::e =>
  have g:((e.length:Int)+1+1+1+1 != 3)=true:=by simp;omega
  simp [zU,g]
theorem wrapU8_in (n:Int):InK .u8 (IntKind.wrap .u8 n):=by
 unfold InK;rw [IntKind.wrap_u8];simp [IntKind.min,IntKind.max,IntKind.signed,IntKind.bits];omega
theorem wf0:GC.wf ⟨⟨0,0⟩,0⟩:=by simp [GC.wf,GI.wf,InK,IntKind.min,IntKind.max,IntKind.signed,IntKind.bits]
theorem dig_no (a:qW c=false) {l:zc} (h:l.all qW=true):c ∉ l:=λb=>by
 rw [uu] at h;rw [h c b] at a;cases a
theorem num_no (a:qW c=false) (n:Int):c ∉ wh n:=dig_no a (dec_val n.toNat).2.1
theorem cut_dot (d:GC):qb 46 (dotT d)=[wh d.actor.rep,wh d.actor.inc,wh d.seq]:=by
 unfold dotT;rw [show ((((wh d.actor.rep++[46])++wh d.actor.inc)++[46])++wh d.seq)=wh d.actor.rep++46::(wh d.actor.inc++46::wh d.seq) by simp,cutL_app _ (num_no rfl _),cutL_app _ (num_no rfl _),cutL_one (num_no rfl _)]
theorem dotR_dot (b:GC.wf d) (a:xS d=true) (h i0 e:Int):dotR (dotT d) h i0 e=(true,d.actor.rep,d.actor.inc,d.seq):=by
 obtain ⟨⟨i,g⟩,j⟩:=b;unfold xS actorB at a;simp only [uf,ui] at a;have k:=inU8 i;have m:=inU32 g;have f:=qX j;unfold dotR;rw [cut_dot];simp only;rw [puR_num (by omega),puR_num (by omega),puR_num f];simp only [Bool.true_eq_false,uH,false_or];rw [uD (by omega)];rw [IntKind.wrap_u8,IntKind.wrap_u32];simp only [tE,px,tK];constructor <;> omega
end
section
def byteH (a b:UInt8):UInt8:=UInt8.ofNat (IntKind.wrap .u8 (phR a b).1).toNat
def hexB:zc->Option zc
 | a::b::r=>if (phR a b).2=true then (hexB r).map λt=>byteH a b::t else none
 | _=>some []
def hexR (x d:zc):Bool×zc:=if x=[45] then (true,[]) else match hexB x with
 | some t=>(decide (0 < x.length),t)
 | none=>(false,d)
theorem hexB_len:∀(x t:zc),hexB x=some t->t.length<=x.length
 | [],t,h=>by cases h;simp
 | [a],t,h=>by cases h;simp
 | a::b::r,t,h=>by
  unfold hexB at h;split at h
  ·obtain ⟨u,e,rfl⟩:=tS.1 h;have:=hexB_len r u e;simp only [ud];omega
  ·cases h
theorem hex_loop {x d:zc} (hx:x.length<=16777216) {f:(List UInt8)×Int->Option (Out (Bool×zc) ((List UInt8)×Int))} (m:∀s2,f s2=(if (decide ((IntKind.wrap .i64 (s2.2+(1:Int))) < ((x).length:Int)))=true then ((slc x s2.2 (IntKind.wrap .i64 (s2.2+(2:Int)))).bind λm1=>((zu m1 (16:Int) (8:Int)).bind λv2=>(if (!v2.2)=true then some (.ret (false,d)) else (zU (0<=(IntKind.wrap .u8 (v2.1))/\(IntKind.wrap .u8 (v2.1)) < 256) ((zU ((s2.1).length+(([(UInt8.ofNat (IntKind.wrap .u8 (v2.1)).toNat)]:List UInt8)).length<=yY) (some (.nxt ((s2.1++([(UInt8.ofNat (IntKind.wrap .u8 (v2.1)).toNat)]:List UInt8)),(IntKind.wrap .i64 (s2.2+(2:Int)))))))))))) else some (.brk (s2.1,s2.2)))) :
  ∀(r pre g:zc),x=pre++r->g.length<=pre.length->(hexB r=none->yA f (g,(pre.length:Int))=some (.inl (false,d)))/\∀t,hexB r=some t->∃j,yA f (g,(pre.length:Int))=some (.inr (g++t,j))
 | [],pre,g,e,ha=>by
  have k:=congrArg List.length e;simp only [ue,ug] at k;refine ⟨λh=>(by cases h),λt h=>⟨(pre.length:Int),?_⟩⟩;cases h;rw [wK,m];simp only;rw [wz (by omega),uD (by simp;omega)];simp
 | [a],pre,g,e,ha=>by
  have k:=congrArg List.length e;simp only [ue,ud,ug] at k;refine ⟨λh=>(by cases h),λt h=>⟨(pre.length:Int),?_⟩⟩;cases h;rw [wK,m];simp only;rw [wz (by omega),uD (by simp;omega)];simp
 | a::b::r,pre,g,e,ha=>by
  have k:=congrArg List.length e;simp only [ue,ud] at k;have w:yY=2147483648:=rfl;have p:=hex_loop hx m r (pre++[a,b]) (g++[byteH a b]) (by rw [e];simp) (by simp;omega);have hs:slc x (pre.length:Int) ((pre.length:Int)+2)=some [a,b]:=by
   rw [slc_at (by omega)];rw [e,show ((pre.length:Int)+2).toNat=pre.length+2 by omega,tN,sL];simp
  have o:InK .u8 (IntKind.wrap .u8 (phR a b).1):=wrapU8_in _;have o:=inU8 o;have i:f (g,(pre.length:Int))=if (phR a b).2=true then some (.nxt (g++[byteH a b],(((pre++[a,b]).length:Nat):Int))) else some (.ret (false,d)):=by
   rw [m];simp only;rw [wz (by omega),wz (by omega),uq (by simp;omega),hs,ua,pH,ua];cases h2:(phR a b).2 with
   | false=>rfl
   | true =>
    simp only [tv,uo,uH,ur];rw [zj o,zj (by simp only [ud,ug];omega)];simp only [ue,ud,ug];rfl
  unfold hexB;cases h2:(phR a b).2 with
  | false =>
   rw [h2] at i;refine ⟨λ_=>?_,λt h=>(by cases h)⟩;rw [wK,i];rfl
  | true =>
   rw [h2] at i;simp only [ur] at i ⊢;have q:yA f (g,(pre.length:Int))=yA f (g++[byteH a b],(((pre++[a,b]).length:Nat):Int)):=by rw [wK,i]
   rw [q];refine ⟨λh=>p.1 (by simpa using h),λt h=>?_⟩;obtain ⟨u,s,rfl⟩:=tS.1 h;obtain ⟨j,v⟩:=p.2 u s;exact ⟨j,by rw [v];simp⟩
theorem hexE_is {x:zc} (hx:x.length<=16777216) (d:zc):hexE x d=some (hexR x d):=by
 unfold hexE hexR;by_cases h:x=[45]
 ·rw [uq (by simp [h]),uq h]
 ·rw [uD (by simpa using h),uD h];have k:=hex_loop hx (d:=d) (λs2=>rfl) x [] [] rfl (by simp);cases hb:hexB x with
  | none =>
   have a:=k.1 hb;simp only [ug] at a;show lp (yA _ ([],((0:Nat):Int))) _=_;rw [a];rfl
  | some t =>
   obtain ⟨j,b⟩:=k.2 t hb;simp only [ug] at b;show lp (yA _ ([],((0:Nat):Int))) _=_;rw [b];have:=hexB_len x t hb;have e:maxLen=9223372036854775807:=rfl;simp only [lp,uR];rw [zj (by omega)];congr 2;exact su.2 (by omega)
theorem hexv_d:∀k:Nat,k < 16->Proofs.hexv (Proofs.hexd k)=some k:=by decide
theorem byte_hex (c:UInt8):phR (Proofs.hexd (c.toNat / 16)) (Proofs.hexd (c.toNat % 16))=((c.toNat:Int),true):=by
 have a:=c.toNat_lt;unfold phR;rw [hexv_d _ (by omega),hexv_d _ (by omega)];simp only [tE,tK];omega
theorem hexB_hexs:∀t:zc,hexB (Proofs.hexs t)=some t
 | []=>rfl
 | c::r=>by
  show hexB (Proofs.hexd (c.toNat / 16)::Proofs.hexd (c.toNat % 16)::Proofs.hexs r)=_;have a:=c.toNat_lt;unfold hexB byteH;rw [byte_hex,uq rfl,hexB_hexs r];simp only [uV];rw [IntKind.wrap_u8,show ((c.toNat:Int) % 256).toNat=c.toNat by omega,UInt8.ofNat_toNat]
theorem hexR_hex (t d:zc):hexR (hexL t) d=(true,t):=by
 unfold hexL;split
 ·rename_i h;subst h;rfl
 ·rename_i h;have a:=Proofs.hexs_len t;have b:0 < t.length:=sI.2 h;unfold hexR;rw [uD,hexB_hexs]
  ·simp only [tE,tK];exact tp (by omega)
  ·intro e;rw [e] at a;simp at a;omega
def itemD (x:zc):Bool×Int×Int×Int:=if (Lib.cut x [61]).2.2=true then dotR (Lib.cut x [61]).1 0 0 0 else (false,0,0,0)
def itemH (x:zc):Bool×zc:=if ((Lib.cut x [61]).2.2&&(itemD x).1)=true then hexR (Lib.cut x [61]).2.1 [] else (false,[])
def itemP (x:zc):Bool×Int×Int×Int×zc:=(((Lib.cut x [61]).2.2&&(itemD x).1)&&(itemH x).1,(itemD x).2.1,(itemD x).2.2.1,(itemD x).2.2.2,(itemH x).2)
theorem itemE_is {x:zc} (hx:x.length<=16777216):itemE x=some (itemP x):=by
 unfold itemE;rw [xi,strCut_is hx,ua];have a:=cut_lens x 61;rw [show (if ((Lib.cut x [61]).2.2==true)=true then dotE (Lib.cut x [61]).1 0 0 0 else some (default,(0:Int),(0:Int),(0:Int)))=some (itemD x) by
  unfold itemD;cases h:(Lib.cut x [61]).2.2 with
  | false=>rfl
  | true=>exact dotE_is (by omega) 0 0 0,ua]
 rw [show (if (((Lib.cut x [61]).2.2&&(itemD x).1)==true)=true then hexE (Lib.cut x [61]).2.1 [] else some (default,([]:zc)))=some (itemH x) by
  unfold itemH;cases h:((Lib.cut x [61]).2.2&&(itemD x).1) with
  | false=>rfl
  | true=>exact hexE_is (by omega) [],ua]
 rfl
theorem dot_no (a:qW c=false) (b:c ≠ 46) (d:GC):c ∉ dotT d:=by
 unfold dotT;simp only [uE,uw,sy,pz,rC];exact ⟨⟨⟨⟨num_no a _,b⟩,num_no a _⟩,b⟩,num_no a _⟩
theorem itemP_item (b:GF.wf it) (e:xS it.dot=true):itemP (xb it)=(true,it.dot.actor.rep,it.dot.actor.inc,it.dot.seq,it.text):=by
 have a:Lib.cut (xb it) [61]=(dotT it.dot,hexL it.text,true):=by
  unfold xb;rw [uy];exact cutT_hit (dot_no rfl (by decide) _)
 have hd:itemD (xb it)=(true,it.dot.actor.rep,it.dot.actor.inc,it.dot.seq):=by
  unfold itemD;rw [a,uq rfl];exact dotR_dot b.2.1 e 0 0 0
 have hh:itemH (xb it)=(true,it.text):=by
  unfold itemH;rw [a,hd];exact (uq rfl).trans (hexR_hex _ _)
 unfold itemP;rw [hh,hd,a];rfl
theorem tombE_is {x:zc} (hx:x.length<=16777216) {t:List GC} (w:t.length<=16777216):tombE x t ⟨⟨0,0⟩,0⟩=some ((dotR x 0 0 0).1,t++[⟨⟨(dotR x 0 0 0).2.1,(dotR x 0 0 0).2.2.1⟩,(dotR x 0 0 0).2.2.2⟩]):=by
 unfold tombE dotR;rw [yj,split_is hx];have i:=λp k=>(cutL_mem 46 x p k).1;generalize qb 46 x=q at i ⊢;simp only [ua];have h:IntKind.wrap .i64 ((((t++([(GC.mk (GI.mk (0:Int) (0:Int)) (0:Int))]:List GC)).length:Nat):Int) - 1)=(t.length:Int):=by
  simp only [ue,ud,ug];rw [wz (by omega)];omega
 rw [h];have g:∀u v:GC,(t++[u]).set ((t.length:Int)).toNat v=t++[v]:=λu v=>by simp
 have f:∀u:GC,xQ (t++[u]) (t.length:Int)=some u:=λu=>by unfold xQ;simp
 match q with
 | []=>simp [zU]
 | [a]=>simp [zU]
 | [a,b]=>simp [zU]
 | [a,b,c] =>
  have m:=pU (uA (i a (by simp)) hx);have o:=pU (uA (i b (by simp)) hx);have s:=pU (uA (i c (by simp)) hx);cases h1:(puR a).2 <;> cases h2:(puR b).2 <;> cases j:(puR c).2 <;> simp [zU,m,o,s,h1,h2,j,g,f];by_cases h4:(puR a).1 >= 16 \/ (puR b).1 > 4
  ·simp [h4]
  ·simp [h4,f]
 | a::b::c::d::e =>
  have j:((e.length:Int)+1+1+1+1 != 3)=true:=by simp;omega
  simp [zU,j]
def preP (x:zc):zc×Bool:=match x with
 | 33::r=>(r,true)
 | _=>(x,false)
theorem prefix_is (x:zc):xC x [33]=some (preP x):=by
 unfold xC yD yC;cases x with
 | nil=>simp [zU,preP]
 | cons a r =>
  rw [zj (by intro _;simp;omega),ua];by_cases ha:a=33
  ·subst ha;rw [slc_at (by simp;omega)];have:decide (((33::r:zc).length:Int) >= (([33]:zc).length:Int))=true:=by simp;omega
   rw [this];simp [preP]
  ·have:((decide (((a::r).length:Int) >= (([33]:zc).length:Int)))&&((((a::r).take (([33]:zc).length:Int).toNat).drop (0:Int).toNat)==([33]:zc)))=false:=by
    simp [ha]
   rw [this];simp only [tU,ur,ua];unfold preP;split
   ·rename_i h;exact absurd (List.cons.inj h).1 ha
   ·rfl
end
section
theorem leaf_shape (h:leafB l=true) :
  l=⟨1,l.n,0,dot0,[],[],[]⟩ \/ l=⟨2,0,0,dot0,[],[],[]⟩ \/ (l=⟨2,0,l.time,l.dot,l.text,[],[]⟩/\l.time ≠ 0/\qM l.time=true/\xS l.dot=true/\l.text.length<=40) \/
   (l=⟨3,0,0,dot0,[],l.items,l.tombs⟩/\(∀x ∈ l.items,xS x.dot=true/\x.text.length<=40/\x.time=0)/\∀d ∈ l.tombs,xS d=true) \/
   (l=⟨4,0,0,dot0,[],l.items,[]⟩/\∀x ∈ l.items,xS x.dot=true/\x.text.length<=40/\qM x.time=true):=by
 obtain ⟨typ,n,time,dot,text,items,tombs⟩:=l;unfold leafB zeroB tombsB at h;simp only at h;split at h
 ·rename_i e;simp only [uf,ui] at h;obtain ⟨⟨⟨⟨f,b⟩,i⟩,a⟩,g⟩:=h;subst e f b i a g;exact .inl rfl
 ·split at h
  ·rename_i e;simp only [uf,ui] at h;obtain ⟨⟨⟨f,b⟩,i⟩,a⟩:=h;subst e f b i;split at a
   ·rename_i e;simp only [uf,ui] at a;obtain ⟨g,j⟩:=a;subst e g j;exact .inr (.inl rfl)
   ·rename_i e;simp only [uf,ui] at a;exact .inr (.inr (.inl ⟨rfl,e,a.1.1,a.1.2,a.2⟩))
  ·split at h
   ·rename_i e;simp only [uf,ui] at h;obtain ⟨⟨⟨f,⟨b,i⟩,a⟩,⟨g,_⟩,_⟩,⟨j,_⟩,_⟩:=h;subst e f b i a;refine .inr (.inr (.inr (.inl ⟨rfl,λx hx=>?_,λd hd=>uu.1 j d hd⟩)));have:=uu.1 g x hx;unfold wM at this;simp only [uf,ui,uo,uH] at this;exact ⟨this.1.1,this.1.2,this.2⟩
   ·split at h
    ·rename_i e;simp only [uf,ui] at h;obtain ⟨⟨⟨f,⟨b,i⟩,a⟩,k⟩,⟨g,_⟩,_⟩:=h;subst e f b i a k;refine .inr (.inr (.inr (.inr ⟨rfl,λx hx=>?_⟩)));have:=uu.1 g x hx;unfold wM at this;simp only [uf,ui,ur] at this;exact ⟨this.1.1,this.1.2,this.2⟩
    ·cases h
def bkLim (l:GE):Prop:=l.items.length+l.tombs.length<=4194304
def Good (r:GH):Prop:=xu r.path=true/\leafB r.leaf=true/\GE.wf r.leaf/\bkLim r.leaf
theorem leaf_texts (a:leafB l=true):(∀x ∈ l.items,x.text.length<=40)/\l.text.length<=40:=by
 rcases leaf_shape a with e | e | ⟨e,h⟩ | ⟨e,h,_⟩ | ⟨e,h⟩
 ·rw [e];simp
 ·rw [e];simp
 ·rw [e];simp;exact h.2.2.2
 ·rw [e];simp;exact λx hx=>(h x hx).2.1
 ·rw [e];simp;exact λx hx=>(h x hx).2.1
theorem items_bk:∀L:List GF,(∀x ∈ L,x.text.length<=40)->(L.map GF.bk).sum<=48 * L.length
 | [],_=>by simp
 | x::r,h=>by
  have e:=h x (by simp);have b:=items_bk r λy a=>h y (by simp [a]);simp only [ut,tg,ud,bk_item];omega
theorem dots_bk:∀L:List GC,(L.map GC.bk).sum=5 * L.length
 | []=>by simp
 | x::r=>by
  have:=dots_bk r;simp only [ut,tg,ud,bk_dot];omega
theorem leaf_bk (a:leafB l=true) (hs:bkLim l):l.bk<=1073741824:=by
 have e:=bk_leaf l;obtain ⟨b,f⟩:=leaf_texts a;have h:=items_bk l.items b;have g:=dots_bk l.tombs;unfold bkLim at hs;omega
theorem line_tot (b:GE.wf r.leaf) (g:bkLim r.leaf):zO r=some (z7 r)/\(z7 r ≠ []->Good r)/\(Good r->z7 r=Lib.join ([Lib.join r.path [47],xX r.leaf.typ]++zK r.leaf) [32]):=by
 have key:∀v,zO r=some v->z7 r=v:=λv e=>by unfold z7;rw [e];rfl
 cases hl:leafB r.leaf with
 | true =>
  have h:=(line_is b (leaf_bk hl g)).1;rw [key _ h];refine ⟨h,λa=>?_,λf=>uq ⟨f.1,f.2.1⟩⟩;split at a
  ·rename_i c;exact ⟨c.1,c.2,b,g⟩
  ·exact absurd rfl a
 | false =>
  have h:zO r=some []:=by
   have j:=b.2.2.2.2.2.1.1;have i:=b.2.2.2.2.2.2.1;unfold zO;rw [opMayPath_is];simp only [ua];cases hp:xu r.path with
   | false=>simp
   | true=>simp only [tv,tB,ur,leafMay_is j i,ua,tI,hl,tU]
  rw [key _ h];refine ⟨h,λa=>absurd rfl a,λf=>?_⟩;rw [f.2.1] at hl;cases hl
theorem rdF1_is (v:List zc) (n:Nat) {x:zc} (hx:x.length<=1048576) (s:Int):rdF1 v n x s=some (if ((n:Int)==0&&(piR x).2)=true then .nxt (piR x).1 else .ret (⟨v,⟨1,(piR x).1,0,dot0,[],[],[]⟩⟩,false)):=by
 unfold rdF1;rw [pI (by omega)];simp only [ua];cases ((n:Int)==0&&(piR x).2) <;> rfl
def rdG2 (n:Nat) (x:zc) (s:Int×Int×Int×Int×zc):Bool×Int×Int×Int×Int×zc :=
 if ((n:Int)==0&&x==[45])=true then (true,s)
 else if ((n:Int)==0)=true then ((puR x).2,(puR x).1,s.2)
 else if ((n:Int)==1)=true then ((dotR x s.2.1 s.2.2.1 s.2.2.2.1).1,s.1,(dotR x s.2.1 s.2.2.1 s.2.2.2.1).2.1,(dotR x s.2.1 s.2.2.1 s.2.2.2.1).2.2.1,(dotR x s.2.1 s.2.2.1 s.2.2.2.1).2.2.2,s.2.2.2.2)
 else if ((n:Int)==2)=true then ((hexR x s.2.2.2.2).1,s.1,s.2.1,s.2.2.1,s.2.2.2.1,(hexR x s.2.2.2.2).2)
 else (false,s)
theorem rdF2_is (v:List zc) (n:Nat) {x:zc} (hx:x.length<=1048576) (s:Int×Int×Int×Int×zc):rdF2 v n x s=some (if (rdG2 n x s).1=true then .nxt (rdG2 n x s).2 else .ret (⟨v,⟨2,0,(rdG2 n x s).2.1,⟨⟨(rdG2 n x s).2.2.1,(rdG2 n x s).2.2.2.1⟩,(rdG2 n x s).2.2.2.2.1⟩,(rdG2 n x s).2.2.2.2.2,[],[]⟩⟩,false)):=by
 have a:∀w:Bool×Int×Int×Int×Int×zc,((some w).bind λv5=>(if (!v5.1)=true then some (.ret ((GH.mk v (GE.mk (IntKind.wrap .u8 ((IntKind.wrap .i64 ((1:Int)+(1:Int))))) (0:Int) v5.2.1 (GC.mk (GI.mk v5.2.2.1 v5.2.2.2.1) v5.2.2.2.2.1) v5.2.2.2.2.2 ([]:List GF) ([]:List GC))),false)) else some (.nxt (v5.2.1,v5.2.2.1,v5.2.2.2.1,v5.2.2.2.2.1,v5.2.2.2.2.2))):Option (Out (GH×Bool) (Int×Int×Int×Int×zc)))=some (if w.1=true then .nxt w.2 else .ret (⟨v,⟨2,0,w.2.1,⟨⟨w.2.2.1,w.2.2.2.1⟩,w.2.2.2.2.1⟩,w.2.2.2.2.2,[],[]⟩⟩,false)):=λw=>by
  rw [ua];cases w.1 <;> rfl
 unfold rdF2 rdG2;simp only [xi,pU (show x.length<=16777216 by omega),dotE_is (show x.length<=16777216 by omega),hexE_is (show x.length<=16777216 by omega),ua];split
 ·exact a _
 ·split
  ·exact a _
  ·split
   ·exact a _
   ·cases h:((n:Int)==2) with
    | true=>exact a _
    | false=>exact a _
def itm (t:Int) (p:Bool×Int×Int×Int×zc):GF:=⟨t,⟨⟨p.2.1,p.2.2.1⟩,p.2.2.2.1⟩,p.2.2.2.2⟩
def dotOf3 (x:zc):GC:=⟨⟨(dotR x 0 0 0).2.1,(dotR x 0 0 0).2.2.1⟩,(dotR x 0 0 0).2.2.2⟩
def rdG3 (x:zc) (s:List GF×List GC):Bool×List GF×List GC :=
 if (preP x).2=true then ((dotR (preP x).1 0 0 0).1,s.1,s.2++[dotOf3 (preP x).1]) else ((itemP x).1,s.1++[itm 0 (itemP x)],s.2)
theorem preP_len (x:zc):(preP x).1.length<=x.length:=by
 unfold preP;split <;> simp
theorem rdF3_is (v:List zc) (n:Nat) {x:zc} (hx:x.length<=1048576) {s:List GF×List GC} (j:s.1.length<=4194304) (i:s.2.length<=4194304):rdF3 v n x s=some (if (rdG3 x s).1=true then .nxt (rdG3 x s).2 else .ret (⟨v,⟨3,0,0,dot0,[],(rdG3 x s).2.1,(rdG3 x s).2.2⟩⟩,false)):=by
 have a:∀w:Bool×List GF×List GC,((some w).bind λv5=>(if (!v5.1)=true then some (.ret ((GH.mk v (GE.mk (IntKind.wrap .u8 ((IntKind.wrap .i64 ((2:Int)+(1:Int))))) (0:Int) (0:Int) (GC.mk (GI.mk (0:Int) (0:Int)) (0:Int)) ([]:zc) v5.2.1 v5.2.2)),false)) else some (.nxt (v5.2.1,v5.2.2))):Option (Out (GH×Bool) (List GF×List GC)))=some (if w.1=true then .nxt w.2 else .ret (⟨v,⟨3,0,0,dot0,[],w.2.1,w.2.2⟩⟩,false)):=λw=>by
  rw [ua];cases w.1 <;> rfl
 have g:yY=2147483648:=rfl;have f:=preP_len x;unfold rdF3 rdG3;simp only [prefix_is,ua];cases h:(preP x).2 with
 | true =>
  simp only [ur];have e:IntKind.wrap .i64 ((((s.2++([(GC.mk (GI.mk (0:Int) (0:Int)) (0:Int))]:List GC)).length:Nat):Int) - 1)=(s.2.length:Int):=by
   simp only [ue,ud,ug];rw [wz (by omega)];omega
  rw [zj (by simp only [ud,ug];omega),e];have b:∀u:GC,xQ (s.2++[u]) (s.2.length:Int)=some u:=λu=>by unfold xQ;simp
  rw [b,ua,tombE_is (by omega) (by omega),ua];simp only;rw [zj (by simp)];exact a _
 | false =>
  simp only [uo,uH];rw [itemE_is (by omega),ua,zj (by simp only [ud,ug];omega)];exact a _
def timeR (x:zc):Bool×Int:=if (Lib.cut x [64]).2.2=true then ((puR (Lib.cut x [64]).1).2,(puR (Lib.cut x [64]).1).1) else (false,0)
def logR (x:zc):Bool×Int×Int×Int×zc:=if ((Lib.cut x [64]).2.2&&(timeR x).1)=true then itemP (Lib.cut x [64]).2.1 else (false,0,0,0,[])
def rdG4 (x:zc) (s:List GF):Bool×List GF:=(((Lib.cut x [64]).2.2&&(timeR x).1)&&(logR x).1,s++[itm (timeR x).2 (logR x)])
theorem rdF4_is (v:List zc) (n:Nat) {x:zc} (hx:x.length<=1048576) {s:List GF} (e:s.length<=4194304):rdF4 v n x s=some (if (rdG4 x s).1=true then .nxt (rdG4 x s).2 else .ret (⟨v,⟨4,0,0,dot0,[],(rdG4 x s).2,[]⟩⟩,false)):=by
 have a:∀w:Bool×List GF,((some w).bind λv5=>(if (!v5.1)=true then some (.ret ((GH.mk v (GE.mk (IntKind.wrap .u8 ((IntKind.wrap .i64 ((3:Int)+(1:Int))))) (0:Int) (0:Int) (GC.mk (GI.mk (0:Int) (0:Int)) (0:Int)) ([]:zc) v5.2 ([]:List GC))),false)) else some (.nxt v5.2)):Option (Out (GH×Bool) (List GF)))=some (if w.1=true then .nxt w.2 else .ret (⟨v,⟨4,0,0,dot0,[],w.2,[]⟩⟩,false)):=λw=>by
  rw [ua];cases w.1 <;> rfl
 have b:yY=2147483648:=rfl;have f:=cut_lens x 64;unfold rdF4;rw [xi,strCut_is (by omega),ua];rw [show (if ((Lib.cut x [64]).2.2==true)=true then ((zu (Lib.cut x [64]).1 (10:Int) (64:Int)).bind λv2=>some (v2.2,v2.1)) else some (default,(0:Int)))=some (timeR x) by
  unfold timeR;cases h:(Lib.cut x [64]).2.2 with
  | false=>rfl
  | true=>simp only [tB,ur];rw [pU (by omega)];rfl,ua]
 rw [show (if (((Lib.cut x [64]).2.2&&(timeR x).1)==true)=true then itemE (Lib.cut x [64]).2.1 else some (default,(0:Int),(0:Int),(0:Int),([]:zc)))=some (logR x) by
  unfold logR;cases h:((Lib.cut x [64]).2.2&&(timeR x).1) with
  | false=>rfl
  | true=>exact itemE_is (by omega),ua,zj (by simp only [ud,ug];omega)]
 exact a _
def kidx (w:zc):Int:=if w=[99,111,117,110,116,101,114] then 0 else if w=[114,101,103,105,115,116,101,114] then 1 else if w=[115,101,116] then 2 else if w=[108,111,103] then 3 else -1
theorem wordE_is (a w:zc) (r:List zc):wordE (a::w::r)=some (kidx w):=by
 have hi:xQ (a::w::r) 1=some w:=rfl;unfold wordE kidx;rw [zj (by omega)];simp only [z8,hi,ua];show lp (zo _ [0,1,2,3] 0 ()) _=_;simp only [zo,ur,uT,rO,uH];by_cases h1:w=[99,111,117,110,116,101,114]
 ·subst h1;rfl
 ·have b:(([99,111,117,110,116,101,114]:zc)==w)=false:=by simpa using λe=>h1 e.symm
  rw [uD h1];simp only [b,uo,uH];by_cases h2:w=[114,101,103,105,115,116,101,114]
  ·subst h2;rfl
  ·have h:(([114,101,103,105,115,116,101,114]:zc)==w)=false:=by simpa using λe=>h2 e.symm
   rw [uD h2];simp only [h,uo,uH];by_cases h3:w=[115,101,116]
   ·subst h3;rfl
   ·have f:(([115,101,116]:zc)==w)=false:=by simpa using λe=>h3 e.symm
    rw [uD h3];simp only [f,uo,uH];by_cases h4:w=[108,111,103]
    ·subst h4;rfl
    ·have g:(([108,111,103]:zc)==w)=false:=by simpa using λe=>h4 e.symm
     rw [uD h4];simp [g,lp]
end
section
def isHx (c:UInt8):Bool:=qW c || (decide (97<=c.toNat)&&decide (c.toNat<=102))
theorem hexd_hx:∀k:Nat,k < 16->isHx (Proofs.hexd k)=true:=by decide
theorem hexs_hx (t:zc):(Proofs.hexs t).all isHx=true:=by
 rw [uu];intro x hx;unfold Proofs.hexs at hx;rw [List.mem_flatMap] at hx;obtain ⟨c,_,a⟩:=hx;have:=c.toNat_lt;simp only [uw,sy,pz] at a;rcases a with rfl | rfl
 ·exact hexd_hx _ (by omega)
 ·exact hexd_hx _ (by omega)
theorem hex_no (a:isHx c=false) (b:c ≠ 45) (t:zc):c ∉ hexL t:=by
 unfold hexL;split
 ·simpa using b
 ·intro h;have:=uu.1 (hexs_hx t) c h;rw [a] at this;cases this
theorem itoa_no (a:qW c=false) (b:c ≠ 45) (n:Int):c ∉ Lib.itoa n:=by
 unfold Lib.itoa;split
 ·simp only [uw,rC];exact ⟨b,dig_no a (dec_val _).2.1⟩
 ·exact dig_no a (dec_val _).2.1
theorem item_no (a:isHx c=false) (b:c ≠ 45) (f:c ≠ 46) (e:c ≠ 61) (it:GF):c ∉ xb it:=by
 have hd:qW c=false:=by unfold isHx at a;simp only [tJ] at a;exact a.1
 unfold xb;simp only [uE,uw,sy,pz,rC];exact ⟨⟨dot_no hd f _,e⟩,hex_no a b _⟩
theorem tomb_no (a:isHx c=false) (e:c ≠ 46) (b:c ≠ 33) (d:GC):c ∉ xZ d:=by
 have hd:qW c=false:=by unfold isHx at a;simp only [tJ] at a;exact a.1
 unfold xZ;simp only [uE,uw,sy,pz,rC];exact ⟨b,dot_no hd e _⟩
theorem log_eq (it:GF):qr it=wh it.time++64::xb it:=by simp [qr,xb]
theorem log_no (a:isHx c=false) (b:c ≠ 45) (g:c ≠ 46) (e:c ≠ 61) (f:c ≠ 64) (it:GF):c ∉ qr it:=by
 have hd:qW c=false:=by unfold isHx at a;simp only [tJ] at a;exact a.1
 rw [log_eq];simp only [uE,uw,rC];exact ⟨num_no hd _,f,item_no a b g e it⟩
theorem parts_no (l:GE):∀p ∈ zK l,(32:UInt8) ∉ p:=by
 intro p a;unfold zK at a;split at a
 ·simp only [uB] at a;subst a;exact itoa_no rfl (by decide) _
 ·split at a
  ·split at a
   ·simp only [uB] at a;subst a;decide
   ·simp only [uw,sy,pz] at a;rcases a with rfl | rfl | rfl
    ·exact num_no rfl _
    ·exact dot_no rfl (by decide) _
    ·exact hex_no rfl (by decide) _
  ·split at a
   ·simp only [uE,th] at a;rcases a with ⟨x,_,rfl⟩ | ⟨x,_,rfl⟩
    ·exact item_no rfl (by decide) (by decide) (by decide) x
    ·exact tomb_no rfl (by decide) (by decide) x
   ·simp only [th] at a;obtain ⟨x,_,rfl⟩:=a;exact log_no rfl (by decide) (by decide) (by decide) (by decide) x
theorem word_no (n:Int):(32:UInt8) ∉ xX n:=by
 unfold xX
 repeat' split
 all_goals decide
theorem alnum_no (a:alnum c=false) {s:zc} (h:s.all alnum=true):c ∉ s:=λb=>by
 have:=uu.1 h c b;rw [a] at this;cases this
theorem path_names {p:List zc} (h:xu p=true):p ≠ []/\p.length<=3/\∀s ∈ p,s.all alnum=true/\s.length<=12:=by
 unfold xu at h;simp only [uf,ui,uu] at h;refine ⟨λe=>by rw [e] at h;simp at h,h.1.2,λs hs=>?_⟩;have:=h.2 s hs;unfold nameB at this;simp only [uf,ui] at this;exact ⟨this.2,this.1.2⟩
theorem join_no {c b:UInt8} (a:c ≠ b):∀{xs:List zc},(∀x ∈ xs,c ∉ x)->c ∉ Lib.join xs [b]
 | [],_=>by simp [Lib.join_nil]
 | [x],h=>by rw [Lib.join_one];exact h x (by simp)
 | x::y::r,h=>by
  rw [join_two];simp only [uE,uw,rC];exact ⟨h x (by simp),a,join_no a λz e=>h z (by simp [e])⟩
theorem line_cut (h:Good r):qb 32 (z7 r)=Lib.join r.path [47]::xX r.leaf.typ::zK r.leaf/\qb 47 (Lib.join r.path [47])=r.path:=by
 obtain ⟨b,e,a⟩:=path_names h.1;refine ⟨?_,cutL_join b λx hx=>alnum_no rfl (a x hx).1⟩;rw [(line_tot h.2.2.1 h.2.2.2).2.2 h];refine cutL_join (by simp) λx hx=>?_;simp only [te,uR,uw] at hx;rcases hx with rfl | rfl | hx
 ·exact join_no (by decide) λx hx=>alnum_no rfl (a x hx).1
 ·exact word_no _
 ·exact parts_no _ x hx
theorem loop_pushB {α ρ σ:Type} {f:Nat->α->σ->Option (Out ρ σ)} {g:σ->α->σ} (b:σ->Nat) (a:∀s x,b (g s x)<=b s+1) {N:Nat}:∀(L:List α) (k:Nat) (s:σ),(∀i x s,x ∈ L->b s<=N->f i x s=some (.nxt (g s x)))->b s+L.length<=N->zo f L k s=some (.inr (L.foldl g s))
 | [],_,_,_,_=>rfl
 | x::r,k,s,h,hN=>by
  simp only [ud] at hN;have:=a s x;simp only [zo];rw [h k x s (by simp) (by omega)];exact loop_pushB b a r (k+1) (g s x) (λi y s e hs=>h i y s (by simp [e]) hs) (by omega)
theorem preP_no {x:zc} (h:(33:UInt8) ∉ x):preP x=(x,false):=by
 unfold preP;split
 ·simp at h
 ·rfl
theorem rdG3_item (a:GF.wf it) (b:xS it.dot=true) (h0:it.time=0) (s:List GF×List GC):rdG3 (xb it) s=(true,s.1++[it],s.2):=by
 unfold rdG3;rw [preP_no (item_no rfl (by decide) (by decide) (by decide) it),itemP_item a b];simp only [uo,uH,itm];rw [<- h0]
theorem rdG3_tomb (a:GC.wf d) (b:xS d=true) (s:List GF×List GC):rdG3 (xZ d) s=(true,s.1,s.2++[d]):=by
 have e:preP (xZ d)=(dotT d,true):=rfl;unfold rdG3 dotOf3;rw [e];simp only [ur];rw [dotR_dot a b]
theorem rdG4_log (a:GF.wf it) (f:xS it.dot=true) (s:List GF):rdG4 (qr it) s=(true,s++[it]):=by
 have b:Lib.cut (qr it) [64]=(wh it.time,xb it,true):=by
  rw [log_eq];exact cutT_hit (num_no rfl _)
 have e:timeR (qr it)=(true,it.time):=by
  unfold timeR;rw [b,puR_num (qX a.1)];rfl
 unfold rdG4 logR;rw [b,e];simp only [uW,ur];rw [itemP_item a f];rfl
theorem kidx_word (h:n=1 \/ n=2 \/ n=3 \/ n=4):kidx (xX n)=n - 1:=by
 rcases h with rfl | rfl | rfl | rfl <;> rfl
theorem num_dash (n:Int):wh n ≠ [45]:=λe=>num_no (c:=45) rfl n (by rw [e];simp)
theorem read_back (h:Good r) (hs:(z7 r).length<=1048576):xl (z7 r)=some (r,true):=by
 obtain ⟨z,c2⟩:=line_cut h;obtain ⟨Q,A,g,u⟩:=h;have D:=(line_tot g u).1;have E:(Lib.join r.path [47]).length<=16777216:=by
  have:=(cutL_mem 32 (z7 r) (Lib.join r.path [47]) (by rw [z];simp)).1;omega
 have b:∀p ∈ zK r.leaf,p.length<=1048576:=λp b=>uA (cutL_mem 32 (z7 r) p (by rw [z];simp [b])).1 hs;rw [rl_eq];unfold rlE;rw [yj,split_is (by omega),ua,z,uD (by simp;omega)];simp only [ua];rw [wordE_is,kidx_word (leafB_typ A)];simp only [ua];have I:=leafB_typ A;rw [uD (by simp;omega)];rw [show xQ (Lib.join r.path [47]::xX r.leaf.typ::zK r.leaf) 0=some (Lib.join r.path [47]) from rfl,ua,yj,split_is E,ua,c2];rw [slc_at (by simp;omega),ua];rw [show ((Lib.join r.path [47]::xX r.leaf.typ::zK r.leaf).take (((Lib.join r.path [47]::xX r.leaf.typ::zK r.leaf).length:Int)).toNat).drop (2:Int).toNat=zK r.leaf by rw [uN,sx];rfl];have a:((zO r).bind λv=>some (r,v==z7 r))=some (r,true):=by rw [D];simp
 clear z c2 E I D;obtain ⟨path,l⟩:=r;simp only at *;rcases leaf_shape A with e | e | ⟨e,j,C,J,R⟩ | ⟨e,j,C⟩ | ⟨e,j⟩
 ·rw [e] at a b g ⊢;have M:=inI64 g.2.1;have m:zK ⟨1,l.n,0,dot0,[],[],[]⟩=[Lib.itoa l.n]:=rfl;rw [m] at b ⊢;rw [uq (by simp)];have k:zo (rdF1 path) [Lib.itoa l.n] 0 0=some (.inr l.n):=by
   simp only [zo];rw [rdF1_is path 0 (b _ (by simp)),piR_num M];rfl
  rw [k];exact a
 ·rw [e] at a b g ⊢;have m:zK ⟨2,0,0,dot0,[],[],[]⟩=[[45]]:=rfl;rw [m] at b ⊢;rw [uD (by simp),uq (by simp)];have k:zo (rdF2 path) [[45]] 0 ((0:Int),(0:Int),(0:Int),(0:Int),([]:zc))=some (.inr ((0:Int),(0:Int),(0:Int),(0:Int),([]:zc))):=by
   simp only [zo];rw [rdF2_is path 0 (b _ (by simp))];rfl
  rw [k];exact a
 ·rw [e] at a b g ⊢;have m:zK ⟨2,0,l.time,l.dot,l.text,[],[]⟩=[wh l.time,dotT l.dot,hexL l.text]:=by
   unfold zK;simp [j]
  rw [m] at b ⊢;rw [uD (by simp),uq (by simp)];have H:=qX g.2.2.1;have G:rdG2 0 (wh l.time) ((0:Int),(0:Int),(0:Int),(0:Int),([]:zc))=(true,l.time,0,0,0,[]):=by
   unfold rdG2;rw [uD (by simpa using num_dash l.time),uq (by simp),puR_num H]
  have K:rdG2 1 (dotT l.dot) (l.time,(0:Int),(0:Int),(0:Int),([]:zc))=(true,l.time,l.dot.actor.rep,l.dot.actor.inc,l.dot.seq,[]):=by
   unfold rdG2;rw [uD (by simp),uD (by simp),uq (by simp)];simp only;rw [dotR_dot g.2.2.2.1 J]
  have P:rdG2 2 (hexL l.text) (l.time,l.dot.actor.rep,l.dot.actor.inc,l.dot.seq,([]:zc))=(true,l.time,l.dot.actor.rep,l.dot.actor.inc,l.dot.seq,l.text):=by
   unfold rdG2;rw [uD (by simp),uD (by simp),uD (by simp),uq (by simp),hexR_hex]
  have k:zo (rdF2 path) [wh l.time,dotT l.dot,hexL l.text] 0 ((0:Int),(0:Int),(0:Int),(0:Int),([]:zc))=some (.inr (l.time,l.dot.actor.rep,l.dot.actor.inc,l.dot.seq,l.text)):=by
   simp only [zo];rw [rdF2_is path 0 (b _ (by simp)),G];simp only [ur];rw [rdF2_is path (0+1) (b _ (by simp)),K];simp only [ur];rw [rdF2_is path (0+1+1) (b _ (by simp)),P];simp only [ur]
  rw [k];exact a
 ·rw [e] at a b g u ⊢;have m:zK ⟨3,0,0,dot0,[],l.items,l.tombs⟩=l.items.map xb++l.tombs.map xZ:=rfl;rw [m] at b ⊢;rw [uD (by simp),uD (by simp),uq (by simp)];have q:∀x ∈ l.items,GF.wf x:=g.2.2.2.2.2.1.2;have F:∀x ∈ l.tombs,GC.wf x:=g.2.2.2.2.2.2.2;have o:l.items.length+l.tombs.length<=4194304:=u;have k:zo (rdF3 path) (l.items.map xb++l.tombs.map xZ) 0 (([]:List GF),([]:List GC))=some (.inr ((l.items.map xb++l.tombs.map xZ).foldl (λs x=>(rdG3 x s).2) (([]:List GF),([]:List GC)))):=by
   refine loop_pushB (λs=>s.1.length+s.2.length) (λs x=>?_) (N:=4194304) _ 0 _ (λi x s hx hs=>?_) (by simp;exact o)
   ·unfold rdG3;split <;> simp <;> omega
   ·rw [rdF3_is path i (b x hx) (by omega) (by omega)];simp only [uE,th] at hx;rcases hx with ⟨y,f,rfl⟩ | ⟨y,f,rfl⟩
    ·rw [rdG3_item (q y f) (j y f).1 (j y f).2.2];rfl
    ·rw [rdG3_tomb (F y f) (C y f)];rfl
  have B:∀(L:List GF) (s:List GF×List GC),(∀x ∈ L,GF.wf x/\xS x.dot=true/\x.time=0)->(L.map xb).foldl (λs x=>(rdG3 x s).2) s=(s.1++L,s.2):=by
   intro L
   induction L with
   | nil=>intro s _;simp
   | cons x r ih =>
    intro s hx;obtain ⟨w,a2,a3⟩:=hx x (by simp);simp only [ut,tW];rw [rdG3_item w a2 a3,ih _ λy f=>hx y (by simp [f])];simp
  have O:∀(L:List GC) (s:List GF×List GC),(∀x ∈ L,GC.wf x/\xS x=true)->(L.map xZ).foldl (λs x=>(rdG3 x s).2) s=(s.1,s.2++L):=by
   intro L
   induction L with
   | nil=>intro s _;simp
   | cons x r ih =>
    intro s hx;obtain ⟨w,a2⟩:=hx x (by simp);simp only [ut,tW];rw [rdG3_tomb w a2,ih _ λy f=>hx y (by simp [f])];simp
  rw [k,List.foldl_append,B _ _ λx hx=>⟨q x hx,(j x hx).1,(j x hx).2.2⟩,O _ _ λx hx=>⟨F x hx,C x hx⟩];exact a
 ·rw [e] at a b g u ⊢;have m:zK ⟨4,0,0,dot0,[],l.items,[]⟩=l.items.map qr:=rfl;rw [m] at b ⊢;rw [uD (by simp),uD (by simp),uD (by simp),uq (by simp)];have q:∀x ∈ l.items,GF.wf x:=g.2.2.2.2.2.1.2;have o:l.items.length<=4194304:=u;have k:zo (rdF4 path) (l.items.map qr) 0 ([]:List GF)=some (.inr ((l.items.map qr).foldl (λs x=>(rdG4 x s).2) ([]:List GF))):=by
   refine loop_pushB (λs=>s.length) (λs x=>?_) (N:=4194304) _ 0 _ (λi x s hx hs=>?_) (by simp;exact o)
   ·simp [rdG4]
   ·rw [rdF4_is path i (b x hx) hs];simp only [th] at hx;obtain ⟨y,f,rfl⟩:=hx;rw [rdG4_log (q y f) (j y f).1];rfl
  have B:∀(L:List GF) (s:List GF),(∀x ∈ L,GF.wf x/\xS x.dot=true)->(L.map qr).foldl (λs x=>(rdG4 x s).2) s=s++L:=by
   intro L
   induction L with
   | nil=>intro s _;simp
   | cons x r ih =>
    intro s hx;obtain ⟨w,a2⟩:=hx x (by simp);simp only [ut,tW];rw [rdG4_log w a2,ih _ λy f=>hx y (by simp [f])];simp
  rw [k,B _ _ λx hx=>⟨q x hx,(j x hx).1⟩];exact a
end
section
theorem w48 {m:Int} (h:0<=m/\m < 10):IntKind.wrap .u8 (IntKind.wrap .u64 (48+m))=48+m:=by
 rw [IntKind.wrap_u64,IntKind.wrap_u8];omega
theorem decN_is:∀(k:Nat) (n:Int),0<=n/\n < 18446744073709551616->n.toNat < k->qk k n=some (wh n)
 | 0,_,_,h=>absurd h (by omega)
 | k+1,n,hn,h=>by
  have f:maxLen=9223372036854775807:=rfl;have g:(wh n).length<=20:=yK hn;unfold qk;by_cases h10:n < 10
  ·rw [uq (by simpa using h10),w48 ⟨hn.1,h10⟩,zj (by omega),zj (by simp;omega)];unfold wh;rw [Lib.decDigits,rS (by omega),show (48+n).toNat=48+n.toNat by omega]
  ·rw [uD (by simpa using h10)];have b:IntKind.wrap .u64 (Int.tdiv n 10)=n / 10:=by
    rw [r6 hn.1,IntKind.wrap_u64];omega
   have e:Int.tmod n 10=n % 10:=r7 hn.1;have a:(wh (n / 10)).length<=20:=yK (by omega);rw [b,e,decN_is k (n / 10) (by omega) (by omega),ua,w48 (by omega),zj (by omega),zj (by simp;omega),zj (by simp only [ud,ug];omega)];unfold wh
   conv=>rhs;rw [Lib.decDigits,dif_neg (by omega)]
   rw [show (n / 10).toNat=n.toNat / 10 by omega,show (48+n % 10).toNat=48+n.toNat % 10 by omega]
theorem dec_is (a:0<=n/\n < 18446744073709551616):vQ n=some (wh n):=qa (n.toNat+1) λk b=>decN_is k n a (by omega)
theorem signed_is (h:-9223372036854775808<=n/\n<=9223372036854775807):vP n=some (Lib.itoa n):=by
 have a:maxLen=9223372036854775807:=rfl;unfold vP Lib.itoa;by_cases hn:n < 0
 ·have e:IntKind.wrap .u64 (IntKind.wrap .u64 (IntKind.wrap .i64 (0 - IntKind.wrap .i64 (n+1)))+1)=(n.natAbs:Int):=by
   rw [IntKind.wrap_i64,IntKind.wrap_i64,IntKind.wrap_u64,IntKind.wrap_u64];omega
  have b:(wh (n.natAbs:Int)).length<=20:=yK (by omega);rw [uq (by simpa using hn),uq hn,e,dec_is (by omega),ua,zj (by simp only [ud,ug];omega)];unfold wh;rw [uN];rfl
 ·rw [uD (by simpa using hn),uD hn,wrapU64 (by omega),dec_is (by omega)];rfl
theorem ref44Dot_is (h:GC.wf d):qO d=some (dotT d):=by
 obtain ⟨⟨b,a⟩,e⟩:=h;have g1:0<=d.actor.rep/\d.actor.rep < 18446744073709551616:=by have:=inU8 b;omega
 have g2:0<=d.actor.inc/\d.actor.inc < 18446744073709551616:=by have:=inU32 a;omega
 have g3:=qX e;have f:=yK g1;have i:=yK g2;have j:=yK g3;have g:maxLen=9223372036854775807:=rfl;unfold qO;rw [wrapU64 g1,wrapU64 g2,dec_is g1,dec_is g2,dec_is g3];simp only [ua];rw [zj (by simp only [ue,ud,ug];omega),zj (by simp only [ue,ud,ug];omega),zj (by simp only [ue,ud,ug];omega),zj (by simp only [ue,ud,ug];omega)];rfl
theorem loopL_app {α ρ:Type} {f:Nat->α->zc->Option (Out ρ zc)} (g:α->zc):∀(L:List α) (k:Nat) (s:zc),(∀i x a,x ∈ L->a.length<=s.length+(L.flatMap g).length->f i x a=some (.nxt (a++g x)))->zo f L k s=some (.inr (s++L.flatMap g))
 | [],k,s,_=>by simp [zo]
 | x::r,k,s,h=>by
  simp only [zo];rw [h k x s (by simp) (by omega)];show zo f r (k+1) (s++g x)=_;rw [loopL_app g r (k+1) (s++g x) λi y a b hs=>h i y a (by simp [b]) (by simp only [u6,ue] at hs ⊢;omega)];simp
theorem slc_hex:∀k:Nat,k < 16->slc ([48,49,50,51,52,53,54,55,56,57,97,98,99,100,101,102]:zc) (k:Int) ((k:Int)+1)=some [Proofs.hexd k]:=by decide
theorem ref44Hex_is {s:zc} (h:s.length<=1073741824):ref44Hex s=some (hexL s):=by
 have p:maxLen=9223372036854775807:=rfl;have a:=Proofs.hexs_len s;unfold ref44Hex;rw [loopL_app (λx=>[Proofs.hexd (x.toNat / 16),Proofs.hexd (x.toNat % 16)]) s 0 [] λi x b hx hs=>?_]
 ·simp only [lp,uR];unfold hexL;show (if (Proofs.hexs s==[])=true then some [45] else some (Proofs.hexs s))=_;by_cases h0:s=[]
  ·subst h0;rfl
  ·rw [uD h0,uD];simp only [sM];intro e;rw [e] at a;have:=sI.2 h0;simp at a;omega
 ·have g:=x.toNat_lt;have m:b.length<=2 * s.length:=by
   have:(s.flatMap λx=>[Proofs.hexd (x.toNat / 16),Proofs.hexd (x.toNat % 16)]).length=2 * s.length:=a;simp only [ug] at hs;omega
  have f:IntKind.wrap .u8 (Int.tdiv (x.toNat:Int) 16)=((x.toNat / 16:Nat):Int):=by
   rw [r6 (by omega),IntKind.wrap_u8];omega
  have o:Int.tmod (x.toNat:Int) 16=((x.toNat % 16:Nat):Int):=by
   rw [r7 (by omega)];omega
  have j:IntKind.wrap .u8 (((x.toNat / 16:Nat):Int)+1)=((x.toNat / 16:Nat):Int)+1:=by rw [IntKind.wrap_u8];omega
  have k:IntKind.wrap .u8 (((x.toNat % 16:Nat):Int)+1)=((x.toNat % 16:Nat):Int)+1:=by rw [IntKind.wrap_u8];omega
  rw [f,o,j,k,slc_hex _ (by omega),slc_hex _ (by omega)];simp only [ua];rw [zj (by simp only [ud,ug];omega),zj (by simp only [ue,ud,ug];omega)];simp
theorem ref44Path_is {p:List zc} (h:p.length<=3) (f:∀s ∈ p,s.length<=12):qj p=some (Lib.join p [47]):=by
 have j:maxLen=9223372036854775807:=rfl
 match p with
 | []=>rfl
 | [a] =>
  have g:=f a (by simp);unfold qj;simp only [zo];rw [uD (by simp),zj (by simp;omega)];simp [lp,Lib.join_one]
 | [a,b] =>
  have g:=f a (by simp);have i:=f b (by simp);unfold qj;simp only [zo];rw [uD (by simp),zj (by simp;omega)];simp only;rw [uq (by simp),zj (by simp;omega),zj (by simp;omega)];simp [lp,join_two,Lib.join_one]
 | [a,b,c] =>
  have g:=f a (by simp);have i:=f b (by simp);have k:=f c (by simp);unfold qj;simp only [zo];rw [uD (by simp),zj (by simp;omega)];simp only;rw [uq (by simp),zj (by simp;omega),zj (by simp;omega)];simp only;rw [uq (by simp),zj (by simp;omega),zj (by simp;omega)];simp [lp,join_two,Lib.join_one]
 | a::b::c::d::e=>simp at h
theorem join_cons2 (x:zc) (L:List zc):Lib.join (x::L) [32]=x++L.flatMap λy=>32::y:=by
 rw [Lib.join_cons];unfold Lib.joinTail;rw [List.flatMap_def];rfl
theorem joinP_len {p:List zc} (h:xu p=true):(Lib.join p [47]).length<=64:=by
 obtain ⟨_,f,a⟩:=path_names h;have b:=join_len p [47];have e:=lens_le p λs hs=>(a s hs).2;simp only [ud,ug] at b;omega
theorem qt {α:Type} (g:α->zc) (c:Nat):∀L:List α,(∀x ∈ L,(g x).length<=c)->(L.flatMap g).length<=c * L.length
 | [],_=>by simp
 | x::r,h=>by
  have e:=h x (by simp);have b:=qt g c r λy a=>h y (by simp [a]);simp only [u6,ue,ud,py] at b ⊢;omega
theorem word_len (n:Int):(xX n).length<=8:=by
 unfold xX
 repeat' split
 all_goals simp
theorem ref44Line_is (a:GE.wf r.leaf) (k:bkLim r.leaf):ref44Line r=some (z7 r):=by
 obtain ⟨_,ln,z⟩:=line_tot a k;have m:=qX a.2.2.1;have p:¬ Good r->z7 r=[]:=λh=>Classical.byContradiction λe=>h (ln e);unfold ref44Line;rw [ref04MayPath_is];simp only [ua];cases hp:xu r.path with
 | false =>
  rw [p λh=>by rw [h.1] at hp;cases hp];simp
 | true =>
  simp only [tv,tB,ur,ref05May_is a.2.2.2.2.2.1.1 a.2.2.2.2.2.2.1 m.1,ua,tI];cases hl:leafB r.leaf with
  | false =>
   rw [p λh=>by rw [h.2.1] at hl;cases hl];simp
  | true =>
   rw [z ⟨hp,hl,a,k⟩];obtain ⟨A,y,v⟩:=path_names hp;have E:=joinP_len hp;have M:maxLen=9223372036854775807:=rfl;simp only [tv,uo,uH];rw [ref44Path_is y λs hs=>(v s hs).2,ua,zj (by simp only [ud,ug];omega)];unfold ref44Xwords;rw [ua];have j:xQ ([([]:zc),([99,111,117,110,116,101,114]:zc),([114,101,103,105,115,116,101,114]:zc),([115,101,116]:zc),([108,111,103]:zc)]:List zc) r.leaf.typ=some (xX r.leaf.typ):=by
    rcases leafB_typ hl with e | e | e | e <;> rw [e] <;> rfl
   have b:=word_len r.leaf.typ;have L:=word_len 1;have v2:=word_len 2;have v3:=word_len 3;have v4:=word_len 4;rw [j,ua,zj (by simp only [ue,ud,ug];omega)];simp only [te,uR];rw [join_cons2];generalize Lib.join r.path [47]=P at E ⊢;obtain ⟨path,l⟩:=r;simp only at *;clear ln z p j A y v hp;rcases leaf_shape hl with e | e | ⟨e,g,D,J,K⟩ | ⟨e,g,D⟩ | ⟨e,g⟩
   ·rw [e] at a b ⊢;have C:-9223372036854775808<=l.n/\l.n<=9223372036854775807:=inI64 a.2.1;have B:(Lib.itoa l.n).length<=21:=by
     unfold Lib.itoa;split
     ·have:=xA l.n.natAbs (by omega);simp only [ud];omega
     ·have:=xA l.n.toNat (by omega)
      omega
    simp only [tB,ur];rw [zj (by simp only [ue,ud,ug];omega),signed_is C,ua,zj (by simp only [ue,ud,ug];omega)];simp [zK]
   ·rw [e] at a b ⊢;rw [uD (by simp),uq (by simp),uq (by simp),zj (by simp only [ue,ud,ug];omega)];simp [zK]
   ·rw [e] at a b ⊢;have N:=yK m;have F:GC.wf l.dot:=a.2.2.2.1;have O:=yU F;have I:=x6 l.text;rw [uD (by simp),uq (by simp),uD (by simpa using g)];rw [dec_is m,ref44Dot_is a.2.2.2.1,ref44Hex_is (show l.text.length<=1073741824 by omega)];simp only [ua];rw [zj (by simp only [ue,ud,ug];omega),zj (by simp only [ue,ud,ug];omega),zj (by simp only [ue,ud,ug];omega),zj (by simp only [ue,ud,ug];omega),zj (by simp only [ue,ud,ug];omega),zj (by simp only [ue,ud,ug];omega)];simp [zK,g]
   ·rw [e] at a b k ⊢;rw [uD (by simp),uD (by simp)];have f:∀x ∈ l.items,GF.wf x:=a.2.2.2.2.2.1.2;have u:∀x ∈ l.tombs,GC.wf x:=a.2.2.2.2.2.2.2;have q:l.items.length+l.tombs.length<=4194304:=k;have o:∀x ∈ l.items,(32::xb x).length<=200:=λx hx=>by
     have:=yU (f x hx).2.1;have:=x6 x.text;have:=(g x hx).2.1;simp only [xb,ue,ud,ug];omega
    have lt:∀x ∈ l.tombs,(32::xZ x).length<=200:=λx hx=>by
     have:=yU (u x hx);simp only [xZ,ue,ud,ug];omega
    have G:=qt (λx=>32::xb x) 200 l.items o;have H:=qt (λx=>32::xZ x) 200 l.tombs lt;rw [loopL_app (λx=>32::xb x) l.items 0 _ λi x w hx hs=>?_]
    ·simp only [lp];rw [loopL_app (λx=>32::xZ x) l.tombs 0 _ λi x w hx hs=>?_]
     ·simp [lp,zK,rg,sd]
     ·have:=yU (u x hx);simp only [ue,ud,ug] at hs;rw [zj (by simp only [ud,ug];omega),ref44Dot_is (u x hx),ua,zj (by simp only [ue,ud,ug];omega)];simp [xZ]
    ·have:=yU (f x hx).2.1;have:=x6 x.text;have:=(g x hx).2.1;simp only [ue,ud,ug] at hs;rw [zj (by simp only [ud,ug];omega),uD (by simp),ref44Dot_is (f x hx).2.1,ua,zj (by simp only [ue,ud,ug];omega),zj (by simp only [ue,ud,ug];omega),ref44Hex_is (by omega),ua,zj (by simp only [ue,ud,ug];omega)];simp [xb]
   ·rw [e] at a b k ⊢;rw [uD (by simp),uD (by simp)];have f:∀x ∈ l.items,GF.wf x:=a.2.2.2.2.2.1.2;have q:l.items.length<=4194304:=k;have o:∀x ∈ l.items,(32::qr x).length<=200:=λx hx=>by
     have:=yU (f x hx).2.1;have:=yK (qX (f x hx).1);have:=x6 x.text;have:=(g x hx).2.1;simp only [qr,ue,ud,ug];omega
    have G:=qt (λx=>32::qr x) 200 l.items o;rw [loopL_app (λx=>32::qr x) l.items 0 _ λi x w hx hs=>?_]
    ·simp [lp,zo,zK,sd]
    ·have:=yU (f x hx).2.1;have:=yK (qX (f x hx).1);have:=x6 x.text;have:=(g x hx).2.1;simp only [ue,ud,ug] at hs;rw [zj (by simp only [ud,ug];omega),uq (by simp),dec_is (qX (f x hx).1),ua,zj (by simp only [ue,ud,ug];omega),zj (by simp only [ue,ud,ug];omega),ref44Dot_is (f x hx).2.1,ua,zj (by simp only [ue,ud,ug];omega),zj (by simp only [ue,ud,ug];omega),ref44Hex_is (by omega),ua,zj (by simp only [ue,ud,ug];omega)];simp [qr]
end
section
abbrev RSt:=Int×Int×Int×Int×Int×Int×Int×zc×List GF×List GC
end
section
end
section
end
section
def tup (i:Int) (l:GE):RSt:=(i,l.typ,l.n,l.time,l.dot.actor.rep,l.dot.actor.inc,l.dot.seq,l.text,l.items,l.tombs)
end
section
structure Odd (c:UInt8):Prop where
 hx:isHx c=false
 al:alnum c=false
 n32:c ≠ 32
 n33:c ≠ 33
 n45:c ≠ 45
 n46:c ≠ 46
 n47:c ≠ 47
 n61:c ≠ 61
 n64:c ≠ 64
theorem Odd.ten:Odd 10:=by constructor <;> decide
theorem Odd.dig (h:Odd c):qW c=false:=by
 have:=h.hx;unfold isHx at this;simp only [tJ] at this;exact this.1
theorem word_al (n:Int):(xX n).all alnum=true:=by
 unfold xX
 repeat' split
 all_goals decide
theorem parts_odd (h:Odd c) (l:GE):∀p ∈ zK l,c ∉ p:=by
 intro p a;unfold zK at a;split at a
 ·simp only [uB] at a;subst a;exact itoa_no h.dig h.n45 _
 ·split at a
  ·split at a
   ·simp only [uB] at a;subst a;simpa using h.n45
   ·simp only [uw,sy,pz] at a;rcases a with rfl | rfl | rfl
    ·exact num_no h.dig _
    ·exact dot_no h.dig h.n46 _
    ·exact hex_no h.hx h.n45 _
  ·split at a
   ·simp only [uE,th] at a;rcases a with ⟨x,_,rfl⟩ | ⟨x,_,rfl⟩
    ·exact item_no h.hx h.n45 h.n46 h.n61 x
    ·exact tomb_no h.hx h.n46 h.n33 x
   ·simp only [th] at a;obtain ⟨x,_,rfl⟩:=a;exact log_no h.hx h.n45 h.n46 h.n61 h.n64 x
theorem line_odd (h:Odd c) {r:GH} (a:Good r):c ∉ z7 r:=by
 obtain ⟨e,f,b⟩:=path_names a.1;rw [(line_tot a.2.2.1 a.2.2.2).2.2 a];refine join_no h.n32 λx hx=>?_;simp only [te,uR,uw] at hx;rcases hx with rfl | rfl | hx
 ·exact join_no h.n47 λx hx=>alnum_no h.al (b x hx).1
 ·exact alnum_no h.al (word_al _)
 ·exact parts_odd h _ x hx
def eOf (r:GH):GJ:=⟨r.path,r.leaf.typ,false,true,leaf0,r.leaf⟩
theorem xorder_is (a b:GH):vW a b=some (ordI (eOf a) (eOf b)):=order_is (eOf a) (eOf b)
theorem ord_neg (a b:GH):decide (ordI (eOf a) (eOf b) >= 0)=!kltB (rkey a) (rkey b):=by
 unfold ordI;show decide ((if kltB (rkey a) (rkey b)=true then (-1:Int) else if kltB (rkey b) (rkey a)=true then 1 else 0) >= 0)=_;cases h:kltB (rkey a) (rkey b) with
 | true=>rfl
 | false =>
  cases kltB (rkey b) (rkey a) <;> rfl
end
section
abbrev PSt:=zc×(List GJ)×Int×(List zc)×Int×Int×Int×Int×Int×Int×zc×(List GF)×(List GC)
abbrev PRes:=List GA×Int×Int
noncomputable def ppF:PSt->Option (Out PRes PSt) :=
 (λ(s1:PSt)=>((if (!(s1.1==([]:zc)))=true then ((xi s1.1 ([10]:zc)).bind λv24=>((xl v24.1).bind λv25=>(if ((!v25.2) || (!v24.2.2))=true then some (.ret (([]:List GA),s1.2.2.1,(4:Int))) else ((if ((decide (s1.2.2.1 > (1:Int)))==true)=true then vW (GH.mk s1.2.2.2.1 (GE.mk s1.2.2.2.2.1 s1.2.2.2.2.2.1 s1.2.2.2.2.2.2.1 (GC.mk (GI.mk s1.2.2.2.2.2.2.2.1 s1.2.2.2.2.2.2.2.2.1) s1.2.2.2.2.2.2.2.2.2.1) s1.2.2.2.2.2.2.2.2.2.2.1 s1.2.2.2.2.2.2.2.2.2.2.2.1 s1.2.2.2.2.2.2.2.2.2.2.2.2)) v25.1 else some default).bind λv27=>(if ((decide (s1.2.2.1 > (1:Int)))&&(decide (v27 >= (0:Int))))=true then some (.ret (([]:List GA),s1.2.2.1,(16:Int))) else (zU ((s1.2.1).length+(([(GJ.mk v25.1.path v25.1.leaf.typ false true zLf v25.1.leaf)]:List GJ)).length<=yY) (some (.nxt (v24.2.1,(s1.2.1++([(GJ.mk v25.1.path v25.1.leaf.typ false true zLf v25.1.leaf)]:List GJ)),(IntKind.wrap .i64 (s1.2.2.1+(1:Int))),v25.1.path,v25.1.leaf.typ,v25.1.leaf.n,v25.1.leaf.time,v25.1.leaf.dot.actor.rep,v25.1.leaf.dot.actor.inc,v25.1.leaf.dot.seq,v25.1.leaf.text,v25.1.leaf.items,v25.1.leaf.tombs))))))))) else some (.brk (s1.1,s1.2.1,s1.2.2.1,s1.2.2.2.1,s1.2.2.2.2.1,s1.2.2.2.2.2.1,s1.2.2.2.2.2.2.1,s1.2.2.2.2.2.2.2.1,s1.2.2.2.2.2.2.2.2.1,s1.2.2.2.2.2.2.2.2.2.1,s1.2.2.2.2.2.2.2.2.2.2.1,s1.2.2.2.2.2.2.2.2.2.2.2.1,s1.2.2.2.2.2.2.2.2.2.2.2.2))):Option (Out _ PSt)))
theorem pp_eq (b:zc):q8 b=(if (decide (((b).length:Int) > (1048576:Int)))=true then some (([]:List GA),(0:Int),(3:Int)) else (lp (yA ppF (b,([]:List GJ),(1:Int),([]:List zc),(0:Int),(0:Int),(0:Int),(0:Int),(0:Int),(0:Int),([]:zc),([]:List GF),([]:List GC))) λ(e:zc×(List GJ)×Int×(List zc)×Int×Int×Int×Int×Int×Int×zc×(List GF)×(List GC))=>((qC ([]:List GA) e.2.1).bind λa=>some (a.1,(0:Int),a.2)))):=rfl
def row0:GH:=⟨[],leaf0⟩
def stOf (rest:zc) (es:List GJ) (n:Int) (q:GH):PSt:=(rest,es,n,q.path,q.leaf.typ,q.leaf.n,q.leaf.time,q.leaf.dot.actor.rep,q.leaf.dot.actor.inc,q.leaf.dot.seq,q.leaf.text,q.leaf.items,q.leaf.tombs)
def lastR (rows:List GH):GH:=rows.getLast?.getD row0
def pst (rest:zc) (rows:List GH):PSt:=stOf rest (rows.map eOf) ((rows.length:Int)+1) (lastR rows)
def Srt (rows:List GH):Prop:=rows.Pairwise λr q=>kltB (rkey r) (rkey q)=true
def fits (rows:List GH) (r:GH):Bool:=decide (rows=[]) || kltB (rkey (lastR rows)) (rkey r)
theorem last_snoc (rows:List GH) (q:GH):lastR (rows++[q])=q:=by simp [lastR]
theorem Srt.fits {rows R:List GH} {r:GH} (h:Srt (rows++r::R)):fits rows r=true:=by
 unfold Vv.fits;rcases List.eq_nil_or_concat rows with rfl | ⟨a,q,rfl⟩
 ·rfl
 ·rw [List.concat_eq_append] at *;rw [last_snoc];unfold Srt at h;rw [tD] at h;rw [h.2.2 q (by simp) r (by simp)];simp
theorem lines_one (r:GH) (R:List GH):yr z7 (r::R)=z7 r++10::yr z7 R:=by simp [yr]
theorem lines_ge:∀R:List GH,R.length<=(yr z7 R).length
 | []=>by simp [yr]
 | r::R=>by
  have:=lines_ge R;rw [lines_one];simp only [ud,ue];omega
theorem pp_end (es:List GJ) (n:Int) (q:GH):yA ppF (stOf [] es n q)=some (.inr (stOf [] es n q)):=by
 rw [wK];rfl
theorem pp_round {rest:zc} (h0:rest ≠ []) (f:rest.length<=16777216) (es:List GJ) (g:es.length<=16777216) (n:Int) (i:1<=n/\n<=16777217) (q:GH) {r:GH} {b:Bool} (e:xl (Lib.cut rest [10]).1=some (r,b)) :
  yA ppF (stOf rest es n q)=if (!b || !(Lib.cut rest [10]).2.2)=true then some (.inl ([],n,4)) else if (decide (n > 1)&&!kltB (rkey q) (rkey r))=true then some (.inl ([],n,16)) else yA ppF (stOf (Lib.cut rest [10]).2.1 (es++[eOf r]) (n+1) r):=by
 have h:yY=2147483648:=rfl;have a:ppF (stOf rest es n q)=if (!b || !(Lib.cut rest [10]).2.2)=true then some (.ret ([],n,4)) else if (decide (n > 1)&&!kltB (rkey q) (rkey r))=true then some (.ret ([],n,16)) else some (.nxt (stOf (Lib.cut rest [10]).2.1 (es++[eOf r]) (n+1) r)):=by
  unfold ppF stOf;simp only;rw [uq (by simpa using h0),xi,strCut_is f,ua,e,ua];simp only;split
  ·rfl
  ·cases hn1:decide (n > 1) with
   | false =>
    simp only [show (false==true)=false from rfl,uo,uH,ua,rE];rw [zj (by simp only [ud,ug];omega),wz (by omega)];rfl
   | true =>
    simp only [tB,ur,u9];rw [show (GH.mk q.path (GE.mk q.leaf.typ q.leaf.n q.leaf.time (GC.mk (GI.mk q.leaf.dot.actor.rep q.leaf.dot.actor.inc) q.leaf.dot.seq) q.leaf.text q.leaf.items q.leaf.tombs))=q from rfl,xorder_is,ua,ord_neg];split
    ·rfl
    ·rw [zj (by simp only [ud,ug];omega),wz (by omega)];rfl
 rw [wK];by_cases c1:(!b || !(Lib.cut rest [10]).2.2)=true
 ·rw [uq c1] at a ⊢;rw [a]
 ·rw [uD c1] at a ⊢;by_cases c2:(decide (n > 1)&&!kltB (rkey q) (rkey r))=true
  ·rw [uq c2] at a ⊢;rw [a]
  ·rw [uD c2] at a ⊢;rw [a]
end
section
def bkR (R:List GH):Nat:=(R.map λr=>r.leaf.bk).sum
theorem bkR_app (A B:List GH):bkR (A++B)=bkR A+bkR B:=by simp [bkR]
theorem tree_bks:∀(t:List GA) (d:Nat) (a:List zc),d<=2->xz d t=true->GA.bks t<=bkR (zp a t)+16 * (3 - d) * (zp a t).length:=by
 refine xY (λd a _ _=>by simp [GA.bks]) ?_;intro x r hx w d a hd p;rw [yG,uX,uf,<- yG] at p;obtain ⟨b,m⟩:=p;have y:=w d a hd m;obtain ⟨i,g,A⟩:=wJ b;obtain ⟨q,L,j⟩:=rowsN_ne b a;have e:zp a (x::r)=(x.leaves.map (λl=>GH.mk (a++[x.name]) l)++zp (a++[x.name]) x.subs)++zp a r:=by
  simp only [zp];rw [yz]
 have o:1<=x.leaves.length+(zp (a++[x.name]) x.subs).length:=by
  have:=congrArg List.length j;rw [yz] at this;simp only [ue,ux,ud] at this;omega
 have z:x.bk=x.name.length+(x.leaves.map GE.bk).sum+GA.bks x.subs+4:=by
  cases x;simp only [GA.bk];omega
 have k:x.name.length<=12:=by
  unfold nameB at i;simp only [uf,ui] at i;exact i.1.2
 have v:bkR (x.leaves.map (λl=>GH.mk (a++[x.name]) l))=(x.leaves.map GE.bk).sum:=by
  unfold bkR;rw [sr];rfl
 rw [e,bkR_app,bkR_app,v,ue,ue,ux];simp only [GA.bks];have s:GA.bks x.subs<=bkR (zp (a++[x.name]) x.subs)+16 * (2 - d) * (zp (a++[x.name]) x.subs).length:=by
  by_cases h0:x.subs=[]
  ·rw [h0];simp [GA.bks]
  ·unfold treeB at g;simp only [uf,uY,ui] at g;have u:d+1 < 3:=by
    rcases g.1.1 with h | h
    ·exact absurd (s8.1 h) h0
    ·exact h
   have:=hx (d+1) (a++[x.name]) (by omega) g.2;rw [show 3 - (d+1)=2 - d by omega] at this;exact this
 generalize bkR (zp (a++[x.name]) x.subs)=B1 at *;generalize bkR (zp a r)=B2 at *;generalize (zp (a++[x.name]) x.subs).length=n1 at *;generalize (zp a r).length=n2 at *;generalize (x.leaves.map GE.bk).sum=B3 at *;generalize x.leaves.length=n3 at *;have f:d=0 \/ d=1 \/ d=2:=by omega
 rcases f with rfl | rfl | rfl
 ·simp only [Nat.sub_zero] at *;omega
 ·simp only [show 3 - 1=2 from rfl,show 2 - 1=1 from rfl] at *;omega
 ·simp only [show 3 - 2=1 from rfl,show 2 - 2=0 from rfl] at *;omega
theorem tree_wfs:∀(t:List GA) (d:Nat) (a:List zc),xz d t=true->(∀r ∈ zp a t,GE.wf r.leaf)->GA.bks t<=16777216->GA.wfs t:=by
 refine xY (λd a _ _ _=>by simp [GA.wfs]) ?_;intro x r hx A d a u b w;rw [yG,uX,uf,<- yG] at u;obtain ⟨i,o⟩:=u;obtain ⟨g,m,D⟩:=wJ i;have e:zp a (x::r)=(x.leaves.map (λl=>GH.mk (a++[x.name]) l)++zp (a++[x.name]) x.subs)++zp a r:=by
  simp only [zp];rw [yz]
 rw [e] at b;simp only [GA.bks] at w;have B:=bk_node x;have j:x.name.length<=12:=by
  unfold nameB at g;simp only [uf,ui] at g;exact g.1.2
 have E:maxLen=9223372036854775807:=rfl;have C:=sum_len (f:=GE.bk) (λx=>by unfold GE.bk;omega) x.leaves;unfold treeB at m;simp only [uf] at m;have y:=hx (d+1) (a++[x.name]) m.2 (λq k=>b q (by simp [k])) (by omega);have v:=A d a o (λq k=>b q (by simp [k])) (by omega);have s:∀l ∈ x.leaves,GE.wf l:=λl z=>b ⟨a++[x.name],l⟩ (by simp [z]);have p:x.name.length<=maxLen:=by omega
 have h:x.leaves.length<=maxLen:=by omega
 refine ⟨?_,v⟩;cases x;simp only [GA.wf];exact ⟨p,⟨h,s⟩,y⟩
theorem flat_bk {α:Type} {g:α->zc} {b:α->Nat}:∀L:List α,(∀x ∈ L,b x<=16 * (g x).length+16)->(L.map b).sum<=16 * (L.flatMap λx=>32::g x).length
 | [],_=>by simp
 | x::r,h=>by
  have f:=h x (by simp);have e:=flat_bk (g:=g) r λy a=>h y (by simp [a]);simp only [ut,tg,u6,ue,ud];omega
theorem hexL_ge (s:zc):2 * s.length<=(hexL s).length:=by
 unfold hexL;split
 ·rename_i h;subst h;simp
 ·rw [Proofs.hexs_len];omega
theorem leaf_len (j:leafB l=true):l.bk<=48+16 * ((zK l).flatMap λy=>32::y).length:=by
 have a:=bk_leaf l;have s:=(leaf_texts j).2;rcases leaf_shape j with e | e | ⟨e,h,k,q,u⟩ | ⟨e,h,k⟩ | ⟨e,h⟩
 ·rw [e] at a ⊢;simp at a;omega
 ·rw [e] at a ⊢;simp at a;omega
 ·have f:zK ⟨2,0,l.time,l.dot,l.text,[],[]⟩=[wh l.time,dotT l.dot,hexL l.text]:=by
   unfold zK;simp [h]
  rw [e] at a ⊢;rw [f];simp at a ⊢;omega
 ·have i:l.text=[]:=by rw [e]
  have f:zK l=l.items.map xb++l.tombs.map xZ:=by rw [e];rfl
  rw [f,rg,ue,sd,sd];have m:=flat_bk (g:=xb) (b:=GF.bk) l.items λx hx=>by
   have:=hexL_ge x.text;rw [bk_item];simp only [xb,ue];omega
  have p:=flat_bk (g:=xZ) (b:=GC.bk) l.tombs λx hx=>by rw [bk_dot];omega
  rw [i] at a;simp only [ug] at a;omega
 ·have i:l.text=[]:=by rw [e]
  have o:l.tombs=[]:=by rw [e]
  have f:zK l=l.items.map qr:=by rw [e];rfl
  rw [f,sd];have m:=flat_bk (g:=qr) (b:=GF.bk) l.items λx hx=>by
   have:=hexL_ge x.text;rw [bk_item];simp only [qr,ue];omega
  rw [i,o] at a;simp only [ug,tG,pF] at a;omega
theorem good_len (h:Good r):r.leaf.bk+48<=16 * ((z7 r).length+1):=by
 obtain ⟨g,j,i⟩:=path_names h.1;have b:1<=(Lib.join r.path [47]).length:=by
  have a:=h.1;unfold xu at a;simp only [uf,ui,uu] at a;obtain ⟨x,L,e⟩:=s5 g;have:=a.2 x (by rw [e];simp);unfold nameB at this;simp only [uf,ui] at this;rw [e,Lib.join_cons,ue];omega
 have f:3<=(xX r.leaf.typ).length:=by
  unfold xX
  repeat' split
  all_goals simp
 rw [(line_tot h.2.2.1 h.2.2.2).2.2 h];simp only [te,uR];rw [join_cons2,u6];simp only [ue,ud];have key:=leaf_len h.2.1;omega
theorem rows_bk:∀R:List GH,(∀r ∈ R,Good r)->bkR R+48 * R.length<=16 * (yr z7 R).length
 | [],_=>by simp [bkR]
 | r::R,h=>by
  have e:=good_len (h r (by simp));have b:=rows_bk R λq a=>h q (by simp [a]);rw [lines_one];simp only [bkR,ut,tg,ud,ue] at b ⊢;omega
theorem small_rows (a:treeB 0 t=true) (e:∀r ∈ zp [] t,Good r) (g:(yr z7 (zp [] t)).length<=1048576):Small t:=by
 have i:=rows_bk _ e;have h:=tree_bks t 0 [] (by omega) (by unfold treeB at a;simp only [uf] at a;exact a.2);have b:GA.bks t<=16777216:=by omega
 exact ⟨tree_wfs t 0 [] (by unfold treeB at a;simp only [uf] at a;exact a.2) (λr f=>(e r f).2.2.1) b,b⟩
theorem Good.ok (h:Good r):LeafOk r.leaf:=by
 have a:=h.2.2.2;unfold bkLim at a;exact ⟨by omega,by omega,(qX h.2.2.1.2.2.1).1⟩
theorem patch_rows {R:List GH} (m:∀r ∈ R,Good r) (i2:Srt R) (g:R.length<=1048576):∃T,qC [] (R.map eOf)=some (T,0)/\treeB 0 T=true/\zp [] T=R:=by
 have j:Small []:=⟨by simp [GA.wfs],by simp [GA.bks]⟩
 have f:(R.map eOf).Pairwise eLt:=pb.2 i2;obtain ⟨T,k,t2,t3⟩:=patch_is (t:=[]) j (by rfl) (es:=R.map eOf) (by simp [zp];omega) (λe o=>by
  obtain ⟨r,a,rfl⟩:=th.1 o;have b:=m r a;have p:=leafB_typ b.2.1;exact ⟨⟨b.1,by show 1<=r.leaf.typ/\r.leaf.typ<=4;omega,.inr rfl,λh=>(by cases h),λh=>(by cases h),λ_=>rfl,λ_=>⟨b.2.1,b.ok,rfl⟩,λh=>(by cases h)⟩,⟨λh=>(by cases h),λ_ r a=>by simp [zp] at a⟩⟩) f
 have t4:∀r,r ∈ zp [] T ↔ r ∈ R:=λr=>by
  rw [t3];simp only [zp,sy,false_and,false_or,th];constructor
  ·rintro ⟨e,⟨q,i,rfl⟩,_,rfl⟩;exact i
  ·intro a;exact ⟨eOf r,⟨r,a,rfl⟩,rfl,rfl⟩
 exact ⟨T,k,t2,sorted_ext (lt:=λr q=>kltB (rkey r) (rkey q)=true) (λx h=>by rw [klt_irr] at h;cases h) (λ_ _ _=>klt_trans) (vG t2 []) i2 t4⟩
theorem prog_loop:∀(R rows:List GH),(∀r ∈ R,Good r)->Srt (rows++R)->(yr z7 R).length<=1048576->rows.length+R.length<=1048576->yA ppF (pst (yr z7 R) rows)=some (.inr (pst [] (rows++R)))
 | [],rows,_,_,_,_=>by rw [tw];exact pp_end _ _ _
 | r::R,rows,hg,hs,hl,hn=>by
  have h:=hg r (by simp);have g:=line_odd Odd.ten h;have j:=hs.fits;rw [lines_one] at hl ⊢;simp only [ue,ud] at hl hn;have i:Lib.cut (z7 r++10::yr z7 R) [10]=(z7 r,yr z7 R,true):=cutT_hit g;have e:=pp_round (rest:=z7 r++10::yr z7 R) (by simp) (by simp;omega) (rows.map eOf) (by simp;omega) ((rows.length:Int)+1) (by omega) (lastR rows) (r:=r) (b:=true) (by rw [i];exact read_back h (by omega));rw [i] at e;have a:(decide ((rows.length:Int)+1 > 1)&&!kltB (rkey (lastR rows)) (rkey r))=!fits rows r:=by
   unfold fits;have:decide ((rows.length:Int)+1 > 1)=!decide (rows=[]):=by
    cases rows <;> simp <;> omega
   rw [this];simp
  rw [a,j] at e;have f:yA ppF (pst (z7 r++10::yr z7 R) rows)=yA ppF (pst (yr z7 R) (rows++[r])):=by
   unfold pst;rw [last_snoc,tH,ue];exact e
  rw [f,prog_loop R (rows++[r]) (λq k=>hg q (by simp [k])) (by simpa using hs) (by omega) (by simp;omega)];simp
theorem prog_parse {R:List GH} (f:∀r ∈ R,Good r) (hs:Srt R) (g:(yr z7 R).length<=1048576) :
  ∃T,treeB 0 T=true/\Small T/\zp [] T=R/\q8 (yr z7 R)=some (T,0,0):=by
 have h:=lines_ge R;obtain ⟨T,j,t2,a⟩:=patch_rows f hs (by omega);have b:decide (((yr z7 R).length:Int) > 1048576)=false:=uS (by omega);have i:yA ppF (yr z7 R,([]:List GJ),(1:Int),([]:List zc),(0:Int),(0:Int),(0:Int),(0:Int),(0:Int),(0:Int),([]:zc),([]:List GF),([]:List GC))=yA ppF (pst (yr z7 R) []):=rfl;have e:=prog_loop R [] f (by simpa using hs) g (by simp;omega);rw [uR] at e;refine ⟨T,t2,small_rows t2 (by rw [a];exact f) (by rw [a];exact g),a,?_⟩;rw [pp_eq,b];simp only [uo,uH];rw [i,e];simp only [lp];rw [show (pst [] R).2.1=R.map eOf from rfl,j];rfl
end
section
theorem lpW {σ ρ:Type} {f:σ->Option (Out ρ σ)} {rest:σ->Option ρ} {j:σ} {P:ρ->Prop} (b a:σ->Prop) (i:σ->Nat) (hi:b j) (h:∀s,b s->(∃g,f s=some (.brk g)/\a g) \/ ∃g,f s=some (.nxt g)/\b g/\i g < i s) (m:∀s,a s->∃r,rest s=some r/\P r):∃r,lp (yA f j) rest=some r/\P r:=by
 obtain ⟨g,e,k⟩:=loopW_inv b a i h _ j rfl hi;rw [e];exact m g k
theorem lpN {σ τ ρ:Type} {f:σ->Option (Out (Out ρ τ) σ)} {rest:σ->Option (Out ρ τ)} {j:σ} {P:τ->Prop} (b a:σ->Prop) (i:σ->Nat) (hi:b j) (h:∀s,b s->(∃g,f s=some (.brk g)/\a g) \/ ∃g,f s=some (.nxt g)/\b g/\i g < i s) (m:∀s,a s->∃r,rest s=some (.nxt r)/\P r):∃r,lp (yA f j) rest=some (.nxt r)/\P r:=by
 obtain ⟨g,e,k⟩:=loopW_inv b a i h _ j rfl hi;rw [e];exact m g k
theorem idxAt {L:List α} {k:Nat} (h:k < L.length):xQ L (k:Int)=some L[k]:=by
 unfold xQ;rw [uq (by omega),uN,uj h]
theorem take_sum (f:α->Nat) {L:List α} {k:Nat} (h:k < L.length):((L.take (k+1)).map f).sum=((L.take k).map f).sum+f L[k]:=by
 rw [rB,uj h];simp only [Option.toList_some,tH,rk,ut,tG,tg,pF,tC]
theorem take_le (f:α->Nat) (L:List α) (k:Nat):((L.take k).map f).sum<=(L.map f).sum:=by
 have e:(L.map f).sum=((L.take k).map f).sum+((L.drop k).map f).sum:=by rw [<- rk,<- tH,rI]
 omega
theorem items_ge {ρ:Type}:∀(L:List GF) (i:Nat) (s:Int),0<=s->s+((L.map GF.bk).sum:Nat)<=1099511627776->∃v,zo (λ(_:Nat) (f:GF) (a:Int)=>(some (.nxt (IntKind.wrap .i64 ((IntKind.wrap .i64 (a+(1:Int)))+((f.text).length:Int)))):Option (Out ρ Int))) L i s=some (.inr v)/\s+L.length<=v/\v<=s+((L.map GF.bk).sum:Nat)
 | [],_,s,_,_=>⟨s,rfl,by simp,by simp⟩
 | x::L,i,s,h0,h1=>by
  simp only [ut,tg] at h1 ⊢;have h:x.text.length+1<=GF.bk x:=by unfold GF.bk;omega
  have b:IntKind.wrap .i64 (s+(1:Int))=s+1:=wz (by omega);have g:IntKind.wrap .i64 (s+1+(x.text.length:Int))=s+1+x.text.length:=wz (by omega);obtain ⟨v,e,j,k⟩:=items_ge (ρ:=ρ) L (i+1) (s+1+x.text.length) (by omega) (by omega);exact ⟨v,by simp only [zo,b,g];exact e,by simp only [ud];omega,by omega⟩
def lw (l:GE):Nat:=1+l.items.length+l.tombs.length
def rowsW (t:List GA):Nat:=((zp [] t).map λr=>lw r.leaf).sum
def rl (x:GA):Nat:=((qd [] x).map λr=>lw r.leaf).sum
theorem rows_lenA (a:List zc) (t:List GA):((zp a t).map λr=>lw r.leaf).sum=rowsW t:=by
 have:=rows_pre t a [];rw [tw] at this;rw [this,sr];rfl
theorem sum_flat {α a:Type} (g:α->List a) (w:a->Nat):∀L:List α,((L.flatMap g).map w).sum=(L.map λx=>((g x).map w).sum).sum
 | []=>rfl
 | x::r=>by
  have:=sum_flat g w r;simp only [u6,tH,rk,ut,tg,this]
theorem rows_rl (t:List GA):rowsW t=(t.map rl).sum:=by
 unfold rowsW;rw [ye,sum_flat];rfl
theorem rl_is (x:GA):rl x=(x.leaves.map lw).sum+rowsW x.subs:=by
 unfold rl;rw [yz,tH,rk,rows_lenA,sr];rfl
theorem size_ge:∀(n:Nat) (t:List GA) (d:Int),GA.deps t < n->Small t->0<=d->d+GA.deps t<=10->∃v,yJ n t d=some v/\((rowsW t:Nat):Int)<=v/\v<=(GA.bks t:Int)
 | 0,_,_,h,_,_,_=>by omega
 | n+1,t,d,h,hs,h0,hd=>by
  unfold yJ;have W:=hs.len;have hB:(t.map GA.bk).sum<=16777216:=by rw [<- GA.bks_eq];exact hs.2
  refine lpW (λs=>∃k:Nat,s.2=(k:Int)/\k<=t.length/\(((t.take k).map rl).sum:Int)<=s.1/\s.1<=(((t.take k).map GA.bk).sum:Int)) (λs=>((t.map rl).sum:Int)<=s.1/\s.1<=((t.map GA.bk).sum:Int)) (λs=>t.length - s.2.toNat) ⟨0,rfl,tQ _,by simp,by simp⟩ ?_ (λs hs=>⟨s.1,rfl,by rw [rows_rl];exact hs.1,by rw [GA.bks_eq];exact hs.2⟩)
  rintro ⟨a,i⟩ ⟨k,m,N,g1,g2⟩
  dsimp only at m g1 g2 ⊢;subst m;by_cases hlt:k < t.length
  ·right;have y:t[k] ∈ t:=rJ hlt;have C:=hs.leaves y;have H:=vp y;have z:=xd t[k];have ed:IntKind.wrap .i64 (d+(1:Int))=d+1:=wz (by omega);obtain ⟨v,e,R,v2⟩:=size_ge n t[k].subs (d+1) (by omega) (hs.subs y) (by omega) (by omega);rw [uq (by simp;omega)];simp only [idxAt hlt,ua,ed,e];have X:=take_sum GA.bk hlt;have s2:=take_sum rl hlt;have s3:=take_le GA.bk t (k+1);have s4:=take_le rl t k;have K:=bk_node t[k];have I:=rl_is t[k];have z0:(0:Int)<=a:=by omega
   have B:IntKind.wrap .i64 (a+(1:Int))=a+1:=wz (by omega);have L:IntKind.wrap .i64 (a+1+(t[k].name.length:Int))=a+1+t[k].name.length:=wz (by omega);have D:IntKind.wrap .i64 (a+1+t[k].name.length+v)=a+1+t[k].name.length+v:=wz (by omega);have A:IntKind.wrap .i64 ((k:Int)+(1:Int))=((k+1:Nat):Int):=(wz (by omega)).trans (by omega);simp only [B,L,D,A];obtain ⟨c0,u⟩:∃c0,a+1+t[k].name.length+v=c0:=⟨_,rfl⟩
   rw [u];refine Exists.imp (λ_ h=>⟨h.1,h.2.1,h.2.2⟩) (lpN (P:=λp:Int×Int=>(∃k:Nat,p.2=(k:Int)/\k<=t.length/\(((t.take k).map rl).sum:Int)<=p.1/\p.1<=(((t.take k).map GA.bk).sum:Int))/\t.length - p.2.toNat < t.length - (k:Int).toNat) (λs=>∃q:Nat,s.2=(q:Int)/\q<=t[k].leaves.length/\c0+(((t[k].leaves.take q).map lw).sum:Nat)<=s.1/\s.1<=c0+(((t[k].leaves.take q).map GE.bk).sum:Nat)) (λs=>c0+((t[k].leaves.map lw).sum:Nat)<=s.1/\s.1<=c0+((t[k].leaves.map GE.bk).sum:Nat)) (λs=>t[k].leaves.length - s.2.toNat) ⟨0,rfl,tQ _,by simp,by simp⟩ ?_ ?_)
   ·rintro ⟨b,j⟩ ⟨q,f,O,g,o⟩
    dsimp only at f g o ⊢;subst f;have U:=take_le GE.bk t[k].leaves q;by_cases hql:q < t[k].leaves.length
    ·right;rw [uq (tp (by omega))];simp only [idxAt hql,ua];have V:=take_sum GE.bk hql;have T:=take_sum lw hql;have Z:lw t[k].leaves[q]=1+t[k].leaves[q].items.length+t[k].leaves[q].tombs.length:=rfl;have Q:=take_le GE.bk t[k].leaves (q+1);have S:(t[k].leaves[q].items.map GF.bk).sum+t[k].leaves[q].tombs.length+t[k].leaves[q].text.length+1<=GE.bk t[k].leaves[q]:=by
      have:=dots_bk t[k].leaves[q].tombs;unfold GE.bk;omega
     have E:IntKind.wrap .i64 (b+(1:Int))=b+1:=wz (by omega);have M:IntKind.wrap .i64 (b+1+(t[k].leaves[q].text.length:Int))=b+1+t[k].leaves[q].text.length:=wz (by omega);have F:IntKind.wrap .i64 (b+1+t[k].leaves[q].text.length+(t[k].leaves[q].tombs.length:Int))=b+1+t[k].leaves[q].text.length+t[k].leaves[q].tombs.length:=wz (by omega);have J:IntKind.wrap .i64 ((q:Int)+(1:Int))=((q+1:Nat):Int):=(wz (by omega)).trans (by omega);simp only [E,M,F,J];obtain ⟨w,G,x1,Y⟩:=items_ge (ρ:=Out (Out Int (Int×Int)) (Int×Int)) t[k].leaves[q].items 0 (b+1+t[k].leaves[q].text.length+t[k].leaves[q].tombs.length) (by omega) (by omega);rw [G,wA];exact ⟨_,rfl,⟨q+1,rfl,by omega,by dsimp only;omega,by dsimp only;omega⟩,by dsimp only;omega⟩
    ·left;rw [uD (by simp;omega)];obtain rfl:q=t[k].leaves.length:=by omega
     rw [sx] at g o;exact ⟨_,rfl,g,o⟩
   ·rintro ⟨b,j⟩ ⟨g,o⟩
    dsimp only at g o ⊢;refine ⟨_,rfl,⟨k+1,rfl,by omega,?_,?_⟩,by dsimp only;omega⟩
    ·dsimp only;omega
    ·dsimp only;omega
  ·left;rw [uD (by simp;omega)];obtain rfl:k=t.length:=by omega
   rw [sx] at g1 g2;exact ⟨_,rfl,g1,g2⟩
theorem deps_le:∀(t:List GA) (d:Nat),d<=2->xz d t=true->GA.deps t<=3 - d:=by
 refine xY (λd _ _=>by simp [GA.deps]) ?_;intro x r hx j d hd f;rw [yG,uX,uf,<- yG] at f;obtain ⟨b,e⟩:=f;have m:=j d hd e;obtain ⟨k,a,o⟩:=wJ b;have hs:=xd x;have g:GA.deps x.subs<=2 - d:=by
  by_cases h0:x.subs=[]
  ·rw [h0];simp [GA.deps]
  ·unfold treeB at a;simp only [uf,uY,ui] at a;have i:d+1 < 3:=by
    rcases a.1.1 with h | h
    ·exact absurd (s8.1 h) h0
    ·exact h
   have:=hx (d+1) (by omega) a.2;omega
 simp only [GA.deps];omega
theorem line_le (h:Good r):(z7 r).length+1<=300 * lw r.leaf:=by
 have A:=joinP_len h.1;have j:=word_len r.leaf.typ;rw [(line_tot h.2.2.1 h.2.2.2).2.2 h];simp only [te,uR];rw [join_cons2,u6];simp only [ue,ud];have key:((zK r.leaf).flatMap λy=>32::y).length<=200 * lw r.leaf:=by
  have b:=h.2.2.1;have i:=h.2.1;generalize r.leaf=l at b i;rcases leaf_shape i with e | e | ⟨e,f,m,u,v⟩ | ⟨e,f,m⟩ | ⟨e,f⟩
  ·have z:=inI64 b.2.1;have k:(Lib.itoa l.n).length<=21:=by
    unfold Lib.itoa;split
    ·have:=xA l.n.natAbs (by omega);simp only [ud];omega
    ·have:=xA l.n.toNat (by omega)
     omega
   have a:zK l=[Lib.itoa l.n]:=by rw [e];rfl
   rw [a];simp [lw];omega
  ·have a:zK l=[[45]]:=by rw [e];rfl
   rw [a];simp [lw];omega
  ·have B:=yK (qX b.2.2.1);have C:=yU b.2.2.2.1;have s:=x6 l.text;have a:zK l=[wh l.time,dotT l.dot,hexL l.text]:=by
    unfold zK;rw [show l.typ=2 by rw [e]];simp [f]
   rw [a];simp [lw];omega
  ·have a:zK l=l.items.map xb++l.tombs.map xZ:=by rw [e];rfl
   have g:∀x ∈ l.items,GF.wf x:=b.2.2.2.2.2.1.2;have o:∀x ∈ l.tombs,GC.wf x:=b.2.2.2.2.2.2.2;rw [a,rg,ue,sd,sd];have p:=qt (λx=>32::xb x) 200 l.items λx hx=>by
    have:=yU (g x hx).2.1;have:=x6 x.text;have:=(f x hx).2.1;simp only [xb,ue,ud,ug];omega
   have q:=qt (λx=>32::xZ x) 200 l.tombs λx hx=>by
    have:=yU (o x hx);simp only [xZ,ue,ud,ug];omega
   unfold lw;omega
  ·have a:zK l=l.items.map qr:=by rw [e];rfl
   have g:∀x ∈ l.items,GF.wf x:=b.2.2.2.2.2.1.2;rw [a,sd];have p:=qt (λx=>32::qr x) 200 l.items λx hx=>by
    have:=yU (g x hx).2.1;have:=yK (qX (g x hx).1);have:=x6 x.text;have:=(f x hx).2.1;simp only [qr,ue,ud,ug];omega
   unfold lw;omega
 have w:1<=lw r.leaf:=by unfold lw;omega
 omega
theorem lines_w:∀R:List GH,(∀r ∈ R,Good r)->(yr z7 R).length<=300 * (R.map λr=>lw r.leaf).sum
 | [],_=>by simp [yr]
 | r::R,h=>by
  have e:=line_le (h r (by simp));have b:=lines_w R λq a=>h q (by simp [a]);rw [lines_one];simp only [ut,tg,ue,ud];omega
theorem rows_good (h:Small t) (i:treeB 0 t=true):∀r ∈ zp [] t,Good r:=by
 intro r e;have a:=rows_ok t 0 [] h i rfl rfl r e;have f:=(rows_fine h).1 r e;have k:r.leaf.bk<=16777216:=uA (mem_bk (b:=λr:GH=>r.leaf.bk) e) (rows_fine h).2;have g:=bk_leaf r.leaf;have j:8 * r.leaf.items.length<=(r.leaf.items.map GF.bk).sum:=by
  have:∀L:List GF,8 * L.length<=(L.map GF.bk).sum:=by
   intro L
   induction L with
   | nil=>simp
   | cons x r ih=>simp only [ut,tg,ud,bk_item];omega
  exact this _
 have lt:=dots_bk r.leaf.tombs;exact ⟨a.path,a.leaf,f,by unfold bkLim;omega⟩
theorem great_len (h:Small t) (a:treeB 0 t=true) (b:vu t=some false):(yr z7 (zp [] t)).length<=450000:=by
 have hd:=deps_le t 0 (by omega) (by unfold treeB at a;simp only [uf] at a;exact a.2);have hs:∃v,ref07Xsize t 0=some v/\((rowsW t:Nat):Int)<=v:=by
  obtain ⟨v,e,g,_⟩:=size_ge (GA.deps t+1) t 0 (by omega) h (by omega) (by omega);refine ⟨v,qa (GA.deps t+1) λn k=>?_,g⟩;rw [size_fuel n (GA.deps t+1) t 0 (by omega) (by omega)];exact e
 obtain ⟨v,e,i⟩:=hs;unfold vu at b;rw [e,ua] at b;have f:¬ v > 1500:=by simpa using b
 have:=lines_w (zp [] t) (rows_good h a);have j:((zp [] t).map λr=>lw r.leaf).sum=rowsW t:=rfl;omega
end
section
theorem small_of (h:t.length<=maxLen/\∀y ∈ t,GA.wf y) (a:(t.map GA.bk).sum<=16777216):Small t:=⟨(GA.wfs_iff t).2 h.2,by rw [GA.bks_eq];exact a⟩
theorem rows_all (h:Small t):ref07Rows t []=some ((zp [] t).map vR):=by
 have hd:=deps_bks _ t (uh _);have:=h.2;exact qa (GA.deps t+1) λn a=>rows7_is n t [] (by omega) h (by simp;omega)
theorem ref30Rows_is (h:Small t):ref30Rows t=some (if treeB 0 t=true then zp [] t else []):=by
 have b:=rows_small h;have e:=h.2;have a:yY=2147483648:=rfl;unfold ref30Rows;rw [ref07May_is h,ua];cases treeB 0 t with
 | false=>rfl
 | true =>
  simp only [tv,uo,uH,ur];rw [rows_all h,ua,loopL_push (g:=λx:GK=>GH.mk x.path x.l) _ 0 [] λi x s hx hs=>?_]
  ·simp only [lp,uR,sr];congr 1;exact List.map_id'' (λr=>rfl) _
  ·simp only [ux,ug] at hs;rw [zj (by simp only [ud,ug];omega)]
theorem rows_srt (a:treeB 0 t=true):Srt (zp [] t):=vG a []
theorem ref44Text_is (h:Small t):ref44Text t=some (if treeB 0 t=true then yr z7 (zp [] t) else []):=by
 have j:maxLen=9223372036854775807:=rfl;unfold ref44Text;rw [ref30Rows_is h,ua];cases ht:treeB 0 t with
 | false=>rfl
 | true =>
  have g:=rows_good h ht;have b:(yr z7 (zp [] t)).length<=1006632960:=(rows_fine h).len;simp only [ur];rw [loopL_app (λr=>z7 r++[10]) (zp [] t) 0 [] λi x k hx hs=>?_]
  ·rfl
  ·have f:(z7 x++[10]).length<=((zp [] t).flatMap λr=>z7 r++[10]).length:=by
    have:∀L:List GH,x ∈ L->(z7 x++[10]).length<=(L.flatMap λr=>z7 r++[10]).length:=by
     intro L
     induction L with
     | nil=>simp
     | cons y r ih =>
      intro e;rcases uw.1 e with rfl | e
      ·simp only [u6,ue];omega
      ·have:=ih e;simp only [u6,ue] at this ⊢;omega
    exact this _ hx
   have m:((zp [] t).flatMap λr=>z7 r++[10]).length<=1006632960:=b;simp only [ue,ud,ug] at f hs;have a:=g x hx;rw [ref44Line_is a.2.2.1 a.2.2.2,ua,zj (by omega),zj (by simp only [ue,ud,ug];omega)];simp
theorem text_any (h:Small t):vz t=some (if treeB 0 t=true then yr z7 (zp [] t) else []):=by
 cases ht:treeB 0 t with
 | true=>exact text_is h ht
 | false =>
  unfold vz;rw [pathsRows_is h,ht];rfl
theorem same_self (t:List GA):ql t t=some true:=by
 obtain ⟨v,e,h⟩:=same7_is t t;rw [e,h.2 rfl]
theorem law44ExportTexts_top (t:List GA) (r:GH) (j:t.length<=maxLen/\∀y ∈ t,GA.wf y) (f:GH.wf r)
  (o:((t.map GA.bk).sum+1)+GH.bk r<=1048576):wY t r=some true:=by
 have h:Small t:=small_of j (by omega);unfold wY;obtain ⟨e,g⟩:=ref07Great_tot h;rw [g,ua];by_cases hc:(((e || decide ((r.path.length:Int) > 10)) || decide ((r.leaf.items.length:Int) > 20)) || decide ((r.leaf.tombs.length:Int) > 20))=true
 ·rw [uq hc,known44];rfl
 ·rw [uD hc];have b:(((e || decide ((r.path.length:Int) > 10)) || decide ((r.leaf.items.length:Int) > 20)) || decide ((r.leaf.tombs.length:Int) > 20))=false:=by simpa using hc
  simp only [tJ,ru] at b;obtain ⟨⟨⟨k,_⟩,c3⟩,c4⟩:=b;subst k;have a:bkLim r.leaf:=by unfold bkLim;omega
  rw [text_any h,ref44Text_is h,(line_tot f.2 a).1,ref44Line_is f.2 a,ref07May_is h];simp only [ua,tB,tv,Bool.or_self,uo,uH,ur];cases ht:treeB 0 t with
  | false =>
   simp only [tU,ur,uo,uH,tB,known44,ua,uW]
  | true =>
   have p:=great_len h ht g;obtain ⟨T,m,t2,t3,t4⟩:=prog_parse (rows_good h ht) (rows_srt ht) (by omega);have i:t=T:=rows_ext ht m λq=>by rw [t3]
   subst i;simp only [tv,uo,uH,ur,t4,ua,tB,uW,same_self,known44]
end
end Go.Vv
