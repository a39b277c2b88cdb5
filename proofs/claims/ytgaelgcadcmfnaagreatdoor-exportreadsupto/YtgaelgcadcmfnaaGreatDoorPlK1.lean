/- A row's line; the text of rows. -/
import Derived.Test.YtgaelgcadcmfnaaGreatDoorPlK0
set_option linter.all false
namespace Go.Vv
open Go
variable {n t:Int} {d:GC} {x it:GF} {l:GE} {r:GH} {c:UInt8} {k:Nat}
section
theorem loopL_push {α b ρ:Type} {f:Nat->α->List b->Option (Out ρ (List b))} {g:α->b}:∀(L:List α) (k:Nat) (s:List b),(∀i x a,x ∈ L->a.length+1<=s.length+L.length->f i x a=some (.nxt (a++[g x])))->zn f L k s=some (.inr (s++L.map g))
 | [],k,s,_=>by simp [zn]
 | x::r,k,s,h=>by
  simp only [zn];rw [h k x s (by simp) (by simp)];show zn f r (k+1) (s++[g x])=_;rw [loopL_push r (k+1) (s++[g x]) λi y a e hs=>h i y a (by simp [e]) (by simp at hs ⊢;omega)];simp
theorem qJ (h:InK .u64 n):0<=n/\n < 18446744073709551616:=by
 unfold InK at h;simp [IntKind.min,IntKind.max,IntKind.signed,IntKind.bits] at h;omega
theorem inI64 (h:InK .i64 n):-9223372036854775808<=n/\n<=9223372036854775807:=by
 unfold InK at h;simp [IntKind.min,IntKind.max,IntKind.signed,IntKind.bits] at h;omega
theorem inU8 (h:InK .u8 n):0<=n/\n < 256:=by
 unfold InK at h;simp [IntKind.min,IntKind.max,IntKind.signed,IntKind.bits] at h;omega
theorem inU32 (h:InK .u32 n):0<=n/\n < 4294967296:=by
 unfold InK at h;simp [IntKind.min,IntKind.max,IntKind.signed,IntKind.bits] at h;omega
theorem wrapU64 (h:0<=n/\n < 18446744073709551616):IntKind.wrap .u64 n=n:=by
 rw [IntKind.wrap_u64];omega
def yP (n:Int):zd:=Lib.decDigits n.toNat
theorem number_is (h:0<=n/\n < 18446744073709551616):xl n=some (yP n):=by
 unfold xl qr fmtU yP;rw [um ⟨h.1,h.2,rfl⟩];rfl
theorem xb (h:0<=n/\n < 18446744073709551616):(yP n).length<=20:=wQ _ (by omega)
def qc (d:GC):zd:=(((yP d.actor.rep++[46])++yP d.actor.inc)++[46])++yP d.seq
theorem xr (h:GC.wf d):(qc d).length<=62:=by
 obtain ⟨⟨b,a⟩,e⟩:=h;have f:=xb (n:=d.actor.rep) (by have:=inU8 b;omega);have g:=xb (n:=d.actor.inc) (by have:=inU32 a;omega);have i:=xb (qJ e);simp only [qc,ue,uc,ug];omega
theorem dot_is (h:GC.wf d):xq d=some (qc d):=by
 obtain ⟨⟨b,a⟩,e⟩:=h;have g1:0<=d.actor.rep/\d.actor.rep < 18446744073709551616:=by have:=inU8 b;omega
 have g2:0<=d.actor.inc/\d.actor.inc < 18446744073709551616:=by have:=inU32 a;omega
 have g3:=qJ e;have f:=xb g1;have i:=xb g2;have j:=xb g3;have g:maxLen=9223372036854775807:=rfl;unfold xq;rw [wrapU64 g1,wrapU64 g2,number_is g1,number_is g2,number_is g3];simp only [ua];rw [zi (by simp only [ue,uc,ug];omega),zi (by simp only [ue,uc,ug];omega),zi (by simp only [ue,uc,ug];omega),zi (by simp only [ue,uc,ug];omega)];rfl
def qa (s:zd):zd:=if s=[] then [45] else Proofs.hexs s
theorem wz (s:zd):(qa s).length<=2 * s.length+1:=by
 unfold qa;split
 ·simp
 ·rw [Proofs.hexs_len];omega
theorem hex_is {s:zd} (h:s.length<=1073741824):exportXhex s=some (qa s):=by
 unfold exportXhex hexT qa;split
 ·rfl
 ·rw [um (by omega)]
def yG (x:GF):zd:=(qc x.dot++[61])++qa x.text
def xQ (d:GC):zd:=[33]++qc d
def qq (x:GF):zd:=(((yP x.time++[64])++qc x.dot)++[61])++qa x.text
theorem bk_item (x:GF):x.bk=x.text.length+8:=by
 unfold GF.bk GC.bk GI.bk;omega
theorem bk_dot (x:GC):x.bk=5:=rfl
theorem itemT_len (h:GF.wf x):(yG x).length+1<=20 * x.bk:=by
 have:=xr h.2.1;have:=wz x.text;rw [bk_item];simp only [yG,ue,uc,ug];omega
theorem tombT_len (h:GC.wf d):(xQ d).length+1<=20 * d.bk:=by
 have:=xr h;rw [bk_dot];simp only [xQ,ue,uc,ug];omega
theorem logT_len (h:GF.wf x):(qq x).length+1<=20 * x.bk:=by
 have:=xr h.2.1;have:=xb (qJ h.1);have:=wz x.text;rw [bk_item];simp only [qq,ue,uc,ug];omega
theorem lens_map {α:Type} {f:α->zd} {b:α->Nat} {c:Nat}:∀(L:List α),(∀x ∈ L,(f x).length+1<=c * b x)->Lib.lens (L.map f)+L.length<=c * (L.map b).sum
 | [],_=>by simp [Lib.lens]
 | x::r,h=>by
  have g:=h x (by simp);have e:=lens_map (f:=f) r λy a=>h y (by simp [a]);simp only [Lib.lens,ux,tM,uc,pB] at e ⊢;omega
theorem mem_bk {α:Type} {b:α->Nat} {x:α} {L:List α} (h:x ∈ L):b x<=(L.map b).sum:=sum_mem h
theorem len_bk {α:Type} {b:α->Nat} (a:∀x,1<=b x):∀L:List α,L.length<=(L.map b).sum
 | []=>by simp
 | x::r=>by have:=len_bk a r;have:=a x;simp only [uc,ux,tM];omega
theorem bk_leaf (l:GE):l.bk=l.text.length+(l.items.map GF.bk).sum+(l.tombs.map GC.bk).sum+12:=by
 have:=bk_dot l.dot;unfold GE.bk;omega
def zI (l:GE):List zd :=
 if l.typ=1 then [Lib.itoa l.n]
 else if l.typ=2 then (if l.time=0 then [[45]] else [yP l.time,qc l.dot,qa l.text])
 else if l.typ=3 then l.items.map yG++l.tombs.map xQ
 else l.items.map qq
theorem parts_is (h:GE.wf l) (H:l.bk<=1073741824) (A:l.typ=1 \/ l.typ=2 \/ l.typ=3 \/ l.typ=4):callParts l.typ.toNat l=some (zI l)/\Lib.lens (zI l)+(zI l).length<=40 * l.bk:=by
 obtain ⟨F,E,z,u,M,⟨I,j⟩,L,q⟩:=h;have C:=bk_leaf l;have K:maxLen=9223372036854775807:=rfl;have v:yH=2147483648:=rfl;have m:∀x ∈ l.items,x.text.length<=1073741824:=λx hx=>by
  have:=mem_bk (b:=GF.bk) hx;have:=bk_item x;omega
 have J:=len_bk (b:=GF.bk) (λx=>by rw [bk_item];omega) l.items;have lt:=len_bk (b:=GC.bk) (λx=>by rw [bk_dot];omega) l.tombs;rcases A with e | e | e | e
 ·have hi:=inI64 E;have a:zI l=[Lib.itoa l.n]:=by simp [zI,e]
  rw [a,e];refine ⟨?_,?_⟩
  ·show vu l=_;unfold vu qM fmtI;rw [um ⟨hi.1,hi.2,rfl⟩];rfl
  ·have:(Lib.itoa l.n).length<=21:=by
    unfold Lib.itoa;split
    ·have:=wQ l.n.natAbs (by omega);simp only [uc];omega
    ·have:=wQ l.n.toNat (by omega)
     omega
   simp only [Lib.lens,ux,tu,tM,List.sum_nil,uc,ug];omega
 ·have w:=qJ z;rw [e];by_cases h0:l.time=0
  ·have a:zI l=[[45]]:=by simp [zI,e,h0]
   rw [a];refine ⟨?_,by simp [Lib.lens];omega⟩;show xI l=_;unfold xI;simp [h0]
  ·have a:zI l=[yP l.time,qc l.dot,qa l.text]:=by simp [zI,e,h0]
   rw [a];have p:=xb w;have y:=xr u;have o:=wz l.text;refine ⟨?_,by simp [Lib.lens];omega⟩;show xI l=_;unfold xI;rw [ur (by simpa using h0),number_is w,dot_is u,hex_is (by omega)];rfl
 ·have a:zI l=l.items.map yG++l.tombs.map xQ:=by simp [zI,e]
  rw [a,e];refine ⟨?_,?_⟩
  ·show exportXset l=_;unfold exportXset;rw [loopL_push (g:=yG) l.items 0 [] λi x s hx hs=>?_]
   ·simp only [lp,uT];rw [loopL_push (g:=xQ) l.tombs 0 _ λi x s hx hs=>?_];have p:=xr (q x hx);simp only [uD] at hs;rw [dot_is (q x hx)];simp only [ua];rw [zi (by simp only [ue,uc,ug];omega),zi (by simp only [ue,uc,ug];omega)];rfl
   ·have p:=xr (j x hx).2.1;have y:=wz x.text;have o:=m x hx;simp only [ug] at hs;rw [dot_is (j x hx).2.1,hex_is o];simp only [ua];rw [zi (by simp only [ue,uc,ug];omega),zi (by simp only [ue,uc,ug];omega),zi (by simp only [ue,uc,ug];omega)];rfl
  ·have B:=lens_map (f:=yG) (b:=GF.bk) (c:=20) l.items λx hx=>itemT_len (j x hx);have G:=lens_map (f:=xQ) (b:=GC.bk) (c:=20) l.tombs λx hx=>tombT_len (q x hx);have D:Lib.lens (l.items.map yG++l.tombs.map xQ)=Lib.lens (l.items.map yG)+Lib.lens (l.tombs.map xQ):=by simp [Lib.lens]
   rw [D,ue,uD,uD];omega
 ·have a:zI l=l.items.map qq:=by simp [zI,e]
  rw [a,e];refine ⟨?_,?_⟩
  ·show exportXlog l=_;unfold exportXlog;rw [loopL_push (g:=qq) l.items 0 [] λi x s hx hs=>?_]
   ·rfl
   ·have k0:=xb (qJ (j x hx).1);have p:=xr (j x hx).2.1;have y:=wz x.text;have o:=m x hx;simp only [ug] at hs;rw [number_is (qJ (j x hx).1),dot_is (j x hx).2.1,hex_is o];simp only [ua];rw [zi (by simp only [ue,uc,ug];omega),zi (by simp only [ue,uc,ug];omega),zi (by simp only [ue,uc,ug];omega),zi (by simp only [ue,uc,ug];omega),zi (by simp only [ue,uc,ug];omega)];rfl
  ·have B:=lens_map (f:=qq) (b:=GF.bk) (c:=20) l.items λx hx=>logT_len (j x hx);rw [uD];omega

noncomputable def ym (r:GH):zd:=(zT r).getD []
theorem join_len (xs:List zd) (sep:zd):(Lib.join xs sep).length<=Lib.lens xs+xs.length * sep.length:=by
 cases xs with
 | nil=>simp [Lib.join_nil]
 | cons x r =>
  rw [Lib.join_cons,ue,Lib.joinTail_length];simp only [Lib.lens,ux,tM,uc,th,Nat.mul_comm sep.length];omega
theorem join_is {xs:List zd} {sep:zd} (a:xs.length<=140737488355328) (h:Lib.lens xs+xs.length * sep.length<=140737488355328):wj xs sep=some (Lib.join xs sep):=by
 unfold wj strJoin;rw [um ⟨a,uE (join_len xs sep) h⟩]
theorem lens_le {c:Nat}:∀(xs:List zd),(∀x ∈ xs,x.length<=c)->Lib.lens xs<=c * xs.length
 | [],_=>by simp [Lib.lens]
 | x::r,h=>by
  have e:=h x (by simp);have b:=lens_le r λy a=>h y (by simp [a]);simp only [Lib.lens,ux,tM,uc,pB] at b ⊢;omega
theorem leafB_typ (h:leafB l=true):l.typ=1 \/ l.typ=2 \/ l.typ=3 \/ l.typ=4:=by
 unfold leafB at h;split at h
 ·simp_all
 ·split at h
  ·simp_all
  ·split at h
   ·simp_all
   ·split at h
    ·simp_all
    ·cases h
def xU (n:Int):zd:=if n=1 then [99,111,117,110,116,101,114] else if n=2 then [114,101,103,105,115,116,101,114] else if n=3 then [115,101,116] else [108,111,103]
theorem parts_len (l:GE):(zI l).length<=l.items.length+l.tombs.length+3:=by
 unfold zI
 repeat' split
 all_goals simp
 all_goals omega
theorem line_is (i:GE.wf r.leaf) (v:r.leaf.bk<=1073741824) :
  zT r=some (if xA r.path=true/\leafB r.leaf=true then Lib.join ([Lib.join r.path [47],xU r.leaf.typ]++zI r.leaf) [32] else []) /\
   (ym r).length+1<=60 * r.leaf.bk:=by
 have C:=bk_leaf r.leaf;have K:maxLen=9223372036854775807:=rfl;have p:yH=2147483648:=rfl;have key:zT r=some (if xA r.path=true/\leafB r.leaf=true then Lib.join ([Lib.join r.path [47],xU r.leaf.typ]++zI r.leaf) [32] else [])/\((if xA r.path=true/\leafB r.leaf=true then Lib.join ([Lib.join r.path [47],xU r.leaf.typ]++zI r.leaf) [32] else []):zd).length+1<=60 * r.leaf.bk:=by
  unfold zT;rw [opMayPath_is];simp only [ua];cases hp:xA r.path with
  | false=>simp;omega
  | true =>
   have w:=i.2.2.2.2.2.1.1;have D:=i.2.2.2.2.2.2.1;simp only [tq,tG,ut,leafMay_is w D,ua,tD];cases hl:leafB r.leaf with
   | false=>simp;omega
   | true =>
    have m:=leafB_typ hl;obtain ⟨B,I⟩:=parts_is i v m;have H:=parts_len r.leaf;have J:=len_bk (b:=GF.bk) (λx=>by rw [bk_item];omega) r.leaf.items;have lt:=len_bk (b:=GC.bk) (λx=>by rw [bk_dot];omega) r.leaf.tombs;have f:r.path.length<=3/\∀s ∈ r.path,s.length<=12:=by
     unfold xA at hp;simp only [uf,uh,uu] at hp;refine ⟨hp.1.2,λs hs=>?_⟩;have:=hp.2 s hs;unfold nameB at this;simp only [uf,uh] at this;exact this.1.2
    have F:=lens_le r.path f.2;have E:=join_len r.path [47];simp only [uc,ug] at E;have u:wj r.path [47]=some (Lib.join r.path [47]):=join_is (by omega) (by simp;omega);have z:(xU r.leaf.typ).length<=8:=by
     unfold xU
     repeat' split
     all_goals simp
    have g:Lib.lens ([Lib.join r.path [47],xU r.leaf.typ]++zI r.leaf)=(Lib.join r.path [47]).length+(xU r.leaf.typ).length+Lib.lens (zI r.leaf):=by
     simp [Lib.lens];omega
    have G:wj ([Lib.join r.path [47],xU r.leaf.typ]++zI r.leaf) [32]=some (Lib.join ([Lib.join r.path [47],xU r.leaf.typ]++zI r.leaf) [32]):=by
     refine join_is ?_ ?_
     ·simp only [ue,uc,ug];omega
     ·rw [g];simp only [ue,uc,ug];omega
    have h:=join_len ([Lib.join r.path [47],xU r.leaf.typ]++zI r.leaf) [32];rw [g] at h;simp only [ue,uc,ug] at h;refine ⟨?_,by simp only [s8,ut];omega⟩;simp only [tq,up,uJ,s8,ut];unfold exportXkinds;simp only [ua];have a:∀y:GK,y.parts=r.leaf.typ.toNat->y.word=xU r.leaf.typ->((wj r.path [47]).bind λj=>(callParts y.parts r.leaf).bind λo=>zN (([j,y.word]:List zd).length+o.length<=yH) ((wj (([j,y.word]:List zd)++o) [32]).bind λv9=>some v9))=some (Lib.join ([Lib.join r.path [47],xU r.leaf.typ]++zI r.leaf) [32]):=by
     intro y A q;rw [u,A,B,q];simp only [ua];rw [zi (by simp only [uc,ug];omega),G];rfl
    rcases m with e | e | e | e
    ·rw [e] at a ⊢;exact a _ rfl rfl
    ·rw [e] at a ⊢;exact a _ rfl rfl
    ·rw [e] at a ⊢;exact a _ rfl rfl
    ·rw [e] at a ⊢;exact a _ rfl rfl
 refine ⟨key.1,?_⟩;unfold ym;rw [key.1];exact key.2
theorem rows_sum:∀(t:List GA) (a:List zd),(GA.wfs t->∀r ∈ zu a t,GE.wf r.leaf)/\((zu a t).map λr=>r.leaf.bk).sum<=GA.bks t:=by
 refine wS (λa=>⟨λ_ r h=>by simp [zu] at h,by simp [zu,GA.bks]⟩) ?_;intro x r hx h a;have j:=hx (a++[x.name]);have i:=h a;have e:zu a (x::r)=(x.leaves.map (λl=>GH.mk (a++[x.name]) l)++zu (a++[x.name]) x.subs)++zu a r:=by
  simp only [zu];rw [yS]
 rw [e];refine ⟨λg q f=>?_,?_⟩
 ·simp only [GA.wfs] at g;have b:=g.1;rw [uA,uA] at f;rcases f with (f | f) | f
  ·obtain ⟨l,o,rfl⟩:=tm.1 f;cases x;simp only [GA.wf] at b;exact b.2.1.2 l o
  ·refine j.1 ?_ q f;cases x;simp only [GA.wf] at b;exact b.2.2
  ·exact i.1 g.2 q f
 ·have p:=bk_node x;simp only [sj,List.sum_append,rF,GA.bks];have m:(x.leaves.map ((λr:GH=>r.leaf.bk) ∘ λl=>GH.mk (a++[x.name]) l)).sum=(x.leaves.map GE.bk).sum:=rfl;rw [m];have:=j.2;have:=i.2;omega
def RowsFine (R:List GH):Prop:=(∀r ∈ R,GE.wf r.leaf)/\(R.map λr=>r.leaf.bk).sum<=16777216
theorem rows_fine {t:List GA} (h:Small t):RowsFine (zu [] t):=⟨(rows_sum t []).1 h.1,uE (rows_sum t []).2 h.2⟩
theorem RowsFine.filter {R:List GH} (h:RowsFine R) (q:GH->Bool):RowsFine (R.filter q):=by
 refine ⟨λr a=>h.1 r (tj.1 a).1,uE ?_ h.2⟩;have:∀L:List GH,((L.filter q).map λr=>r.leaf.bk).sum<=(L.map λr=>r.leaf.bk).sum:=by
  intro L
  induction L with
  | nil=>simp
  | cons x r ih =>
   simp only [sN];split
   ·simp only [ux,tM];omega
   ·simp only [ux,tM];omega
 exact this R
theorem RowsFine.line {R:List GH} (h:RowsFine R) {r:GH} (a:r ∈ R):zT r=some (ym r)/\(ym r).length+1<=60 * r.leaf.bk:=by
 have g:r.leaf.bk<=16777216:=uE (mem_bk (b:=λr:GH=>r.leaf.bk) a) h.2;obtain ⟨f,e⟩:=line_is (h.1 r a) (by omega);refine ⟨?_,e⟩;unfold ym;rw [f];rfl
theorem lines_len:∀(R:List GH),(∀r ∈ R,(ym r).length+1<=60 * r.leaf.bk)->(yU ym R).length<=60 * (R.map λr=>r.leaf.bk).sum
 | [],_=>by simp [yU]
 | x::r,h=>by
  have e:=h x (by simp);have b:=lines_len r λy a=>h y (by simp [a]);simp only [yU,tx,ue,uc,ug,ux,tM,pB] at b ⊢;omega
theorem RowsFine.len {R:List GH} (h:RowsFine R):(yU ym R).length<=1006632960:=by
 have:=lines_len R λr a=>(h.line a).2;have:=h.2;omega
theorem text_is {t:List GA} (h:Small t) (b:treeB 0 t=true):exportText t=some (yU ym (zu [] t)):=by
 have a:=rows_fine h;unfold exportText;rw [pathsRows_is h,um b,ua];unfold linesO;have e:=a.len;rw [um ⟨λx hx=>by rw [(a.line hx).1];rfl,by show (yU ym _).length<=_;omega⟩];rfl
theorem lines_app (L M:List GH):yU ym (L++M)=yU ym L++yU ym M:=by simp [yU]

theorem numT_small (h0:0<=n) (h:n < 10):yP n=[UInt8.ofNat (48+n.toNat)]:=by
 unfold yP;rw [Lib.decDigits,rW (by omega)]
theorem known44:qn=some true:=by
 have b:zT (GH.mk ([([97]:zd),([98]:zd)]:List zd) (GE.mk (1:Int) (-5:Int) (0:Int) (GC.mk (GI.mk (0:Int) (0:Int)) (0:Int)) ([]:zd) ([]:List GF) ([]:List GC)))=some ([97,47,98,32,99,111,117,110,116,101,114,32,45,53]:zd):=by
  rw [(line_is (by simp [GE.wf,GC.wf,GI.wf,InK,IntKind.min,IntKind.max,IntKind.signed,IntKind.bits]) (by simp [GE.bk,GC.bk,GI.bk])).1];rw [um ⟨by decide,by decide⟩];have e:zI (GE.mk (1:Int) (-5:Int) (0:Int) (GC.mk (GI.mk (0:Int) (0:Int)) (0:Int)) ([]:zd) ([]:List GF) ([]:List GC))=[[45,53]]:=by
   have a:Lib.decDigits 5=[53]:=by rw [Lib.decDigits,rW (by omega)];rfl
   simp only [zI,ut,Lib.itoa];rw [um (by omega)];show [45::Lib.decDigits 5]=_;rw [a]
  rw [e];rfl
 have a2:zT (GH.mk ([([97]:zd)]:List zd) (GE.mk (3:Int) (0:Int) (0:Int) (GC.mk (GI.mk (0:Int) (0:Int)) (0:Int)) ([]:zd) ([(GF.mk (0:Int) (GC.mk (GI.mk (0:Int) (1:Int)) 2) ([117]:zd))]:List GF) ([GC.mk (GI.mk (0:Int) (1:Int)) 1]:List GC)))=some ([97,32,115,101,116,32,48,46,49,46,50,61,55,53,32,33,48,46,49,46,49]:zd):=by
  rw [(line_is (by simp [GE.wf,GF.wf,GC.wf,GI.wf,InK,IntKind.min,IntKind.max,IntKind.signed,IntKind.bits,maxLen]) (by simp [GE.bk,GF.bk,GC.bk,GI.bk])).1];rw [um ⟨by decide,by decide⟩];have e:zI (GE.mk (3:Int) (0:Int) (0:Int) (GC.mk (GI.mk (0:Int) (0:Int)) (0:Int)) ([]:zd) ([(GF.mk (0:Int) (GC.mk (GI.mk (0:Int) (1:Int)) 2) ([117]:zd))]:List GF) ([GC.mk (GI.mk (0:Int) (1:Int)) 1]:List GC))=[[48,46,49,46,50,61,55,53],[33,48,46,49,46,49]]:=by
   simp only [zI,yG,xQ,qc,ux,tu];rw [numT_small (n:=0) (by omega) (by omega),numT_small (n:=1) (by omega) (by omega),numT_small (n:=2) (by omega) (by omega)];rfl
  rw [e];rfl
 unfold qn vT;rw [b];simp only [ua];rw [a2];rfl
end
section
def xj (c:UInt8):zd->List zd
 | []=>[[]]
 | x::r=>if x=c then []::xj c r else (x::(xj c r).headD [])::(xj c r).tail
theorem cutL_ne (c:UInt8) (s:zd):xj c s=(xj c s).headD []::(xj c s).tail:=by
 cases s with
 | nil=>rfl
 | cons x r=>unfold xj;split <;> rfl
theorem cutL_one {c:UInt8}:∀{a:zd},c ∉ a->xj c a=[a]
 | [],_=>rfl
 | x::r,h=>by
  simp only [uv,sU] at h;unfold xj;rw [ur λe=>h.1 e.symm,cutL_one h.2];rfl
theorem cutL_app {c:UInt8}:∀{a:zd} (b:zd),c ∉ a->xj c (a++c::b)=a::xj c b
 | [],b,_=>by show xj c (c::b)=_;rw [xj,um rfl]
 | x::r,b,h=>by
  simp only [uv,sU] at h;show xj c (x::(r++c::b))=_;rw [xj,ur λe=>h.1 e.symm,cutL_app b h.2];rfl
theorem join_two (x y:zd) (r:List zd) (c:UInt8):Lib.join (x::y::r) [c]=x++c::Lib.join (y::r) [c]:=by
 rw [Lib.join_cons,Lib.join_cons];simp [Lib.joinTail]
theorem cutL_join {c:UInt8}:∀{xs:List zd},xs ≠ []->(∀x ∈ xs,c ∉ x)->xj c (Lib.join xs [c])=xs
 | [],h,_=>absurd rfl h
 | [x],_,h=>by rw [Lib.join_one];exact cutL_one (h x (by simp))
 | x::y::r,_,h=>by
  rw [join_two,cutL_app _ (h x (by simp)),cutL_join (by simp) λz a=>h z (by simp [a])]
theorem join_cutL (c:UInt8):∀s:zd,Lib.join (xj c s) [c]=s
 | []=>rfl
 | x::r=>by
  have a:=join_cutL c r;unfold xj;rw [cutL_ne] at a;split
  ·rename_i e;subst e;rw [cutL_ne,join_two,a];rfl
  ·rw [Lib.join_cons] at a ⊢;rw [tc,a]
theorem cutL_len (c:UInt8):∀s:zd,(xj c s).length<=s.length+1
 | []=>by simp [xj]
 | x::r=>by
  have a:=cutL_len c r;have:=congrArg List.length (cutL_ne c r);unfold xj;split
  ·simp only [uc];omega
  ·simp only [uc] at this ⊢;omega
theorem vz (c:UInt8):∀(s p:zd),p ∈ xj c s->p.length<=s.length/\c ∉ p
 | [],p,h=>by simp [xj] at h;subst h;simp
 | x::r,p,h=>by
  have a:=vz c r;have e:=cutL_ne c r;unfold xj at h;split at h
  ·rcases uv.1 h with rfl | h
   ·simp
   ·have:=a p h;simp only [uc];exact ⟨by omega,this.2⟩
  ·rename_i hx;rcases uv.1 h with rfl | h
   ·have:=a ((xj c r).headD []) (by rw [e];simp);simp only [uc,uv,sU];exact ⟨by omega,λe=>hx e.symm,this.2⟩
   ·have:=a p (by rw [e];simp [h]);simp only [uc];exact ⟨by omega,this.2⟩
theorem index_hd (c:UInt8) (r:zd):Lib.index (c::r) [c]=0:=by simp [Lib.index]
theorem index_tl {x:UInt8} (r:zd) (h:x ≠ c):Lib.index (x::r) [c]=if Lib.index r [c]==-1 then -1 else Lib.index r [c]+1:=by
 rw [Lib.index];rw [ur];simp [List.isPrefixOf];exact λe=>h e.symm
theorem split_is {s:zd} (h:s.length<=16777216):strSplit s [c]=some (xj c s):=by
 unfold strSplit;rw [um ⟨by omega,by simp⟩];unfold Lib.split;rw [Lib.count_one];congr 1;clear h
 induction s with
 | nil=>rfl
 | cons x r ih =>
  unfold xj;by_cases hx:x=c
  ·subst hx;rw [um rfl,List.count_cons_self,Lib.splitK,index_hd];simp [ih]
  ·rw [ur hx,List.count_cons_of_ne hx,<- ih];cases hk:r.count c with
   | zero=>rfl
   | succ k =>
    have hi:Lib.index r [c] ≠ -1:=λe=>by
     have:=Lib.count_miss e;rw [Lib.count_one] at this;omega
    have i:=Lib.index_ge r [c];obtain ⟨n,g⟩:∃n:Nat,Lib.index r [c]=n:=⟨(Lib.index r [c]).toNat,by omega⟩
    have a:((n:Int)==-1)=false:=by rw [sL];omega
    have f:((n:Int)+1==-1)=false:=by rw [sL];omega
    have b:((n:Int)+1).toNat=n+1:=by omega
    rw [Lib.splitK,Lib.splitK,index_tl r hx,g];simp [a,f,b]
theorem cut_none {s:zd} (h:c ∉ s):Lib.index s [c]=-1:=by
 induction s with
 | nil=>rfl
 | cons x r ih =>
  simp only [uv,sU] at h;rw [index_tl r λe=>h.1 e.symm,ih h.2];rfl
theorem cut_hit {a b:zd} (h:c ∉ a):Lib.index (a++c::b) [c]=a.length:=by
 induction a with
 | nil=>exact index_hd c b
 | cons x r ih =>
  simp only [uv,sU] at h;rw [tc,index_tl _ λe=>h.1 e.symm,ih h.2];have f:((r.length:Int)==-1)=false:=by rw [sL];omega
  simp [f]
theorem cutT_none {s:zd} (h:c ∉ s):Lib.cut s [c]=(s,[],false):=by
 unfold Lib.cut;rw [cut_none h,ur (by omega)]
theorem cutT_hit {a b:zd} (h:c ∉ a):Lib.cut (a++c::b) [c]=(a,b,true):=by
 unfold Lib.cut;rw [cut_hit h,um (by omega)];simp
theorem cut_cases (s:zd) (c:UInt8):c ∉ s \/ ∃a b,s=a++c::b/\c ∉ a:=by
 induction s with
 | nil=>simp
 | cons x r ih =>
  by_cases hx:x=c
  ·exact .inr ⟨[],r,by simp [hx],by simp⟩
  ·rcases ih with h | ⟨a,b,e,h⟩
   ·exact .inl (by simp only [uv,sU];exact ⟨λe=>hx e.symm,h⟩)
   ·exact .inr ⟨x::a,b,by rw [e];rfl,by simp only [uv,sU];exact ⟨λe=>hx e.symm,h⟩⟩
theorem strCut_is {s:zd} (h:s.length<=16777216):strCut s [c]=some (Lib.cut s [c]):=by
 unfold strCut;rw [um (by omega)]
theorem cut_lens (s:zd) (c:UInt8):(Lib.cut s [c]).1.length<=s.length/\(Lib.cut s [c]).2.1.length<=s.length:=by
 rcases cut_cases s c with h | ⟨a,b,rfl,h⟩
 ·rw [cutT_none h];simp
 ·rw [cutT_hit h];simp;omega
theorem xcut_loop {s:zd} (hs:s.length<=16777216) {c:UInt8} {f:Nat->UInt8->(List zd)×Int->Option (Out (List zd) ((List zd)×Int))} (q:∀w y g,f w y g=(if ((y.toNat:Int)==(c.toNat:Int))=true then ((slc s g.2 (w:Int)).bind λi=>(zN ((g.1).length+(([i]:List zd)).length<=yH) (some (.nxt ((g.1++([i]:List zd)),(IntKind.wrap .i64 ((w:Int)+(1:Int)))))))) else some (.nxt (g.1,g.2)))) :
  ∀(r pre cur:zd) (b:List zd),s=pre++cur++r->b.length<=pre.length->∃a:List zd,∃j:Nat,zn f r (pre.length+cur.length) (b,(pre.length:Int))=some (.inr (a,(j:Int)))/\j<=s.length/\a.length<=s.length/\a++[s.drop j]=b++((cur++(xj c r).headD [])::(xj c r).tail)
 | [],pre,cur,b,e,ha=>by
  refine ⟨b,pre.length,rfl,by rw [e];simp;try omega,by rw [e];simp;try omega,?_⟩;rw [e];simp [xj]
 | x::r,pre,cur,b,e,ha=>by
  have B:yH=2147483648:=rfl;have A:=congrArg List.length e;simp only [ue,uc] at A;simp only [zn];rw [q];by_cases hx:x=c
  ·subst hx;rw [um (by simp),x9 (by omega)];simp only [ua];rw [zi (by simp only [uc,ug];omega),wrap_add1 (by unfold maxLen;omega)];have z:(s.take ((pre.length+cur.length:Nat):Int).toNat).drop ((pre.length:Int)).toNat=cur:=by
    rw [e];simp only [uz];rw [uB,tF];simp
   rw [z];have v:=xcut_loop hs q r (pre++cur++[x]) [] (b++[cur]) (by rw [e];simp) (by simp;omega);obtain ⟨a,j,m,o,u,p⟩:=v;refine ⟨a,j,?_,o,u,?_⟩
   ·simp only [ue,uc,ug,tA] at m;exact m
   ·rw [p,xj,um rfl,uT,<- cutL_ne];simp
  ·rw [ur (by simp only [sf];intro h;exact hx (rT.1 (by omega)))];have v:=xcut_loop hs q r pre (cur++[x]) b (by rw [e];simp) ha;obtain ⟨a,j,m,o,u,p⟩:=v;refine ⟨a,j,?_,o,u,?_⟩
   ·simpa [sd] using m
   ·rw [p,xj,ur hx];simp
theorem xcut_is {s:zd} (hs:s.length<=16777216) (c:UInt8):xS s (c.toNat:Int)=some (xj c s):=by
 unfold xS;have f:yH=2147483648:=rfl;obtain ⟨e,j,a,g,o,b⟩:=xcut_loop hs (c:=c) (λh i m=>rfl) s [] [] [] (by simp) (by simp);simp only [ug,tA] at a;show lp (zn _ s 0 ([],((0:Nat):Int))) _=_;rw [a];simp only [lp];rw [x9 (by omega)];simp only [ua];rw [zi (by simp only [uc,ug];omega)];simp only [uz,tL,b,uT,<- cutL_ne]
end
section
noncomputable def dotE (x:zd) (r0 i0 d0:Int):Option (Bool×Int×Int×Int) :=
 ((yh x ([46]:zd)).bind λv1=>(zN (((((v1).length:Int) != (3:Int))==false)=true->0<=(0:Int)/\(0:Int) < ((v1).length:Int)) (((if ((((v1).length:Int) != (3:Int))==false)=true then ((zx ((v1).getD (0:Int).toNat default) (10:Int) (64:Int)).bind λv2=>some (v2.2,v2.1)) else some (default,(0:Int)):Option (Bool×Int)).bind λv3=>(zN ((((((v1).length:Int) != (3:Int)) || (!v3.1))==false)=true->0<=(1:Int)/\(1:Int) < ((v1).length:Int)) (((if (((((v1).length:Int) != (3:Int)) || (!v3.1))==false)=true then ((zx ((v1).getD (1:Int).toNat default) (10:Int) (64:Int)).bind λv4=>some (v4.2,v4.1)) else some (default,(0:Int)):Option (Bool×Int)).bind λv5=>(zN (((((((v1).length:Int) != (3:Int)) || (!v3.1)) || (!v5.1))==false)=true->0<=(2:Int)/\(2:Int) < ((v1).length:Int)) (((if ((((((v1).length:Int) != (3:Int)) || (!v3.1)) || (!v5.1))==false)=true then ((zx ((v1).getD (2:Int).toNat default) (10:Int) (64:Int)).bind λv6=>some (v6.2,v6.1)) else some (default,d0):Option (Bool×Int)).bind λv7=>(if ((((((((v1).length:Int) != (3:Int)) || (!v3.1)) || (!v5.1)) || (!v7.1)) || (decide (v3.2 >= (16:Int)))) || (decide (v5.2 > (4:Int))))=true then some (false,r0,i0,v7.2) else some (true,(IntKind.wrap .u8 (v3.2)),(IntKind.wrap .u32 (v5.2)),v7.2))))))))))))
noncomputable def hexE (x d:zd):Option (Bool×zd) :=
 (if (x==([45]:zd))=true then some (true,([]:zd)) else (lp (zX (λ(s2:(List UInt8)×Int)=>((if (decide ((IntKind.wrap .i64 (s2.2+(1:Int))) < ((x).length:Int)))=true then ((slc x s2.2 (IntKind.wrap .i64 (s2.2+(2:Int)))).bind λm1=>((zx m1 (16:Int) (8:Int)).bind λv2=>(if (!v2.2)=true then some (.ret (false,d)) else (zN (0<=(IntKind.wrap .u8 (v2.1))/\(IntKind.wrap .u8 (v2.1)) < 256) ((zN ((s2.1).length+(([(UInt8.ofNat (IntKind.wrap .u8 (v2.1)).toNat)]:List UInt8)).length<=yH) (some (.nxt ((s2.1++([(UInt8.ofNat (IntKind.wrap .u8 (v2.1)).toNat)]:List UInt8)),(IntKind.wrap .i64 (s2.2+(2:Int)))))))))))) else some (.brk (s2.1,s2.2))):Option (Out _ ((List UInt8)×Int)))) (([]:List UInt8),(0:Int))) λ(s2:(List UInt8)×Int)=>(zN ((s2.1).length<=maxLen) (some ((decide (((x).length:Int) > (0:Int))),s2.1)))))
noncomputable def itemE (x:zd):Option (Bool×Int×Int×Int×zd) :=
 ((xF x ([61]:zd)).bind λv1=>((if (v1.2.2==true)=true then (dotE v1.1 0 0 0) else some (default,(0:Int),(0:Int),(0:Int)):Option (Bool×Int×Int×Int)).bind λv2=>((if ((v1.2.2&&v2.1)==true)=true then (hexE v1.2.1 []) else some (default,([]:zd)):Option (Bool×zd)).bind λv3=>some (((v1.2.2&&v2.1)&&v3.1),v2.2.1,v2.2.2.1,v2.2.2.2,v3.2))))
noncomputable def tombE (x:zd) (t:List GC) (y:GC):Option (Bool×List GC) :=
 ((yh x ([46]:zd)).bind λv1=>(zN (((((v1).length:Int) != (3:Int))==false)=true->0<=(0:Int)/\(0:Int) < ((v1).length:Int)) (((if ((((v1).length:Int) != (3:Int))==false)=true then ((zx ((v1).getD (0:Int).toNat default) (10:Int) (64:Int)).bind λv2=>some (v2.2,v2.1)) else some (default,(0:Int)):Option (Bool×Int)).bind λv3=>(zN ((((((v1).length:Int) != (3:Int)) || (!v3.1))==false)=true->0<=(1:Int)/\(1:Int) < ((v1).length:Int)) (((if (((((v1).length:Int) != (3:Int)) || (!v3.1))==false)=true then ((zx ((v1).getD (1:Int).toNat default) (10:Int) (64:Int)).bind λv4=>some (v4.2,v4.1)) else some (default,(0:Int)):Option (Bool×Int)).bind λv5=>(zN (((((((v1).length:Int) != (3:Int)) || (!v3.1)) || (!v5.1))==false)=true->0<=(2:Int)/\(2:Int) < ((v1).length:Int)) (((if ((((((v1).length:Int) != (3:Int)) || (!v3.1)) || (!v5.1))==false)=true then ((zx ((v1).getD (2:Int).toNat default) (10:Int) (64:Int)).bind λv6=>some (v6.2,((t++([(GC.mk (GI.mk (0:Int) (0:Int)) (0:Int))]:List GC)).set (IntKind.wrap .i64 (((((t++([(GC.mk (GI.mk (0:Int) (0:Int)) (0:Int))]:List GC))).length:Nat):Int) - (1:Int))).toNat (GC.mk y.actor v6.1)))) else some (default,(t++([(GC.mk (GI.mk (0:Int) (0:Int)) (0:Int))]:List GC))):Option (Bool×(List GC))).bind λv7=>(zN ((v7.2).length=((t++([(GC.mk (GI.mk (0:Int) (0:Int)) (0:Int))]:List GC))).length) (if ((((((((v1).length:Int) != (3:Int)) || (!v3.1)) || (!v5.1)) || (!v7.1)) || (decide (v3.2 >= (16:Int)))) || (decide (v5.2 > (4:Int))))=true then some (false,v7.2) else ((yx v7.2 (IntKind.wrap .i64 (((((t++([(GC.mk (GI.mk (0:Int) (0:Int)) (0:Int))]:List GC))).length:Nat):Int) - (1:Int)))).bind λy8=>((yx (v7.2.set (IntKind.wrap .i64 (((((t++([(GC.mk (GI.mk (0:Int) (0:Int)) (0:Int))]:List GC))).length:Nat):Int) - (1:Int))).toNat (GC.mk (GI.mk (IntKind.wrap .u8 (v3.2)) y8.actor.inc) y8.seq)) (IntKind.wrap .i64 (((((t++([(GC.mk (GI.mk (0:Int) (0:Int)) (0:Int))]:List GC))).length:Nat):Int) - (1:Int)))).bind λy9=>some (true,((v7.2.set (IntKind.wrap .i64 (((((t++([(GC.mk (GI.mk (0:Int) (0:Int)) (0:Int))]:List GC))).length:Nat):Int) - (1:Int))).toNat (GC.mk (GI.mk (IntKind.wrap .u8 (v3.2)) y8.actor.inc) y8.seq)).set (IntKind.wrap .i64 (((((t++([(GC.mk (GI.mk (0:Int) (0:Int)) (0:Int))]:List GC))).length:Nat):Int) - (1:Int))).toNat (GC.mk (GI.mk y9.actor.rep (IntKind.wrap .u32 (v5.2))) y9.seq)))))))))))))))))
noncomputable def rdF1 (v67:List zd):Nat->zd->(Int)->Option (Out (GH×Bool) (Int)) :=
 (λ(n1:Nat) (x1:zd) (s1:Int)=>(((((wT x1 (10:Int) (64:Int)).bind λv1=>some ((((n1:Int)==(0:Int))&&v1.2),v1.1)):Option (Bool×Int)).bind λv2=>(if (!v2.1)=true then some (.ret ((GH.mk v67 (GE.mk (IntKind.wrap .u8 ((IntKind.wrap .i64 ((0:Int)+(1:Int))))) v2.2 (0:Int) (GC.mk (GI.mk (0:Int) (0:Int)) (0:Int)) ([]:zd) ([]:List GF) ([]:List GC))),false)) else some (.nxt v2.2))):Option (Out _ Int)))
noncomputable def rdF2 (v67:List zd):Nat->zd->(Int×Int×Int×Int×zd)->Option (Out (GH×Bool) (Int×Int×Int×Int×zd)) :=
 (λ(n1:Nat) (x1:zd) (s1:Int×Int×Int×Int×zd)=>((((if (((n1:Int)==(0:Int))&&(x1==([45]:zd)))=true then some (true,s1.1,s1.2.1,s1.2.2.1,s1.2.2.2.1,s1.2.2.2.2) else (if ((n1:Int)==(0:Int))=true then ((((zx x1 (10:Int) (64:Int)).bind λv1=>some (v1.2,v1.1)):Option (Bool×Int)).bind λv2=>some (v2.1,v2.2,s1.2.1,s1.2.2.1,s1.2.2.2.1,s1.2.2.2.2)) else (if ((n1:Int)==(1:Int))=true then (((dotE x1 s1.2.1 s1.2.2.1 s1.2.2.2.1):Option (Bool×Int×Int×Int)).bind λv3=>some (v3.1,s1.1,v3.2.1,v3.2.2.1,v3.2.2.2,s1.2.2.2.2)) else ((if (((n1:Int)==(2:Int))==true)=true then (hexE x1 s1.2.2.2.2) else some (default,s1.2.2.2.2):Option (Bool×zd)).bind λv4=>some ((((n1:Int)==(2:Int))&&v4.1),s1.1,s1.2.1,s1.2.2.1,s1.2.2.2.1,v4.2))))):Option (Bool×Int×Int×Int×Int×zd)).bind λv5=>(if (!v5.1)=true then some (.ret ((GH.mk v67 (GE.mk (IntKind.wrap .u8 ((IntKind.wrap .i64 ((1:Int)+(1:Int))))) (0:Int) v5.2.1 (GC.mk (GI.mk v5.2.2.1 v5.2.2.2.1) v5.2.2.2.2.1) v5.2.2.2.2.2 ([]:List GF) ([]:List GC))),false)) else some (.nxt (v5.2.1,v5.2.2.1,v5.2.2.2.1,v5.2.2.2.2.1,v5.2.2.2.2.2)))):Option (Out _ (Int×Int×Int×Int×zd))))
noncomputable def rdF3 (v67:List zd):Nat->zd->(List GF×List GC)->Option (Out (GH×Bool) (List GF×List GC)) :=
 (λ(n1:Nat) (x1:zd) (s1:(List GF)×(List GC))=>(((((xR x1 ([33]:zd)).bind λv1=>(if v1.2=true then (zN ((s1.2).length+(([(GC.mk (GI.mk (0:Int) (0:Int)) (0:Int))]:List GC)).length<=yH) (((yx (s1.2++([(GC.mk (GI.mk (0:Int) (0:Int)) (0:Int))]:List GC)) (IntKind.wrap .i64 (((((s1.2++([(GC.mk (GI.mk (0:Int) (0:Int)) (0:Int))]:List GC))).length:Nat):Int) - (1:Int)))).bind λy2=>(((tombE v1.1 s1.2 y2):Option (Bool×(List GC))).bind λv3=>(zN ((v3.2).length=((s1.2++([(GC.mk (GI.mk (0:Int) (0:Int)) (0:Int))]:List GC))).length) (some (v3.1,s1.1,v3.2))))))) else (((itemE x1):Option (Bool×Int×Int×Int×zd)).bind λv4=>(zN ((s1.1).length+(([(GF.mk (0:Int) (GC.mk (GI.mk v4.2.1 v4.2.2.1) v4.2.2.2.1) v4.2.2.2.2)]:List GF)).length<=yH) (some (v4.1,(s1.1++([(GF.mk (0:Int) (GC.mk (GI.mk v4.2.1 v4.2.2.1) v4.2.2.2.1) v4.2.2.2.2)]:List GF)),s1.2)))))):Option (Bool×(List GF)×(List GC))).bind λv5=>(if (!v5.1)=true then some (.ret ((GH.mk v67 (GE.mk (IntKind.wrap .u8 ((IntKind.wrap .i64 ((2:Int)+(1:Int))))) (0:Int) (0:Int) (GC.mk (GI.mk (0:Int) (0:Int)) (0:Int)) ([]:zd) v5.2.1 v5.2.2)),false)) else some (.nxt (v5.2.1,v5.2.2)))):Option (Out _ ((List GF)×(List GC)))))
noncomputable def rdF4 (v67:List zd):Nat->zd->((List GF))->Option (Out (GH×Bool) ((List GF))) :=
 (λ(n1:Nat) (x1:zd) (s1:(List GF))=>(((((xF x1 ([64]:zd)).bind λv1=>((if (v1.2.2==true)=true then ((zx v1.1 (10:Int) (64:Int)).bind λv2=>some (v2.2,v2.1)) else some (default,(0:Int)):Option (Bool×Int)).bind λv3=>((if ((v1.2.2&&v3.1)==true)=true then (itemE v1.2.1) else some (default,(0:Int),(0:Int),(0:Int),([]:zd)):Option (Bool×Int×Int×Int×zd)).bind λv4=>(zN ((s1).length+(([(GF.mk v3.2 (GC.mk (GI.mk v4.2.1 v4.2.2.1) v4.2.2.2.1) v4.2.2.2.2)]:List GF)).length<=yH) (some (((v1.2.2&&v3.1)&&v4.1),(s1++([(GF.mk v3.2 (GC.mk (GI.mk v4.2.1 v4.2.2.1) v4.2.2.2.1) v4.2.2.2.2)]:List GF)))))))):Option (Bool×(List GF))).bind λv5=>(if (!v5.1)=true then some (.ret ((GH.mk v67 (GE.mk (IntKind.wrap .u8 ((IntKind.wrap .i64 ((3:Int)+(1:Int))))) (0:Int) (0:Int) (GC.mk (GI.mk (0:Int) (0:Int)) (0:Int)) ([]:zd) v5.2 ([]:List GC))),false)) else some (.nxt v5.2))):Option (Out _ (List GF))))
noncomputable def wordE (v1:List zd):Option Int :=
 ((zN ((4:Int)<=9223372036854775807) (lp (zn (λ(n1:Nat) (x1:Nat) (s1:Unit)=>((if n1=0 then ((yj (GK.mk ([99,111,117,110,116,101,114]:zd) 1 1) v1).bind λv57=>(if v57=true then some (.ret ((0:Nat):Int)) else some (.nxt ()))) else (if n1=1 then ((yj (GK.mk ([114,101,103,105,115,116,101,114]:zd) 2 2) v1).bind λv59=>(if v59=true then some (.ret ((1:Nat):Int)) else some (.nxt ()))) else (if n1=2 then ((yj (GK.mk ([115,101,116]:zd) 3 3) v1).bind λv61=>(if v61=true then some (.ret ((2:Nat):Int)) else some (.nxt ()))) else ((yj (GK.mk ([108,111,103]:zd) 4 4) v1).bind λv63=>(if v63=true then some (.ret ((3:Nat):Int)) else some (.nxt ())))))):Option (Out _ Unit))) (List.range (((4:Int)).toNat)) 0 ()) λ(s1:Unit)=>some (-1:Int))):Option Int)
noncomputable def rlE (s0:zd):Option (GH×Bool) :=
  ((yh s0 ([32]:zd)).bind λv1=>(if (decide (((v1).length:Int) < (2:Int)))=true then some ((GH.mk ([]:List zd) zLf),false) else ((some ():Option Unit).bind λv4=>((wordE v1).bind λv5=>(if (decide (v5 < (0:Int)))=true then some ((GH.mk ([]:List zd) zLf),false) else ((yx v1 (0:Int)).bind λy66=>((yh y66 ([47]:zd)).bind λv67=>((slc v1 (2:Int) ((v1).length:Int)).bind λm68=>(if v5=0 then (lp (zn (rdF1 v67) m68 0 (0:Int)) λ(s1:Int)=>((zT (GH.mk v67 (GE.mk (IntKind.wrap .u8 ((IntKind.wrap .i64 ((0:Int)+(1:Int))))) s1 (0:Int) (GC.mk (GI.mk (0:Int) (0:Int)) (0:Int)) ([]:zd) ([]:List GF) ([]:List GC)))).bind λv98=>some ((GH.mk v67 (GE.mk (IntKind.wrap .u8 ((IntKind.wrap .i64 ((0:Int)+(1:Int))))) s1 (0:Int) (GC.mk (GI.mk (0:Int) (0:Int)) (0:Int)) ([]:zd) ([]:List GF) ([]:List GC))),(v98==s0)))) else (if v5=1 then (lp (zn (rdF2 v67) m68 0 ((0:Int),(0:Int),(0:Int),(0:Int),([]:zd))) λ(s1:Int×Int×Int×Int×zd)=>((zT (GH.mk v67 (GE.mk (IntKind.wrap .u8 ((IntKind.wrap .i64 ((1:Int)+(1:Int))))) (0:Int) s1.1 (GC.mk (GI.mk s1.2.1 s1.2.2.1) s1.2.2.2.1) s1.2.2.2.2 ([]:List GF) ([]:List GC)))).bind λv578=>some ((GH.mk v67 (GE.mk (IntKind.wrap .u8 ((IntKind.wrap .i64 ((1:Int)+(1:Int))))) (0:Int) s1.1 (GC.mk (GI.mk s1.2.1 s1.2.2.1) s1.2.2.2.1) s1.2.2.2.2 ([]:List GF) ([]:List GC))),(v578==s0)))) else (if v5=2 then (lp (zn (rdF3 v67) m68 0 (([]:List GF),([]:List GC))) λ(s1:(List GF)×(List GC))=>((zT (GH.mk v67 (GE.mk (IntKind.wrap .u8 ((IntKind.wrap .i64 ((2:Int)+(1:Int))))) (0:Int) (0:Int) (GC.mk (GI.mk (0:Int) (0:Int)) (0:Int)) ([]:zd) s1.1 s1.2))).bind λv1722=>some ((GH.mk v67 (GE.mk (IntKind.wrap .u8 ((IntKind.wrap .i64 ((2:Int)+(1:Int))))) (0:Int) (0:Int) (GC.mk (GI.mk (0:Int) (0:Int)) (0:Int)) ([]:zd) s1.1 s1.2)),(v1722==s0)))) else (if v5=3 then (lp (zn (rdF4 v67) m68 0 ([]:List GF)) λ(s1:(List GF))=>((zT (GH.mk v67 (GE.mk (IntKind.wrap .u8 ((IntKind.wrap .i64 ((3:Int)+(1:Int))))) (0:Int) (0:Int) (GC.mk (GI.mk (0:Int) (0:Int)) (0:Int)) ([]:zd) s1 ([]:List GC)))).bind λv2722=>some ((GH.mk v67 (GE.mk (IntKind.wrap .u8 ((IntKind.wrap .i64 ((3:Int)+(1:Int))))) (0:Int) (0:Int) (GC.mk (GI.mk (0:Int) (0:Int)) (0:Int)) ([]:zd) s1 ([]:List GC))),(v2722==s0)))) else none))))))))))))
theorem rl_eq (s:zd):yI s=rlE s:=rfl
end
section
def vU (x:UInt8):Bool:=decide (48<=x.toNat)&&decide (x.toNat<=57)
def valD (a:Nat) (l:zd):Nat:=l.foldl (λa x=>a * 10+(x.toNat - 48)) a
theorem valD_ge:∀(l:zd) (a:Nat),a<=valD a l
 | [],a=>uj a
 | x::r,a=>by
  have:=valD_ge r (a * 10+(x.toNat - 48));show a<=valD (a * 10+(x.toNat - 48)) r;omega
theorem digit_nat (h:k < 10):(UInt8.ofNat (48+k)).toNat=48+k:=by
 rw [UInt8.toNat_ofNat'];omega
theorem dec_val (n:Nat):valD 0 (Lib.decDigits n)=n/\(Lib.decDigits n).all vU=true/\Lib.decDigits n ≠ []:=by
 induction n using Nat.strongRecOn with
 | _ n ih =>
  rw [Lib.decDigits];split
  ·rename_i h;refine ⟨?_,?_,by simp⟩
   ·show 0 * 10+((UInt8.ofNat (48+n)).toNat - 48)=n;rw [digit_nat h];omega
   ·simp only [uY,rg,tP,vU,digit_nat h];simp;omega
  ·rename_i h;obtain ⟨a,b,e⟩:=ih (n / 10) (by omega);refine ⟨?_,?_,by simp⟩
   ·unfold valD at a ⊢;rw [List.foldl_append,a];show n / 10 * 10+((UInt8.ofNat (48+n % 10)).toNat - 48)=n;rw [digit_nat (by omega)];omega
   ·rw [tX,b];simp only [uY,rg,tP,vU,digit_nat (show n % 10 < 10 by omega)];simp;omega
theorem parseM_dig {M:Nat} (e:M<=18446744073709551615):∀(l:zd) (a:Nat),l.all vU=true->valD a l<=M->Lib.parseUintM M a l=.ok (valD a l)
 | [],a,_,_=>rfl
 | x::r,a,h,hv=>by
  simp only [uY,uf,vU,uh] at h;have b:valD (a * 10+(x.toNat - 48)) r<=M:=hv;have f:=valD_ge r (a * 10+(x.toNat - 48));rw [Lib.parseUintM,um h.1,ur (by omega),ur (by omega),parseM_dig e r _ (by simpa [vU] using h.2) b];rfl
theorem parseM_le {M:Nat}:∀(l:zd) (a v:Nat),a<=M->Lib.parseUintM M a l=.ok v->v<=M
 | [],a,v,ha,h=>by injection h with h;omega
 | x::r,a,v,ha,h=>by
  rw [Lib.parseUintM] at h;split at h
  ·split at h
   ·cases h
   ·split at h
    ·cases h
    ·exact parseM_le r _ v (by omega) h
  ·cases h
theorem puR_in (s:zd):InK .u64 (puR s).1:=by
 have key:0<=(puR s).1/\(puR s).1<=18446744073709551615:=by
  unfold puR;cases h:Lib.parseUintB 64 s with
  | ok u =>
   unfold Lib.parseUintB at h;split at h
   ·cases h
   ·have:=parseM_le s 0 u (by omega) h;simp only;omega
  | range=>simp
  | _=>simp
 unfold InK;simp [IntKind.min,IntKind.max,IntKind.signed,IntKind.bits];omega
theorem puR_num (h:0<=n/\n < 18446744073709551616):puR (yP n)=(n,true):=by
 obtain ⟨a,b,e⟩:=dec_val n.toNat
 unfold puR yP Lib.parseUintB;rw [ur e,parseM_dig (by omega) _ 0 b (by rw [a];omega),a];simp only [tC,tS];omega
theorem piR_in (s:zd):InK .i64 (piR s).1:=by
 have key:-9223372036854775808<=(piR s).1/\(piR s).1<=9223372036854775807:=by
  unfold piR;cases h:Lib.parseIntB 64 s with
  | ok u =>
   unfold Lib.parseIntB at h;split at h
   ·cases h
   ·simp only at h;split at h
    ·cases h
    ·cases h
    ·split at h
     ·cases h
     ·split at h
      ·cases h
      ·injection h with h;simp only;split at h <;> omega
  | range=>simp only;unfold Lib.intSat;split <;> omega
  | _=>simp
 unfold InK;simp [IntKind.min,IntKind.max,IntKind.signed,IntKind.bits];omega
theorem parseI_itoa (h:-9223372036854775808<=n/\n<=9223372036854775807):Lib.parseIntB 64 (Lib.itoa n)=.ok n:=by
 unfold Lib.itoa;by_cases hn:n < 0
 ·rw [um hn];obtain ⟨b,a,f⟩:=dec_val n.natAbs;unfold Lib.parseIntB;simp only;have e:Lib.parseUintB 64 (Lib.decDigits n.natAbs)=.ok n.natAbs:=by
   unfold Lib.parseUintB;rw [ur f,parseM_dig (by omega) _ 0 a (by rw [b];omega),b]
  simp only [show (45:UInt8).toNat=45 from rfl,or_true,ut,e];rw [ur (by simp),ur (by omega)];congr 1;omega
 ·rw [ur hn];obtain ⟨b,a,f⟩:=dec_val n.toNat
  have e:Lib.parseUintB 64 (Lib.decDigits n.toNat)=.ok n.toNat:=by
   unfold Lib.parseUintB;rw [ur f,parseM_dig (by omega) _ 0 a (by rw [b];omega),b]
  obtain ⟨c,r,g⟩:∃c r,Lib.decDigits n.toNat=c::r:=sg f;rw [g] at e a ⊢;simp only [uY,uf,vU,uh] at a;unfold Lib.parseIntB;simp only;rw [ur (by omega),e];simp only;rw [ur (by omega),ur (by omega),ur (by omega)];congr 1;omega
theorem piR_num (h:-9223372036854775808<=n/\n<=9223372036854775807):piR (Lib.itoa n)=(n,true):=by
 unfold piR;rw [parseI_itoa h]
theorem pU {x:zd} (h:x.length<=16777216):zx x 10 64=some (puR x):=by
 unfold zx parseU;rw [um ⟨rfl,rfl⟩,um (by omega)]
theorem pI {x:zd} (h:x.length<=16777216):wT x 10 64=some (piR x):=by
 unfold wT parseI;rw [um ⟨rfl,rfl,by omega⟩]
theorem pH (a b:UInt8):zx [a,b] 16 8=some (phR a b):=rfl
def dotR (x:zd) (r0 i0 d0:Int):Bool×Int×Int×Int:=match xj 46 x with
 | [a,b,c]=>if (puR a).2=false then (false,r0,i0,d0) else if (puR b).2=false then (false,r0,i0,d0) else if (puR c).2=false \/ (puR a).1 >= 16 \/ (puR b).1 > 4 then (false,r0,i0,(puR c).1) else (true,IntKind.wrap .u8 (puR a).1,IntKind.wrap .u32 (puR b).1,(puR c).1)
 | _=>(false,r0,i0,d0)
theorem dotE_is {x:zd} (hx:x.length<=16777216) (i i0 h:Int):dotE x i i0 h=some (dotR x i i0 h):=by
 unfold dotE dotR;rw [yh,split_is hx];have f:=λp j=>(vz 46 x p j).1;generalize xj 46 x=q at f ⊢;simp only [ua]
 match q with
 | []=>simp [zN]
 | [a]=>simp [zN]
 | [a,b]=>simp [zN]
 | [a,b,c] =>
  have m:=pU (uE (f a (by simp)) hx);have o:=pU (uE (f b (by simp)) hx);have s:=pU (uE (f c (by simp)) hx);cases h1:(puR a).2 <;> cases h2:(puR b).2 <;> cases g:(puR c).2 <;> simp [zN,m,o,s,h1,h2,g] <;> grind
 | a::b::c::d::e =>
  have g:((e.length:Int)+1+1+1+1 != 3)=true:=by simp;omega
  simp [zN,g]
theorem wrapU8_in (n:Int):InK .u8 (IntKind.wrap .u8 n):=by
 unfold InK;rw [IntKind.wrap_u8];simp [IntKind.min,IntKind.max,IntKind.signed,IntKind.bits];omega
theorem wrapU32_in (n:Int):InK .u32 (IntKind.wrap .u32 n):=by
 unfold InK;rw [IntKind.wrap_u32];simp [IntKind.min,IntKind.max,IntKind.signed,IntKind.bits];omega
theorem dotR_wf {x:zd} {b i0 a:Int} (h:GC.wf ⟨⟨b,i0⟩,a⟩):GC.wf ⟨⟨(dotR x b i0 a).2.1,(dotR x b i0 a).2.2.1⟩,(dotR x b i0 a).2.2.2⟩:=by
 unfold dotR;split
 ·split
  ·exact h
  ·split
   ·exact h
   ·split
    ·exact ⟨h.1,puR_in _⟩
    ·exact ⟨⟨wrapU8_in _,wrapU32_in _⟩,puR_in _⟩
 ·exact h
theorem wf0:GC.wf ⟨⟨0,0⟩,0⟩:=by simp [GC.wf,GI.wf,InK,IntKind.min,IntKind.max,IntKind.signed,IntKind.bits]
theorem dig_no (a:vU c=false) {l:zd} (h:l.all vU=true):c ∉ l:=λb=>by
 rw [uu] at h;rw [h c b] at a;cases a
theorem num_no (a:vU c=false) (n:Int):c ∉ yP n:=dig_no a (dec_val n.toNat).2.1
theorem cut_dot (d:GC):xj 46 (qc d)=[yP d.actor.rep,yP d.actor.inc,yP d.seq]:=by
 unfold qc;rw [show ((((yP d.actor.rep++[46])++yP d.actor.inc)++[46])++yP d.seq)=yP d.actor.rep++46::(yP d.actor.inc++46::yP d.seq) by simp,cutL_app _ (num_no rfl _),cutL_app _ (num_no rfl _),cutL_one (num_no rfl _)]
theorem dotR_dot (b:GC.wf d) (a:xw d=true) (h i0 e:Int):dotR (qc d) h i0 e=(true,d.actor.rep,d.actor.inc,d.seq):=by
 obtain ⟨⟨i,g⟩,j⟩:=b;unfold xw actorB at a;simp only [uf,uh] at a;have m:=inU8 i;have o:=inU32 g;have f:=qJ j;unfold dotR;rw [cut_dot];simp only;rw [puR_num (by omega),puR_num (by omega),puR_num f];simp only [sP,uJ,false_or];rw [ur (by omega)];rw [IntKind.wrap_u8,IntKind.wrap_u32];simp only [tC,rO,tS];constructor <;> omega
end
section
def byteH (a b:UInt8):UInt8:=UInt8.ofNat (IntKind.wrap .u8 (phR a b).1).toNat
def hexB:zd->Option zd
 | a::b::r=>if (phR a b).2=true then (hexB r).map λt=>byteH a b::t else none
 | _=>some []
def hexR (x d:zd):Bool×zd:=if x=[45] then (true,[]) else match hexB x with
 | some t=>(decide (0 < x.length),t)
 | none=>(false,d)
theorem hexB_len:∀(x t:zd),hexB x=some t->t.length<=x.length
 | [],t,h=>by cases h;simp
 | [a],t,h=>by cases h;simp
 | a::b::r,t,h=>by
  unfold hexB at h;split at h
  ·obtain ⟨u,e,rfl⟩:=tv.1 h;have:=hexB_len r u e;simp only [uc];omega
  ·cases h
theorem hex_loop {x d:zd} (hx:x.length<=16777216) {f:(List UInt8)×Int->Option (Out (Bool×zd) ((List UInt8)×Int))} (o:∀s2,f s2=(if (decide ((IntKind.wrap .i64 (s2.2+(1:Int))) < ((x).length:Int)))=true then ((slc x s2.2 (IntKind.wrap .i64 (s2.2+(2:Int)))).bind λm1=>((zx m1 (16:Int) (8:Int)).bind λv2=>(if (!v2.2)=true then some (.ret (false,d)) else (zN (0<=(IntKind.wrap .u8 (v2.1))/\(IntKind.wrap .u8 (v2.1)) < 256) ((zN ((s2.1).length+(([(UInt8.ofNat (IntKind.wrap .u8 (v2.1)).toNat)]:List UInt8)).length<=yH) (some (.nxt ((s2.1++([(UInt8.ofNat (IntKind.wrap .u8 (v2.1)).toNat)]:List UInt8)),(IntKind.wrap .i64 (s2.2+(2:Int)))))))))))) else some (.brk (s2.1,s2.2)))) :
  ∀(r pre g:zd),x=pre++r->g.length<=pre.length->(hexB r=none->zX f (g,(pre.length:Int))=some (.inl (false,d)))/\∀t,hexB r=some t->∃j,zX f (g,(pre.length:Int))=some (.inr (g++t,j))
 | [],pre,g,e,ha=>by
  have m:=congrArg List.length e;simp only [ue,ug] at m;refine ⟨λh=>(by cases h),λt h=>⟨(pre.length:Int),?_⟩⟩;cases h;rw [yk,o];simp only;rw [wG (by omega),ur (by simp;omega)];simp
 | [a],pre,g,e,ha=>by
  have m:=congrArg List.length e;simp only [ue,uc,ug] at m;refine ⟨λh=>(by cases h),λt h=>⟨(pre.length:Int),?_⟩⟩;cases h;rw [yk,o];simp only;rw [wG (by omega),ur (by simp;omega)];simp
 | a::b::r,pre,g,e,ha=>by
  have m:=congrArg List.length e;simp only [ue,uc] at m;have y:yH=2147483648:=rfl;have q:=hex_loop hx o r (pre++[a,b]) (g++[byteH a b]) (by rw [e];simp) (by simp;omega);have hs:slc x (pre.length:Int) ((pre.length:Int)+2)=some [a,b]:=by
   rw [x9 (by omega)];rw [e,show ((pre.length:Int)+2).toNat=pre.length+2 by omega,tF,sy];simp
  have p:InK .u8 (IntKind.wrap .u8 (phR a b).1):=wrapU8_in _;have p:=inU8 p;have i:f (g,(pre.length:Int))=if (phR a b).2=true then some (.nxt (g++[byteH a b],(((pre++[a,b]).length:Nat):Int))) else some (.ret (false,d)):=by
   rw [o];simp only;rw [wG (by omega),wG (by omega),um (by simp;omega),hs,ua,pH,ua];cases h2:(phR a b).2 with
   | false=>rfl
   | true =>
    simp only [tq,up,uJ,ut];rw [zi p,zi (by simp only [uc,ug];omega)];simp only [ue,uc,ug];rfl
  unfold hexB;cases h2:(phR a b).2 with
  | false =>
   rw [h2] at i;refine ⟨λ_=>?_,λt h=>(by cases h)⟩;rw [yk,i];rfl
  | true =>
   rw [h2] at i;simp only [ut] at i ⊢;have s:zX f (g,(pre.length:Int))=zX f (g++[byteH a b],(((pre++[a,b]).length:Nat):Int)):=by rw [yk,i]
   rw [s];refine ⟨λh=>q.1 (by simpa using h),λt h=>?_⟩;obtain ⟨u,v,rfl⟩:=tv.1 h;obtain ⟨j,w⟩:=q.2 u v;exact ⟨j,by rw [w];simp⟩
theorem hexE_is {x:zd} (hx:x.length<=16777216) (d:zd):hexE x d=some (hexR x d):=by
 unfold hexE hexR;by_cases h:x=[45]
 ·rw [um (by simp [h]),um h]
 ·rw [ur (by simpa using h),ur h];have k:=hex_loop hx (d:=d) (λs2=>rfl) x [] [] rfl (by simp);cases hb:hexB x with
  | none =>
   have a:=k.1 hb;simp only [ug] at a;show lp (zX _ ([],((0:Nat):Int))) _=_;rw [a];rfl
  | some t =>
   obtain ⟨j,b⟩:=k.2 t hb;simp only [ug] at b;show lp (zX _ ([],((0:Nat):Int))) _=_;rw [b];have:=hexB_len x t hb;have e:maxLen=9223372036854775807:=rfl;simp only [lp,uT];rw [zi (by omega)];congr 2;exact sn.2 (by omega)
theorem hexR_len (x d:zd):(hexR x d).2.length<=max x.length d.length:=by
 unfold hexR;split
 ·simp
 ·split
  ·rename_i t h;have:=hexB_len x t h;simp only;omega
  ·simp only;omega
theorem hexv_d:∀k:Nat,k < 16->Proofs.hexv (Proofs.hexd k)=some k:=by decide
theorem byte_hex (c:UInt8):phR (Proofs.hexd (c.toNat / 16)) (Proofs.hexd (c.toNat % 16))=((c.toNat:Int),true):=by
 have a:=c.toNat_lt;unfold phR;rw [hexv_d _ (by omega),hexv_d _ (by omega)];simp only [tC,tS];omega
theorem hexB_hexs:∀t:zd,hexB (Proofs.hexs t)=some t
 | []=>rfl
 | c::r=>by
  show hexB (Proofs.hexd (c.toNat / 16)::Proofs.hexd (c.toNat % 16)::Proofs.hexs r)=_;have a:=c.toNat_lt;unfold hexB byteH;rw [byte_hex,um rfl,hexB_hexs r];simp only [uX];rw [IntKind.wrap_u8,show ((c.toNat:Int) % 256).toNat=c.toNat by omega,UInt8.ofNat_toNat]
theorem hexR_hex (t d:zd):hexR (qa t) d=(true,t):=by
 unfold qa;split
 ·rename_i h;subst h;rfl
 ·rename_i h;have a:=Proofs.hexs_len t;have b:0 < t.length:=tK.2 h;unfold hexR;rw [ur,hexB_hexs]
  ·simp only [tC,tS];exact uN (by omega)
  ·intro e;rw [e] at a;simp at a;omega
def itemD (x:zd):Bool×Int×Int×Int:=if (Lib.cut x [61]).2.2=true then dotR (Lib.cut x [61]).1 0 0 0 else (false,0,0,0)
def itemH (x:zd):Bool×zd:=if ((Lib.cut x [61]).2.2&&(itemD x).1)=true then hexR (Lib.cut x [61]).2.1 [] else (false,[])
def itemP (x:zd):Bool×Int×Int×Int×zd:=(((Lib.cut x [61]).2.2&&(itemD x).1)&&(itemH x).1,(itemD x).2.1,(itemD x).2.2.1,(itemD x).2.2.2,(itemH x).2)
theorem itemE_is {x:zd} (hx:x.length<=16777216):itemE x=some (itemP x):=by
 unfold itemE;rw [xF,strCut_is hx,ua];have a:=cut_lens x 61;rw [show (if ((Lib.cut x [61]).2.2==true)=true then dotE (Lib.cut x [61]).1 0 0 0 else some (default,(0:Int),(0:Int),(0:Int)))=some (itemD x) by
  unfold itemD;cases h:(Lib.cut x [61]).2.2 with
  | false=>rfl
  | true=>exact dotE_is (by omega) 0 0 0,ua]
 rw [show (if (((Lib.cut x [61]).2.2&&(itemD x).1)==true)=true then hexE (Lib.cut x [61]).2.1 [] else some (default,([]:zd)))=some (itemH x) by
  unfold itemH;cases h:((Lib.cut x [61]).2.2&&(itemD x).1) with
  | false=>rfl
  | true=>exact hexE_is (by omega) [],ua]
 rfl
theorem itemP_wf (x:zd):GC.wf ⟨⟨(itemP x).2.1,(itemP x).2.2.1⟩,(itemP x).2.2.2.1⟩/\(itemP x).2.2.2.2.length<=x.length:=by
 refine ⟨?_,?_⟩
 ·show GC.wf ⟨⟨(itemD x).2.1,(itemD x).2.2.1⟩,(itemD x).2.2.2⟩;unfold itemD;split
  ·exact dotR_wf wf0
  ·exact wf0
 ·show (itemH x).2.length<=_;unfold itemH;split
  ·have:=hexR_len (Lib.cut x [61]).2.1 [];have:=(cut_lens x 61).2;simp only [ug] at *;omega
  ·simp
theorem dot_no (a:vU c=false) (b:c ≠ 46) (d:GC):c ∉ qc d:=by
 unfold qc;simp only [uA,uv,sB,pC,sU];exact ⟨⟨⟨⟨num_no a _,b⟩,num_no a _⟩,b⟩,num_no a _⟩
theorem itemP_item (b:GF.wf it) (e:xw it.dot=true):itemP (yG it)=(true,it.dot.actor.rep,it.dot.actor.inc,it.dot.seq,it.text):=by
 have a:Lib.cut (yG it) [61]=(qc it.dot,qa it.text,true):=by
  unfold yG;rw [uB];exact cutT_hit (dot_no rfl (by decide) _)
 have hd:itemD (yG it)=(true,it.dot.actor.rep,it.dot.actor.inc,it.dot.seq):=by
  unfold itemD;rw [a,um rfl];exact dotR_dot b.2.1 e 0 0 0
 have hh:itemH (yG it)=(true,it.text):=by
  unfold itemH;rw [a,hd];exact (um rfl).trans (hexR_hex _ _)
 unfold itemP;rw [hh,hd,a];rfl
theorem tombE_is {x:zd} (hx:x.length<=16777216) {t:List GC} (y:t.length<=16777216):tombE x t ⟨⟨0,0⟩,0⟩=some ((dotR x 0 0 0).1,t++[⟨⟨(dotR x 0 0 0).2.1,(dotR x 0 0 0).2.2.1⟩,(dotR x 0 0 0).2.2.2⟩]):=by
 unfold tombE dotR;rw [yh,split_is hx];have i:=λp m=>(vz 46 x p m).1;generalize xj 46 x=q at i ⊢;simp only [ua];have h:IntKind.wrap .i64 ((((t++([(GC.mk (GI.mk (0:Int) (0:Int)) (0:Int))]:List GC)).length:Nat):Int) - 1)=(t.length:Int):=by
  simp only [ue,uc,ug];rw [wG (by omega)];omega
 rw [h];have g:∀u v:GC,(t++[u]).set ((t.length:Int)).toNat v=t++[v]:=λu v=>by simp
 have f:∀u:GC,yx (t++[u]) (t.length:Int)=some u:=λu=>by unfold yx;simp
 match q with
 | []=>simp [zN]
 | [a]=>simp [zN]
 | [a,b]=>simp [zN]
 | [a,b,c] =>
  have o:=pU (uE (i a (by simp)) hx);have s:=pU (uE (i b (by simp)) hx);have w:=pU (uE (i c (by simp)) hx);cases h1:(puR a).2 <;> cases h2:(puR b).2 <;> cases j:(puR c).2 <;> simp [zN,o,s,w,h1,h2,j,g,f];by_cases h4:(puR a).1 >= 16 \/ (puR b).1 > 4
  ·simp [h4]
  ·simp [h4,f]
 | a::b::c::d::e =>
  have j:((e.length:Int)+1+1+1+1 != 3)=true:=by simp;omega
  simp [zN,j]
def preP (x:zd):zd×Bool:=match x with
 | 33::r=>(r,true)
 | _=>(x,false)
theorem prefix_is (x:zd):xR x [33]=some (preP x):=by
 unfold xR yN yM;cases x with
 | nil=>simp [zN,preP]
 | cons a r =>
  rw [zi (by intro _;simp;omega),ua];by_cases ha:a=33
  ·subst ha;rw [x9 (by simp;omega)];have:decide (((33::r:zd).length:Int) >= (([33]:zd).length:Int))=true:=by simp;omega
   rw [this];simp [preP]
  ·have:((decide (((a::r).length:Int) >= (([33]:zd).length:Int)))&&((((a::r).take (([33]:zd).length:Int).toNat).drop (0:Int).toNat)==([33]:zd)))=false:=by
    simp [ha]
   rw [this];simp only [tV,ut,ua];unfold preP;split
   ·rename_i h;exact absurd (rl h).1 ha
   ·rfl
end
section
theorem leaf_shape (h:leafB l=true) :
  l=⟨1,l.n,0,xJ,[],[],[]⟩ \/ l=⟨2,0,0,xJ,[],[],[]⟩ \/ (l=⟨2,0,l.time,l.dot,l.text,[],[]⟩/\l.time ≠ 0/\vN l.time=true/\xw l.dot=true/\l.text.length<=40) \/
   (l=⟨3,0,0,xJ,[],l.items,l.tombs⟩/\(∀x ∈ l.items,xw x.dot=true/\x.text.length<=40/\x.time=0)/\∀d ∈ l.tombs,xw d=true) \/
   (l=⟨4,0,0,xJ,[],l.items,[]⟩/\∀x ∈ l.items,xw x.dot=true/\x.text.length<=40/\vN x.time=true):=by
 obtain ⟨typ,n,time,dot,text,items,tombs⟩:=l;unfold leafB zeroB tombsB at h;simp only at h;split at h
 ·rename_i e;simp only [uf,uh] at h;obtain ⟨⟨⟨⟨f,b⟩,i⟩,a⟩,g⟩:=h;subst e f b i a g;exact .inl rfl
 ·split at h
  ·rename_i e;simp only [uf,uh] at h;obtain ⟨⟨⟨f,b⟩,i⟩,a⟩:=h;subst e f b i;split at a
   ·rename_i e;simp only [uf,uh] at a;obtain ⟨g,j⟩:=a;subst e g j;exact .inr (.inl rfl)
   ·rename_i e;simp only [uf,uh] at a;exact .inr (.inr (.inl ⟨rfl,e,a.1.1,a.1.2,a.2⟩))
  ·split at h
   ·rename_i e;simp only [uf,uh] at h;obtain ⟨⟨⟨f,⟨b,i⟩,a⟩,⟨g,_⟩,_⟩,⟨j,_⟩,_⟩:=h;subst e f b i a;refine .inr (.inr (.inr (.inl ⟨rfl,λx hx=>?_,λd hd=>uu.1 j d hd⟩)));have:=uu.1 g x hx;unfold vr at this;simp only [uf,uh,up,uJ] at this;exact ⟨this.1.1,this.1.2,this.2⟩
   ·split at h
    ·rename_i e;simp only [uf,uh] at h;obtain ⟨⟨⟨f,⟨b,i⟩,a⟩,m⟩,⟨g,_⟩,_⟩:=h;subst e f b i a m;refine .inr (.inr (.inr (.inr ⟨rfl,λx hx=>?_⟩)));have:=uu.1 g x hx;unfold vr at this;simp only [uf,uh,ut] at this;exact ⟨this.1.1,this.1.2,this.2⟩
    ·cases h
def bkLim (l:GE):Prop:=l.items.length+l.tombs.length<=4194304
def Good (r:GH):Prop:=xA r.path=true/\leafB r.leaf=true/\GE.wf r.leaf/\bkLim r.leaf
theorem leaf_texts (a:leafB l=true):(∀x ∈ l.items,x.text.length<=40)/\l.text.length<=40:=by
 rcases leaf_shape a with e | e | ⟨e,h⟩ | ⟨e,h,_⟩ | ⟨e,h⟩
 ·rw [e];simp
 ·rw [e];simp
 ·rw [e];simp;exact h.2.2.2
 ·rw [e];simp;exact λx hx=>(h x hx).2.1
 ·rw [e];simp;exact λx hx=>(h x hx).2.1
theorem items_bk:∀L:List GF,(∀x ∈ L,x.text.length<=40)->(L.map GF.bk).sum<=48 * L.length
 | [],_=>by simp
 | x::r,h=>by
  have e:=h x (by simp);have b:=items_bk r λy a=>h y (by simp [a]);simp only [ux,tM,uc,bk_item];omega
theorem dots_bk:∀L:List GC,(L.map GC.bk).sum=5 * L.length
 | []=>by simp
 | x::r=>by
  have:=dots_bk r;simp only [ux,tM,uc,bk_dot];omega
theorem leaf_bk (a:leafB l=true) (hs:bkLim l):l.bk<=1073741824:=by
 have e:=bk_leaf l;obtain ⟨b,f⟩:=leaf_texts a;have h:=items_bk l.items b;have g:=dots_bk l.tombs;unfold bkLim at hs;omega
theorem line_tot (b:GE.wf r.leaf) (g:bkLim r.leaf):zT r=some (ym r)/\(ym r ≠ []->Good r)/\(Good r->ym r=Lib.join ([Lib.join r.path [47],xU r.leaf.typ]++zI r.leaf) [32]):=by
 have key:∀v,zT r=some v->ym r=v:=λv e=>by unfold ym;rw [e];rfl
 cases hl:leafB r.leaf with
 | true =>
  have h:=(line_is b (leaf_bk hl g)).1;rw [key _ h];refine ⟨h,λa=>?_,λf=>um ⟨f.1,f.2.1⟩⟩;split at a
  ·rename_i c;exact ⟨c.1,c.2,b,g⟩
  ·exact absurd rfl a
 | false =>
  have h:zT r=some []:=by
   have j:=b.2.2.2.2.2.1.1;have i:=b.2.2.2.2.2.2.1;unfold zT;rw [opMayPath_is];simp only [ua];cases hp:xA r.path with
   | false=>simp
   | true=>simp only [tq,tG,ut,leafMay_is j i,ua,tD,hl,tV]
  rw [key _ h];refine ⟨h,λa=>absurd rfl a,λf=>?_⟩;rw [f.2.1] at hl;cases hl
def Fin2 (s:zd) (o:Option (GH×Bool)):Prop:=∃r b,o=some (r,b)/\(b=true->Good r/\ym r=s)
theorem fin_no {s:zd} (r:GH):Fin2 s (some (r,false)):=⟨r,false,rfl,λh=>by cases h⟩
theorem fin_line {s:zd} (h0:s ≠ []) {r:GH} (a:GE.wf r.leaf) (g:bkLim r.leaf):Fin2 s ((zT r).bind λv=>some (r,v==s)):=by
 obtain ⟨f,b,_⟩:=line_tot a g;rw [f];refine ⟨r,ym r==s,rfl,λh=>?_⟩;have e:ym r=s:=by simpa using h
 exact ⟨b (by rw [e];exact h0),e⟩
theorem loop_fin {σ:Type} {N:Nat} {f:Nat->zd->σ->Option (Out (GH×Bool) σ)} (Inv:Nat->σ->Prop) (b:∀n x s,x.length<=1048576->n<=N->Inv n s->(∃r,f n x s=some (.ret (r,false))) \/ ∃a,f n x s=some (.nxt a)/\Inv (n+1) a):∀(L:List zd) (k:Nat) (s:σ),(∀x ∈ L,x.length<=1048576)->k+L.length<=N->Inv k s->(∃r,zn f L k s=some (.inl (r,false))) \/ ∃a,zn f L k s=some (.inr a)/\Inv (k+L.length) a
 | [],k,s,_,_,h=>.inr ⟨s,rfl,h⟩
 | x::r,k,s,hx,hk,h=>by
  simp only [uc] at hk;simp only [zn];rcases b k x s (hx x (by simp)) (by omega) h with ⟨r,e⟩ | ⟨a,e,h'⟩
  ·rw [e];exact .inl ⟨r,rfl⟩
  ·rw [e];have:=loop_fin Inv b r (k+1) a (λy g=>hx y (by simp [g])) (by omega) h';rw [uc,show k+(r.length+1)=k+1+r.length by omega];exact this
theorem lp_fin {σ:Type} {s:zd} {f:Nat->zd->σ->Option (Out (GH×Bool) σ)} {L:List zd} {b:σ} {rest:σ->Option (GH×Bool)} {Inv:Nat->σ->Prop} (h:(∃r,zn f L 0 b=some (.inl (r,false))) \/ ∃a,zn f L 0 b=some (.inr a)/\Inv (0+L.length) a) (g:∀a,Inv (0+L.length) a->Fin2 s (rest a)):Fin2 s (lp (zn f L 0 b) rest):=by
 rcases h with ⟨r,e⟩ | ⟨a,e,h'⟩
 ·rw [e];exact fin_no r
 ·rw [e];exact g a h'
theorem rdF1_is (v:List zd) (n:Nat) {x:zd} (hx:x.length<=1048576) (s:Int):rdF1 v n x s=some (if ((n:Int)==0&&(piR x).2)=true then .nxt (piR x).1 else .ret (⟨v,⟨1,(piR x).1,0,xJ,[],[],[]⟩⟩,false)):=by
 unfold rdF1;rw [pI (by omega)];simp only [ua];cases ((n:Int)==0&&(piR x).2) <;> rfl
theorem rdF1_inv {v:List zd} {N:Nat} (n:Nat) (x:zd) (s:Int) (hx:x.length<=1048576) (_:n<=N) (_:InK .i64 s):(∃r,rdF1 v n x s=some (.ret (r,false))) \/ ∃a,rdF1 v n x s=some (.nxt a)/\InK .i64 a:=by
 rw [rdF1_is v n hx];split
 ·exact .inr ⟨_,rfl,piR_in x⟩
 ·exact .inl ⟨_,rfl⟩
def I2 (s:Int×Int×Int×Int×zd):Prop:=InK .u64 s.1/\GC.wf ⟨⟨s.2.1,s.2.2.1⟩,s.2.2.2.1⟩/\s.2.2.2.2.length<=1048576
def rdG2 (n:Nat) (x:zd) (s:Int×Int×Int×Int×zd):Bool×Int×Int×Int×Int×zd :=
 if ((n:Int)==0&&x==[45])=true then (true,s)
 else if ((n:Int)==0)=true then ((puR x).2,(puR x).1,s.2)
 else if ((n:Int)==1)=true then ((dotR x s.2.1 s.2.2.1 s.2.2.2.1).1,s.1,(dotR x s.2.1 s.2.2.1 s.2.2.2.1).2.1,(dotR x s.2.1 s.2.2.1 s.2.2.2.1).2.2.1,(dotR x s.2.1 s.2.2.1 s.2.2.2.1).2.2.2,s.2.2.2.2)
 else if ((n:Int)==2)=true then ((hexR x s.2.2.2.2).1,s.1,s.2.1,s.2.2.1,s.2.2.2.1,(hexR x s.2.2.2.2).2)
 else (false,s)
theorem rdF2_is (v:List zd) (n:Nat) {x:zd} (hx:x.length<=1048576) (s:Int×Int×Int×Int×zd):rdF2 v n x s=some (if (rdG2 n x s).1=true then .nxt (rdG2 n x s).2 else .ret (⟨v,⟨2,0,(rdG2 n x s).2.1,⟨⟨(rdG2 n x s).2.2.1,(rdG2 n x s).2.2.2.1⟩,(rdG2 n x s).2.2.2.2.1⟩,(rdG2 n x s).2.2.2.2.2,[],[]⟩⟩,false)):=by
 have a:∀w:Bool×Int×Int×Int×Int×zd,((some w).bind λv5=>(if (!v5.1)=true then some (.ret ((GH.mk v (GE.mk (IntKind.wrap .u8 ((IntKind.wrap .i64 ((1:Int)+(1:Int))))) (0:Int) v5.2.1 (GC.mk (GI.mk v5.2.2.1 v5.2.2.2.1) v5.2.2.2.2.1) v5.2.2.2.2.2 ([]:List GF) ([]:List GC))),false)) else some (.nxt (v5.2.1,v5.2.2.1,v5.2.2.2.1,v5.2.2.2.2.1,v5.2.2.2.2.2))):Option (Out (GH×Bool) (Int×Int×Int×Int×zd)))=some (if w.1=true then .nxt w.2 else .ret (⟨v,⟨2,0,w.2.1,⟨⟨w.2.2.1,w.2.2.2.1⟩,w.2.2.2.2.1⟩,w.2.2.2.2.2,[],[]⟩⟩,false)):=λw=>by
  rw [ua];cases w.1 <;> rfl
 unfold rdF2 rdG2;simp only [xF,pU (show x.length<=16777216 by omega),dotE_is (show x.length<=16777216 by omega),hexE_is (show x.length<=16777216 by omega),ua];split
 ·exact a _
 ·split
  ·exact a _
  ·split
   ·exact a _
   ·cases h:((n:Int)==2) with
    | true=>exact a _
    | false=>exact a _
theorem rdF2_inv {v:List zd} {N:Nat} (n:Nat) (x:zd) (s:Int×Int×Int×Int×zd) (hx:x.length<=1048576) (_:n<=N) (h:I2 s):(∃r,rdF2 v n x s=some (.ret (r,false))) \/ ∃a,rdF2 v n x s=some (.nxt a)/\I2 a:=by
 rw [rdF2_is v n hx];split
 ·refine .inr ⟨_,rfl,?_⟩;unfold rdG2;split
  ·exact h
  ·split
   ·exact ⟨puR_in x,h.2⟩
   ·split
    ·exact ⟨h.1,dotR_wf h.2.1,h.2.2⟩
    ·split
     ·refine ⟨h.1,h.2.1,?_⟩;have b:=h.2.2;have:=hexR_len x s.2.2.2.2;show (hexR x s.2.2.2.2).2.length<=_;omega
     ·exact h
 ·exact .inl ⟨_,rfl⟩
def W3 (n:Nat) (s:List GF×List GC):Prop:=s.1.length+s.2.length=n/\(∀x ∈ s.1,GF.wf x)/\∀d ∈ s.2,GC.wf d
def itm (t:Int) (p:Bool×Int×Int×Int×zd):GF:=⟨t,⟨⟨p.2.1,p.2.2.1⟩,p.2.2.2.1⟩,p.2.2.2.2⟩
def dotOf3 (x:zd):GC:=⟨⟨(dotR x 0 0 0).2.1,(dotR x 0 0 0).2.2.1⟩,(dotR x 0 0 0).2.2.2⟩
def rdG3 (x:zd) (s:List GF×List GC):Bool×List GF×List GC :=
 if (preP x).2=true then ((dotR (preP x).1 0 0 0).1,s.1,s.2++[dotOf3 (preP x).1]) else ((itemP x).1,s.1++[itm 0 (itemP x)],s.2)
theorem preP_len (x:zd):(preP x).1.length<=x.length:=by
 unfold preP;split <;> simp
theorem rdF3_is (v:List zd) (n:Nat) {x:zd} (hx:x.length<=1048576) {s:List GF×List GC} (j:s.1.length<=4194304) (i:s.2.length<=4194304):rdF3 v n x s=some (if (rdG3 x s).1=true then .nxt (rdG3 x s).2 else .ret (⟨v,⟨3,0,0,xJ,[],(rdG3 x s).2.1,(rdG3 x s).2.2⟩⟩,false)):=by
 have a:∀w:Bool×List GF×List GC,((some w).bind λv5=>(if (!v5.1)=true then some (.ret ((GH.mk v (GE.mk (IntKind.wrap .u8 ((IntKind.wrap .i64 ((2:Int)+(1:Int))))) (0:Int) (0:Int) (GC.mk (GI.mk (0:Int) (0:Int)) (0:Int)) ([]:zd) v5.2.1 v5.2.2)),false)) else some (.nxt (v5.2.1,v5.2.2))):Option (Out (GH×Bool) (List GF×List GC)))=some (if w.1=true then .nxt w.2 else .ret (⟨v,⟨3,0,0,xJ,[],w.2.1,w.2.2⟩⟩,false)):=λw=>by
  rw [ua];cases w.1 <;> rfl
 have g:yH=2147483648:=rfl;have f:=preP_len x;unfold rdF3 rdG3;simp only [prefix_is,ua];cases h:(preP x).2 with
 | true =>
  simp only [ut];have e:IntKind.wrap .i64 ((((s.2++([(GC.mk (GI.mk (0:Int) (0:Int)) (0:Int))]:List GC)).length:Nat):Int) - 1)=(s.2.length:Int):=by
   simp only [ue,uc,ug];rw [wG (by omega)];omega
  rw [zi (by simp only [uc,ug];omega),e];have b:∀u:GC,yx (s.2++[u]) (s.2.length:Int)=some u:=λu=>by unfold yx;simp
  rw [b,ua,tombE_is (by omega) (by omega),ua];simp only;rw [zi (by simp)];exact a _
 | false =>
  simp only [up,uJ];rw [itemE_is (by omega),ua,zi (by simp only [uc,ug];omega)];exact a _
theorem itm_wf (b:InK .u64 t) {x:zd} (hx:x.length<=1048576):GF.wf (itm t (itemP x)):=by
 obtain ⟨a,f⟩:=itemP_wf x;have e:maxLen=9223372036854775807:=rfl;exact ⟨b,a,by show (itemP x).2.2.2.2.length<=_;omega⟩
theorem zeroU:InK .u64 0:=by simp [InK,IntKind.min,IntKind.max,IntKind.signed,IntKind.bits]
theorem rdF3_inv {v:List zd} (n:Nat) (x:zd) (s:List GF×List GC) (hx:x.length<=1048576) (i:n<=1048577) (h:W3 n s):(∃r,rdF3 v n x s=some (.ret (r,false))) \/ ∃b,rdF3 v n x s=some (.nxt b)/\W3 (n+1) b:=by
 obtain ⟨g,e,f⟩:=h;rw [rdF3_is v n hx (by omega) (by omega)];split
 ·refine .inr ⟨_,rfl,?_⟩;unfold rdG3;split
  ·refine ⟨by simp;omega,e,λd hd=>?_⟩;simp only [uA,uw] at hd;rcases hd with hd | rfl
   ·exact f d hd
   ·exact dotR_wf wf0
  ·refine ⟨by simp;omega,λy a=>?_,f⟩;simp only [uA,uw] at a;rcases a with a | rfl
   ·exact e y a
   ·exact itm_wf zeroU hx
 ·exact .inl ⟨_,rfl⟩
def W4 (n:Nat) (s:List GF):Prop:=s.length=n/\∀x ∈ s,GF.wf x
def timeR (x:zd):Bool×Int:=if (Lib.cut x [64]).2.2=true then ((puR (Lib.cut x [64]).1).2,(puR (Lib.cut x [64]).1).1) else (false,0)
def logR (x:zd):Bool×Int×Int×Int×zd:=if ((Lib.cut x [64]).2.2&&(timeR x).1)=true then itemP (Lib.cut x [64]).2.1 else (false,0,0,0,[])
def rdG4 (x:zd) (s:List GF):Bool×List GF:=(((Lib.cut x [64]).2.2&&(timeR x).1)&&(logR x).1,s++[itm (timeR x).2 (logR x)])
theorem rdF4_is (v:List zd) (n:Nat) {x:zd} (hx:x.length<=1048576) {s:List GF} (e:s.length<=4194304):rdF4 v n x s=some (if (rdG4 x s).1=true then .nxt (rdG4 x s).2 else .ret (⟨v,⟨4,0,0,xJ,[],(rdG4 x s).2,[]⟩⟩,false)):=by
 have a:∀w:Bool×List GF,((some w).bind λv5=>(if (!v5.1)=true then some (.ret ((GH.mk v (GE.mk (IntKind.wrap .u8 ((IntKind.wrap .i64 ((3:Int)+(1:Int))))) (0:Int) (0:Int) (GC.mk (GI.mk (0:Int) (0:Int)) (0:Int)) ([]:zd) v5.2 ([]:List GC))),false)) else some (.nxt v5.2)):Option (Out (GH×Bool) (List GF)))=some (if w.1=true then .nxt w.2 else .ret (⟨v,⟨4,0,0,xJ,[],w.2,[]⟩⟩,false)):=λw=>by
  rw [ua];cases w.1 <;> rfl
 have b:yH=2147483648:=rfl;have f:=cut_lens x 64;unfold rdF4;rw [xF,strCut_is (by omega),ua];rw [show (if ((Lib.cut x [64]).2.2==true)=true then ((zx (Lib.cut x [64]).1 (10:Int) (64:Int)).bind λv2=>some (v2.2,v2.1)) else some (default,(0:Int)))=some (timeR x) by
  unfold timeR;cases h:(Lib.cut x [64]).2.2 with
  | false=>rfl
  | true=>simp only [tG,ut];rw [pU (by omega)];rfl,ua]
 rw [show (if (((Lib.cut x [64]).2.2&&(timeR x).1)==true)=true then itemE (Lib.cut x [64]).2.1 else some (default,(0:Int),(0:Int),(0:Int),([]:zd)))=some (logR x) by
  unfold logR;cases h:((Lib.cut x [64]).2.2&&(timeR x).1) with
  | false=>rfl
  | true=>exact itemE_is (by omega),ua,zi (by simp only [uc,ug];omega)]
 exact a _
theorem rdF4_inv {v:List zd} (n:Nat) (x:zd) (s:List GF) (hx:x.length<=1048576) (j:n<=1048577) (h:W4 n s):(∃r,rdF4 v n x s=some (.ret (r,false))) \/ ∃b,rdF4 v n x s=some (.nxt b)/\W4 (n+1) b:=by
 obtain ⟨g,f⟩:=h;rw [rdF4_is v n hx (by omega)];split
 ·refine .inr ⟨_,rfl,by simp [rdG4];omega,λy a=>?_⟩;simp only [rdG4,uA,uw] at a;rcases a with a | rfl
  ·exact f y a
  ·have e:InK .u64 (timeR x).2:=by
    unfold timeR;split
    ·exact puR_in _
    ·exact zeroU
   have i:=cut_lens x 64;unfold logR;split
   ·exact itm_wf e (by omega)
   ·exact ⟨e,wf0,sq _⟩
 ·exact .inl ⟨_,rfl⟩
def kidx (w:zd):Int:=if w=[99,111,117,110,116,101,114] then 0 else if w=[114,101,103,105,115,116,101,114] then 1 else if w=[115,101,116] then 2 else if w=[108,111,103] then 3 else -1
theorem wordE_is (a w:zd) (r:List zd):wordE (a::w::r)=some (kidx w):=by
 have hi:yx (a::w::r) 1=some w:=rfl;unfold wordE kidx;rw [zi (by omega)];simp only [yj,hi,ua];show lp (zn _ [0,1,2,3] 0 ()) _=_;simp only [zn,ut,uU,rS,uJ];by_cases h1:w=[99,111,117,110,116,101,114]
 ·subst h1;rfl
 ·have b:(([99,111,117,110,116,101,114]:zd)==w)=false:=by simpa using λe=>h1 e.symm
  rw [ur h1];simp only [b,up,uJ];by_cases h2:w=[114,101,103,105,115,116,101,114]
  ·subst h2;rfl
  ·have h:(([114,101,103,105,115,116,101,114]:zd)==w)=false:=by simpa using λe=>h2 e.symm
   rw [ur h2];simp only [h,up,uJ];by_cases h3:w=[115,101,116]
   ·subst h3;rfl
   ·have f:(([115,101,116]:zd)==w)=false:=by simpa using λe=>h3 e.symm
    rw [ur h3];simp only [f,up,uJ];by_cases h4:w=[108,111,103]
    ·subst h4;rfl
    ·have g:(([108,111,103]:zd)==w)=false:=by simpa using λe=>h4 e.symm
     rw [ur h4];simp [g,lp]
theorem typ_in (h:l.typ=1 \/ l.typ=2 \/ l.typ=3 \/ l.typ=4):InK .u8 l.typ:=by
 unfold InK;simp [IntKind.min,IntKind.max,IntKind.signed,IntKind.bits];omega
theorem zeroI:InK .i64 0:=by simp [InK,IntKind.min,IntKind.max,IntKind.signed,IntKind.bits]
theorem wfL {m:Int} {s:zd} {I:List GF} {T:List GC} (g:t=1 \/ t=2 \/ t=3 \/ t=4) (e:InK .i64 n) (h:InK .u64 m) (f:GC.wf d) (p:s.length<=1048576) (j:I.length<=4194304) (o:T.length<=4194304) (b:∀x ∈ I,GF.wf x) (a:∀x ∈ T,GC.wf x):GE.wf ⟨t,n,m,d,s,I,T⟩:=by
 have i:maxLen=9223372036854775807:=rfl;exact ⟨typ_in (l:=⟨t,n,m,d,s,I,T⟩) g,e,h,f,by show s.length<=_;omega,⟨by show I.length<=_;omega,b⟩,by show T.length<=_;omega,a⟩
theorem read_tot {s:zd} (hs:s.length<=1048576):Fin2 s (yI s):=by
 rw [rl_eq];unfold rlE;rw [yh,split_is (by omega),ua];have i:=cutL_len 32 s;have f:=λp y=>(vz 32 s p y).1;have b:=join_cutL 32 s;generalize xj 32 s=q at i f b ⊢
 match q with
 | []=>exact fin_no _
 | [a]=>exact fin_no _
 | a::w::L =>
  have h0:s ≠ []:=by
   intro e;rw [e,join_two] at b;cases a <;> cases b
  have u:L.length<=1048576:=by simp only [uc] at i;omega
  have m:∀x ∈ L,x.length<=1048576:=λx hx=>uE (f x (by simp [hx])) hs;rw [ur (by simp;omega)];simp only [ua];rw [wordE_is];simp only [ua];by_cases hk:kidx w < 0
  ·rw [um (by simpa using hk)];exact fin_no _
  rw [ur (by simpa using hk)];have A:a.length<=16777216:=by have:=f a (by simp);omega
  rw [show yx (a::w::L) 0=some a from rfl,ua,yh,split_is A,ua];rw [x9 (by simp;omega),ua];rw [show ((a::w::L).take (((a::w::L).length:Int)).toNat).drop (2:Int).toNat=L by rw [uz,tL];rfl];have o:kidx w=0 \/ kidx w=1 \/ kidx w=2 \/ kidx w=3:=by
   unfold kidx at hk ⊢
   repeat' split
   all_goals simp_all
  rcases o with e | e | e | e
  ·rw [e,um rfl];refine lp_fin (Inv:=λ_ s=>InK .i64 s) (loop_fin (N:=1048576) _ (λn x s hx j h=>rdF1_inv n x s hx j h) L 0 0 m (by omega) zeroI) λz g=>?_;exact fin_line h0 (r:=⟨xj 47 a,⟨1,z,0,xJ,[],[],[]⟩⟩) (wfL (.inl rfl) g zeroU wf0 (by simp) (by simp) (by simp) (by simp) (by simp)) (by simp [bkLim])
  ·rw [e,ur (by omega),um rfl];refine lp_fin (Inv:=λ_ s=>I2 s) (loop_fin (N:=1048576) _ (λn x s hx j h=>rdF2_inv n x s hx j h) L 0 _ m (by omega) ⟨zeroU,wf0,by simp⟩) λz g=>?_;exact fin_line h0 (r:=⟨xj 47 a,⟨2,0,z.1,⟨⟨z.2.1,z.2.2.1⟩,z.2.2.2.1⟩,z.2.2.2.2,[],[]⟩⟩) (wfL (.inr (.inl rfl)) zeroI g.1 g.2.1 g.2.2 (by simp) (by simp) (by simp) (by simp)) (by simp [bkLim])
  ·rw [e,ur (by omega),ur (by omega),um rfl];refine lp_fin (Inv:=W3) (loop_fin (N:=1048577) _ (λn x s hx j h=>rdF3_inv n x s hx j h) L 0 _ m (by omega) ⟨rfl,by simp,by simp⟩) λz g=>?_;obtain ⟨v,z2,z3⟩:=g;exact fin_line h0 (r:=⟨xj 47 a,⟨3,0,0,xJ,[],z.1,z.2⟩⟩) (wfL (.inr (.inr (.inl rfl))) zeroI zeroU wf0 (by simp) (by omega) (by omega) z2 z3) (by simp only [bkLim];omega)
  ·rw [e,ur (by omega),ur (by omega),ur (by omega),um rfl];refine lp_fin (Inv:=W4) (loop_fin (N:=1048577) _ (λn x s hx j h=>rdF4_inv n x s hx j h) L 0 _ m (by omega) ⟨rfl,by simp⟩) λz g=>?_;obtain ⟨v,z2⟩:=g;exact fin_line h0 (r:=⟨xj 47 a,⟨4,0,0,xJ,[],z,[]⟩⟩) (wfL (.inr (.inr (.inr rfl))) zeroI zeroU wf0 (by simp) (by omega) (by simp) z2 (by simp)) (by simp only [bkLim,ug];omega)
end
section
def isHx (c:UInt8):Bool:=vU c || (decide (97<=c.toNat)&&decide (c.toNat<=102))
theorem hexd_hx:∀k:Nat,k < 16->isHx (Proofs.hexd k)=true:=by decide
theorem hexs_hx (t:zd):(Proofs.hexs t).all isHx=true:=by
 rw [uu];intro x hx;unfold Proofs.hexs at hx;rw [List.mem_flatMap] at hx;obtain ⟨c,_,a⟩:=hx;have:=c.toNat_lt;simp only [uv,sB,pC] at a;rcases a with rfl | rfl
 ·exact hexd_hx _ (by omega)
 ·exact hexd_hx _ (by omega)
theorem hex_no (a:isHx c=false) (b:c ≠ 45) (t:zd):c ∉ qa t:=by
 unfold qa;split
 ·simpa using b
 ·intro h;have:=uu.1 (hexs_hx t) c h;rw [a] at this;cases this
theorem itoa_no (a:vU c=false) (b:c ≠ 45) (n:Int):c ∉ Lib.itoa n:=by
 unfold Lib.itoa;split
 ·simp only [uv,sU];exact ⟨b,dig_no a (dec_val _).2.1⟩
 ·exact dig_no a (dec_val _).2.1
theorem item_no (a:isHx c=false) (b:c ≠ 45) (f:c ≠ 46) (e:c ≠ 61) (it:GF):c ∉ yG it:=by
 have hd:vU c=false:=by unfold isHx at a;simp only [tW] at a;exact a.1
 unfold yG;simp only [uA,uv,sB,pC,sU];exact ⟨⟨dot_no hd f _,e⟩,hex_no a b _⟩
theorem tomb_no (a:isHx c=false) (e:c ≠ 46) (b:c ≠ 33) (d:GC):c ∉ xQ d:=by
 have hd:vU c=false:=by unfold isHx at a;simp only [tW] at a;exact a.1
 unfold xQ;simp only [uA,uv,sB,pC,sU];exact ⟨b,dot_no hd e _⟩
theorem log_eq (it:GF):qq it=yP it.time++64::yG it:=by simp [qq,yG]
theorem log_no (a:isHx c=false) (b:c ≠ 45) (g:c ≠ 46) (e:c ≠ 61) (f:c ≠ 64) (it:GF):c ∉ qq it:=by
 have hd:vU c=false:=by unfold isHx at a;simp only [tW] at a;exact a.1
 rw [log_eq];simp only [uA,uv,sU];exact ⟨num_no hd _,f,item_no a b g e it⟩
theorem parts_no (l:GE):∀p ∈ zI l,(32:UInt8) ∉ p:=by
 intro p a;unfold zI at a;split at a
 ·simp only [uw] at a;subst a;exact itoa_no rfl (by decide) _
 ·split at a
  ·split at a
   ·simp only [uw] at a;subst a;decide
   ·simp only [uv,sB,pC] at a;rcases a with rfl | rfl | rfl
    ·exact num_no rfl _
    ·exact dot_no rfl (by decide) _
    ·exact hex_no rfl (by decide) _
  ·split at a
   ·simp only [uA,tm] at a;rcases a with ⟨x,_,rfl⟩ | ⟨x,_,rfl⟩
    ·exact item_no rfl (by decide) (by decide) (by decide) x
    ·exact tomb_no rfl (by decide) (by decide) x
   ·simp only [tm] at a;obtain ⟨x,_,rfl⟩:=a;exact log_no rfl (by decide) (by decide) (by decide) (by decide) x
theorem word_no (n:Int):(32:UInt8) ∉ xU n:=by
 unfold xU
 repeat' split
 all_goals decide
theorem alnum_no (a:alnum c=false) {s:zd} (h:s.all alnum=true):c ∉ s:=λb=>by
 have:=uu.1 h c b;rw [a] at this;cases this
theorem qV {p:List zd} (h:xA p=true):p ≠ []/\p.length<=3/\∀s ∈ p,s.all alnum=true/\s.length<=12:=by
 unfold xA at h;simp only [uf,uh,uu] at h;refine ⟨λe=>by rw [e] at h;simp at h,h.1.2,λs hs=>?_⟩;have:=h.2 s hs;unfold nameB at this;simp only [uf,uh] at this;exact ⟨this.2,this.1.2⟩
theorem join_no {c b:UInt8} (a:c ≠ b):∀{xs:List zd},(∀x ∈ xs,c ∉ x)->c ∉ Lib.join xs [b]
 | [],_=>by simp [Lib.join_nil]
 | [x],h=>by rw [Lib.join_one];exact h x (by simp)
 | x::y::r,h=>by
  rw [join_two];simp only [uA,uv,sU];exact ⟨h x (by simp),a,join_no a λz e=>h z (by simp [e])⟩
theorem line_cut (h:Good r):xj 32 (ym r)=Lib.join r.path [47]::xU r.leaf.typ::zI r.leaf/\xj 47 (Lib.join r.path [47])=r.path:=by
 obtain ⟨b,e,a⟩:=qV h.1;refine ⟨?_,cutL_join b λx hx=>alnum_no rfl (a x hx).1⟩;rw [(line_tot h.2.2.1 h.2.2.2).2.2 h];refine cutL_join (by simp) λx hx=>?_;simp only [tc,uT,uv] at hx;rcases hx with rfl | rfl | hx
 ·exact join_no (by decide) λx hx=>alnum_no rfl (a x hx).1
 ·exact word_no _
 ·exact parts_no _ x hx
theorem loop_pushB {α ρ σ:Type} {f:Nat->α->σ->Option (Out ρ σ)} {g:σ->α->σ} (b:σ->Nat) (a:∀s x,b (g s x)<=b s+1) {N:Nat}:∀(L:List α) (k:Nat) (s:σ),(∀i x s,x ∈ L->b s<=N->f i x s=some (.nxt (g s x)))->b s+L.length<=N->zn f L k s=some (.inr (L.foldl g s))
 | [],_,_,_,_=>rfl
 | x::r,k,s,h,hN=>by
  simp only [uc] at hN;have:=a s x;simp only [zn];rw [h k x s (by simp) (by omega)];exact loop_pushB b a r (k+1) (g s x) (λi y s e hs=>h i y s (by simp [e]) hs) (by omega)
theorem preP_no {x:zd} (h:(33:UInt8) ∉ x):preP x=(x,false):=by
 unfold preP;split
 ·simp at h
 ·rfl
theorem rdG3_item (a:GF.wf it) (b:xw it.dot=true) (h0:it.time=0) (s:List GF×List GC):rdG3 (yG it) s=(true,s.1++[it],s.2):=by
 unfold rdG3;rw [preP_no (item_no rfl (by decide) (by decide) (by decide) it),itemP_item a b];simp only [up,uJ,itm];rw [<- h0]
theorem rdG3_tomb (a:GC.wf d) (b:xw d=true) (s:List GF×List GC):rdG3 (xQ d) s=(true,s.1,s.2++[d]):=by
 have e:preP (xQ d)=(qc d,true):=rfl;unfold rdG3 dotOf3;rw [e];simp only [ut];rw [dotR_dot a b]
theorem rdG4_log (a:GF.wf it) (f:xw it.dot=true) (s:List GF):rdG4 (qq it) s=(true,s++[it]):=by
 have b:Lib.cut (qq it) [64]=(yP it.time,yG it,true):=by
  rw [log_eq];exact cutT_hit (num_no rfl _)
 have e:timeR (qq it)=(true,it.time):=by
  unfold timeR;rw [b,puR_num (qJ a.1)];rfl
 unfold rdG4 logR;rw [b,e];simp only [uW,ut];rw [itemP_item a f];rfl
theorem kidx_word (h:n=1 \/ n=2 \/ n=3 \/ n=4):kidx (xU n)=n - 1:=by
 rcases h with rfl | rfl | rfl | rfl <;> rfl
theorem num_dash (n:Int):yP n ≠ [45]:=λe=>num_no (c:=45) rfl n (by rw [e];simp)
theorem read_back (h:Good r) (hs:(ym r).length<=1048576):yI (ym r)=some (r,true):=by
 obtain ⟨A,c2⟩:=line_cut h;obtain ⟨R,B,g,w⟩:=h;have E:=(line_tot g w).1;have F:(Lib.join r.path [47]).length<=16777216:=by
  have:=(vz 32 (ym r) (Lib.join r.path [47]) (by rw [A];simp)).1;omega
 have b:∀p ∈ zI r.leaf,p.length<=1048576:=λp b=>uE (vz 32 (ym r) p (by rw [A];simp [b])).1 hs;rw [rl_eq];unfold rlE;rw [yh,split_is (by omega),ua,A,ur (by simp;omega)];simp only [ua];rw [wordE_is,kidx_word (leafB_typ B)];simp only [ua];have J:=leafB_typ B;rw [ur (by simp;omega)];rw [show yx (Lib.join r.path [47]::xU r.leaf.typ::zI r.leaf) 0=some (Lib.join r.path [47]) from rfl,ua,yh,split_is F,ua,c2];rw [x9 (by simp;omega),ua];rw [show ((Lib.join r.path [47]::xU r.leaf.typ::zI r.leaf).take (((Lib.join r.path [47]::xU r.leaf.typ::zI r.leaf).length:Int)).toNat).drop (2:Int).toNat=zI r.leaf by rw [uz,tL];rfl];have a:((zT r).bind λv=>some (r,v==ym r))=some (r,true):=by rw [E];simp
 clear A c2 F J E;obtain ⟨path,l⟩:=r;simp only at *;rcases leaf_shape B with e | e | ⟨e,j,D,K,S⟩ | ⟨e,j,D⟩ | ⟨e,j⟩
 ·rw [e] at a b g ⊢;have O:=inI64 g.2.1;have o:zI ⟨1,l.n,0,xJ,[],[],[]⟩=[Lib.itoa l.n]:=rfl;rw [o] at b ⊢;rw [um (by simp)];have m:zn (rdF1 path) [Lib.itoa l.n] 0 0=some (.inr l.n):=by
   simp only [zn];rw [rdF1_is path 0 (b _ (by simp)),piR_num O];rfl
  rw [m];exact a
 ·rw [e] at a b g ⊢;have o:zI ⟨2,0,0,xJ,[],[],[]⟩=[[45]]:=rfl;rw [o] at b ⊢;rw [ur (by simp),um (by simp)];have m:zn (rdF2 path) [[45]] 0 ((0:Int),(0:Int),(0:Int),(0:Int),([]:zd))=some (.inr ((0:Int),(0:Int),(0:Int),(0:Int),([]:zd))):=by
   simp only [zn];rw [rdF2_is path 0 (b _ (by simp))];rfl
  rw [m];exact a
 ·rw [e] at a b g ⊢;have o:zI ⟨2,0,l.time,l.dot,l.text,[],[]⟩=[yP l.time,qc l.dot,qa l.text]:=by
   unfold zI;simp [j]
  rw [o] at b ⊢;rw [ur (by simp),um (by simp)];have I:=qJ g.2.2.1;have H:rdG2 0 (yP l.time) ((0:Int),(0:Int),(0:Int),(0:Int),([]:zd))=(true,l.time,0,0,0,[]):=by
   unfold rdG2;rw [ur (by simpa using num_dash l.time),um (by simp),puR_num I]
  have M:rdG2 1 (qc l.dot) (l.time,(0:Int),(0:Int),(0:Int),([]:zd))=(true,l.time,l.dot.actor.rep,l.dot.actor.inc,l.dot.seq,[]):=by
   unfold rdG2;rw [ur (by simp),ur (by simp),um (by simp)];simp only;rw [dotR_dot g.2.2.2.1 K]
  have Q:rdG2 2 (qa l.text) (l.time,l.dot.actor.rep,l.dot.actor.inc,l.dot.seq,([]:zd))=(true,l.time,l.dot.actor.rep,l.dot.actor.inc,l.dot.seq,l.text):=by
   unfold rdG2;rw [ur (by simp),ur (by simp),ur (by simp),um (by simp),hexR_hex]
  have m:zn (rdF2 path) [yP l.time,qc l.dot,qa l.text] 0 ((0:Int),(0:Int),(0:Int),(0:Int),([]:zd))=some (.inr (l.time,l.dot.actor.rep,l.dot.actor.inc,l.dot.seq,l.text)):=by
   simp only [zn];rw [rdF2_is path 0 (b _ (by simp)),H];simp only [ut];rw [rdF2_is path (0+1) (b _ (by simp)),M];simp only [ut];rw [rdF2_is path (0+1+1) (b _ (by simp)),Q];simp only [ut]
  rw [m];exact a
 ·rw [e] at a b g w ⊢;have o:zI ⟨3,0,0,xJ,[],l.items,l.tombs⟩=l.items.map yG++l.tombs.map xQ:=rfl;rw [o] at b ⊢;rw [ur (by simp),ur (by simp),um (by simp)];have u:∀x ∈ l.items,GF.wf x:=g.2.2.2.2.2.1.2;have G:∀x ∈ l.tombs,GC.wf x:=g.2.2.2.2.2.2.2;have q:l.items.length+l.tombs.length<=4194304:=w;have m:zn (rdF3 path) (l.items.map yG++l.tombs.map xQ) 0 (([]:List GF),([]:List GC))=some (.inr ((l.items.map yG++l.tombs.map xQ).foldl (λs x=>(rdG3 x s).2) (([]:List GF),([]:List GC)))):=by
   refine loop_pushB (λs=>s.1.length+s.2.length) (λs x=>?_) (N:=4194304) _ 0 _ (λi x s hx hs=>?_) (by simp;exact q)
   ·unfold rdG3;split <;> simp <;> omega
   ·rw [rdF3_is path i (b x hx) (by omega) (by omega)];simp only [uA,tm] at hx;rcases hx with ⟨y,f,rfl⟩ | ⟨y,f,rfl⟩
    ·rw [rdG3_item (u y f) (j y f).1 (j y f).2.2];rfl
    ·rw [rdG3_tomb (G y f) (D y f)];rfl
  have C:∀(L:List GF) (s:List GF×List GC),(∀x ∈ L,GF.wf x/\xw x.dot=true/\x.time=0)->(L.map yG).foldl (λs x=>(rdG3 x s).2) s=(s.1++L,s.2):=by
   intro L
   induction L with
   | nil=>intro s _;simp
   | cons x r ih =>
    intro s hx;obtain ⟨z,a2,a3⟩:=hx x (by simp);simp only [ux,t8];rw [rdG3_item z a2 a3,ih _ λy f=>hx y (by simp [f])];simp
  have P:∀(L:List GC) (s:List GF×List GC),(∀x ∈ L,GC.wf x/\xw x=true)->(L.map xQ).foldl (λs x=>(rdG3 x s).2) s=(s.1,s.2++L):=by
   intro L
   induction L with
   | nil=>intro s _;simp
   | cons x r ih =>
    intro s hx;obtain ⟨z,a2⟩:=hx x (by simp);simp only [ux,t8];rw [rdG3_tomb z a2,ih _ λy f=>hx y (by simp [f])];simp
  rw [m,List.foldl_append,C _ _ λx hx=>⟨u x hx,(j x hx).1,(j x hx).2.2⟩,P _ _ λx hx=>⟨G x hx,D x hx⟩];exact a
 ·rw [e] at a b g w ⊢;have o:zI ⟨4,0,0,xJ,[],l.items,[]⟩=l.items.map qq:=rfl;rw [o] at b ⊢;rw [ur (by simp),ur (by simp),ur (by simp),um (by simp)];have u:∀x ∈ l.items,GF.wf x:=g.2.2.2.2.2.1.2;have q:l.items.length<=4194304:=w;have m:zn (rdF4 path) (l.items.map qq) 0 ([]:List GF)=some (.inr ((l.items.map qq).foldl (λs x=>(rdG4 x s).2) ([]:List GF))):=by
   refine loop_pushB (λs=>s.length) (λs x=>?_) (N:=4194304) _ 0 _ (λi x s hx hs=>?_) (by simp;exact q)
   ·simp [rdG4]
   ·rw [rdF4_is path i (b x hx) hs];simp only [tm] at hx;obtain ⟨y,f,rfl⟩:=hx;rw [rdG4_log (u y f) (j y f).1];rfl
  have C:∀(L:List GF) (s:List GF),(∀x ∈ L,GF.wf x/\xw x.dot=true)->(L.map qq).foldl (λs x=>(rdG4 x s).2) s=s++L:=by
   intro L
   induction L with
   | nil=>intro s _;simp
   | cons x r ih =>
    intro s hx;obtain ⟨z,a2⟩:=hx x (by simp);simp only [ux,t8];rw [rdG4_log z a2,ih _ λy f=>hx y (by simp [f])];simp
  rw [m,C _ _ λx hx=>⟨u x hx,(j x hx).1⟩];exact a
end
section
theorem w48 {m:Int} (h:0<=m/\m < 10):IntKind.wrap .u8 (IntKind.wrap .u64 (48+m))=48+m:=by
 rw [IntKind.wrap_u64,IntKind.wrap_u8];omega
theorem decN_is:∀(k:Nat) (n:Int),0<=n/\n < 18446744073709551616->n.toNat < k->qR k n=some (yP n)
 | 0,_,_,h=>absurd h (by omega)
 | k+1,n,hn,h=>by
  have f:maxLen=9223372036854775807:=rfl;have g:(yP n).length<=20:=xb hn;unfold qR;by_cases h10:n < 10
  ·rw [um (by simpa using h10),w48 ⟨hn.1,h10⟩,zi (by omega),zi (by simp;omega)];unfold yP;rw [Lib.decDigits,rW (by omega),show (48+n).toNat=48+n.toNat by omega]
  ·rw [ur (by simpa using h10)];have b:IntKind.wrap .u64 (Int.tdiv n 10)=n / 10:=by
    rw [r9 hn.1,IntKind.wrap_u64];omega
   have e:Int.tmod n 10=n % 10:=s9 hn.1;have a:(yP (n / 10)).length<=20:=xb (by omega);rw [b,e,decN_is k (n / 10) (by omega) (by omega),ua,w48 (by omega),zi (by omega),zi (by simp;omega),zi (by simp only [uc,ug];omega)];unfold yP
   conv=>rhs;rw [Lib.decDigits,dif_neg (by omega)]
   rw [show (n / 10).toNat=n.toNat / 10 by omega,show (48+n % 10).toNat=48+n.toNat % 10 by omega]
theorem dec_is (a:0<=n/\n < 18446744073709551616):vP n=some (yP n):=anyN_of (n.toNat+1) λk b=>decN_is k n a (by omega)
theorem signed_is (h:-9223372036854775808<=n/\n<=9223372036854775807):qu n=some (Lib.itoa n):=by
 have a:maxLen=9223372036854775807:=rfl;unfold qu Lib.itoa;by_cases hn:n < 0
 ·have e:IntKind.wrap .u64 (IntKind.wrap .u64 (IntKind.wrap .i64 (0 - IntKind.wrap .i64 (n+1)))+1)=(n.natAbs:Int):=by
   rw [IntKind.wrap_i64,IntKind.wrap_i64,IntKind.wrap_u64,IntKind.wrap_u64];omega
  have b:(yP (n.natAbs:Int)).length<=20:=xb (by omega);rw [um (by simpa using hn),um hn,e,dec_is (by omega),ua,zi (by simp only [uc,ug];omega)];unfold yP;rw [uz];rfl
 ·rw [ur (by simpa using hn),ur hn,wrapU64 (by omega),dec_is (by omega)];rfl
theorem ref44Dot_is (h:GC.wf d):ref44Dot d=some (qc d):=by
 obtain ⟨⟨b,a⟩,e⟩:=h;have g1:0<=d.actor.rep/\d.actor.rep < 18446744073709551616:=by have:=inU8 b;omega
 have g2:0<=d.actor.inc/\d.actor.inc < 18446744073709551616:=by have:=inU32 a;omega
 have g3:=qJ e;have f:=xb g1;have i:=xb g2;have j:=xb g3;have g:maxLen=9223372036854775807:=rfl;unfold ref44Dot;rw [wrapU64 g1,wrapU64 g2,dec_is g1,dec_is g2,dec_is g3];simp only [ua];rw [zi (by simp only [ue,uc,ug];omega),zi (by simp only [ue,uc,ug];omega),zi (by simp only [ue,uc,ug];omega),zi (by simp only [ue,uc,ug];omega)];rfl
theorem loopL_app {α ρ:Type} {f:Nat->α->zd->Option (Out ρ zd)} (g:α->zd):∀(L:List α) (k:Nat) (s:zd),(∀i x a,x ∈ L->a.length<=s.length+(L.flatMap g).length->f i x a=some (.nxt (a++g x)))->zn f L k s=some (.inr (s++L.flatMap g))
 | [],k,s,_=>by simp [zn]
 | x::r,k,s,h=>by
  simp only [zn];rw [h k x s (by simp) (by omega)];show zn f r (k+1) (s++g x)=_;rw [loopL_app g r (k+1) (s++g x) λi y a b hs=>h i y a (by simp [b]) (by simp only [tx,ue] at hs ⊢;omega)];simp
theorem slc_hex:∀k:Nat,k < 16->slc ([48,49,50,51,52,53,54,55,56,57,97,98,99,100,101,102]:zd) (k:Int) ((k:Int)+1)=some [Proofs.hexd k]:=by decide
theorem ref44Hex_is {s:zd} (h:s.length<=1073741824):ref44Hex s=some (qa s):=by
 have q:maxLen=9223372036854775807:=rfl;have a:=Proofs.hexs_len s;unfold ref44Hex;rw [loopL_app (λx=>[Proofs.hexd (x.toNat / 16),Proofs.hexd (x.toNat % 16)]) s 0 [] λi x b hx hs=>?_]
 ·simp only [lp,uT];unfold qa;show (if (Proofs.hexs s==[])=true then some [45] else some (Proofs.hexs s))=_;by_cases h0:s=[]
  ·subst h0;rfl
  ·rw [ur h0,ur];simp only [sf];intro e;rw [e] at a;have:=tK.2 h0;simp at a;omega
 ·have g:=x.toNat_lt;have o:b.length<=2 * s.length:=by
   have:(s.flatMap λx=>[Proofs.hexd (x.toNat / 16),Proofs.hexd (x.toNat % 16)]).length=2 * s.length:=a;simp only [ug] at hs;omega
  have f:IntKind.wrap .u8 (Int.tdiv (x.toNat:Int) 16)=((x.toNat / 16:Nat):Int):=by
   rw [r9 (by omega),IntKind.wrap_u8];omega
  have p:Int.tmod (x.toNat:Int) 16=((x.toNat % 16:Nat):Int):=by
   rw [s9 (by omega)];omega
  have j:IntKind.wrap .u8 (((x.toNat / 16:Nat):Int)+1)=((x.toNat / 16:Nat):Int)+1:=by rw [IntKind.wrap_u8];omega
  have m:IntKind.wrap .u8 (((x.toNat % 16:Nat):Int)+1)=((x.toNat % 16:Nat):Int)+1:=by rw [IntKind.wrap_u8];omega
  rw [f,p,j,m,slc_hex _ (by omega),slc_hex _ (by omega)];simp only [ua];rw [zi (by simp only [uc,ug];omega),zi (by simp only [ue,uc,ug];omega)];simp
theorem ref44Path_is {p:List zd} (h:p.length<=3) (f:∀s ∈ p,s.length<=12):qP p=some (Lib.join p [47]):=by
 have j:maxLen=9223372036854775807:=rfl
 match p with
 | []=>rfl
 | [a] =>
  have g:=f a (by simp);unfold qP;simp only [zn];rw [ur (by simp),zi (by simp;omega)];simp [lp,Lib.join_one]
 | [a,b] =>
  have g:=f a (by simp);have i:=f b (by simp);unfold qP;simp only [zn];rw [ur (by simp),zi (by simp;omega)];simp only;rw [um (by simp),zi (by simp;omega),zi (by simp;omega)];simp [lp,join_two,Lib.join_one]
 | [a,b,c] =>
  have g:=f a (by simp);have i:=f b (by simp);have m:=f c (by simp);unfold qP;simp only [zn];rw [ur (by simp),zi (by simp;omega)];simp only;rw [um (by simp),zi (by simp;omega),zi (by simp;omega)];simp only;rw [um (by simp),zi (by simp;omega),zi (by simp;omega)];simp [lp,join_two,Lib.join_one]
 | a::b::c::d::e=>simp at h
theorem join_cons2 (x:zd) (L:List zd):Lib.join (x::L) [32]=x++L.flatMap λy=>32::y:=by
 rw [Lib.join_cons];unfold Lib.joinTail;rw [List.flatMap_def];rfl
theorem joinP_len {p:List zd} (h:xA p=true):(Lib.join p [47]).length<=64:=by
 obtain ⟨_,f,a⟩:=qV h;have b:=join_len p [47];have e:=lens_le p λs hs=>(a s hs).2;simp only [uc,ug] at b;omega
theorem lens_flat {α:Type} (g:α->zd) (c:Nat):∀L:List α,(∀x ∈ L,(g x).length<=c)->(L.flatMap g).length<=c * L.length
 | [],_=>by simp
 | x::r,h=>by
  have e:=h x (by simp);have b:=lens_flat g c r λy a=>h y (by simp [a]);simp only [tx,ue,uc,pB] at b ⊢;omega
theorem word_len (n:Int):(xU n).length<=8:=by
 unfold xU
 repeat' split
 all_goals simp
theorem ref44Line_is (a:GE.wf r.leaf) (m:bkLim r.leaf):qi r=some (ym r):=by
 obtain ⟨_,ln,A⟩:=line_tot a m;have o:=qJ a.2.2.1;have q:¬ Good r->ym r=[]:=λh=>Classical.byContradiction λe=>h (ln e);unfold qi;rw [ref04MayPath_is];simp only [ua];cases hp:xA r.path with
 | false =>
  rw [q λh=>by rw [h.1] at hp;cases hp];simp
 | true =>
  simp only [tq,tG,ut,ref05May_is a.2.2.2.2.2.1.1 a.2.2.2.2.2.2.1 o.1,ua,tD];cases hl:leafB r.leaf with
  | false =>
   rw [q λh=>by rw [h.2.1] at hl;cases hl];simp
  | true =>
   rw [A ⟨hp,hl,a,m⟩];obtain ⟨B,z,w⟩:=qV hp;have F:=joinP_len hp;have M:maxLen=9223372036854775807:=rfl;simp only [tq,up,uJ];rw [ref44Path_is z λs hs=>(w s hs).2,ua,zi (by simp only [uc,ug];omega)];unfold wD;rw [ua];have j:yx ([([]:zd),([99,111,117,110,116,101,114]:zd),([114,101,103,105,115,116,101,114]:zd),([115,101,116]:zd),([108,111,103]:zd)]:List zd) r.leaf.typ=some (xU r.leaf.typ):=by
    rcases leafB_typ hl with e | e | e | e <;> rw [e] <;> rfl
   have b:=word_len r.leaf.typ;have v1:=word_len 1;have v2:=word_len 2;have v3:=word_len 3;have v4:=word_len 4;rw [j,ua,zi (by simp only [ue,uc,ug];omega)];simp only [tc,uT];rw [join_cons2];generalize Lib.join r.path [47]=P at F ⊢;obtain ⟨path,l⟩:=r;simp only at *;clear ln A q j B z w hp;rcases leaf_shape hl with e | e | ⟨e,g,E,K,L⟩ | ⟨e,g,E⟩ | ⟨e,g⟩
   ·rw [e] at a b ⊢;have D:-9223372036854775808<=l.n/\l.n<=9223372036854775807:=inI64 a.2.1;have C:(Lib.itoa l.n).length<=21:=by
     unfold Lib.itoa;split
     ·have:=wQ l.n.natAbs (by omega);simp only [uc];omega
     ·have:=wQ l.n.toNat (by omega)
      omega
    simp only [tG,ut];rw [zi (by simp only [ue,uc,ug];omega),signed_is D,ua,zi (by simp only [ue,uc,ug];omega)];simp [zI]
   ·rw [e] at a b ⊢;rw [ur (by simp),um (by simp),um (by simp),zi (by simp only [ue,uc,ug];omega)];simp [zI]
   ·rw [e] at a b ⊢;have N:=xb o;have G:GC.wf l.dot:=a.2.2.2.1;have O:=xr G;have J:=wz l.text;rw [ur (by simp),um (by simp),ur (by simpa using g)];rw [dec_is o,ref44Dot_is a.2.2.2.1,ref44Hex_is (show l.text.length<=1073741824 by omega)];simp only [ua];rw [zi (by simp only [ue,uc,ug];omega),zi (by simp only [ue,uc,ug];omega),zi (by simp only [ue,uc,ug];omega),zi (by simp only [ue,uc,ug];omega),zi (by simp only [ue,uc,ug];omega),zi (by simp only [ue,uc,ug];omega)];simp [zI,g]
   ·rw [e] at a b m ⊢;rw [ur (by simp),ur (by simp)];have f:∀x ∈ l.items,GF.wf x:=a.2.2.2.2.2.1.2;have v:∀x ∈ l.tombs,GC.wf x:=a.2.2.2.2.2.2.2;have u:l.items.length+l.tombs.length<=4194304:=m;have p:∀x ∈ l.items,(32::yG x).length<=200:=λx hx=>by
     have:=xr (f x hx).2.1;have:=wz x.text;have:=(g x hx).2.1;simp only [yG,ue,uc,ug];omega
    have lt:∀x ∈ l.tombs,(32::xQ x).length<=200:=λx hx=>by
     have:=xr (v x hx);simp only [xQ,ue,uc,ug];omega
    have H:=lens_flat (λx=>32::yG x) 200 l.items p;have I:=lens_flat (λx=>32::xQ x) 200 l.tombs lt;rw [loopL_app (λx=>32::yG x) l.items 0 _ λi x y hx hs=>?_]
    ·simp only [lp];rw [loopL_app (λx=>32::xQ x) l.tombs 0 _ λi x y hx hs=>?_]
     ·simp [lp,zI,rV,rh]
     ·have:=xr (v x hx);simp only [ue,uc,ug] at hs;rw [zi (by simp only [uc,ug];omega),ref44Dot_is (v x hx),ua,zi (by simp only [ue,uc,ug];omega)];simp [xQ]
    ·have:=xr (f x hx).2.1;have:=wz x.text;have:=(g x hx).2.1;simp only [ue,uc,ug] at hs;rw [zi (by simp only [uc,ug];omega),ur (by simp),ref44Dot_is (f x hx).2.1,ua,zi (by simp only [ue,uc,ug];omega),zi (by simp only [ue,uc,ug];omega),ref44Hex_is (by omega),ua,zi (by simp only [ue,uc,ug];omega)];simp [yG]
   ·rw [e] at a b m ⊢;rw [ur (by simp),ur (by simp)];have f:∀x ∈ l.items,GF.wf x:=a.2.2.2.2.2.1.2;have u:l.items.length<=4194304:=m;have p:∀x ∈ l.items,(32::qq x).length<=200:=λx hx=>by
     have:=xr (f x hx).2.1;have:=xb (qJ (f x hx).1);have:=wz x.text;have:=(g x hx).2.1;simp only [qq,ue,uc,ug];omega
    have H:=lens_flat (λx=>32::qq x) 200 l.items p;rw [loopL_app (λx=>32::qq x) l.items 0 _ λi x y hx hs=>?_]
    ·simp [lp,zn,zI,rh]
    ·have:=xr (f x hx).2.1;have:=xb (qJ (f x hx).1);have:=wz x.text;have:=(g x hx).2.1;simp only [ue,uc,ug] at hs;rw [zi (by simp only [uc,ug];omega),um (by simp),dec_is (qJ (f x hx).1),ua,zi (by simp only [ue,uc,ug];omega),zi (by simp only [ue,uc,ug];omega),ref44Dot_is (f x hx).2.1,ua,zi (by simp only [ue,uc,ug];omega),zi (by simp only [ue,uc,ug];omega),ref44Hex_is (by omega),ua,zi (by simp only [ue,uc,ug];omega)];simp [qq]
end
section
abbrev RSt:=Int×Int×Int×Int×Int×Int×Int×zd×List GF×List GC
noncomputable def xY (y100:zd) (s2:RSt):Option (GE×Bool) :=
 ((if (s2.2.1==(1:Int))=true then ((wE y100).bind λv120=>some ((GE.mk s2.2.1 v120.1 s2.2.2.2.1 (GC.mk (GI.mk s2.2.2.2.2.1 s2.2.2.2.2.2.1) s2.2.2.2.2.2.2.1) s2.2.2.2.2.2.2.2.1 s2.2.2.2.2.2.2.2.2.1 s2.2.2.2.2.2.2.2.2.2),(v120.2&&((IntKind.wrap .i64 (s2.1 - (2:Int)))==(0:Int))))) else (if (s2.2.1==(2:Int))=true then (if ((IntKind.wrap .i64 (s2.1 - (2:Int)))==(0:Int))=true then ((xd y100).bind λv123=>some ((GE.mk s2.2.1 s2.2.2.1 v123.1 (GC.mk (GI.mk s2.2.2.2.2.1 s2.2.2.2.2.2.1) s2.2.2.2.2.2.2.1) s2.2.2.2.2.2.2.2.1 s2.2.2.2.2.2.2.2.2.1 s2.2.2.2.2.2.2.2.2.2),((v123.2&&(decide (v123.1 > (0:Int)))) || (y100==([45]:zd))))) else (if ((IntKind.wrap .i64 (s2.1 - (2:Int)))==(1:Int))=true then ((yT y100).bind λv125=>some ((GE.mk s2.2.1 s2.2.2.1 s2.2.2.2.1 v125.1 s2.2.2.2.2.2.2.2.1 s2.2.2.2.2.2.2.2.2.1 s2.2.2.2.2.2.2.2.2.2),v125.2)) else ((yZ y100).bind λv126=>some ((GE.mk s2.2.1 s2.2.2.1 s2.2.2.2.1 (GC.mk (GI.mk s2.2.2.2.2.1 s2.2.2.2.2.2.1) s2.2.2.2.2.2.2.1) v126.1 s2.2.2.2.2.2.2.2.2.1 s2.2.2.2.2.2.2.2.2.2),(v126.2&&((IntKind.wrap .i64 (s2.1 - (2:Int)))==(2:Int))))))) else (zN ((((s2.2.1==(3:Int))&&(decide (((y100).length:Int) > (0:Int))))==true)=true->0<=(0:Int)/\(0:Int) < ((y100).length:Int)) ((if (((s2.2.1==(3:Int))&&(decide (((y100).length:Int) > (0:Int))))&&((((y100).getD (0:Int).toNat 0).toNat:Int)==(33:Int)))=true then ((slc y100 (1:Int) ((y100).length:Int)).bind λm130=>((yT m130).bind λv131=>(zN ((s2.2.2.2.2.2.2.2.2.2).length+(([v131.1]:List GC)).length<=yH) (some ((GE.mk s2.2.1 s2.2.2.1 s2.2.2.2.1 (GC.mk (GI.mk s2.2.2.2.2.1 s2.2.2.2.2.2.1) s2.2.2.2.2.2.2.1) s2.2.2.2.2.2.2.2.1 s2.2.2.2.2.2.2.2.2.1 (s2.2.2.2.2.2.2.2.2.2++([v131.1]:List GC))),v131.2))))) else ((xO y100 (s2.2.1==(4:Int))).bind λv133=>(zN ((s2.2.2.2.2.2.2.2.2.1).length+(([v133.1]:List GF)).length<=yH) (some ((GE.mk s2.2.1 s2.2.2.1 s2.2.2.2.1 (GC.mk (GI.mk s2.2.2.2.2.1 s2.2.2.2.2.2.1) s2.2.2.2.2.2.2.1) s2.2.2.2.2.2.2.2.1 (s2.2.2.2.2.2.2.2.2.1++([v133.1]:List GF)) s2.2.2.2.2.2.2.2.2.2),(v133.2&&(((s2.2.2.2.2.2.2.2.2.2).length:Int)==(0:Int)))))))))))):Option (GE×Bool))
noncomputable def rwF (v1 v5:List zd):RSt->Option (Out (GH×Bool) RSt) :=
 (λ(s2:RSt)=>((if (decide (s2.1 < ((v1).length:Int)))=true then ((yx v1 s2.1).bind λy100=>((xY y100 s2).bind λv101=>(if (!v101.2)=true then some (.ret ((GH.mk v5 (GE.mk s2.2.1 s2.2.2.1 s2.2.2.2.1 (GC.mk (GI.mk s2.2.2.2.2.1 s2.2.2.2.2.2.1) s2.2.2.2.2.2.2.1) s2.2.2.2.2.2.2.2.1 s2.2.2.2.2.2.2.2.2.1 s2.2.2.2.2.2.2.2.2.2)),false)) else some (.nxt ((IntKind.wrap .i64 (s2.1+(1:Int))),v101.1.typ,v101.1.n,v101.1.time,v101.1.dot.actor.rep,v101.1.dot.actor.inc,v101.1.dot.seq,v101.1.text,v101.1.items,v101.1.tombs))))) else some (.brk (s2.1,s2.2.1,s2.2.2.1,s2.2.2.2.1,s2.2.2.2.2.1,s2.2.2.2.2.2.1,s2.2.2.2.2.2.2.1,s2.2.2.2.2.2.2.2.1,s2.2.2.2.2.2.2.2.2.1,s2.2.2.2.2.2.2.2.2.2))):Option (Out _ RSt)))
noncomputable def wloopE (v1:List zd):Option ((GH×Bool) ⊕ (Int×Int)) :=
 (zX (λ(s1:Int×Int)=>((if (decide (s1.1 < (5:Int)))=true then ((wD).bind λv33=>((yx v33 s1.1).bind λy34=>((yx v1 (1:Int)).bind λy35=>(if (y34==y35)=true then some (.nxt ((IntKind.wrap .i64 (s1.1+(1:Int))),(IntKind.wrap .u8 (s1.1)))) else some (.nxt ((IntKind.wrap .i64 (s1.1+(1:Int))),s1.2)))))) else some (.brk (s1.1,s1.2))):Option (Out _ (Int×Int)))) ((1:Int),(0:Int)))
noncomputable def rowE (s0:zd):Option (GH×Bool) :=
  ((xS s0 (32:Int)).bind λv1=>(if (decide (((v1).length:Int) < (2:Int)))=true then some ((GH.mk ([]:List zd) zLf),false) else ((yx v1 (0:Int)).bind λy4=>((xS y4 (47:Int)).bind λv5=>(lp (wloopE v1) λ(s1:Int×Int)=>(if (s1.2==(0:Int))=true then some ((GH.mk v5 (GE.mk s1.2 (0:Int) (0:Int) (GC.mk (GI.mk (0:Int) (0:Int)) (0:Int)) ([]:zd) ([]:List GF) ([]:List GC))),false) else (lp (zX (rwF v1 v5) ((2:Int),s1.2,(0:Int),(0:Int),(0:Int),(0:Int),(0:Int),([]:zd),([]:List GF),([]:List GC))) λ(s2:Int×Int×Int×Int×Int×Int×Int×zd×(List GF)×(List GC))=>((qi (GH.mk v5 (GE.mk s2.2.1 s2.2.2.1 s2.2.2.2.1 (GC.mk (GI.mk s2.2.2.2.2.1 s2.2.2.2.2.2.1) s2.2.2.2.2.2.2.1) s2.2.2.2.2.2.2.2.1 s2.2.2.2.2.2.2.2.2.1 s2.2.2.2.2.2.2.2.2.2))).bind λv137=>some ((GH.mk v5 (GE.mk s2.2.1 s2.2.2.1 s2.2.2.2.1 (GC.mk (GI.mk s2.2.2.2.2.1 s2.2.2.2.2.2.1) s2.2.2.2.2.2.2.1) s2.2.2.2.2.2.2.2.1 s2.2.2.2.2.2.2.2.2.1 s2.2.2.2.2.2.2.2.2.2)),(v137==s0))))))))))
theorem ref44row_eq (s:zd):vd s=rowE s:=rfl
end
section
theorem inU (h:0<=n/\n < 18446744073709551616):InK .u64 n:=by
 unfold InK;simp [IntKind.min,IntKind.max,IntKind.signed,IntKind.bits];omega
theorem inI (h:-9223372036854775808<=n/\n<=9223372036854775807):InK .i64 n:=by
 unfold InK;simp [IntKind.min,IntKind.max,IntKind.signed,IntKind.bits];omega
theorem num_tot {s:zd} (hs:s.length<=16777216):∃n b,xd s=some (n,b)/\InK .u64 n:=by
 have key:∀{f:Nat->UInt8->Int->Option (Out (Int×Bool) Int)} (o:∀g i m,f g i m=(zN (((decide ((i.toNat:Int) < (48:Int)))==false)=true->0<=(g:Int)/\(g:Int) < ((s).length:Int)) ((if (((decide ((i.toNat:Int) < (48:Int))) || (decide ((((s).getD (g:Int).toNat 0).toNat:Int) > (57:Int)))) || (decide ((g:Int) > (18:Int))))=true then some (.ret ((0:Int),false)) else some (.nxt (IntKind.wrap .u64 ((IntKind.wrap .u64 ((10:Int) * m))+(IntKind.wrap .u64 ((IntKind.wrap .u8 ((i.toNat:Int) - (48:Int)))))))))))) (r:zd) (k:Nat) (v:Int),k+r.length<=s.length->0<=v/\v < 18446744073709551616->zn f r k v=some (.inl (0,false)) \/ ∃j,zn f r k v=some (.inr j)/\0<=j/\j < 18446744073709551616:=by
  intro f o r
  induction r with
  | nil=>intro k v _ a;exact .inr ⟨v,rfl,a⟩
  | cons x r ih =>
   intro k v p a;simp only [uc] at p;have q:f k x v=some (.ret (0,false)) \/ ∃z,f k x v=some (.nxt (IntKind.wrap .u64 z)):=by
    rw [o,zi (by intro _;omega)];split
    ·exact .inl rfl
    ·exact .inr ⟨_,rfl⟩
   simp only [zn];rcases q with e | ⟨z,e⟩
   ·rw [e];exact .inl rfl
   ·rw [e];refine ih (k+1) _ (by omega) ?_;rw [IntKind.wrap_u64];omega
 unfold xd;rcases key (λg i m=>rfl) s 0 0 (by omega) (by omega) with h | ⟨v,h,a⟩
 ·rw [h];exact ⟨0,false,rfl,zeroU⟩
 ·rw [h];simp only [lp];by_cases h0:decide ((s.length:Int) > 0)=true
  ·rw [um (by rw [h0];rfl),dec_is a];exact ⟨v,_,rfl,inU a⟩
  ·rw [ur (by simpa using h0)];exact ⟨v,_,rfl,inU a⟩
theorem num_dig {s:zd} (h0:s ≠ []) (hd:s.all vU=true) (y:s.length<=19):xd s=some (((valD 0 s:Nat):Int),yP ((valD 0 s:Nat):Int)==s)/\valD 0 s < 10 ^ s.length:=by
 have key:∀{f:Nat->UInt8->Int->Option (Out (Int×Bool) Int)} (m:∀a g i,f a g i=(zN (((decide ((g.toNat:Int) < (48:Int)))==false)=true->0<=(a:Int)/\(a:Int) < ((s).length:Int)) ((if (((decide ((g.toNat:Int) < (48:Int))) || (decide ((((s).getD (a:Int).toNat 0).toNat:Int) > (57:Int)))) || (decide ((a:Int) > (18:Int))))=true then some (.ret ((0:Int),false)) else some (.nxt (IntKind.wrap .u64 ((IntKind.wrap .u64 ((10:Int) * i))+(IntKind.wrap .u64 ((IntKind.wrap .u8 ((g.toNat:Int) - (48:Int)))))))))))) (r pre:zd) (v:Nat),s=pre++r->v < 10 ^ pre.length->zn f r pre.length (v:Int)=some (.inr (valD v r:Nat))/\valD v r < 10 ^ s.length:=by
  intro f m r
  induction r with
  | nil=>intro pre v e o;rw [e,tp];exact ⟨rfl,o⟩
  | cons x r ih =>
   intro pre v e o;have B:=congrArg List.length e;simp only [ue,uc] at B;have hx:vU x=true:=by
    rw [e] at hd;simp only [tX,uY,uf] at hd;exact hd.2.1
   unfold vU at hx;simp only [uf,uh] at hx;have p:s.getD (pre.length:Int).toNat 0=x:=by
    rw [e,uz];simp [List.getD,un]
   have w:(10:Nat) ^ pre.length<=10 ^ 18:=Nat.pow_le_pow_right (by omega) (by omega);have u:(10:Nat) ^ 18=1000000000000000000:=by decide
   have b:=ih (pre++[x]) (v * 10+(x.toNat - 48)) (by rw [e];simp) (by rw [ue,uc,ug,Nat.pow_succ];omega);refine ⟨?_,b.2⟩;simp only [zn];rw [m,zi (by intro _;omega),p,ur (by simp;omega)];have q:IntKind.wrap .u64 (IntKind.wrap .u64 (10 * (v:Int))+IntKind.wrap .u64 (IntKind.wrap .u8 ((x.toNat:Int) - 48)))=((v * 10+(x.toNat - 48):Nat):Int):=by
    rw [IntKind.wrap_u8,IntKind.wrap_u64,IntKind.wrap_u64,IntKind.wrap_u64];omega
   simp only;rw [q];have:=b.1;rw [ue,uc,ug] at this;exact this
 obtain ⟨j,A⟩:=key (λa g i=>rfl) s [] 0 rfl (by simp);refine ⟨?_,A⟩;have C:(10:Nat) ^ s.length<=10 ^ 19:=Nat.pow_le_pow_right (by omega) y;have z:(10:Nat) ^ 19=10000000000000000000:=by decide
 unfold xd;simp only [ug] at j;show lp (zn _ s 0 ((0:Nat):Int)) _=_;rw [j];have w:=tK.2 h0;have h:decide ((s.length:Int) > 0)=true:=uN (by omega);simp only [lp];rw [um (by rw [h];rfl),dec_is (by omega),ua,h,u2]
theorem nDig_le:∀(k u:Nat),u < 10 ^ (k+1)->Lib.nDigits u<=k+1
 | 0,u,h=>by rw [Lib.nDigits_small (by simpa using h)];omega
 | k+1,u,h=>by
  by_cases h10:u < 10
  ·rw [Lib.nDigits_small h10];omega
  ·rw [Lib.nDigits_big h10];have:=nDig_le k (u / 10) (by rw [Nat.pow_succ] at h;omega);omega
theorem numT_19 (h:0<=n/\n < 10000000000000000000):(yP n).length<=19:=by
 unfold yP;rw [Lib.decDigits_length];have a:(10:Nat) ^ (18+1)=10000000000000000000:=by decide
 exact nDig_le 18 n.toNat (by omega)
theorem num_back (h:0<=n/\n < 10000000000000000000):xd (yP n)=some (n,true):=by
 obtain ⟨a,b,e⟩:=dec_val n.toNat
 rw [(num_dig (s:=yP n) e b (numT_19 h)).1,show valD 0 (yP n)=n.toNat from a,show ((n.toNat:Nat):Int)=n by omega];simp
theorem minT:Lib.decDigits 9223372036854775808=[57,50,50,51,51,55,50,48,51,54,56,53,52,55,55,53,56,48,56]:=by
 simp [Lib.decDigits]
theorem whole_tot {s:zd} (hs:s.length<=16777216):∃n b,wE s=some (n,b)/\InK .i64 n:=by
 have a:∀z:Int,InK .i64 (IntKind.wrap .i64 z):=λz=>inI (by rw [IntKind.wrap_i64];omega);unfold wE;rw [zi (by intro h;simp at h;omega)];split
 ·rename_i h;simp only [uf,uh] at h;have g:=h.1;rw [x9 (by omega),ua];obtain ⟨n,b,e,f⟩:=num_tot (s:=(s.take ((s.length:Int)).toNat).drop (1:Int).toNat) (by simp;omega);rw [e,ua];split
  ·exact ⟨_,_,rfl,a _⟩
  ·exact ⟨_,_,rfl,inI (by omega)⟩
 ·obtain ⟨n,b,e,f⟩:=num_tot hs;rw [e];exact ⟨_,_,rfl,a _⟩
theorem whole_back (h:-9223372036854775808<=n/\n<=9223372036854775807):wE (Lib.itoa n)=some (n,true):=by
 unfold wE Lib.itoa;by_cases hn:n < 0
 ·rw [um hn,zi (by intro _;simp;try omega),um (by simp),x9 (by simp;omega),ua];rw [show ((45::Lib.decDigits n.natAbs).take (((45::Lib.decDigits n.natAbs).length:Int)).toNat).drop (1:Int).toNat=yP (n.natAbs:Int) by rw [uz,tL];rfl];rw [num_back (by omega),ua];by_cases hm:(n.natAbs:Int)<=9223372036854775807
  ·rw [um (by simpa using hm)];have e:IntKind.wrap .i64 (0 - IntKind.wrap .i64 (n.natAbs:Int))=n:=by
    rw [IntKind.wrap_i64,IntKind.wrap_i64];omega
   rw [e,uN (by omega)]
  ·rw [ur (by simpa using hm)];have e:n.natAbs=9223372036854775808:=by omega
   rw [e,minT];have:n=-9223372036854775808:=by omega
   rw [this];rfl
 ·obtain ⟨i,a,b⟩:=dec_val n.toNat
  have f:=num_back (n:=n) (by omega);unfold yP at f;rw [ur hn,zi (by intro h;have:=tK.2 b;omega)];rw [ur,f,ua]
  ·rw [uN (by omega),show IntKind.wrap .i64 n=n by rw [IntKind.wrap_i64];omega];rfl
  ·obtain ⟨c,r,g⟩:∃c r,Lib.decDigits n.toNat=c::r:=sg b;rw [g] at a ⊢;simp only [uY,uf,vU,uh] at a;simp;omega
theorem dotOf_tot {s:zd} (hs:s.length<=16777216):∃d b,yT s=some (d,b)/\GC.wf d:=by
 unfold yT;rw [show (46:Int)=((46:UInt8).toNat:Int) from rfl,xcut_is hs,ua];have f:=λp i=>(vz 46 s p i).1;generalize xj 46 s=q at f ⊢
 match q with
 | []=>exact ⟨_,_,rfl,wf0⟩
 | [a]=>exact ⟨_,_,rfl,wf0⟩
 | [a,b]=>exact ⟨_,_,rfl,wf0⟩
 | [a,b,c] =>
  obtain ⟨z,u,j,o⟩:=num_tot (uE (f a (by simp)) hs);obtain ⟨B,y,h,A⟩:=num_tot (uE (f b (by simp)) hs);obtain ⟨v,w,m,g⟩:=num_tot (uE (f c (by simp)) hs);rw [ur (by simp),show yx [a,b,c] 0=some a from rfl,show yx [a,b,c] 1=some b from rfl,show yx [a,b,c] 2=some c from rfl];simp only [ua];rw [j,ua,h,ua,m,ua];split
  ·exact ⟨_,_,rfl,wf0⟩
  ·rw [ref03May_is];exact ⟨_,_,rfl,⟨wrapU8_in _,wrapU32_in _⟩,g⟩
 | a::b::c::d::e =>
  rw [um (by simp;omega)];exact ⟨_,_,rfl,wf0⟩
theorem dotOf_back (b:GC.wf d) (f:xw d=true):yT (qc d)=some (d,true):=by
 have a:=f;unfold xw actorB at a;simp only [uf,uh] at a;have g:=inU8 b.1.1;have h:=inU32 b.1.2;have i:=qJ b.2;have j:=xr b;unfold yT;rw [show (46:Int)=((46:UInt8).toNat:Int) from rfl,xcut_is (by omega),ua,cut_dot];rw [ur (by simp),show yx [yP d.actor.rep,yP d.actor.inc,yP d.seq] 0=some (yP d.actor.rep) from rfl,show yx [yP d.actor.rep,yP d.actor.inc,yP d.seq] 1=some (yP d.actor.inc) from rfl,show yx [yP d.actor.rep,yP d.actor.inc,yP d.seq] 2=some (yP d.seq) from rfl];simp only [ua];rw [num_back (by omega),ua,num_back (by omega),ua,num_back (by omega),ua];rw [ur (by simp;omega)];have e:GC.mk (GI.mk (IntKind.wrap .u8 d.actor.rep) (IntKind.wrap .u32 d.actor.inc)) d.seq=d:=by
  rw [IntKind.wrap_u8,IntKind.wrap_u32,show d.actor.rep % 256=d.actor.rep by omega,show d.actor.inc % 4294967296=d.actor.inc by omega]
 simp only;rw [e,ref03May_is,f];rfl
end
section
def valX (x:UInt8):Int:=if 48<=x.toNat/\x.toNat<=57 then (x.toNat:Int) - 48 else if 97<=x.toNat/\x.toNat<=102 then (x.toNat:Int) - 87 else 16
theorem value_is (x:UInt8):xf (x.toNat:Int)=some (valX x):=by
 have:=x.toNat_lt;unfold xf valX;by_cases h:48<=x.toNat/\x.toNat<=57
 ·rw [um (by simp;omega),um h,IntKind.wrap_u8];congr 1;omega
 ·rw [ur (by simp;omega),ur h];by_cases h2:97<=x.toNat/\x.toNat<=102
  ·rw [um (by simp;omega),um h2,IntKind.wrap_u8,IntKind.wrap_u8];congr 1;omega
  ·rw [ur (by simp;omega),ur h2]
theorem valX_in (x:UInt8):0<=valX x/\valX x<=16:=by
 unfold valX;split
 ·omega
 ·split <;> omega
def byteX (a b:UInt8):UInt8:=UInt8.ofNat (16 * valX a+valX b).toNat
def textB:zd->Option zd
 | a::b::r=>if valX a > 15 \/ valX b > 15 then none else (textB r).map λt=>byteX a b::t
 | _=>some []
theorem textB_len:∀(x t:zd),textB x=some t->t.length<=x.length
 | [],t,h=>by cases h;simp
 | [a],t,h=>by cases h;simp
 | a::b::r,t,h=>by
  unfold textB at h;split at h
  ·cases h
  ·obtain ⟨u,e,rfl⟩:=tv.1 h;have:=textB_len r u e;simp only [uc];omega
theorem text_loop {x:zd} (hx:x.length<=16777216) {f:(List UInt8)×Int->Option (Out (zd×Bool) ((List UInt8)×Int))} (p:∀i,f i=(if (decide ((IntKind.wrap .i64 (i.2+(1:Int))) < ((x).length:Int)))=true then ((yx x i.2).bind λw=>((xf (w.toNat:Int)).bind λv20=>(zN (((decide (v20 > (15:Int)))==false)=true->0<=(IntKind.wrap .i64 (i.2+(1:Int)))/\(IntKind.wrap .i64 (i.2+(1:Int))) < ((x).length:Int)) (((if ((decide (v20 > (15:Int)))==false)=true then xf (((x).getD (IntKind.wrap .i64 (i.2+(1:Int))).toNat 0).toNat:Int) else some default).bind λv22=>(if ((decide (v20 > (15:Int))) || (decide (v22 > (15:Int))))=true then some (.ret (([]:zd),false)) else ((yx x i.2).bind λs=>((xf (s.toNat:Int)).bind λv25=>((yx x (IntKind.wrap .i64 (i.2+(1:Int)))).bind λv=>((xf (v.toNat:Int)).bind λm=>(zN (0<=(IntKind.wrap .u8 ((IntKind.wrap .u8 ((16:Int) * v25))+m))/\(IntKind.wrap .u8 ((IntKind.wrap .u8 ((16:Int) * v25))+m)) < 256) ((zN ((i.1).length+(([(UInt8.ofNat (IntKind.wrap .u8 ((IntKind.wrap .u8 ((16:Int) * v25))+m)).toNat)]:List UInt8)).length<=yH) (some (.nxt ((i.1++([(UInt8.ofNat (IntKind.wrap .u8 ((IntKind.wrap .u8 ((16:Int) * v25))+m)).toNat)]:List UInt8)),(IntKind.wrap .i64 (i.2+(2:Int))))))))))))))))))) else some (.brk (i.1,i.2)))) :
  ∀(r pre g:zd),x=pre++r->g.length<=pre.length->(textB r=none->zX f (g,(pre.length:Int))=some (.inl ([],false)))/\∀t,textB r=some t->∃j,zX f (g,(pre.length:Int))=some (.inr (g++t,j))
 | [],pre,g,e,ha=>by
  have o:=congrArg List.length e;simp only [ue,ug] at o;refine ⟨λh=>(by cases h),λt h=>⟨(pre.length:Int),?_⟩⟩;cases h;rw [yk,p];simp only;rw [wG (by omega),ur (by simp;omega)];simp
 | [a],pre,g,e,ha=>by
  have o:=congrArg List.length e;simp only [ue,uc,ug] at o;refine ⟨λh=>(by cases h),λt h=>⟨(pre.length:Int),?_⟩⟩;cases h;rw [yk,p];simp only;rw [wG (by omega),ur (by simp;omega)];simp
 | a::b::r,pre,g,e,ha=>by
  have o:=congrArg List.length e;simp only [ue,uc] at o;have F:yH=2147483648:=rfl;have y:=text_loop hx p r (pre++[a,b]) (g++[byteX a b]) (by rw [e];simp) (by simp;omega);have G:=valX_in a;have vb:=valX_in b;have D:yx x (pre.length:Int)=some a:=by
   rw [e];unfold yx;rw [um (by omega),uz];simp
  have gb:x[pre.length+1]?=some b:=by rw [e,un (by omega)];simp
  have B:yx x ((pre.length:Int)+1)=some b:=by
   unfold yx;rw [um (by omega),show ((pre.length:Int)+1).toNat=pre.length+1 by omega,gb]
  have q:f (g,(pre.length:Int))=if valX a > 15 \/ valX b > 15 then some (.ret ([],false)) else some (.nxt (g++[byteX a b],(((pre++[a,b]).length:Nat):Int))):=by
   rw [p];simp only;rw [wG (by omega),wG (by omega),um (by simp;omega),D,ua,value_is,ua,zi (by intro _;omega)];rw [show ((pre.length:Int)+1).toNat=pre.length+1 by omega,show x.getD (pre.length+1) 0=b by simp [List.getD,gb],value_is];by_cases h1:valX a > 15
   ·rw [ur (by simpa using h1),um (Or.inl h1),ua,um (by simp [h1])]
   ·rw [um (by simpa using h1),ua];by_cases h2:valX b > 15
    ·rw [um (by simp [h2]),um (Or.inr h2)]
    ·rw [ur (by simp;omega),ur (by omega)];simp only [ua];rw [value_is,ua,B,ua,value_is,ua];have z:IntKind.wrap .u8 (IntKind.wrap .u8 (16 * valX a)+valX b)=16 * valX a+valX b:=by
      rw [IntKind.wrap_u8,IntKind.wrap_u8];omega
     rw [z,zi (by omega),zi (by simp only [uc,ug];omega)];simp only [ue,uc,ug];rfl
  unfold textB;by_cases hc:valX a > 15 \/ valX b > 15
  ·rw [um hc] at q ⊢;refine ⟨λ_=>?_,λt h=>(by cases h)⟩;rw [yk,q]
  ·rw [ur hc] at q ⊢;have A:zX f (g,(pre.length:Int))=zX f (g++[byteX a b],(((pre++[a,b]).length:Nat):Int)):=by rw [yk,q]
   rw [A];refine ⟨λh=>y.1 (by simpa using h),λt h=>?_⟩;obtain ⟨u,C,rfl⟩:=tv.1 h;obtain ⟨j,E⟩:=y.2 u C;exact ⟨j,by rw [E];simp⟩
theorem textOf_is {x:zd} (hx:x.length<=16777216):yZ x=some (if x=[45] then ([],true) else match textB x with
  | some t=>(t,decide (0 < x.length)&&decide (x.length % 2=0))
  | none=>([],false)):=by
 unfold yZ;by_cases h:x=[45]
 ·rw [um (by simp [h]),um h]
 ·rw [ur (by simpa using h),ur h];have k:=text_loop hx (λf=>rfl) x [] [] rfl (by simp);cases hb:textB x with
  | none =>
   have a:=k.1 hb;simp only [ug] at a;show lp (zX _ ([],((0:Nat):Int))) _=_;rw [a];rfl
  | some t =>
   obtain ⟨j,b⟩:=k.2 t hb;simp only [ug] at b;show lp (zX _ ([],((0:Nat):Int))) _=_;rw [b];have:=textB_len x t hb;have e:maxLen=9223372036854775807:=rfl;simp only [lp,uT];rw [zi (by omega)];congr 2;congr 1
   ·exact sn.2 (by omega)
   ·rw [s9 (by omega)];rw [uC];simp;omega
theorem textOf_tot {x:zd} (hx:x.length<=16777216):∃t b,yZ x=some (t,b)/\t.length<=x.length:=by
 rw [textOf_is hx];split
 ·exact ⟨_,_,rfl,by simp⟩
 ·split
  ·rename_i t h;exact ⟨_,_,rfl,textB_len x t h⟩
  ·exact ⟨_,_,rfl,by simp⟩
theorem valX_d:∀k:Nat,k < 16->valX (Proofs.hexd k)=k:=by decide
theorem textB_hexs:∀t:zd,textB (Proofs.hexs t)=some t
 | []=>rfl
 | c::r=>by
  show textB (Proofs.hexd (c.toNat / 16)::Proofs.hexd (c.toNat % 16)::Proofs.hexs r)=_;have a:=c.toNat_lt;unfold textB byteX;rw [valX_d _ (by omega),valX_d _ (by omega),ur (by omega),textB_hexs r];simp only [uX];rw [show (16 * ((c.toNat / 16:Nat):Int)+((c.toNat % 16:Nat):Int)).toNat=c.toNat by omega,UInt8.ofNat_toNat]
theorem textOf_back {t:zd} (h:t.length<=4194304):yZ (qa t)=some (t,true):=by
 have a:=wz t;rw [textOf_is (by omega)];unfold qa;split
 ·rename_i h;subst h;rfl
 ·rename_i h;have a:=Proofs.hexs_len t;have b:0 < t.length:=tK.2 h;rw [ur,textB_hexs]
  ·simp only [uo,tC,rO];rw [uN (by omega),uN (by omega)];rfl
  ·intro e;rw [e] at a;simp at a;omega
theorem itemOf_untimed {s:zd} (t:Int) (hs:s.length<=1048576) (f:InK .u64 t):∃it b,((xS s (61:Int)).bind λe=>(if (((e).length:Int) != (2:Int))=true then some ((GF.mk t (GC.mk (GI.mk (0:Int) (0:Int)) (0:Int)) ([]:zd)),false) else ((yx e (0:Int)).bind λg=>((yT g).bind λv21=>((yx e (1:Int)).bind λh=>((yZ h).bind λv23=>some ((GF.mk t v21.1 v23.1),(v21.2&&v23.2))))))))=some (it,b)/\GF.wf it:=by
 have A:maxLen=9223372036854775807:=rfl;rw [show (61:Int)=((61:UInt8).toNat:Int) from rfl,xcut_is (by omega),ua];have i:=λp o=>(vz 61 s p o).1;generalize xj 61 s=q at i ⊢
 match q with
 | []=>exact ⟨_,_,rfl,f,wf0,by simp⟩
 | [a]=>exact ⟨_,_,rfl,f,wf0,by simp⟩
 | [a,b] =>
  have w:=i a (by simp);have z:=i b (by simp);obtain ⟨d,v,u,j⟩:=dotOf_tot (s:=a) (by omega);obtain ⟨x,y,m,B⟩:=textOf_tot (x:=b) (by omega);rw [ur (by simp),show yx [a,b] 0=some a from rfl,show yx [a,b] 1=some b from rfl];simp only [ua];rw [u,ua,m];exact ⟨_,_,rfl,f,j,by show x.length<=_;omega⟩
 | a::b::c::d =>
  rw [um (by simp;omega)];exact ⟨_,_,rfl,f,wf0,by simp⟩
theorem itemOf_tot {s:zd} (hs:s.length<=1048576) (f:Bool):∃it b,xO s f=some (it,b)/\GF.wf it:=by
 unfold xO;cases f with
 | false=>exact itemOf_untimed 0 hs zeroU
 | true =>
  rw [um rfl,show (64:Int)=((64:UInt8).toNat:Int) from rfl,xcut_is (by omega),ua];have e:=λp g=>(vz 64 s p g).1;have z:GF.wf ⟨0,⟨⟨0,0⟩,0⟩,[]⟩:=⟨zeroU,wf0,by simp⟩
  generalize xj 64 s=q at e ⊢
  match q with
  | []=>exact ⟨_,_,rfl,z⟩
  | [a]=>exact ⟨_,_,rfl,z⟩
  | [a,b] =>
   have m:=e a (by simp);have o:=e b (by simp);obtain ⟨n,i,j,h⟩:=num_tot (s:=a) (by omega);rw [ur (by simp),show yx [a,b] 0=some a from rfl,show yx [a,b] 1=some b from rfl];simp only [ua];rw [j,ua];cases i with
   | false=>exact ⟨_,_,rfl,z⟩
   | true=>exact itemOf_untimed n (s:=b) (by omega) h
  | a::b::c::d =>
   rw [um (by simp;omega)];exact ⟨_,_,rfl,z⟩
theorem untimed_back (t:Int) (f:GF.wf it) (h:xw it.dot=true) (o:it.text.length<=40):((xS (yG it) (61:Int)).bind λa=>(if (((a).length:Int) != (2:Int))=true then some ((GF.mk t (GC.mk (GI.mk (0:Int) (0:Int)) (0:Int)) ([]:zd)),false) else ((yx a (0:Int)).bind λe=>((yT e).bind λv21=>((yx a (1:Int)).bind λb=>((yZ b).bind λv23=>some ((GF.mk t v21.1 v23.1),(v21.2&&v23.2))))))))=some (⟨t,it.dot,it.text⟩,true):=by
 have m:=xr f.2.1;have j:=wz it.text;have g:(yG it).length<=16777216:=by
  simp only [yG,ue,uc,ug];omega
 rw [show (61:Int)=((61:UInt8).toNat:Int) from rfl,xcut_is g,ua];have i:xj 61 (yG it)=[qc it.dot,qa it.text]:=by
  unfold yG;rw [uB];show xj 61 (qc it.dot++61::qa it.text)=_;rw [cutL_app _ (dot_no rfl (by decide) _),cutL_one (hex_no rfl (by decide) _)]
 rw [i,ur (by simp),show yx [qc it.dot,qa it.text] 0=some (qc it.dot) from rfl,show yx [qc it.dot,qa it.text] 1=some (qa it.text) from rfl];simp only [ua];rw [dotOf_back f.2.1 h,ua,textOf_back (by omega)];rfl
theorem itemOf_back (a:GF.wf it) (e:xw it.dot=true) (b:it.text.length<=40) (h0:it.time=0):xO (yG it) false=some (it,true):=by
 have:=untimed_back 0 a e b;rw [show GF.mk 0 it.dot it.text=it by rw [<- h0]] at this;exact this
theorem logOf_back (a:GF.wf it) (f:xw it.dot=true) (e:it.text.length<=40) (h0:vN it.time=true):xO (qq it) true=some (it,true):=by
 have j:=xr a.2.1;have h:=wz it.text;have m:=xb (qJ a.1);have i:=qJ a.1;unfold vN at h0;simp only [uf,uh] at h0;have b:(qq it).length<=16777216:=by
  simp only [qq,ue,uc,ug];omega
 have g:xj 64 (qq it)=[yP it.time,yG it]:=by
  rw [log_eq,cutL_app _ (num_no rfl _),cutL_one (item_no rfl (by decide) (by decide) (by decide) _)]
 unfold xO;rw [um rfl,show (64:Int)=((64:UInt8).toNat:Int) from rfl,xcut_is b,ua,g,ur (by simp),show yx [yP it.time,yG it] 0=some (yP it.time) from rfl,show yx [yP it.time,yG it] 1=some (yG it) from rfl];simp only [ua];rw [num_back (by omega),ua];exact untimed_back it.time a f e
end
section
def tup (i:Int) (l:GE):RSt:=(i,l.typ,l.n,l.time,l.dot.actor.rep,l.dot.actor.inc,l.dot.seq,l.text,l.items,l.tombs)
theorem rwF_is (v1 v5:List zd) (i:Int) (l:GE):rwF v1 v5 (tup i l)=if i < (v1.length:Int) then ((yx v1 i).bind λy=>(xY y (tup i l)).bind λv=>if (!v.2)=true then some (.ret (⟨v5,l⟩,false)) else some (.nxt (tup (IntKind.wrap .i64 (i+1)) v.1))) else some (.brk (tup i l)):=by
 unfold rwF;by_cases h:i < (v1.length:Int)
 ·rw [um h];exact um (uN h)
 ·rw [ur h];exact ur (λe=>h (u9 e))
def LInv (k:Nat) (l:GE):Prop:=GE.wf l/\l.items.length+l.tombs.length<=k/\l.text.length<=1048576
theorem wf_n (h:GE.wf l) (a:InK .i64 n):GE.wf ⟨l.typ,n,l.time,l.dot,l.text,l.items,l.tombs⟩:=⟨h.1,a,h.2.2⟩
theorem wf_time (h:GE.wf l) (a:InK .u64 n):GE.wf ⟨l.typ,l.n,n,l.dot,l.text,l.items,l.tombs⟩:=⟨h.1,h.2.1,a,h.2.2.2⟩
theorem wf_dot (h:GE.wf l) (a:GC.wf d):GE.wf ⟨l.typ,l.n,l.time,d,l.text,l.items,l.tombs⟩:=⟨h.1,h.2.1,h.2.2.1,a,h.2.2.2.2⟩
theorem wf_text {s:zd} (h:GE.wf l) (a:s.length<=maxLen):GE.wf ⟨l.typ,l.n,l.time,l.dot,s,l.items,l.tombs⟩:=⟨h.1,h.2.1,h.2.2.1,h.2.2.2.1,a,h.2.2.2.2.2⟩
theorem wf_item (h:GE.wf l) (b:l.items.length < maxLen) (hx:GF.wf x):GE.wf ⟨l.typ,l.n,l.time,l.dot,l.text,l.items++[x],l.tombs⟩:=by
 refine ⟨h.1,h.2.1,h.2.2.1,h.2.2.2.1,h.2.2.2.2.1,⟨by simp;omega,λy a=>?_⟩,h.2.2.2.2.2.2⟩;simp only [uA,uw] at a;rcases a with a | rfl
 ·exact h.2.2.2.2.2.1.2 y a
 ·exact hx
theorem wf_tomb {x:GC} (h:GE.wf l) (b:l.tombs.length < maxLen) (hx:GC.wf x):GE.wf ⟨l.typ,l.n,l.time,l.dot,l.text,l.items,l.tombs++[x]⟩:=by
 refine ⟨h.1,h.2.1,h.2.2.1,h.2.2.2.1,h.2.2.2.2.1,h.2.2.2.2.2.1,by simp;omega,λy a=>?_⟩;simp only [uA,uw] at a;rcases a with a | rfl
 ·exact h.2.2.2.2.2.2.2 y a
 ·exact hx
theorem sub2 (h:k<=4194304):IntKind.wrap .i64 ((k:Int)+2 - 2)=k:=by rw [wG (by omega)];omega
theorem piece_tot {y:zd} (m:y.length<=1048576) (p:k<=1048577) (h:LInv k l):∃j b,xY y (tup ((k:Int)+2) l)=some (j,b)/\LInv (k+1) j:=by
 obtain ⟨f,v,i⟩:=h;have o:maxLen=9223372036854775807:=rfl;have q:yH=2147483648:=rfl;unfold xY tup;simp only;rw [sub2 (by omega)];split
 ·obtain ⟨n,b,e,a⟩:=whole_tot (s:=y) (by omega);rw [e];exact ⟨_,_,rfl,wf_n f a,by show l.items.length+l.tombs.length<=_;omega,i⟩
 ·split
  ·split
   ·obtain ⟨n,b,e,a⟩:=num_tot (s:=y) (by omega);rw [e];exact ⟨_,_,rfl,wf_time f a,by show l.items.length+l.tombs.length<=_;omega,i⟩
   ·split
    ·obtain ⟨n,b,e,a⟩:=dotOf_tot (s:=y) (by omega);rw [e];exact ⟨_,_,rfl,wf_dot f a,by show l.items.length+l.tombs.length<=_;omega,i⟩
    ·obtain ⟨n,b,e,a⟩:=textOf_tot (x:=y) (by omega);rw [e];exact ⟨_,_,rfl,wf_text f (by show n.length<=_;omega),by show l.items.length+l.tombs.length<=_;omega,by show n.length<=_;omega⟩
  ·rw [zi (by intro h;simp at h;omega)];split
   ·rename_i g;simp only [uf,uh] at g;have u:=g.1.2;rw [x9 (by omega),ua];obtain ⟨n,b,e,a⟩:=dotOf_tot (s:=(y.take ((y.length:Int)).toNat).drop (1:Int).toNat) (by simp;omega);rw [e,ua,zi (by simp only [uc,ug];omega)];exact ⟨_,_,rfl,wf_tomb f (by omega) a,by simp;omega,i⟩
   ·obtain ⟨n,b,e,a⟩:=itemOf_tot (s:=y) m (l.typ==4);rw [e,ua,zi (by simp only [uc,ug];omega)];exact ⟨_,_,rfl,wf_item f (by omega) a,by simp;omega,i⟩
theorem run_tot {v1 v5:List zd} {a w:zd}:∀(L f:List zd) (l:GE),v1=a::w::(f++L)->(∀x ∈ L,x.length<=1048576)->f.length+L.length<=1048577->LInv f.length l->(∃r,zX (rwF v1 v5) (tup ((f.length:Int)+2) l)=some (.inl (r,false))) \/ ∃j g,zX (rwF v1 v5) (tup ((f.length:Int)+2) l)=some (.inr (tup j g))/\LInv 1048577 g
 | [],f,l,e,_,hn,h=>by
  right;refine ⟨(f.length:Int)+2,l,?_,h.1,by have:=h.2.1;simp at hn;omega,h.2.2⟩;rw [yk,rwF_is,ur];rw [e];simp;omega
 | x::r,f,l,e,hx,hn,h=>by
  simp only [uc] at hn;obtain ⟨g,b,p,h'⟩:=piece_tot (hx x (by simp)) (by omega) h;have i:rwF v1 v5 (tup ((f.length:Int)+2) l)=if (!b)=true then some (.ret (⟨v5,l⟩,false)) else some (.nxt (tup (((f++[x]).length:Int)+2) g)):=by
   rw [rwF_is,um (by rw [e];simp;omega)];rw [show yx v1 ((f.length:Int)+2)=some x by
    rw [e];unfold yx;rw [um (by omega),show ((f.length:Int)+2).toNat=f.length+1+1 by omega];simp,ua,p,ua,wG (by omega)]
   simp only [ue,uc,ug];rw [show (f.length:Int)+2+1=((f.length+(0+1):Nat):Int)+2 by omega]
  cases b with
  | false =>
   left;refine ⟨⟨v5,l⟩,?_⟩;rw [yk,i];rfl
  | true =>
   have m:zX (rwF v1 v5) (tup ((f.length:Int)+2) l)=zX (rwF v1 v5) (tup (((f++[x]).length:Int)+2) g):=by
    rw [yk,i];rfl
   rw [m];exact run_tot (a:=a) (w:=w) r (f++[x]) g (by rw [e];simp) (λy o=>hx y (by simp [o])) (by simp;omega) (by simpa using h')
theorem run_ok {v1 v5:List zd} {a w:zd} {L:List zd} (e:v1=a::w::L) (b:L.length<=1048577) (Λ:Nat->GE) (h:∀(k:Nat) (y:zd),L[k]?=some y->xY y (tup ((k:Int)+2) (Λ k))=some (Λ (k+1),true)):∀(n k:Nat),k+n=L.length->zX (rwF v1 v5) (tup ((k:Int)+2) (Λ k))=some (.inr (tup ((L.length:Int)+2) (Λ L.length)))
 | 0,k,hk=>by
  rw [yk,rwF_is,ur]
  ·obtain rfl:k=L.length:=by omega
   rfl
  ·rw [e];simp;omega
 | n+1,k,hk=>by
  have f:L[k]?=some L[k]:=ul (by omega);rw [yk,rwF_is,um (by rw [e];simp;omega)];rw [show yx v1 ((k:Int)+2)=some L[k] by
   rw [e];unfold yx;rw [um (by omega),show ((k:Int)+2).toNat=k+1+1 by omega];simp,ua,h k L[k] f,ua,wG (by omega)]
  simp only [tq,up,uJ];rw [show (k:Int)+2+1=((k+1:Nat):Int)+2 by omega];exact run_ok e b Λ h n (k+1) (by omega)
def kw (w:zd):Int:=if [108,111,103]=w then 4 else if [115,101,116]=w then 3 else if [114,101,103,105,115,116,101,114]=w then 2 else if [99,111,117,110,116,101,114]=w then 1 else 0
theorem wloop_is (a w:zd) (r:List zd):wloopE (a::w::r)=some (.inr (5,kw w)):=by
 have hi:yx (a::w::r) 1=some w:=rfl;have g:∀{f:Int×Int->Option (Out (GH×Bool) (Int×Int))} (o:∀b,f b=(if (decide (b.1 < (5:Int)))=true then ((wD).bind λs=>((yx s b.1).bind λq=>((yx (a::w::r) (1:Int)).bind λm=>(if (q==m)=true then some (.nxt ((IntKind.wrap .i64 (b.1+(1:Int))),(IntKind.wrap .u8 (b.1)))) else some (.nxt ((IntKind.wrap .i64 (b.1+(1:Int))),b.2)))))) else some (.brk (b.1,b.2)))),zX f (1,0)=some (.inr (5,kw w)):=by
  intro f o;have h:∀(i k:Int) (j:zd),0<=i/\i < 5->yx ([([]:zd),([99,111,117,110,116,101,114]:zd),([114,101,103,105,115,116,101,114]:zd),([115,101,116]:zd),([108,111,103]:zd)]:List zd) i=some j->zX f (i,k)=zX f (i+1,if j=w then i else k):=by
   intro i k j p u;rw [yk,o];simp only;rw [um (by simpa using p.2)];unfold wD;rw [ua,u,ua,hi,ua,wG (by omega),show IntKind.wrap .u8 i=i by rw [IntKind.wrap_u8];omega];by_cases e:j=w
   ·rw [um (by simpa using e),um e]
   ·rw [ur (by simpa using e),ur e]
  rw [h 1 0 _ (by omega) rfl,show (1:Int)+1=2 from rfl,h 2 _ _ (by omega) rfl,show (2:Int)+1=3 from rfl,h 3 _ _ (by omega) rfl,show (3:Int)+1=4 from rfl,h 4 _ _ (by omega) rfl];rw [yk,o];rfl
 exact g λb=>rfl
theorem kw_in (w:zd):kw w=0 \/ kw w=1 \/ kw w=2 \/ kw w=3 \/ kw w=4:=by
 unfold kw
 repeat' split
 all_goals omega
theorem kw_word (h:n=1 \/ n=2 \/ n=3 \/ n=4):kw (xU n)=n:=by
 rcases h with rfl | rfl | rfl | rfl <;> rfl
theorem fin_lineD {s:zd} (h0:s ≠ []) {r:GH} (a:GE.wf r.leaf) (b:bkLim r.leaf):Fin2 s ((qi r).bind λv=>some (r,v==s)):=by
 obtain ⟨g,f,_⟩:=line_tot a b;rw [ref44Line_is a b];refine ⟨r,ym r==s,rfl,λh=>?_⟩;have e:ym r=s:=by simpa using h
 exact ⟨f (by rw [e];exact h0),e⟩
theorem row_tot {s:zd} (hs:s.length<=1048576):Fin2 s (vd s):=by
 rw [ref44row_eq];unfold rowE;rw [show (32:Int)=((32:UInt8).toNat:Int) from rfl,xcut_is (by omega),ua];have g:=cutL_len 32 s;have f:=λp v=>(vz 32 s p v).1;have b:=join_cutL 32 s;generalize xj 32 s=q at g f b ⊢
 match q with
 | []=>exact fin_no _
 | [a]=>exact fin_no _
 | a::w::L =>
  have h0:s ≠ []:=by
   intro e;rw [e,join_two] at b;cases a <;> cases b
  have o:L.length<=1048576:=by simp only [uc] at g;omega
  have u:∀x ∈ L,x.length<=1048576:=λx hx=>uE (f x (by simp [hx])) hs;have y:a.length<=16777216:=by have:=f a (by simp);omega
  rw [ur (by simp;omega),show yx (a::w::L) 0=some a from rfl,ua,show (47:Int)=((47:UInt8).toNat:Int) from rfl,xcut_is y,ua,wloop_is];simp only [lp];by_cases hk:kw w=0
  ·rw [um (by simpa using hk)];exact fin_no _
  ·rw [ur (by simpa using hk)];have i:kw w=1 \/ kw w=2 \/ kw w=3 \/ kw w=4:=by have:=kw_in w;omega
   have m:=run_tot (v1:=a::w::L) (v5:=xj 47 a) (a:=a) (w:=w) L [] ⟨kw w,0,0,xJ,[],[],[]⟩ rfl u (by simp;omega) ⟨wfL i zeroI zeroU wf0 (by simp) (by simp) (by simp) (by simp) (by simp),by simp,by simp⟩;change (∃r,zX (rwF (a::w::L) (xj 47 a)) ((2:Int),kw w,(0:Int),(0:Int),(0:Int),(0:Int),(0:Int),([]:zd),([]:List GF),([]:List GC))=some (.inl (r,false))) \/ ∃j h,zX (rwF (a::w::L) (xj 47 a)) ((2:Int),kw w,(0:Int),(0:Int),(0:Int),(0:Int),(0:Int),([]:zd),([]:List GF),([]:List GC))=some (.inr (tup j h))/\LInv 1048577 h at m;rcases m with ⟨r,e⟩ | ⟨j,h,e,h'⟩
   ·rw [e];exact fin_no r
   ·rw [e];exact fin_lineD h0 (r:=⟨xj 47 a,h⟩) h'.1 (by have:=h'.2.1;simp only [bkLim];omega)
theorem piece1 (h:-9223372036854775808<=n/\n<=9223372036854775807):xY (Lib.itoa n) (tup (((0:Nat):Int)+2) ⟨1,0,0,xJ,[],[],[]⟩)=some (⟨1,n,0,xJ,[],[],[]⟩,true):=by
 unfold xY tup;simp only;rw [um (by simp),whole_back h,sub2 (by omega)];rfl
theorem piece2d:xY [45] (tup (((0:Nat):Int)+2) ⟨2,0,0,xJ,[],[],[]⟩)=some (⟨2,0,0,xJ,[],[],[]⟩,true):=by
 have e:xd [45]=some (0,false):=rfl;unfold xY tup;simp only;rw [ur (by simp),um (by simp),sub2 (by omega),um (by simp),e];rfl
theorem piece2a (h:0 < t/\t < 10000000000000000000):xY (yP t) (tup (((0:Nat):Int)+2) ⟨2,0,0,xJ,[],[],[]⟩)=some (⟨2,0,t,xJ,[],[],[]⟩,true):=by
 unfold xY tup;simp only;rw [ur (by simp),um (by simp),sub2 (by omega),um (by simp),num_back (by omega)];simp only [ua];rw [uN (by omega)];rfl
theorem piece2b (a:GC.wf d) (b:xw d=true):xY (qc d) (tup (((1:Nat):Int)+2) ⟨2,0,t,xJ,[],[],[]⟩)=some (⟨2,0,t,d,[],[],[]⟩,true):=by
 unfold xY tup;simp only;rw [ur (by simp),um (by simp),sub2 (by omega),ur (by simp),um (by simp),dotOf_back a b];rfl
theorem piece2c {s:zd} (hs:s.length<=40):xY (qa s) (tup (((2:Nat):Int)+2) ⟨2,0,t,d,[],[],[]⟩)=some (⟨2,0,t,d,s,[],[]⟩,true):=by
 unfold xY tup;simp only;rw [ur (by simp),um (by simp),sub2 (by omega),ur (by simp),ur (by simp),textOf_back (by omega)];rfl
theorem head_no {y:zd} (h:c ∉ y) (a:0 < y.length):((y.getD (0:Int).toNat 0).toNat:Int) ≠ c.toNat:=by
 obtain ⟨x,r,rfl⟩:=sg (tK.1 a);simp only [uv,sU] at h;intro e;have:x.toNat=c.toNat:=by have e:(x.toNat:Int)=c.toNat:=e;omega
 exact h.1 (rT.1 this).symm
theorem piece3a (i:k<=4194304) {it:GF} {I:List GF} (j:I.length<=4194304) (a:GF.wf it) (g:xw it.dot=true) (f:it.text.length<=40) (h0:it.time=0):xY (yG it) (tup ((k:Int)+2) ⟨3,0,0,xJ,[],I,[]⟩)=some (⟨3,0,0,xJ,[],I++[it],[]⟩,true):=by
 have m:yH=2147483648:=rfl;have b:0 < (yG it).length:=by simp [yG];omega
 have h:=head_no (c:=33) (item_no rfl (by decide) (by decide) (by decide) it) b;unfold xY tup;simp only;rw [ur (by simp),ur (by simp),zi (by intro _;omega),ur]
 ·rw [show ((3:Int)==4)=false from rfl,itemOf_back a g f h0,ua,zi (by simp only [uc,ug];omega)];rfl
 ·simp only [uf,sf,not_and];exact λ_ e=>h e
theorem piece3b (f:k<=4194304) {d:GC} {I:List GF} {T:List GC} (h:T.length<=4194304) (a:GC.wf d) (b:xw d=true):xY (xQ d) (tup ((k:Int)+2) ⟨3,0,0,xJ,[],I,T⟩)=some (⟨3,0,0,xJ,[],I,T++[d]⟩,true):=by
 have g:yH=2147483648:=rfl;have e:0 < (xQ d).length:=by simp [xQ]
 unfold xY tup;simp only;rw [ur (by simp),ur (by simp),zi (by intro _;omega),um]
 ·rw [x9 (by omega),ua,show ((xQ d).take (((xQ d).length:Int)).toNat).drop (1:Int).toNat=qc d by rw [uz,tL];rfl,dotOf_back a b,ua,zi (by simp only [uc,ug];omega)]
 ·rw [show (xQ d).getD (0:Int).toNat 0=33 from rfl,uN (show ((xQ d).length:Int) > 0 by omega)];rfl
theorem piece4 (f:k<=4194304) {it:GF} {I:List GF} (g:I.length<=4194304) (a:GF.wf it) (e:xw it.dot=true) (b:it.text.length<=40) (h0:vN it.time=true):xY (qq it) (tup ((k:Int)+2) ⟨4,0,0,xJ,[],I,[]⟩)=some (⟨4,0,0,xJ,[],I++[it],[]⟩,true):=by
 have i:yH=2147483648:=rfl;unfold xY tup;simp only;rw [ur (by simp),ur (by simp),zi (by intro h;simp at h),ur (by simp)];rw [show ((4:Int)==4)=true from rfl,logOf_back a e b h0,ua,zi (by simp only [uc,ug];omega)];rfl
theorem row_back (h:Good r) (hs:(ym r).length<=1048576):vd (ym r)=some (r,true):=by
 obtain ⟨s,c2⟩:=line_cut h;have g:=cutL_len 32 (ym r);obtain ⟨H,B,j,A⟩:=h;have D:=ref44Line_is j A;have E:(Lib.join r.path [47]).length<=16777216:=by
  have:=(vz 32 (ym r) (Lib.join r.path [47]) (by rw [s];simp)).1;omega
 rw [s] at g;have m:(zI r.leaf).length<=1048577:=by simp only [uc] at g;omega
 rw [ref44row_eq];unfold rowE;have C:=leafB_typ B;rw [show (32:Int)=((32:UInt8).toNat:Int) from rfl,xcut_is (by omega),ua,s,ur (by simp;omega)];rw [show yx (Lib.join r.path [47]::xU r.leaf.typ::zI r.leaf) 0=some (Lib.join r.path [47]) from rfl,ua,show (47:Int)=((47:UInt8).toNat:Int) from rfl,xcut_is E,ua,c2,wloop_is,kw_word C];simp only [lp];rw [ur (by simp;omega)];have o:((qi r).bind λv=>some (r,v==ym r))=some (r,true):=by rw [D];simp
 have F:∀Λ:Nat->GE,Λ 0=⟨r.leaf.typ,0,0,xJ,[],[],[]⟩->Λ (zI r.leaf).length=r.leaf->(∀(k:Nat) (y:zd),(zI r.leaf)[k]?=some y->xY y (tup ((k:Int)+2) (Λ k))=some (Λ (k+1),true))->zX (rwF (Lib.join r.path [47]::xU r.leaf.typ::zI r.leaf) r.path) ((2:Int),r.leaf.typ,(0:Int),(0:Int),(0:Int),(0:Int),(0:Int),([]:zd),([]:List GF),([]:List GC))=some (.inr (tup (((zI r.leaf).length:Int)+2) r.leaf)):=by
  intro Λ L0 L1 J;have:=run_ok (v5:=r.path) (a:=Lib.join r.path [47]) (w:=xU r.leaf.typ) rfl m Λ J (zI r.leaf).length 0 (by omega);rw [L0,L1] at this;exact this
 have key:∃Λ:Nat->GE,Λ 0=⟨r.leaf.typ,0,0,xJ,[],[],[]⟩/\Λ (zI r.leaf).length=r.leaf/\∀(k:Nat) (y:zd),(zI r.leaf)[k]?=some y->xY y (tup ((k:Int)+2) (Λ k))=some (Λ (k+1),true):=by
  clear F o D s c2 g E m C H;obtain ⟨path,l⟩:=r;simp only at *;rcases leaf_shape B with e | e | ⟨e,i,u,G,O⟩ | ⟨e,i,u⟩ | ⟨e,i⟩
  ·have L:=inI64 j.2.1;rw [e];refine ⟨λk=>if k=0 then ⟨1,0,0,xJ,[],[],[]⟩ else ⟨1,l.n,0,xJ,[],[],[]⟩,rfl,rfl,λk y b=>?_⟩
   match k with
   | 0=>obtain rfl:Lib.itoa l.n=y:=uF b;exact piece1 L
   | k+1=>cases b
  ·rw [e];refine ⟨λk=>⟨2,0,0,xJ,[],[],[]⟩,rfl,rfl,λk y b=>?_⟩
   match k with
   | 0=>obtain rfl:[45]=y:=uF b;exact piece2d
   | k+1=>cases b
  ·have Q:GC.wf l.dot:=j.2.2.2.1;have q:zI ⟨2,0,l.time,l.dot,l.text,[],[]⟩=[yP l.time,qc l.dot,qa l.text]:=by
    unfold zI;simp [i]
   unfold vN at u;simp only [uf,uh] at u;rw [e,q];refine ⟨λk=>if k=0 then ⟨2,0,0,xJ,[],[],[]⟩ else if k=1 then ⟨2,0,l.time,xJ,[],[],[]⟩ else if k=2 then ⟨2,0,l.time,l.dot,[],[],[]⟩ else ⟨2,0,l.time,l.dot,l.text,[],[]⟩,rfl,rfl,λk y b=>?_⟩
   match k with
   | 0=>obtain rfl:yP l.time=y:=uF b;exact piece2a (by omega)
   | 1=>obtain rfl:qc l.dot=y:=uF b;exact piece2b Q G
   | 2=>obtain rfl:qa l.text=y:=uF b;exact piece2c O
   | k+3=>cases b
  ·have z:∀x ∈ l.items,GF.wf x:=j.2.2.2.2.2.1.2;have P:∀x ∈ l.tombs,GC.wf x:=j.2.2.2.2.2.2.2;have M:l.items.length+l.tombs.length<=4194304:=A;rw [e];have q:zI ⟨3,0,0,xJ,[],l.items,l.tombs⟩=l.items.map yG++l.tombs.map xQ:=rfl;rw [q];refine ⟨λk=>⟨3,0,0,xJ,[],l.items.take k,l.tombs.take (k - l.items.length)⟩,by simp,by simp [uH (show l.items.length<=l.items.length+l.tombs.length by omega)],λk y b=>?_⟩;simp only;by_cases hk:k < l.items.length
   ·rw [uq (by simpa using hk),tT,ul hk] at b;obtain rfl:yG l.items[k]=y:=uF b;have hx:=sA hk;have:=piece3a (k:=k) (by omega) (I:=l.items.take k) (by simp;omega) (z _ hx) (i _ hx).1 (i _ hx).2.1 (i _ hx).2.2;rw [rm hk] at this;rw [show k - l.items.length=0 by omega,show k+1 - l.items.length=0 by omega,pA];exact this
   ·rw [un (by simpa using hk),tT,uD] at b;obtain ⟨d,hd,rfl⟩:=tv.1 b;obtain ⟨p,f⟩:=ud.1 hd;have hx:d ∈ l.tombs:=f ▸ sA p;have:=piece3b (k:=k) (by omega) (I:=l.items) (T:=l.tombs.take (k - l.items.length)) (by simp;omega) (P _ hx) (u _ hx);rw [<- f,rm p,f] at this;rw [uH (show l.items.length<=k by omega),uH (show l.items.length<=k+1 by omega),show k+1 - l.items.length=k - l.items.length+1 by omega];exact this
  ·have z:∀x ∈ l.items,GF.wf x:=j.2.2.2.2.2.1.2;have K:l.items.length+l.tombs.length<=4194304:=A;rw [e];have q:zI ⟨4,0,0,xJ,[],l.items,[]⟩=l.items.map qq:=rfl;rw [q];refine ⟨λk=>⟨4,0,0,xJ,[],l.items.take k,[]⟩,by simp,by simp,λk y b=>?_⟩;rw [tT] at b;obtain ⟨d,hd,rfl⟩:=tv.1 b;obtain ⟨p,f⟩:=ud.1 hd;have hx:d ∈ l.items:=f ▸ sA p;have:=piece4 (k:=k) (by omega) (I:=l.items.take k) (by simp;omega) (z _ hx) (i _ hx).1 (i _ hx).2.1 (i _ hx).2.2;rw [<- f,rm p,f] at this;exact this
 obtain ⟨Λ,N,a2,a3⟩:=key;rw [F Λ N a2 a3];exact o
theorem both_row {s:zd} (hs:s.length<=1048576):(∃r,Good r/\ym r=s/\yI s=some (r,true)/\vd s=some (r,true)) \/ ((∀r,Good r->ym r ≠ s)/\(∃r,yI s=some (r,false))/\∃r,vd s=some (r,false)):=by
 by_cases h:∃r,Good r/\ym r=s
 ·obtain ⟨r,a,rfl⟩:=h;exact .inl ⟨r,a,rfl,read_back a hs,row_back a hs⟩
 ·right;refine ⟨λr a e=>h ⟨r,a,e⟩,?_,?_⟩
  ·obtain ⟨r,b,e,f⟩:=read_tot hs;cases b with
   | false=>exact ⟨r,e⟩
   | true=>exact absurd ⟨r,f rfl⟩ h
  ·obtain ⟨r,b,e,f⟩:=row_tot hs;cases b with
   | false=>exact ⟨r,e⟩
   | true=>exact absurd ⟨r,f rfl⟩ h
end
section
structure Odd (c:UInt8):Prop where
 hx:isHx c=false
 al:alnum c=false
 n32:c ≠ 32
 n33:c ≠ 33
 n45:c ≠ 45
 n46:c ≠ 46
 n47:c ≠ 47
 n61:c ≠ 61
 n64:c ≠ 64
theorem Odd.ten:Odd 10:=by constructor <;> decide
theorem Odd.dig (h:Odd c):vU c=false:=by
 have:=h.hx;unfold isHx at this;simp only [tW] at this;exact this.1
theorem word_al (n:Int):(xU n).all alnum=true:=by
 unfold xU
 repeat' split
 all_goals decide
theorem parts_odd (h:Odd c) (l:GE):∀p ∈ zI l,c ∉ p:=by
 intro p a;unfold zI at a;split at a
 ·simp only [uw] at a;subst a;exact itoa_no h.dig h.n45 _
 ·split at a
  ·split at a
   ·simp only [uw] at a;subst a;simpa using h.n45
   ·simp only [uv,sB,pC] at a;rcases a with rfl | rfl | rfl
    ·exact num_no h.dig _
    ·exact dot_no h.dig h.n46 _
    ·exact hex_no h.hx h.n45 _
  ·split at a
   ·simp only [uA,tm] at a;rcases a with ⟨x,_,rfl⟩ | ⟨x,_,rfl⟩
    ·exact item_no h.hx h.n45 h.n46 h.n61 x
    ·exact tomb_no h.hx h.n46 h.n33 x
   ·simp only [tm] at a;obtain ⟨x,_,rfl⟩:=a;exact log_no h.hx h.n45 h.n46 h.n61 h.n64 x
theorem line_odd (h:Odd c) {r:GH} (a:Good r):c ∉ ym r:=by
 obtain ⟨e,f,b⟩:=qV a.1;rw [(line_tot a.2.2.1 a.2.2.2).2.2 a];refine join_no h.n32 λx hx=>?_;simp only [tc,uT,uv] at hx;rcases hx with rfl | rfl | hx
 ·exact join_no h.n47 λx hx=>alnum_no h.al (b x hx).1
 ·exact alnum_no h.al (word_al _)
 ·exact parts_odd h _ x hx
theorem line_inj {q:GH} (f:Good r) (b:Good q) (hs:(ym r).length<=1048576) (e:ym r=ym q):r=q:=by
 have a:=read_back f hs;rw [e,read_back b (by rw [<- e];exact hs)] at a;injection a with a;injection a with a;exact a.symm
def eOf (r:GH):GJ:=⟨r.path,r.leaf.typ,false,true,leaf0,r.leaf⟩
theorem xorder_is (a b:GH):qB a b=some (ordI (eOf a) (eOf b)):=order_is (eOf a) (eOf b)
theorem ord_neg (a b:GH):decide (ordI (eOf a) (eOf b) >= 0)=!kltB (rkey a) (rkey b):=by
 unfold ordI;show decide ((if kltB (rkey a) (rkey b)=true then (-1:Int) else if kltB (rkey b) (rkey a)=true then 1 else 0) >= 0)=_;cases h:kltB (rkey a) (rkey b) with
 | true=>rfl
 | false =>
  cases kltB (rkey b) (rkey a) <;> rfl
theorem behind_loop {a b:GH} (C:a.path.length<=16777216) {f:Int->Option (Out Bool Int)} (s:∀g,f g=(if ((decide (g < ((a.path).length:Int)))&&(decide (g < ((b.path).length:Int))))=true then ((yx a.path g).bind λv=>((yx b.path g).bind λw=>(if (!(v==w))=true then ((yx a.path g).bind λm=>((yx b.path g).bind λq=>some (.ret (!(Op.bytesLess m q || m==q))))) else some (.nxt (IntKind.wrap .i64 (g+(1:Int))))))) else some (.brk g))) :
  ∀(a' i p:List zd),a.path=p++a'->b.path=p++i->lp (zX f (p.length:Int)) (λ(g:Int)=>(if (((a.path).length:Int) != ((b.path).length:Int))=true then some (decide (((a.path).length:Int) > ((b.path).length:Int))) else some (decide (a.leaf.typ > b.leaf.typ))))=some (vL i a' || (decide (i=a')&&decide (b.leaf.typ < a.leaf.typ)))
 | [],i,p,e1,e2=>by
  have o:=congrArg List.length e1;have j:=congrArg List.length e2;simp only [ue,ug] at o j;rw [yk,s,ur (by simp;omega)];simp only [lp];cases i with
  | nil =>
   simp only [ug] at j;rw [ur (by simp;omega)];simp [vL]
  | cons y i =>
   simp only [uc] at j;rw [um (by simp;omega),uS (by omega)];simp [vL]
 | x::a',[],p,e1,e2=>by
  have o:=congrArg List.length e1;have j:=congrArg List.length e2;simp only [ue,ug,uc] at o j;rw [yk,s,ur (by simp;omega)];simp only [lp];rw [um (by simp;omega),uN (by omega)];simp [vL]
 | x::a',y::i,p,e1,e2=>by
  have o:=congrArg List.length e1;have j:=congrArg List.length e2;simp only [ue,uc] at o j;have A:yx a.path (p.length:Int)=some x:=zG (by rw [e1];simp);have i2:yx b.path (p.length:Int)=some y:=zG (by rw [e2];simp);rw [yk,s,um (by simp;omega),A,ua,i2,ua];by_cases h:x=y
  ·subst h;rw [ur (by simp),wG (by omega)];have B:=behind_loop C s a' i (p++[x]) (by rw [e1];simp) (by rw [e2];simp);rw [show ((p.length:Int)+1)=((p++[x]).length:Nat) by simp];simp only;rw [B];simp [vL,vS]
  ·rw [um (by simpa using h)];simp only [ua,lp];rcases less_tot x y with e | e | e
   ·exact absurd e h
   ·have u:Op.bytesLess y x=false:=by
     cases e2:Op.bytesLess y x
     ·rfl
     ·have:=wM e e2;rw [vS] at this;cases this
    have z:¬ y=x:=λe=>h e.symm;simp [vL,e,u,z]
   ·have u:Op.bytesLess x y=false:=by
     cases e2:Op.bytesLess x y
     ·rfl
     ·have:=wM e e2;rw [vS] at this;cases this
    simp [vL,e,u,h]
theorem behind_is {a:GH} (b:GH) (e:a.path.length<=16777216):vF a b=some (kltB (rkey b) (rkey a)):=by
 unfold vF;exact behind_loop e (λf=>rfl) a.path b.path [] rfl rfl
end
section
abbrev PSt:=zd×(List GJ)×Int×(List zd)×Int×Int×Int×Int×Int×Int×zd×(List GF)×(List GC)
abbrev PRes:=List GA×Int×Int
noncomputable def ppF:PSt->Option (Out PRes PSt) :=
 (λ(s1:PSt)=>((if (!(s1.1==([]:zd)))=true then ((xF s1.1 ([10]:zd)).bind λv24=>((yI v24.1).bind λv25=>(if ((!v25.2) || (!v24.2.2))=true then some (.ret (([]:List GA),s1.2.2.1,(4:Int))) else ((if ((decide (s1.2.2.1 > (1:Int)))==true)=true then qB (GH.mk s1.2.2.2.1 (GE.mk s1.2.2.2.2.1 s1.2.2.2.2.2.1 s1.2.2.2.2.2.2.1 (GC.mk (GI.mk s1.2.2.2.2.2.2.2.1 s1.2.2.2.2.2.2.2.2.1) s1.2.2.2.2.2.2.2.2.2.1) s1.2.2.2.2.2.2.2.2.2.2.1 s1.2.2.2.2.2.2.2.2.2.2.2.1 s1.2.2.2.2.2.2.2.2.2.2.2.2)) v25.1 else some default).bind λv27=>(if ((decide (s1.2.2.1 > (1:Int)))&&(decide (v27 >= (0:Int))))=true then some (.ret (([]:List GA),s1.2.2.1,(16:Int))) else (zN ((s1.2.1).length+(([(GJ.mk v25.1.path v25.1.leaf.typ false true zLf v25.1.leaf)]:List GJ)).length<=yH) (some (.nxt (v24.2.1,(s1.2.1++([(GJ.mk v25.1.path v25.1.leaf.typ false true zLf v25.1.leaf)]:List GJ)),(IntKind.wrap .i64 (s1.2.2.1+(1:Int))),v25.1.path,v25.1.leaf.typ,v25.1.leaf.n,v25.1.leaf.time,v25.1.leaf.dot.actor.rep,v25.1.leaf.dot.actor.inc,v25.1.leaf.dot.seq,v25.1.leaf.text,v25.1.leaf.items,v25.1.leaf.tombs))))))))) else some (.brk (s1.1,s1.2.1,s1.2.2.1,s1.2.2.2.1,s1.2.2.2.2.1,s1.2.2.2.2.2.1,s1.2.2.2.2.2.2.1,s1.2.2.2.2.2.2.2.1,s1.2.2.2.2.2.2.2.2.1,s1.2.2.2.2.2.2.2.2.2.1,s1.2.2.2.2.2.2.2.2.2.2.1,s1.2.2.2.2.2.2.2.2.2.2.2.1,s1.2.2.2.2.2.2.2.2.2.2.2.2))):Option (Out _ PSt)))
noncomputable def dpF (s0:zd):Nat->UInt8->(List GH)×Int->Option (Out PRes ((List GH)×Int)) :=
 (λ(n1:Nat) (x1:UInt8) (s1:(List GH)×Int)=>((if ((x1.toNat:Int) != (10:Int))=true then some (.nxt (s1.1,s1.2)) else ((slc s0 s1.2 (n1:Int)).bind λm24=>((vd m24).bind λv25=>(if (!v25.2)=true then some (.ret (([]:List GA),(IntKind.wrap .i64 (((s1.1).length:Int)+(1:Int))),(4:Int))) else (zN (((decide (((s1.1).length:Int) > (0:Int)))==true)=true->0<=(IntKind.wrap .i64 (((s1.1).length:Int) - (1:Int)))/\(IntKind.wrap .i64 (((s1.1).length:Int) - (1:Int))) < ((s1.1).length:Int)) (((if ((decide (((s1.1).length:Int) > (0:Int)))==true)=true then vF v25.1 ((s1.1).getD (IntKind.wrap .i64 (((s1.1).length:Int) - (1:Int))).toNat default) else some default).bind λv31=>(if ((decide (((s1.1).length:Int) > (0:Int)))&&(!v31))=true then some (.ret (([]:List GA),(IntKind.wrap .i64 (((s1.1).length:Int)+(1:Int))),(16:Int))) else (zN ((s1.1).length+(([v25.1]:List GH)).length<=yH) (some (.nxt ((s1.1++([v25.1]:List GH)),(IntKind.wrap .i64 ((n1:Int)+(1:Int))))))))))))))):Option (Out _ ((List GH)×Int))))
theorem pp_eq (b:zd):qp b=(if (decide (((b).length:Int) > (1048576:Int)))=true then some (([]:List GA),(0:Int),(3:Int)) else (lp (zX ppF (b,([]:List GJ),(1:Int),([]:List zd),(0:Int),(0:Int),(0:Int),(0:Int),(0:Int),(0:Int),([]:zd),([]:List GF),([]:List GC))) λ(e:zd×(List GJ)×Int×(List zd)×Int×Int×Int×Int×Int×Int×zd×(List GF)×(List GC))=>((diffPatch ([]:List GA) e.2.1).bind λa=>some (a.1,(0:Int),a.2)))):=rfl
theorem dp_eq (a:zd):qQ a=(if (decide (((a).length:Int) > (1048576:Int)))=true then some (([]:List GA),(0:Int),(3:Int)) else (lp (zn (dpF a) a 0 (([]:List GH),(0:Int))) λ(b:(List GH)×Int)=>(if (decide (b.2 < ((a).length:Int)))=true then some (([]:List GA),(IntKind.wrap .i64 (((b.1).length:Int)+(1:Int))),(4:Int)) else ((ref30Made b.1).bind λe=>some (e,(0:Int),(0:Int)))))):=rfl
theorem loopL_skip {α ρ σ:Type} {f:Nat->α->σ->Option (Out ρ σ)} {s:σ}:∀(a r:List α) (k:Nat),(∀i x,x ∈ a->f i x s=some (.nxt s))->zn f (a++r) k s=zn f r (k+a.length) s
 | [],r,k,_=>rfl
 | x::a,r,k,h=>by
  simp only [tc,zn];rw [h k x (by simp)];show zn f (a++r) (k+1) s=_;rw [loopL_skip a r (k+1) λi y b=>h i y (by simp [b])];rw [uc,show k+1+a.length=k+(a.length+1) by omega]
def row0:GH:=⟨[],leaf0⟩
def stOf (rest:zd) (es:List GJ) (n:Int) (q:GH):PSt:=(rest,es,n,q.path,q.leaf.typ,q.leaf.n,q.leaf.time,q.leaf.dot.actor.rep,q.leaf.dot.actor.inc,q.leaf.dot.seq,q.leaf.text,q.leaf.items,q.leaf.tombs)
def lastR (rows:List GH):GH:=rows.getLast?.getD row0
def pst (rest:zd) (rows:List GH):PSt:=stOf rest (rows.map eOf) ((rows.length:Int)+1) (lastR rows)
def Srt (rows:List GH):Prop:=rows.Pairwise λr q=>kltB (rkey r) (rkey q)=true
def fits (rows:List GH) (r:GH):Bool:=decide (rows=[]) || kltB (rkey (lastR rows)) (rkey r)
theorem last_snoc (rows:List GH) (q:GH):lastR (rows++[q])=q:=by simp [lastR]
theorem Srt.snoc {rows:List GH} (h:Srt rows) {r:GH} (a:fits rows r=true):Srt (rows++[r]):=by
 unfold Srt at h ⊢;rw [tr];refine ⟨h,by simp,λx hx y b=>?_⟩;simp only [uw] at b;subst b;rcases rJ rows with rfl | ⟨e,q,rfl⟩
 ·simp at hx
 ·rw [rK] at *;unfold fits at a;rw [last_snoc] at a;simp only [List.append_eq_nil_iff,List.cons_ne_nil,and_false,pL,tD] at a;rw [tr] at h;simp only [uA,uw] at hx;rcases hx with hx | rfl
  ·exact klt_trans (h.2.2 x hx q (by simp)) a
  ·exact a
theorem Srt.fits {rows R:List GH} {r:GH} (h:Srt (rows++r::R)):fits rows r=true:=by
 unfold Vv.fits;rcases rJ rows with rfl | ⟨a,q,rfl⟩
 ·rfl
 ·rw [rK] at *;rw [last_snoc];unfold Srt at h;rw [tr] at h;rw [h.2.2 q (by simp) r (by simp)];simp
theorem qY (r:GH) (R:List GH):yU ym (r::R)=ym r++10::yU ym R:=by simp [yU]
theorem lines_ge:∀R:List GH,R.length<=(yU ym R).length
 | []=>by simp [yU]
 | r::R=>by
  have:=lines_ge R;rw [qY];simp only [uc,ue];omega
theorem app_uniq {c:UInt8}:∀{a a' b f:zd},c ∉ a->c ∉ a'->a++c::b=a'++c::f->a=a'/\b=f
 | [],[],_,_,_,_,e=>⟨rfl,(rl e).2⟩
 | [],y::a',_,_,_,h,e=>by
  have:=(rl e).1;simp only [uv,sU] at h;exact absurd this h.1
 | x::a,[],_,_,h,_,e=>by
  have:=(rl e).1;simp only [uv,sU] at h;exact absurd this.symm h.1
 | x::a,y::a',b,f,h,h',e=>by
  obtain ⟨g,m⟩:=rl e;simp only [uv,sU] at h h';obtain ⟨j,i⟩:=app_uniq h.2 h'.2 m;exact ⟨by rw [g,j],i⟩
theorem pp_end (es:List GJ) (n:Int) (q:GH):zX ppF (stOf [] es n q)=some (.inr (stOf [] es n q)):=by
 rw [yk];rfl
theorem pp_round {rest:zd} (h0:rest ≠ []) (f:rest.length<=16777216) (es:List GJ) (g:es.length<=16777216) (n:Int) (i:1<=n/\n<=16777217) (q:GH) {r:GH} {b:Bool} (e:yI (Lib.cut rest [10]).1=some (r,b)) :
  zX ppF (stOf rest es n q)=if (!b || !(Lib.cut rest [10]).2.2)=true then some (.inl ([],n,4)) else if (decide (n > 1)&&!kltB (rkey q) (rkey r))=true then some (.inl ([],n,16)) else zX ppF (stOf (Lib.cut rest [10]).2.1 (es++[eOf r]) (n+1) r):=by
 have h:yH=2147483648:=rfl;have a:ppF (stOf rest es n q)=if (!b || !(Lib.cut rest [10]).2.2)=true then some (.ret ([],n,4)) else if (decide (n > 1)&&!kltB (rkey q) (rkey r))=true then some (.ret ([],n,16)) else some (.nxt (stOf (Lib.cut rest [10]).2.1 (es++[eOf r]) (n+1) r)):=by
  unfold ppF stOf;simp only;rw [um (by simpa using h0),xF,strCut_is f,ua,e,ua];simp only;split
  ·rfl
  ·cases hn1:decide (n > 1) with
   | false =>
    simp only [show (false==true)=false from rfl,up,uJ,ua,rH];rw [zi (by simp only [uc,ug];omega),wG (by omega)];rfl
   | true =>
    simp only [tG,ut,u2];rw [show (GH.mk q.path (GE.mk q.leaf.typ q.leaf.n q.leaf.time (GC.mk (GI.mk q.leaf.dot.actor.rep q.leaf.dot.actor.inc) q.leaf.dot.seq) q.leaf.text q.leaf.items q.leaf.tombs))=q from rfl,xorder_is,ua,ord_neg];split
    ·rfl
    ·rw [zi (by simp only [uc,ug];omega),wG (by omega)];rfl
 rw [yk];by_cases c1:(!b || !(Lib.cut rest [10]).2.2)=true
 ·rw [um c1] at a ⊢;rw [a]
 ·rw [ur c1] at a ⊢;by_cases c2:(decide (n > 1)&&!kltB (rkey q) (rkey r))=true
  ·rw [um c2] at a ⊢;rw [a]
  ·rw [ur c2] at a ⊢;rw [a]
theorem dp_skip {s:zd} {a:zd} (f:(10:UInt8) ∉ a) (i:Nat) (x:UInt8) (hx:x ∈ a) (b:(List GH)×Int):dpF s i x b=some (.nxt b):=by
 unfold dpF;rw [um];simp only [pE,ne_eq];intro e;have:x=10:=rT.1 (by have:(x.toNat:Int)=10:=e;show x.toNat=10;omega);exact f (this ▸ hx)
theorem dp_round {s pre a b:zd} (hs:s.length<=1048576) (i:s=pre++(a++10::b)) {rows:List GH} (u:rows.length<=pre.length) {r:GH} {ok:Bool} (e:vd a=some (r,ok)) (p:ok=true->r.path.length<=16777216) :
  dpF s (pre.length+a.length) 10 (rows,(pre.length:Int))=if ok=false then some (.ret ([],(rows.length:Int)+1,4)) else if fits rows r=false then some (.ret ([],(rows.length:Int)+1,16)) else some (.nxt (rows++[r],((pre.length+a.length+1:Nat):Int))):=by
 have g:=congrArg List.length i;simp only [ue,uc] at g;have j:yH=2147483648:=rfl;unfold dpF;rw [ur (by simp),x9 (by simp only [];omega)];simp only [ua];rw [show (s.take ((pre.length+a.length:Nat):Int).toNat).drop ((pre.length:Int)).toNat=a by
  rw [i,uz,uz,tF,sy];simp,e,ua]
 cases ok with
 | false =>
  simp only [tV,ut];rw [wG (by omega)]
 | true =>
  simp only [tq,up,uJ,sP];rcases rJ rows with rfl | ⟨f,q,rfl⟩
  ·rw [zi (by simp)];simp only [ug,Int.ofNat_zero];rw [ur (by simp),ua,ur (by simp),zi (by simp;omega),wrap_add1 (by unfold maxLen;omega)];rfl
  ·rw [rK] at u ⊢;have m:(f++[q]).length=f.length+1:=by simp
   have o:IntKind.wrap .i64 (((f++[q]).length:Int) - 1)=(f.length:Int):=by
    rw [wG (by omega)];omega
   have hd:decide (((f++[q]).length:Int) > 0)=true:=uN (by omega);rw [hd,o,zi (by intro _;omega),um (by rfl)];rw [show (f++[q]).getD (f.length:Int).toNat default=q by rw [uz];simp [List.getD],behind_is q (p rfl),ua,u2];have h:fits (f++[q]) r=kltB (rkey q) (rkey r):=by
    unfold fits;rw [last_snoc];simp
   rw [h];cases hk:kltB (rkey q) (rkey r) with
   | false =>
    simp only [tV,ut];rw [wG (by omega)]
   | true =>
    simp only [tq,up,uJ,sP];rw [zi (by rw [sS];omega),wrap_add1 (by unfold maxLen;omega)]
theorem both_loop {s:zd} (hs:s.length<=1048576):∀(m:Nat) (rest pre:zd) (rows:List GH),rest.length<=m->s=pre++rest->pre=yU ym rows->(∀r ∈ rows,Good r)->Srt rows ->
  (∃R:List GH,(∀r ∈ R,Good r)/\Srt (rows++R)/\rest=yU ym R/\zX ppF (pst rest rows)=some (.inr (pst [] (rows++R)))/\zn (dpF s) rest pre.length (rows,(pre.length:Int))=some (.inr (rows++R,(s.length:Int)))) \/
  ((∀R:List GH,(∀r ∈ R,Good r)->Srt (rows++R)->rest ≠ yU ym R)/\∃k e:Int,(e=4 \/ e=16)/\zX ppF (pst rest rows)=some (.inl ([],k,e))/\(zn (dpF s) rest pre.length (rows,(pre.length:Int))=some (.inl ([],k,e)) \/ (e=4/\∃(R:List GH) (j:Int),zn (dpF s) rest pre.length (rows,(pre.length:Int))=some (.inr (R,j))/\j < s.length/\(R.length:Int)+1=k/\R.length<=s.length)))
 | 0,rest,pre,rows,hm,hsp,hpre,hg,hsrt=>by
  obtain rfl:rest=[]:=List.length_eq_zero_iff.1 (by omega);left;refine ⟨[],by simp,by simpa using hsrt,rfl,?_,?_⟩
  ·rw [tp];exact pp_end _ _ _
  ·rw [hsp];simp [zn]
 | m+1,rest,pre,rows,hm,hsp,hpre,hg,hsrt=>by
  by_cases h0:rest=[]
  ·subst h0;left;refine ⟨[],by simp,by simpa using hsrt,rfl,?_,?_⟩
   ·rw [tp];exact pp_end _ _ _
   ·rw [hsp];simp [zn]
  have G:=congrArg List.length hsp;simp only [ue] at G;have B:=lines_ge rows;rw [<- hpre] at B;have E:(rows.map eOf).length<=16777216:=by simp;omega
  have N:(1:Int)<=(rows.length:Int)+1/\(rows.length:Int)+1<=16777217:=by omega
  rcases cut_cases rest 10 with g | ⟨a,b,o,g⟩
  ·right;have F:Lib.cut rest [10]=(rest,[],false):=cutT_none g;obtain ⟨r,V,e,_⟩:=read_tot (s:=(Lib.cut rest [10]).1) (by rw [F];show rest.length<=_;omega);refine ⟨λR _ _ e=>?_,(rows.length:Int)+1,4,.inl rfl,?_,.inr ⟨rfl,rows,pre.length,?_,by have:=tK.2 h0;omega,rfl,by omega⟩⟩
   ·cases R with
    | nil=>exact h0 e
    | cons r R=>rw [qY] at e;rw [e] at g;simp at g
   ·unfold pst;rw [pp_round h0 (by omega) _ E _ N _ e,F];simp
   ·have:=loopL_skip (f:=dpF s) (s:=(rows,(pre.length:Int))) rest [] pre.length λi x hx=>dp_skip g i x hx _;rw [tp] at this;rw [this];rfl
  ·have F:Lib.cut rest [10]=(a,b,true):=by rw [o];exact cutT_hit g
   have Q:=congrArg List.length o;simp only [ue,uc] at Q;have u:zn (dpF s) rest pre.length (rows,(pre.length:Int))=zn (dpF s) (10::b) (pre.length+a.length) (rows,(pre.length:Int)):=by
    rw [o];exact loopL_skip a (10::b) pre.length λi x hx=>dp_skip g i x hx _
   rcases both_row (s:=a) (by omega) with ⟨r,z,w,P,M⟩ | ⟨D,⟨S,P⟩,⟨W,M⟩⟩
   ·have L:r.path.length<=16777216:=by have:=(qV z.1).2.1;omega
    have v:=dp_round (s:=s) (pre:=pre) (a:=a) (b:=b) hs (by rw [hsp,o]) (rows:=rows) B M λ_=>L;have p:=pp_round h0 (by omega) (rows.map eOf) E ((rows.length:Int)+1) N (lastR rows) (r:=r) (b:=true) (by rw [F];exact P);rw [F] at p;have C:(decide ((rows.length:Int)+1 > 1)&&!kltB (rkey (lastR rows)) (rkey r))=!fits rows r:=by
     unfold fits;have:decide ((rows.length:Int)+1 > 1)=!decide (rows=[]):=by
      cases rows <;> simp <;> omega
     rw [this];simp
    rw [C] at p;cases hf:fits rows r with
    | false =>
     right;rw [hf] at p v;refine ⟨λR A K e=>?_,(rows.length:Int)+1,16,.inr rfl,?_,.inl ?_⟩
     ·cases R with
      | nil=>exact h0 e
      | cons q R =>
       rw [qY,o] at e;obtain ⟨I,_⟩:=app_uniq g (line_odd Odd.ten (A q (by simp))) e;have:r=q:=line_inj z (A q (by simp)) (by rw [w];omega) (w.trans I);subst this;rw [K.fits] at hf;cases hf
     ·exact p
     ·rw [u];simp only [zn];rw [v];rfl
    | true =>
     rw [hf] at p v;have H:zX ppF (pst rest rows)=zX ppF (pst b (rows++[r])):=by
      unfold pst;rw [last_snoc,sj,ue];exact p
     have J:zn (dpF s) rest pre.length (rows,(pre.length:Int))=zn (dpF s) b (pre++(a++[10])).length (rows++[r],(((pre++(a++[10])).length:Nat):Int)):=by
      rw [u];simp only [zn];rw [v];simp only [ue,uc,ug,sP,uJ];rfl
     have T:=both_loop hs m b (pre++(a++[10])) (rows++[r]) (by omega) (by rw [hsp,o];simp) (by rw [hpre,lines_app,<- w];simp [yU]) (λq y=>by
      simp only [uA,uw] at y;rcases y with y | rfl
      ·exact hg q y
      ·exact z) (hsrt.snoc hf)
     rw [H,J];rcases T with ⟨R,O,i2,i3,i4,i5⟩ | ⟨O,k,e,i2,i3,i4⟩
     ·left;refine ⟨r::R,λq y=>?_,by simpa using i2,by rw [qY,o,w,i3],by simpa using i4,by simpa using i5⟩;simp only [uv] at y;rcases y with rfl | y
      ·exact z
      ·exact O q y
     ·right;refine ⟨λR A K e=>?_,k,e,i2,i3,i4⟩;cases R with
      | nil=>exact h0 e
      | cons q R =>
       rw [qY,o] at e;obtain ⟨I,U⟩:=app_uniq g (line_odd Odd.ten (A q (by simp))) e;have:r=q:=line_inj z (A q (by simp)) (by rw [w];omega) (w.trans I);subst this;exact O R (λq y=>A q (by simp [y])) (by simpa using K) U
   ·right;have v:=dp_round (s:=s) (pre:=pre) (a:=a) (b:=b) hs (by rw [hsp,o]) (rows:=rows) B M λh=>by cases h
    have p:=pp_round h0 (by omega) (rows.map eOf) E ((rows.length:Int)+1) N (lastR rows) (r:=S) (b:=false) (by rw [F];exact P);refine ⟨λR A K e=>?_,(rows.length:Int)+1,4,.inl rfl,p,.inl ?_⟩
    ·cases R with
     | nil=>exact h0 e
     | cons q R =>
      rw [qY,o] at e;obtain ⟨I,_⟩:=app_uniq g (line_odd Odd.ten (A q (by simp))) e;exact D q (A q (by simp)) I.symm
    ·rw [u];simp only [zn];rw [v];rfl
end
section
def bkR (R:List GH):Nat:=(R.map λr=>r.leaf.bk).sum
theorem bkR_app (A B:List GH):bkR (A++B)=bkR A+bkR B:=by simp [bkR]
theorem tree_bks:∀(t:List GA) (d:Nat) (a:List zd),d<=2->xZ d t=true->GA.bks t<=bkR (zu a t)+16 * (3 - d) * (zu a t).length:=by
 refine wS (λd a _ _=>by simp [GA.bks]) ?_;intro x r hx y d a hd s;rw [yK,uY,uf,<- yK] at s;obtain ⟨b,o⟩:=s;have z:=y d a hd o;obtain ⟨i,g,B⟩:=vq b;obtain ⟨q,L,j⟩:=rowsN_ne b a;have e:zu a (x::r)=(x.leaves.map (λl=>GH.mk (a++[x.name]) l)++zu (a++[x.name]) x.subs)++zu a r:=by
  simp only [zu];rw [yS]
 have p:1<=x.leaves.length+(zu (a++[x.name]) x.subs).length:=by
  have:=congrArg List.length j;rw [yS] at this;simp only [ue,uD,uc] at this;omega
 have A:x.bk=x.name.length+(x.leaves.map GE.bk).sum+GA.bks x.subs+4:=by
  cases x;simp only [GA.bk];omega
 have m:x.name.length<=12:=by
  unfold nameB at i;simp only [uf,uh] at i;exact i.1.2
 have w:bkR (x.leaves.map (λl=>GH.mk (a++[x.name]) l))=(x.leaves.map GE.bk).sum:=by
  unfold bkR;rw [rF];rfl
 rw [e,bkR_app,bkR_app,w,ue,ue,uD];simp only [GA.bks];have u:GA.bks x.subs<=bkR (zu (a++[x.name]) x.subs)+16 * (2 - d) * (zu (a++[x.name]) x.subs).length:=by
  by_cases h0:x.subs=[]
  ·rw [h0];simp [GA.bks]
  ·unfold treeB at g;simp only [uf,u5,uh] at g;have v:d+1 < 3:=by
    rcases g.1.1 with h | h
    ·exact absurd (rM.1 h) h0
    ·exact h
   have:=hx (d+1) (a++[x.name]) (by omega) g.2;rw [show 3 - (d+1)=2 - d by omega] at this;exact this
 generalize bkR (zu (a++[x.name]) x.subs)=B1 at *;generalize bkR (zu a r)=B2 at *;generalize (zu (a++[x.name]) x.subs).length=n1 at *;generalize (zu a r).length=n2 at *;generalize (x.leaves.map GE.bk).sum=B3 at *;generalize x.leaves.length=n3 at *;have f:d=0 \/ d=1 \/ d=2:=by omega
 rcases f with rfl | rfl | rfl
 ·simp only [Nat.sub_zero] at *;omega
 ·simp only [show 3 - 1=2 from rfl,show 2 - 1=1 from rfl] at *;omega
 ·simp only [show 3 - 2=1 from rfl,show 2 - 2=0 from rfl] at *;omega
theorem tree_wfs:∀(t:List GA) (d:Nat) (a:List zd),xZ d t=true->(∀r ∈ zu a t,GE.wf r.leaf)->GA.bks t<=16777216->GA.wfs t:=by
 refine wS (λd a _ _ _=>by simp [GA.wfs]) ?_;intro x r hx B d a v b y;rw [yK,uY,uf,<- yK] at v;obtain ⟨i,p⟩:=v;obtain ⟨g,o,E⟩:=vq i;have e:zu a (x::r)=(x.leaves.map (λl=>GH.mk (a++[x.name]) l)++zu (a++[x.name]) x.subs)++zu a r:=by
  simp only [zu];rw [yS]
 rw [e] at b;simp only [GA.bks] at y;have C:=bk_node x;have j:x.name.length<=12:=by
  unfold nameB at g;simp only [uf,uh] at g;exact g.1.2
 have F:maxLen=9223372036854775807:=rfl;have D:=sum_len (f:=GE.bk) (λx=>by unfold GE.bk;omega) x.leaves;unfold treeB at o;simp only [uf] at o;have z:=hx (d+1) (a++[x.name]) o.2 (λq m=>b q (by simp [m])) (by omega);have w:=B d a p (λq m=>b q (by simp [m])) (by omega);have u:∀l ∈ x.leaves,GE.wf l:=λl A=>b ⟨a++[x.name],l⟩ (by simp [A]);have s:x.name.length<=maxLen:=by omega
 have h:x.leaves.length<=maxLen:=by omega
 refine ⟨?_,w⟩;cases x;simp only [GA.wf];exact ⟨s,⟨h,u⟩,z⟩
theorem flat_bk {α:Type} {g:α->zd} {b:α->Nat}:∀L:List α,(∀x ∈ L,b x<=16 * (g x).length+16)->(L.map b).sum<=16 * (L.flatMap λx=>32::g x).length
 | [],_=>by simp
 | x::r,h=>by
  have f:=h x (by simp);have e:=flat_bk (g:=g) r λy a=>h y (by simp [a]);simp only [ux,tM,tx,ue,uc];omega
theorem hexL_ge (s:zd):2 * s.length<=(qa s).length:=by
 unfold qa;split
 ·rename_i h;subst h;simp
 ·rw [Proofs.hexs_len];omega
theorem leaf_len (j:leafB l=true):l.bk<=48+16 * ((zI l).flatMap λy=>32::y).length:=by
 have a:=bk_leaf l;have u:=(leaf_texts j).2;rcases leaf_shape j with e | e | ⟨e,h,m,s,v⟩ | ⟨e,h,m⟩ | ⟨e,h⟩
 ·rw [e] at a ⊢;simp at a;omega
 ·rw [e] at a ⊢;simp at a;omega
 ·have f:zI ⟨2,0,l.time,l.dot,l.text,[],[]⟩=[yP l.time,qc l.dot,qa l.text]:=by
   unfold zI;simp [h]
  rw [e] at a ⊢;rw [f];simp at a ⊢;omega
 ·have i:l.text=[]:=by rw [e]
  have f:zI l=l.items.map yG++l.tombs.map xQ:=by rw [e];rfl
  rw [f,rV,ue,rh,rh];have o:=flat_bk (g:=yG) (b:=GF.bk) l.items λx hx=>by
   have:=hexL_ge x.text;rw [bk_item];simp only [yG,ue];omega
  have q:=flat_bk (g:=xQ) (b:=GC.bk) l.tombs λx hx=>by rw [bk_dot];omega
  rw [i] at a;simp only [ug] at a;omega
 ·have i:l.text=[]:=by rw [e]
  have p:l.tombs=[]:=by rw [e]
  have f:zI l=l.items.map qq:=by rw [e];rfl
  rw [f,rh];have o:=flat_bk (g:=qq) (b:=GF.bk) l.items λx hx=>by
   have:=hexL_ge x.text;rw [bk_item];simp only [qq,ue];omega
  rw [i,p] at a;simp only [ug,tu,List.sum_nil] at a;omega
theorem good_len (h:Good r):r.leaf.bk+48<=16 * ((ym r).length+1):=by
 obtain ⟨g,j,i⟩:=qV h.1;have b:1<=(Lib.join r.path [47]).length:=by
  have a:=h.1;unfold xA at a;simp only [uf,uh,uu] at a;obtain ⟨x,L,e⟩:=sg g;have:=a.2 x (by rw [e];simp);unfold nameB at this;simp only [uf,uh] at this;rw [e,Lib.join_cons,ue];omega
 have f:3<=(xU r.leaf.typ).length:=by
  unfold xU
  repeat' split
  all_goals simp
 rw [(line_tot h.2.2.1 h.2.2.2).2.2 h];simp only [tc,uT];rw [join_cons2,tx];simp only [ue,uc];have key:=leaf_len h.2.1;omega
theorem rows_bk:∀R:List GH,(∀r ∈ R,Good r)->bkR R+48 * R.length<=16 * (yU ym R).length
 | [],_=>by simp [bkR]
 | r::R,h=>by
  have e:=good_len (h r (by simp));have b:=rows_bk R λq a=>h q (by simp [a]);rw [qY];simp only [bkR,ux,tM,uc,ue] at b ⊢;omega
theorem small_rows {t:List GA} (a:treeB 0 t=true) (e:∀r ∈ zu [] t,Good r) (g:(yU ym (zu [] t)).length<=1048576):Small t:=by
 have i:=rows_bk _ e;have h:=tree_bks t 0 [] (by omega) (by unfold treeB at a;simp only [uf] at a;exact a.2);have b:GA.bks t<=16777216:=by omega
 exact ⟨tree_wfs t 0 [] (by unfold treeB at a;simp only [uf] at a;exact a.2) (λr f=>(e r f).2.2.1) b,b⟩
theorem Good.ok (h:Good r):LeafOk r.leaf:=by
 have a:=h.2.2.2;unfold bkLim at a;exact ⟨by omega,by omega,(qJ h.2.2.1.2.2.1).1⟩
theorem patch_rows {R:List GH} (o:∀r ∈ R,Good r) (i2:Srt R) (g:R.length<=1048576):∃T,diffPatch [] (R.map eOf)=some (T,0)/\treeB 0 T=true/\zu [] T=R:=by
 have j:Small []:=⟨by simp [GA.wfs],by simp [GA.bks]⟩
 have f:(R.map eOf).Pairwise eLt:=pg.2 i2;obtain ⟨T,m,t2,t3⟩:=patch_is (t:=[]) j (by rfl) (es:=R.map eOf) (by simp [zu];omega) (λe p=>by
  obtain ⟨r,a,rfl⟩:=tm.1 p;have b:=o r a;have s:=leafB_typ b.2.1;exact ⟨⟨b.1,by show 1<=r.leaf.typ/\r.leaf.typ<=4;omega,.inr rfl,λh=>(by cases h),λh=>(by cases h),λ_=>rfl,λ_=>⟨b.2.1,b.ok,rfl⟩,λh=>(by cases h)⟩,⟨λh=>(by cases h),λ_ r a=>by simp [zu] at a⟩⟩) f
 have t4:∀r,r ∈ zu [] T ↔ r ∈ R:=λr=>by
  rw [t3];simp only [zu,sB,false_and,false_or,tm];constructor
  ·rintro ⟨e,⟨q,i,rfl⟩,_,rfl⟩;exact i
  ·intro a;exact ⟨eOf r,⟨r,a,rfl⟩,rfl,rfl⟩
 exact ⟨T,m,t2,sorted_ext (lt:=λr q=>kltB (rkey r) (rkey q)=true) (λx h=>by rw [klt_irr] at h;cases h) (λ_ _ _=>klt_trans) (rows_sorted t2 []) i2 t4⟩
theorem both_parse {s:zd} (hs:s.length<=1048576) :
  (∃T:List GA,treeB 0 T=true/\Small T/\(∀r ∈ zu [] T,Good r)/\s=yU ym (zu [] T)/\qp s=some (T,0,0)/\qQ s=some (T,0,0)) \/
  ((∀R:List GH,(∀r ∈ R,Good r)->Srt R->s ≠ yU ym R)/\∃k e:Int,(e=4 \/ e=16)/\qp s=some ([],k,e)/\qQ s=some ([],k,e)):=by
 have u:zX ppF (s,([]:List GJ),(1:Int),([]:List zd),(0:Int),(0:Int),(0:Int),(0:Int),(0:Int),(0:Int),([]:zd),([]:List GF),([]:List GC))=zX ppF (pst s []):=rfl;have m:decide ((s.length:Int) > 1048576)=false:=uS (by omega);rw [pp_eq,dp_eq,m];simp only [up,uJ];rw [u];rcases both_loop hs s.length s [] [] (uj _) rfl rfl (by simp) (by simp [Srt]) with ⟨R,b,i2,i3,i4,i5⟩ | ⟨b,k,e,i2,i3,i4⟩
 ·left;simp only [uT] at i2 i4 i5;change zn (dpF s) s 0 (([]:List GH),(0:Int))=_ at i5;have f:=lines_ge R;rw [<- i3] at f;obtain ⟨T,v,t2,a⟩:=patch_rows b i2 (by omega);obtain ⟨U,p,o,q⟩:=made31_is (rs:=R) (λr g=>⟨(b r g).1,(b r g).2.1,(b r g).ok⟩) (i2.imp λh e=>by rw [e,klt_irr] at h;cases h) (by omega);have i:T=U:=rows_ext t2 o λr=>by rw [a,q]
  subst i;refine ⟨T,t2,small_rows t2 (by rw [a];exact b) (by rw [a,<- i3];exact hs),by rw [a];exact b,by rw [a];exact i3,?_,?_⟩
  ·rw [i4];simp only [lp];rw [show (pst [] R).2.1=R.map eOf from rfl,v];rfl
  ·rw [i5];simp only [lp];rw [ur (by simp),p];rfl
 ·right;refine ⟨λR z A=>b R z (by simpa using A),k,e,i2,?_,?_⟩
  ·rw [i3];rfl
  ·change zn (dpF s) s 0 (([]:List GH),(0:Int))=_ \/ (e=4/\∃(R:List GH) (j:Int),zn (dpF s) s 0 (([]:List GH),(0:Int))=some (.inr (R,j))/\j < s.length/\(R.length:Int)+1=k/\R.length<=s.length) at i4;rcases i4 with i4 | ⟨y,R,j,i4,i5,w,B⟩
   ·rw [i4];rfl
   ·rw [i4];simp only [lp];rw [um (by simpa using i5),wG (by omega),w,y]
end
section
end
section
theorem same_self (t:List GA):qS t t=some true:=by
 obtain ⟨v,e,h⟩:=same7_is t t;rw [e,h.2 rfl]
theorem law44ExportReads_top (s:zd) (i:s.length<=maxLen) (j:s.length+1<=1048576):vH s=some true:=by
 unfold vH;by_cases hc:(decide ((s.length:Int) > 3000)&&decide ((s.length:Int)<=1048576))=true
 ·rw [um hc,known44];rfl
 ·rw [ur hc];rcases both_parse (s:=s) (by omega) with ⟨T,a,t2,t3,t4,t5,h⟩ | ⟨_,k,e,f,b,g⟩
  ·rw [t5,h];simp only [ua,same_self,tq,sI,Bool.or_self,up,uJ,tG,ut];rw [ref07May_is t2,a];simp only [ua,tG,uW,ut];rw [text_is t2 a,<- t4];simp only [ua,tG,uW,tD,ut,known44]
  ·rw [b,g];simp only [ua,same_self,tq,sI,Bool.or_self,up,uJ];have:(e != 0)=true:=by rcases f with rfl | rfl <;> rfl
   rw [this];simp [known44]
end
end Go.Vv
