/- A row's line; the text of rows. -/
import Derived.Test.YtgaelgcadcmfnaaGreatDoorPlK0
set_option linter.all false
namespace Go.Vv
open Go
variable {n:Int} {d:GC} {x it:GF} {α:Type} {l:GE} {r:GH} {t:List GA} {c:UInt8}
section
theorem loopL_push {α b ρ:Type} {f:Nat->α->List b->Option (Out ρ (List b))} {g:α->b}:∀(L:List α) (k:Nat) (s:List b),(∀i x a,x ∈ L->a.length+1<=s.length+L.length->f i x a=some (.nxt (a++[g x])))->zq f L k s=some (.inr (s++L.map g))
 | [],k,s,_=>by simp [zq]
 | x::r,k,s,h=>by
  simp only [zq];rw [h k x s (by simp) (by simp)];show zq f r (k+1) (s++[g x])=_;rw [loopL_push r (k+1) (s++[g x]) λi y a e hs=>h i y a (by simp [e]) (by simp at hs ⊢;omega)];simp
theorem inU64 (h:InK .u64 n):0<=n/\n < 18446744073709551616:=by
 unfold InK at h;simp [IntKind.min,IntKind.max,IntKind.signed,IntKind.bits] at h;omega
theorem inI64 (h:InK .i64 n):-9223372036854775808<=n/\n<=9223372036854775807:=by
 unfold InK at h;simp [IntKind.min,IntKind.max,IntKind.signed,IntKind.bits] at h;omega
theorem inU8 (h:InK .u8 n):0<=n/\n < 256:=by
 unfold InK at h;simp [IntKind.min,IntKind.max,IntKind.signed,IntKind.bits] at h;omega
theorem inU32 (h:InK .u32 n):0<=n/\n < 4294967296:=by
 unfold InK at h;simp [IntKind.min,IntKind.max,IntKind.signed,IntKind.bits] at h;omega
theorem wrapU64 (h:0<=n/\n < 18446744073709551616):IntKind.wrap .u64 n=n:=by
 rw [IntKind.wrap_u64];omega
def vj (n:Int):zd:=Lib.decDigits n.toNat
theorem number_is (h:0<=n/\n < 18446744073709551616):yU n=some (vj n):=by
 unfold yU vF fmtU vj;rw [uv ⟨h.1,h.2,rfl⟩];rfl
theorem wz (h:0<=n/\n < 18446744073709551616):(vj n).length<=20:=x9 _ (by omega)
def dotT (d:GC):zd:=(((vj d.actor.rep++[46])++vj d.actor.inc)++[46])++vj d.seq
theorem wG (h:GC.wf d):(dotT d).length<=62:=by
 obtain ⟨⟨b,a⟩,e⟩:=h;have f:=wz (n:=d.actor.rep) (by have:=inU8 b;omega);have g:=wz (n:=d.actor.inc) (by have:=inU32 a;omega);have i:=wz (inU64 e);simp only [dotT,uf,ue,uk];omega
theorem dot_is (h:GC.wf d):yW d=some (dotT d):=by
 obtain ⟨⟨b,a⟩,e⟩:=h;have g1:0<=d.actor.rep/\d.actor.rep < 18446744073709551616:=by have:=inU8 b;omega
 have g2:0<=d.actor.inc/\d.actor.inc < 18446744073709551616:=by have:=inU32 a;omega
 have g3:=inU64 e;have f:=wz g1;have i:=wz g2;have j:=wz g3;have g:maxLen=9223372036854775807:=rfl;unfold yW;rw [wrapU64 g1,wrapU64 g2,number_is g1,number_is g2,number_is g3];simp only [ua];rw [zx (by simp only [uf,ue,uk];omega),zx (by simp only [uf,ue,uk];omega),zx (by simp only [uf,ue,uk];omega),zx (by simp only [uf,ue,uk];omega)];rfl
def hexL (s:zd):zd:=if s=[] then [45] else Proofs.hexs s
theorem qJ (s:zd):(hexL s).length<=2 * s.length+1:=by
 unfold hexL;split
 ·simp
 ·rw [Proofs.hexs_len];omega
theorem hex_is {s:zd} (h:s.length<=1073741824):qh s=some (hexL s):=by
 unfold qh hexT hexL;split
 ·rfl
 ·rw [uv (by omega)]
def xA (x:GF):zd:=(dotT x.dot++[61])++hexL x.text
def wT (d:GC):zd:=[33]++dotT d
def logT (x:GF):zd:=(((vj x.time++[64])++dotT x.dot)++[61])++hexL x.text
theorem bk_item (x:GF):x.bk=x.text.length+8:=by
 unfold GF.bk GC.bk GI.bk;omega
theorem bk_dot (x:GC):x.bk=5:=rfl
theorem itemT_len (h:GF.wf x):(xA x).length+1<=20 * x.bk:=by
 have:=wG h.2.1;have:=qJ x.text;rw [bk_item];simp only [xA,uf,ue,uk];omega
theorem tombT_len (h:GC.wf d):(wT d).length+1<=20 * d.bk:=by
 have:=wG h;rw [bk_dot];simp only [wT,uf,ue,uk];omega
theorem logT_len (h:GF.wf x):(logT x).length+1<=20 * x.bk:=by
 have:=wG h.2.1;have:=wz (inU64 h.1);have:=qJ x.text;rw [bk_item];simp only [logT,uf,ue,uk];omega
theorem lens_map {α:Type} {f:α->zd} {b:α->Nat} {c:Nat}:∀(L:List α),(∀x ∈ L,(f x).length+1<=c * b x)->Lib.lens (L.map f)+L.length<=c * (L.map b).sum
 | [],_=>by simp [Lib.lens]
 | x::r,h=>by
  have g:=h x (by simp);have e:=lens_map (f:=f) r λy a=>h y (by simp [a]);simp only [Lib.lens,uu,tc,ue,px] at e ⊢;omega
theorem mem_bk {b:α->Nat} {x:α} {L:List α} (h:x ∈ L):b x<=(L.map b).sum:=sum_mem h
theorem len_bk {α:Type} {b:α->Nat} (a:∀x,1<=b x):∀L:List α,L.length<=(L.map b).sum
 | []=>by simp
 | x::r=>by have:=len_bk a r;have:=a x;simp only [ue,uu,tc];omega
theorem bk_leaf (l:GE):l.bk=l.text.length+(l.items.map GF.bk).sum+(l.tombs.map GC.bk).sum+12:=by
 have:=bk_dot l.dot;unfold GE.bk;omega
def zJ (l:GE):List zd :=
 if l.typ=1 then [Lib.itoa l.n]
 else if l.typ=2 then (if l.time=0 then [[45]] else [vj l.time,dotT l.dot,hexL l.text])
 else if l.typ=3 then l.items.map xA++l.tombs.map wT
 else l.items.map logT
theorem parts_is (h:GE.wf l) (G:l.bk<=1073741824) (z:l.typ=1 \/ l.typ=2 \/ l.typ=3 \/ l.typ=4):qm l.typ.toNat l=some (zJ l)/\Lib.lens (zJ l)+(zJ l).length<=40 * l.bk:=by
 obtain ⟨E,D,y,q,L,⟨H,j⟩,K,p⟩:=h;have B:=bk_leaf l;have J:maxLen=9223372036854775807:=rfl;have u:yS=2147483648:=rfl;have k:∀x ∈ l.items,x.text.length<=1073741824:=λx hx=>by
  have:=mem_bk (b:=GF.bk) hx;have:=bk_item x;omega
 have I:=len_bk (b:=GF.bk) (λx=>by rw [bk_item];omega) l.items;have lt:=len_bk (b:=GC.bk) (λx=>by rw [bk_dot];omega) l.tombs;rcases z with e | e | e | e
 ·have hi:=inI64 D;have a:zJ l=[Lib.itoa l.n]:=by simp [zJ,e]
  rw [a,e];refine ⟨?_,?_⟩
  ·show wE l=_;unfold wE vW fmtI;rw [uv ⟨hi.1,hi.2,rfl⟩];rfl
  ·have:(Lib.itoa l.n).length<=21:=by
    unfold Lib.itoa;split
    ·have:=x9 l.n.natAbs (by omega);simp only [ue];omega
    ·have:=x9 l.n.toNat (by omega)
     omega
   simp only [Lib.lens,uu,tN,tc,pF,ue,uk];omega
 ·have v:=inU64 y;rw [e];by_cases h0:l.time=0
  ·have a:zJ l=[[45]]:=by simp [zJ,e,h0]
   rw [a];refine ⟨?_,by simp [Lib.lens];omega⟩;show xd l=_;unfold xd;simp [h0]
  ·have a:zJ l=[vj l.time,dotT l.dot,hexL l.text]:=by simp [zJ,e,h0]
   rw [a];have o:=wz v;have w:=wG q;have m:=qJ l.text;refine ⟨?_,by simp [Lib.lens];omega⟩;show xd l=_;unfold xd;rw [uG (by simpa using h0),number_is v,dot_is q,hex_is (by omega)];rfl
 ·have a:zJ l=l.items.map xA++l.tombs.map wT:=by simp [zJ,e]
  rw [a,e];refine ⟨?_,?_⟩
  ·show exportXset l=_;unfold exportXset;rw [loopL_push (g:=xA) l.items 0 [] λi x s hx hs=>?_]
   ·simp only [lp,uT];rw [loopL_push (g:=wT) l.tombs 0 _ λi x s hx hs=>?_];have o:=wG (p x hx);simp only [ux] at hs;rw [dot_is (p x hx)];simp only [ua];rw [zx (by simp only [uf,ue,uk];omega),zx (by simp only [uf,ue,uk];omega)];rfl
   ·have o:=wG (j x hx).2.1;have w:=qJ x.text;have m:=k x hx;simp only [uk] at hs;rw [dot_is (j x hx).2.1,hex_is m];simp only [ua];rw [zx (by simp only [uf,ue,uk];omega),zx (by simp only [uf,ue,uk];omega),zx (by simp only [uf,ue,uk];omega)];rfl
  ·have A:=lens_map (f:=xA) (b:=GF.bk) (c:=20) l.items λx hx=>itemT_len (j x hx);have F:=lens_map (f:=wT) (b:=GC.bk) (c:=20) l.tombs λx hx=>tombT_len (p x hx);have C:Lib.lens (l.items.map xA++l.tombs.map wT)=Lib.lens (l.items.map xA)+Lib.lens (l.tombs.map wT):=by simp [Lib.lens]
   rw [C,uf,ux,ux];omega
 ·have a:zJ l=l.items.map logT:=by simp [zJ,e]
  rw [a,e];refine ⟨?_,?_⟩
  ·show exportXlog l=_;unfold exportXlog;rw [loopL_push (g:=logT) l.items 0 [] λi x s hx hs=>?_]
   ·rfl
   ·have k0:=wz (inU64 (j x hx).1);have o:=wG (j x hx).2.1;have w:=qJ x.text;have m:=k x hx;simp only [uk] at hs;rw [number_is (inU64 (j x hx).1),dot_is (j x hx).2.1,hex_is m];simp only [ua];rw [zx (by simp only [uf,ue,uk];omega),zx (by simp only [uf,ue,uk];omega),zx (by simp only [uf,ue,uk];omega),zx (by simp only [uf,ue,uk];omega),zx (by simp only [uf,ue,uk];omega)];rfl
  ·have A:=lens_map (f:=logT) (b:=GF.bk) (c:=20) l.items λx hx=>logT_len (j x hx);rw [ux];omega

noncomputable def zP (r:GH):zd:=(zR r).getD []
theorem join_len (xs:List zd) (sep:zd):(Lib.join xs sep).length<=Lib.lens xs+xs.length * sep.length:=by
 cases xs with
 | nil=>simp [Lib.join_nil]
 | cons x r =>
  rw [Lib.join_cons,uf,Lib.joinTail_length];simp only [Lib.lens,uu,tc,ue,tb,Nat.mul_comm sep.length];omega
theorem join_is {xs:List zd} {sep:zd} (a:xs.length<=140737488355328) (h:Lib.lens xs+xs.length * sep.length<=140737488355328):xG xs sep=some (Lib.join xs sep):=by
 unfold xG strJoin;rw [uv ⟨a,uB (join_len xs sep) h⟩]
theorem lens_le {c:Nat}:∀(xs:List zd),(∀x ∈ xs,x.length<=c)->Lib.lens xs<=c * xs.length
 | [],_=>by simp [Lib.lens]
 | x::r,h=>by
  have e:=h x (by simp);have b:=lens_le r λy a=>h y (by simp [a]);simp only [Lib.lens,uu,tc,ue,px] at b ⊢;omega
theorem leafB_typ (h:leafB l=true):l.typ=1 \/ l.typ=2 \/ l.typ=3 \/ l.typ=4:=by
 unfold leafB at h;split at h
 ·simp_all
 ·split at h
  ·simp_all
  ·split at h
   ·simp_all
   ·split at h
    ·simp_all
    ·cases h
def xW (n:Int):zd:=if n=1 then [99,111,117,110,116,101,114] else if n=2 then [114,101,103,105,115,116,101,114] else if n=3 then [115,101,116] else [108,111,103]
theorem parts_len (l:GE):(zJ l).length<=l.items.length+l.tombs.length+3:=by
 unfold zJ
 repeat' split
 all_goals simp
 all_goals omega
theorem line_is (i:GE.wf r.leaf) (u:r.leaf.bk<=1073741824) :
  zR r=some (if xI r.path=true/\leafB r.leaf=true then Lib.join ([Lib.join r.path [47],xW r.leaf.typ]++zJ r.leaf) [32] else []) /\
   (zP r).length+1<=60 * r.leaf.bk:=by
 have B:=bk_leaf r.leaf;have J:maxLen=9223372036854775807:=rfl;have o:yS=2147483648:=rfl;have key:zR r=some (if xI r.path=true/\leafB r.leaf=true then Lib.join ([Lib.join r.path [47],xW r.leaf.typ]++zJ r.leaf) [32] else [])/\((if xI r.path=true/\leafB r.leaf=true then Lib.join ([Lib.join r.path [47],xW r.leaf.typ]++zJ r.leaf) [32] else []):zd).length+1<=60 * r.leaf.bk:=by
  unfold zR;rw [q8];simp only [ua];cases hp:xI r.path with
  | false=>simp;omega
  | true =>
   have v:=i.2.2.2.2.2.1.1;have C:=i.2.2.2.2.2.2.1;simp only [tT,tR,uq,leafMay_is v C,ua,tK];cases hl:leafB r.leaf with
   | false=>simp;omega
   | true =>
    have k:=leafB_typ hl;obtain ⟨A,H⟩:=parts_is i u k;have G:=parts_len r.leaf;have I:=len_bk (b:=GF.bk) (λx=>by rw [bk_item];omega) r.leaf.items;have lt:=len_bk (b:=GC.bk) (λx=>by rw [bk_dot];omega) r.leaf.tombs;have f:r.path.length<=3/\∀s ∈ r.path,s.length<=12:=by
     unfold xI at hp;simp only [ud,uh,ur] at hp;refine ⟨hp.1.2,λs hs=>?_⟩;have:=hp.2 s hs;unfold nameB at this;simp only [ud,uh] at this;exact this.1.2
    have E:=lens_le r.path f.2;have D:=join_len r.path [47];simp only [ue,uk] at D;have q:xG r.path [47]=some (Lib.join r.path [47]):=join_is (by omega) (by simp;omega);have w:(xW r.leaf.typ).length<=8:=by
     unfold xW
     repeat' split
     all_goals simp
    have g:Lib.lens ([Lib.join r.path [47],xW r.leaf.typ]++zJ r.leaf)=(Lib.join r.path [47]).length+(xW r.leaf.typ).length+Lib.lens (zJ r.leaf):=by
     simp [Lib.lens];omega
    have F:xG ([Lib.join r.path [47],xW r.leaf.typ]++zJ r.leaf) [32]=some (Lib.join ([Lib.join r.path [47],xW r.leaf.typ]++zJ r.leaf) [32]):=by
     refine join_is ?_ ?_
     ·simp only [uf,ue,uk];omega
     ·rw [g];simp only [uf,ue,uk];omega
    have h:=join_len ([Lib.join r.path [47],xW r.leaf.typ]++zJ r.leaf) [32];rw [g] at h;simp only [uf,ue,uk] at h;refine ⟨?_,by simp only [s6,uq];omega⟩;simp only [tT,up,uL,s6,uq];unfold exportXkinds;simp only [ua];have a:∀y:GL,y.parts=r.leaf.typ.toNat->y.word=xW r.leaf.typ->((xG r.path [47]).bind λj=>(qm y.parts r.leaf).bind λm=>ym (([j,y.word]:List zd).length+m.length<=yS) ((xG (([j,y.word]:List zd)++m) [32]).bind λv9=>some v9))=some (Lib.join ([Lib.join r.path [47],xW r.leaf.typ]++zJ r.leaf) [32]):=by
     intro y z p;rw [q,z,A,p];simp only [ua];rw [zx (by simp only [ue,uk];omega),F];rfl
    rcases k with e | e | e | e
    ·rw [e] at a ⊢;exact a _ rfl rfl
    ·rw [e] at a ⊢;exact a _ rfl rfl
    ·rw [e] at a ⊢;exact a _ rfl rfl
    ·rw [e] at a ⊢;exact a _ rfl rfl
 refine ⟨key.1,?_⟩;unfold zP;rw [key.1];exact key.2
theorem rows_sum:∀(t:List GA) (a:List zd),(GA.wfs t->∀r ∈ zj a t,GE.wf r.leaf)/\((zj a t).map λr=>r.leaf.bk).sum<=GA.bks t:=by
 refine xP (λa=>⟨λ_ r h=>by simp [zj] at h,by simp [zj,GA.bks]⟩) ?_;intro x r hx h a;have j:=hx (a++[x.name]);have i:=h a;have e:zj a (x::r)=(x.leaves.map (λl=>GH.mk (a++[x.name]) l)++zj (a++[x.name]) x.subs)++zj a r:=by
  simp only [zj];rw [yw]
 rw [e];refine ⟨λg q f=>?_,?_⟩
 ·simp only [GA.wfs] at g;have b:=g.1;rw [uC,uC] at f;rcases f with (f | f) | f
  ·obtain ⟨l,m,rfl⟩:=tf.1 f;cases x;simp only [GA.wf] at b;exact b.2.1.2 l m
  ·refine j.1 ?_ q f;cases x;simp only [GA.wf] at b;exact b.2.2
  ·exact i.1 g.2 q f
 ·have o:=bk_node x;simp only [tC,rq,sG,GA.bks];have k:(x.leaves.map ((λr:GH=>r.leaf.bk) ∘ λl=>GH.mk (a++[x.name]) l)).sum=(x.leaves.map GE.bk).sum:=rfl;rw [k];have:=j.2;have:=i.2;omega
def RowsFine (R:List GH):Prop:=(∀r ∈ R,GE.wf r.leaf)/\(R.map λr=>r.leaf.bk).sum<=16777216
theorem rows_fine (h:Small t):RowsFine (zj [] t):=⟨(rows_sum t []).1 h.1,uB (rows_sum t []).2 h.2⟩
theorem RowsFine.filter {R:List GH} (h:RowsFine R) (q:GH->Bool):RowsFine (R.filter q):=by
 refine ⟨λr a=>h.1 r (tm.1 a).1,uB ?_ h.2⟩;have:∀L:List GH,((L.filter q).map λr=>r.leaf.bk).sum<=(L.map λr=>r.leaf.bk).sum:=by
  intro L
  induction L with
  | nil=>simp
  | cons x r ih =>
   simp only [rK];split
   ·simp only [uu,tc];omega
   ·simp only [uu,tc];omega
 exact this R
theorem RowsFine.line {R:List GH} (h:RowsFine R) {r:GH} (a:r ∈ R):zR r=some (zP r)/\(zP r).length+1<=60 * r.leaf.bk:=by
 have g:r.leaf.bk<=16777216:=uB (mem_bk (b:=λr:GH=>r.leaf.bk) a) h.2;obtain ⟨f,e⟩:=line_is (h.1 r a) (by omega);refine ⟨?_,e⟩;unfold zP;rw [f];rfl
theorem lines_len:∀(R:List GH),(∀r ∈ R,(zP r).length+1<=60 * r.leaf.bk)->(zL zP R).length<=60 * (R.map λr=>r.leaf.bk).sum
 | [],_=>by simp [zL]
 | x::r,h=>by
  have e:=h x (by simp);have b:=lines_len r λy a=>h y (by simp [a]);simp only [zL,th,uf,ue,uk,uu,tc,px] at b ⊢;omega
theorem RowsFine.len {R:List GH} (h:RowsFine R):(zL zP R).length<=1006632960:=by
 have:=lines_len R λr a=>(h.line a).2;have:=h.2;omega
theorem text_is (h:Small t) (b:treeB 0 t=true):vl t=some (zL zP (zj [] t)):=by
 have a:=rows_fine h;unfold vl;rw [pathsRows_is h,uv b,ua];unfold linesO;have e:=a.len;rw [uv ⟨λx hx=>by rw [(a.line hx).1];rfl,by show (zL zP _).length<=_;omega⟩];rfl
theorem lines_app (L M:List GH):zL zP (L++M)=zL zP L++zL zP M:=by simp [zL]

theorem numT_small (h0:0<=n) (h:n < 10):vj n=[UInt8.ofNat (48+n.toNat)]:=by
 unfold vj;rw [Lib.decDigits,r9 (by omega)]
theorem known44:vC=some true:=by
 have b:zR (GH.mk ([([97]:zd),([98]:zd)]:List zd) (GE.mk (1:Int) (-5:Int) (0:Int) (GC.mk (GI.mk (0:Int) (0:Int)) (0:Int)) ([]:zd) ([]:List GF) ([]:List GC)))=some ([97,47,98,32,99,111,117,110,116,101,114,32,45,53]:zd):=by
  rw [(line_is (by simp [GE.wf,GC.wf,GI.wf,InK,IntKind.min,IntKind.max,IntKind.signed,IntKind.bits]) (by simp [GE.bk,GC.bk,GI.bk])).1];rw [uv ⟨by decide,by decide⟩];have e:zJ (GE.mk (1:Int) (-5:Int) (0:Int) (GC.mk (GI.mk (0:Int) (0:Int)) (0:Int)) ([]:zd) ([]:List GF) ([]:List GC))=[[45,53]]:=by
   have a:Lib.decDigits 5=[53]:=by rw [Lib.decDigits,r9 (by omega)];rfl
   simp only [zJ,uq,Lib.itoa];rw [uv (by omega)];show [45::Lib.decDigits 5]=_;rw [a]
  rw [e];rfl
 have a2:zR (GH.mk ([([97]:zd)]:List zd) (GE.mk (3:Int) (0:Int) (0:Int) (GC.mk (GI.mk (0:Int) (0:Int)) (0:Int)) ([]:zd) ([(GF.mk (0:Int) (GC.mk (GI.mk (0:Int) (1:Int)) 2) ([117]:zd))]:List GF) ([GC.mk (GI.mk (0:Int) (1:Int)) 1]:List GC)))=some ([97,32,115,101,116,32,48,46,49,46,50,61,55,53,32,33,48,46,49,46,49]:zd):=by
  rw [(line_is (by simp [GE.wf,GF.wf,GC.wf,GI.wf,InK,IntKind.min,IntKind.max,IntKind.signed,IntKind.bits,maxLen]) (by simp [GE.bk,GF.bk,GC.bk,GI.bk])).1];rw [uv ⟨by decide,by decide⟩];have e:zJ (GE.mk (3:Int) (0:Int) (0:Int) (GC.mk (GI.mk (0:Int) (0:Int)) (0:Int)) ([]:zd) ([(GF.mk (0:Int) (GC.mk (GI.mk (0:Int) (1:Int)) 2) ([117]:zd))]:List GF) ([GC.mk (GI.mk (0:Int) (1:Int)) 1]:List GC))=[[48,46,49,46,50,61,55,53],[33,48,46,49,46,49]]:=by
   simp only [zJ,xA,wT,dotT,uu,tN];rw [numT_small (n:=0) (by omega) (by omega),numT_small (n:=1) (by omega) (by omega),numT_small (n:=2) (by omega) (by omega)];rfl
  rw [e];rfl
 unfold vC wZ;rw [b];simp only [ua];rw [a2];rfl
end
section
def vP (c:UInt8):zd->List zd
 | []=>[[]]
 | x::r=>if x=c then []::vP c r else (x::(vP c r).headD [])::(vP c r).tail
theorem cutL_ne (c:UInt8) (s:zd):vP c s=(vP c s).headD []::(vP c s).tail:=by
 cases s with
 | nil=>rfl
 | cons x r=>unfold vP;split <;> rfl
theorem cutL_one {c:UInt8}:∀{a:zd},c ∉ a->vP c a=[a]
 | [],_=>rfl
 | x::r,h=>by
  simp only [ut,rg] at h;unfold vP;rw [uG λe=>h.1 e.symm,cutL_one h.2];rfl
theorem cutL_app {c:UInt8}:∀{a:zd} (b:zd),c ∉ a->vP c (a++c::b)=a::vP c b
 | [],b,_=>by show vP c (c::b)=_;rw [vP,uv rfl]
 | x::r,b,h=>by
  simp only [ut,rg] at h;show vP c (x::(r++c::b))=_;rw [vP,uG λe=>h.1 e.symm,cutL_app b h.2];rfl
theorem join_two (x y:zd) (r:List zd) (c:UInt8):Lib.join (x::y::r) [c]=x++c::Lib.join (y::r) [c]:=by
 rw [Lib.join_cons,Lib.join_cons];simp [Lib.joinTail]
theorem cutL_join {c:UInt8}:∀{xs:List zd},xs ≠ []->(∀x ∈ xs,c ∉ x)->vP c (Lib.join xs [c])=xs
 | [],h,_=>absurd rfl h
 | [x],_,h=>by rw [Lib.join_one];exact cutL_one (h x (by simp))
 | x::y::r,_,h=>by
  rw [join_two,cutL_app _ (h x (by simp)),cutL_join (by simp) λz a=>h z (by simp [a])]
theorem cutL_mem (c:UInt8):∀(s p:zd),p ∈ vP c s->p.length<=s.length/\c ∉ p
 | [],p,h=>by simp [vP] at h;subst h;simp
 | x::r,p,h=>by
  have a:=cutL_mem c r;have e:=cutL_ne c r;unfold vP at h;split at h
  ·rcases ut.1 h with rfl | h
   ·simp
   ·have:=a p h;simp only [ue];exact ⟨by omega,this.2⟩
  ·rename_i hx;rcases ut.1 h with rfl | h
   ·have:=a ((vP c r).headD []) (by rw [e];simp);simp only [ue,ut,rg];exact ⟨by omega,λe=>hx e.symm,this.2⟩
   ·have:=a p (by rw [e];simp [h]);simp only [ue];exact ⟨by omega,this.2⟩
theorem index_hd (c:UInt8) (r:zd):Lib.index (c::r) [c]=0:=by simp [Lib.index]
theorem index_tl {x:UInt8} (r:zd) (h:x ≠ c):Lib.index (x::r) [c]=if Lib.index r [c]==-1 then -1 else Lib.index r [c]+1:=by
 rw [Lib.index];rw [uG];simp [List.isPrefixOf];exact λe=>h e.symm
theorem split_is {s:zd} (h:s.length<=16777216):strSplit s [c]=some (vP c s):=by
 unfold strSplit;rw [uv ⟨by omega,by simp⟩];unfold Lib.split;rw [Lib.count_one];congr 1;clear h
 induction s with
 | nil=>rfl
 | cons x r ih =>
  unfold vP;by_cases hx:x=c
  ·subst hx;rw [uv rfl,List.count_cons_self,Lib.splitK,index_hd];simp [ih]
  ·rw [uG hx,List.count_cons_of_ne hx,<- ih];cases hk:r.count c with
   | zero=>rfl
   | succ k =>
    have hi:Lib.index r [c] ≠ -1:=λe=>by
     have:=Lib.count_miss e;rw [Lib.count_one] at this;omega
    have i:=Lib.index_ge r [c];obtain ⟨n,g⟩:∃n:Nat,Lib.index r [c]=n:=⟨(Lib.index r [c]).toNat,by omega⟩
    have a:((n:Int)==-1)=false:=by rw [rj];omega
    have f:((n:Int)+1==-1)=false:=by rw [rj];omega
    have b:((n:Int)+1).toNat=n+1:=by omega
    rw [Lib.splitK,Lib.splitK,index_tl r hx,g];simp [a,f,b]
theorem cut_none {s:zd} (h:c ∉ s):Lib.index s [c]=-1:=by
 induction s with
 | nil=>rfl
 | cons x r ih =>
  simp only [ut,rg] at h;rw [index_tl r λe=>h.1 e.symm,ih h.2];rfl
theorem cut_hit {a b:zd} (h:c ∉ a):Lib.index (a++c::b) [c]=a.length:=by
 induction a with
 | nil=>exact index_hd c b
 | cons x r ih =>
  simp only [ut,rg] at h;rw [tj,index_tl _ λe=>h.1 e.symm,ih h.2];have f:((r.length:Int)==-1)=false:=by rw [rj];omega
  simp [f]
theorem cutT_none {s:zd} (h:c ∉ s):Lib.cut s [c]=(s,[],false):=by
 unfold Lib.cut;rw [cut_none h,uG (by omega)]
theorem cutT_hit {a b:zd} (h:c ∉ a):Lib.cut (a++c::b) [c]=(a,b,true):=by
 unfold Lib.cut;rw [cut_hit h,uv (by omega)];simp
theorem cut_cases (s:zd) (c:UInt8):c ∉ s \/ ∃a b,s=a++c::b/\c ∉ a:=by
 induction s with
 | nil=>simp
 | cons x r ih =>
  by_cases hx:x=c
  ·exact .inr ⟨[],r,by simp [hx],by simp⟩
  ·rcases ih with h | ⟨a,b,e,h⟩
   ·exact .inl (by simp only [ut,rg];exact ⟨λe=>hx e.symm,h⟩)
   ·exact .inr ⟨x::a,b,by rw [e];rfl,by simp only [ut,rg];exact ⟨λe=>hx e.symm,h⟩⟩
theorem strCut_is {s:zd} (h:s.length<=16777216):strCut s [c]=some (Lib.cut s [c]):=by
 unfold strCut;rw [uv (by omega)]
theorem cut_lens (s:zd) (c:UInt8):(Lib.cut s [c]).1.length<=s.length/\(Lib.cut s [c]).2.1.length<=s.length:=by
 rcases cut_cases s c with h | ⟨a,b,rfl,h⟩
 ·rw [cutT_none h];simp
 ·rw [cutT_hit h];simp;omega
end
section
noncomputable def dotE (x:zd) (r0 i0 d0:Int):Option (Bool×Int×Int×Int) :=
 ((ye x ([46]:zd)).bind λv1=>(ym (((((v1).length:Int) != (3:Int))==false)=true->0<=(0:Int)/\(0:Int) < ((v1).length:Int)) (((if ((((v1).length:Int) != (3:Int))==false)=true then ((zp ((v1).getD (0:Int).toNat default) (10:Int) (64:Int)).bind λv2=>some (v2.2,v2.1)) else some (default,(0:Int)):Option (Bool×Int)).bind λv3=>(ym ((((((v1).length:Int) != (3:Int)) || (!v3.1))==false)=true->0<=(1:Int)/\(1:Int) < ((v1).length:Int)) (((if (((((v1).length:Int) != (3:Int)) || (!v3.1))==false)=true then ((zp ((v1).getD (1:Int).toNat default) (10:Int) (64:Int)).bind λv4=>some (v4.2,v4.1)) else some (default,(0:Int)):Option (Bool×Int)).bind λv5=>(ym (((((((v1).length:Int) != (3:Int)) || (!v3.1)) || (!v5.1))==false)=true->0<=(2:Int)/\(2:Int) < ((v1).length:Int)) (((if ((((((v1).length:Int) != (3:Int)) || (!v3.1)) || (!v5.1))==false)=true then ((zp ((v1).getD (2:Int).toNat default) (10:Int) (64:Int)).bind λv6=>some (v6.2,v6.1)) else some (default,d0):Option (Bool×Int)).bind λv7=>(if ((((((((v1).length:Int) != (3:Int)) || (!v3.1)) || (!v5.1)) || (!v7.1)) || (decide (v3.2 >= (16:Int)))) || (decide (v5.2 > (4:Int))))=true then some (false,r0,i0,v7.2) else some (true,(IntKind.wrap .u8 (v3.2)),(IntKind.wrap .u32 (v5.2)),v7.2))))))))))))
noncomputable def hexE (x d:zd):Option (Bool×zd) :=
 (if (x==([45]:zd))=true then some (true,([]:zd)) else (lp (yr (λ(s2:(List UInt8)×Int)=>((if (decide ((IntKind.wrap .i64 (s2.2+(1:Int))) < ((x).length:Int)))=true then ((slc x s2.2 (IntKind.wrap .i64 (s2.2+(2:Int)))).bind λm1=>((zp m1 (16:Int) (8:Int)).bind λv2=>(if (!v2.2)=true then some (.ret (false,d)) else (ym (0<=(IntKind.wrap .u8 (v2.1))/\(IntKind.wrap .u8 (v2.1)) < 256) ((ym ((s2.1).length+(([(UInt8.ofNat (IntKind.wrap .u8 (v2.1)).toNat)]:List UInt8)).length<=yS) (some (.nxt ((s2.1++([(UInt8.ofNat (IntKind.wrap .u8 (v2.1)).toNat)]:List UInt8)),(IntKind.wrap .i64 (s2.2+(2:Int)))))))))))) else some (.brk (s2.1,s2.2))):Option (Out _ ((List UInt8)×Int)))) (([]:List UInt8),(0:Int))) λ(s2:(List UInt8)×Int)=>(ym ((s2.1).length<=maxLen) (some ((decide (((x).length:Int) > (0:Int))),s2.1)))))
noncomputable def itemE (x:zd):Option (Bool×Int×Int×Int×zd) :=
 ((xb x ([61]:zd)).bind λv1=>((if (v1.2.2==true)=true then (dotE v1.1 0 0 0) else some (default,(0:Int),(0:Int),(0:Int)):Option (Bool×Int×Int×Int)).bind λv2=>((if ((v1.2.2&&v2.1)==true)=true then (hexE v1.2.1 []) else some (default,([]:zd)):Option (Bool×zd)).bind λv3=>some (((v1.2.2&&v2.1)&&v3.1),v2.2.1,v2.2.2.1,v2.2.2.2,v3.2))))
noncomputable def tombE (x:zd) (t:List GC) (y:GC):Option (Bool×List GC) :=
 ((ye x ([46]:zd)).bind λv1=>(ym (((((v1).length:Int) != (3:Int))==false)=true->0<=(0:Int)/\(0:Int) < ((v1).length:Int)) (((if ((((v1).length:Int) != (3:Int))==false)=true then ((zp ((v1).getD (0:Int).toNat default) (10:Int) (64:Int)).bind λv2=>some (v2.2,v2.1)) else some (default,(0:Int)):Option (Bool×Int)).bind λv3=>(ym ((((((v1).length:Int) != (3:Int)) || (!v3.1))==false)=true->0<=(1:Int)/\(1:Int) < ((v1).length:Int)) (((if (((((v1).length:Int) != (3:Int)) || (!v3.1))==false)=true then ((zp ((v1).getD (1:Int).toNat default) (10:Int) (64:Int)).bind λv4=>some (v4.2,v4.1)) else some (default,(0:Int)):Option (Bool×Int)).bind λv5=>(ym (((((((v1).length:Int) != (3:Int)) || (!v3.1)) || (!v5.1))==false)=true->0<=(2:Int)/\(2:Int) < ((v1).length:Int)) (((if ((((((v1).length:Int) != (3:Int)) || (!v3.1)) || (!v5.1))==false)=true then ((zp ((v1).getD (2:Int).toNat default) (10:Int) (64:Int)).bind λv6=>some (v6.2,((t++([(GC.mk (GI.mk (0:Int) (0:Int)) (0:Int))]:List GC)).set (IntKind.wrap .i64 (((((t++([(GC.mk (GI.mk (0:Int) (0:Int)) (0:Int))]:List GC))).length:Nat):Int) - (1:Int))).toNat (GC.mk y.actor v6.1)))) else some (default,(t++([(GC.mk (GI.mk (0:Int) (0:Int)) (0:Int))]:List GC))):Option (Bool×(List GC))).bind λv7=>(ym ((v7.2).length=((t++([(GC.mk (GI.mk (0:Int) (0:Int)) (0:Int))]:List GC))).length) (if ((((((((v1).length:Int) != (3:Int)) || (!v3.1)) || (!v5.1)) || (!v7.1)) || (decide (v3.2 >= (16:Int)))) || (decide (v5.2 > (4:Int))))=true then some (false,v7.2) else ((wh v7.2 (IntKind.wrap .i64 (((((t++([(GC.mk (GI.mk (0:Int) (0:Int)) (0:Int))]:List GC))).length:Nat):Int) - (1:Int)))).bind λy8=>((wh (v7.2.set (IntKind.wrap .i64 (((((t++([(GC.mk (GI.mk (0:Int) (0:Int)) (0:Int))]:List GC))).length:Nat):Int) - (1:Int))).toNat (GC.mk (GI.mk (IntKind.wrap .u8 (v3.2)) y8.actor.inc) y8.seq)) (IntKind.wrap .i64 (((((t++([(GC.mk (GI.mk (0:Int) (0:Int)) (0:Int))]:List GC))).length:Nat):Int) - (1:Int)))).bind λy9=>some (true,((v7.2.set (IntKind.wrap .i64 (((((t++([(GC.mk (GI.mk (0:Int) (0:Int)) (0:Int))]:List GC))).length:Nat):Int) - (1:Int))).toNat (GC.mk (GI.mk (IntKind.wrap .u8 (v3.2)) y8.actor.inc) y8.seq)).set (IntKind.wrap .i64 (((((t++([(GC.mk (GI.mk (0:Int) (0:Int)) (0:Int))]:List GC))).length:Nat):Int) - (1:Int))).toNat (GC.mk (GI.mk y9.actor.rep (IntKind.wrap .u32 (v5.2))) y9.seq)))))))))))))))))
noncomputable def rdF1 (v67:List zd):Nat->zd->(Int)->Option (Out (GH×Bool) (Int)) :=
 (λ(n1:Nat) (x1:zd) (s1:Int)=>(((((wc x1 (10:Int) (64:Int)).bind λv1=>some ((((n1:Int)==(0:Int))&&v1.2),v1.1)):Option (Bool×Int)).bind λv2=>(if (!v2.1)=true then some (.ret ((GH.mk v67 (GE.mk (IntKind.wrap .u8 ((IntKind.wrap .i64 ((0:Int)+(1:Int))))) v2.2 (0:Int) (GC.mk (GI.mk (0:Int) (0:Int)) (0:Int)) ([]:zd) ([]:List GF) ([]:List GC))),false)) else some (.nxt v2.2))):Option (Out _ Int)))
noncomputable def rdF2 (v67:List zd):Nat->zd->(Int×Int×Int×Int×zd)->Option (Out (GH×Bool) (Int×Int×Int×Int×zd)) :=
 (λ(n1:Nat) (x1:zd) (s1:Int×Int×Int×Int×zd)=>((((if (((n1:Int)==(0:Int))&&(x1==([45]:zd)))=true then some (true,s1.1,s1.2.1,s1.2.2.1,s1.2.2.2.1,s1.2.2.2.2) else (if ((n1:Int)==(0:Int))=true then ((((zp x1 (10:Int) (64:Int)).bind λv1=>some (v1.2,v1.1)):Option (Bool×Int)).bind λv2=>some (v2.1,v2.2,s1.2.1,s1.2.2.1,s1.2.2.2.1,s1.2.2.2.2)) else (if ((n1:Int)==(1:Int))=true then (((dotE x1 s1.2.1 s1.2.2.1 s1.2.2.2.1):Option (Bool×Int×Int×Int)).bind λv3=>some (v3.1,s1.1,v3.2.1,v3.2.2.1,v3.2.2.2,s1.2.2.2.2)) else ((if (((n1:Int)==(2:Int))==true)=true then (hexE x1 s1.2.2.2.2) else some (default,s1.2.2.2.2):Option (Bool×zd)).bind λv4=>some ((((n1:Int)==(2:Int))&&v4.1),s1.1,s1.2.1,s1.2.2.1,s1.2.2.2.1,v4.2))))):Option (Bool×Int×Int×Int×Int×zd)).bind λv5=>(if (!v5.1)=true then some (.ret ((GH.mk v67 (GE.mk (IntKind.wrap .u8 ((IntKind.wrap .i64 ((1:Int)+(1:Int))))) (0:Int) v5.2.1 (GC.mk (GI.mk v5.2.2.1 v5.2.2.2.1) v5.2.2.2.2.1) v5.2.2.2.2.2 ([]:List GF) ([]:List GC))),false)) else some (.nxt (v5.2.1,v5.2.2.1,v5.2.2.2.1,v5.2.2.2.2.1,v5.2.2.2.2.2)))):Option (Out _ (Int×Int×Int×Int×zd))))
noncomputable def rdF3 (v67:List zd):Nat->zd->(List GF×List GC)->Option (Out (GH×Bool) (List GF×List GC)) :=
 (λ(n1:Nat) (x1:zd) (s1:(List GF)×(List GC))=>(((((xn x1 ([33]:zd)).bind λv1=>(if v1.2=true then (ym ((s1.2).length+(([(GC.mk (GI.mk (0:Int) (0:Int)) (0:Int))]:List GC)).length<=yS) (((wh (s1.2++([(GC.mk (GI.mk (0:Int) (0:Int)) (0:Int))]:List GC)) (IntKind.wrap .i64 (((((s1.2++([(GC.mk (GI.mk (0:Int) (0:Int)) (0:Int))]:List GC))).length:Nat):Int) - (1:Int)))).bind λy2=>(((tombE v1.1 s1.2 y2):Option (Bool×(List GC))).bind λv3=>(ym ((v3.2).length=((s1.2++([(GC.mk (GI.mk (0:Int) (0:Int)) (0:Int))]:List GC))).length) (some (v3.1,s1.1,v3.2))))))) else (((itemE x1):Option (Bool×Int×Int×Int×zd)).bind λv4=>(ym ((s1.1).length+(([(GF.mk (0:Int) (GC.mk (GI.mk v4.2.1 v4.2.2.1) v4.2.2.2.1) v4.2.2.2.2)]:List GF)).length<=yS) (some (v4.1,(s1.1++([(GF.mk (0:Int) (GC.mk (GI.mk v4.2.1 v4.2.2.1) v4.2.2.2.1) v4.2.2.2.2)]:List GF)),s1.2)))))):Option (Bool×(List GF)×(List GC))).bind λv5=>(if (!v5.1)=true then some (.ret ((GH.mk v67 (GE.mk (IntKind.wrap .u8 ((IntKind.wrap .i64 ((2:Int)+(1:Int))))) (0:Int) (0:Int) (GC.mk (GI.mk (0:Int) (0:Int)) (0:Int)) ([]:zd) v5.2.1 v5.2.2)),false)) else some (.nxt (v5.2.1,v5.2.2)))):Option (Out _ ((List GF)×(List GC)))))
noncomputable def rdF4 (v67:List zd):Nat->zd->((List GF))->Option (Out (GH×Bool) ((List GF))) :=
 (λ(n1:Nat) (x1:zd) (s1:(List GF))=>(((((xb x1 ([64]:zd)).bind λv1=>((if (v1.2.2==true)=true then ((zp v1.1 (10:Int) (64:Int)).bind λv2=>some (v2.2,v2.1)) else some (default,(0:Int)):Option (Bool×Int)).bind λv3=>((if ((v1.2.2&&v3.1)==true)=true then (itemE v1.2.1) else some (default,(0:Int),(0:Int),(0:Int),([]:zd)):Option (Bool×Int×Int×Int×zd)).bind λv4=>(ym ((s1).length+(([(GF.mk v3.2 (GC.mk (GI.mk v4.2.1 v4.2.2.1) v4.2.2.2.1) v4.2.2.2.2)]:List GF)).length<=yS) (some (((v1.2.2&&v3.1)&&v4.1),(s1++([(GF.mk v3.2 (GC.mk (GI.mk v4.2.1 v4.2.2.1) v4.2.2.2.1) v4.2.2.2.2)]:List GF)))))))):Option (Bool×(List GF))).bind λv5=>(if (!v5.1)=true then some (.ret ((GH.mk v67 (GE.mk (IntKind.wrap .u8 ((IntKind.wrap .i64 ((3:Int)+(1:Int))))) (0:Int) (0:Int) (GC.mk (GI.mk (0:Int) (0:Int)) (0:Int)) ([]:zd) v5.2 ([]:List GC))),false)) else some (.nxt v5.2))):Option (Out _ (List GF))))
noncomputable def wordE (v1:List zd):Option Int :=
 ((ym ((4:Int)<=9223372036854775807) (lp (zq (λ(n1:Nat) (x1:Nat) (s1:Unit)=>((if n1=0 then ((zY (GL.mk ([99,111,117,110,116,101,114]:zd) 1 1) v1).bind λv57=>(if v57=true then some (.ret ((0:Nat):Int)) else some (.nxt ()))) else (if n1=1 then ((zY (GL.mk ([114,101,103,105,115,116,101,114]:zd) 2 2) v1).bind λv59=>(if v59=true then some (.ret ((1:Nat):Int)) else some (.nxt ()))) else (if n1=2 then ((zY (GL.mk ([115,101,116]:zd) 3 3) v1).bind λv61=>(if v61=true then some (.ret ((2:Nat):Int)) else some (.nxt ()))) else ((zY (GL.mk ([108,111,103]:zd) 4 4) v1).bind λv63=>(if v63=true then some (.ret ((3:Nat):Int)) else some (.nxt ())))))):Option (Out _ Unit))) (List.range (((4:Int)).toNat)) 0 ()) λ(s1:Unit)=>some (-1:Int))):Option Int)
noncomputable def rlE (s0:zd):Option (GH×Bool) :=
  ((ye s0 ([32]:zd)).bind λv1=>(if (decide (((v1).length:Int) < (2:Int)))=true then some ((GH.mk ([]:List zd) zLf),false) else ((some ():Option Unit).bind λv4=>((wordE v1).bind λv5=>(if (decide (v5 < (0:Int)))=true then some ((GH.mk ([]:List zd) zLf),false) else ((wh v1 (0:Int)).bind λy66=>((ye y66 ([47]:zd)).bind λv67=>((slc v1 (2:Int) ((v1).length:Int)).bind λm68=>(if v5=0 then (lp (zq (rdF1 v67) m68 0 (0:Int)) λ(s1:Int)=>((zR (GH.mk v67 (GE.mk (IntKind.wrap .u8 ((IntKind.wrap .i64 ((0:Int)+(1:Int))))) s1 (0:Int) (GC.mk (GI.mk (0:Int) (0:Int)) (0:Int)) ([]:zd) ([]:List GF) ([]:List GC)))).bind λv98=>some ((GH.mk v67 (GE.mk (IntKind.wrap .u8 ((IntKind.wrap .i64 ((0:Int)+(1:Int))))) s1 (0:Int) (GC.mk (GI.mk (0:Int) (0:Int)) (0:Int)) ([]:zd) ([]:List GF) ([]:List GC))),(v98==s0)))) else (if v5=1 then (lp (zq (rdF2 v67) m68 0 ((0:Int),(0:Int),(0:Int),(0:Int),([]:zd))) λ(s1:Int×Int×Int×Int×zd)=>((zR (GH.mk v67 (GE.mk (IntKind.wrap .u8 ((IntKind.wrap .i64 ((1:Int)+(1:Int))))) (0:Int) s1.1 (GC.mk (GI.mk s1.2.1 s1.2.2.1) s1.2.2.2.1) s1.2.2.2.2 ([]:List GF) ([]:List GC)))).bind λv578=>some ((GH.mk v67 (GE.mk (IntKind.wrap .u8 ((IntKind.wrap .i64 ((1:Int)+(1:Int))))) (0:Int) s1.1 (GC.mk (GI.mk s1.2.1 s1.2.2.1) s1.2.2.2.1) s1.2.2.2.2 ([]:List GF) ([]:List GC))),(v578==s0)))) else (if v5=2 then (lp (zq (rdF3 v67) m68 0 (([]:List GF),([]:List GC))) λ(s1:(List GF)×(List GC))=>((zR (GH.mk v67 (GE.mk (IntKind.wrap .u8 ((IntKind.wrap .i64 ((2:Int)+(1:Int))))) (0:Int) (0:Int) (GC.mk (GI.mk (0:Int) (0:Int)) (0:Int)) ([]:zd) s1.1 s1.2))).bind λv1722=>some ((GH.mk v67 (GE.mk (IntKind.wrap .u8 ((IntKind.wrap .i64 ((2:Int)+(1:Int))))) (0:Int) (0:Int) (GC.mk (GI.mk (0:Int) (0:Int)) (0:Int)) ([]:zd) s1.1 s1.2)),(v1722==s0)))) else (if v5=3 then (lp (zq (rdF4 v67) m68 0 ([]:List GF)) λ(s1:(List GF))=>((zR (GH.mk v67 (GE.mk (IntKind.wrap .u8 ((IntKind.wrap .i64 ((3:Int)+(1:Int))))) (0:Int) (0:Int) (GC.mk (GI.mk (0:Int) (0:Int)) (0:Int)) ([]:zd) s1 ([]:List GC)))).bind λv2722=>some ((GH.mk v67 (GE.mk (IntKind.wrap .u8 ((IntKind.wrap .i64 ((3:Int)+(1:Int))))) (0:Int) (0:Int) (GC.mk (GI.mk (0:Int) (0:Int)) (0:Int)) ([]:zd) s1 ([]:List GC))),(v2722==s0)))) else none))))))))))))
theorem rl_eq (s:zd):xe s=rlE s:=rfl
end
section
def vT (x:UInt8):Bool:=decide (48<=x.toNat)&&decide (x.toNat<=57)
def valD (a:Nat) (l:zd):Nat:=l.foldl (λa x=>a * 10+(x.toNat - 48)) a
theorem valD_ge:∀(l:zd) (a:Nat),a<=valD a l
 | [],a=>ug a
 | x::r,a=>by
  have:=valD_ge r (a * 10+(x.toNat - 48));show a<=valD (a * 10+(x.toNat - 48)) r;omega
theorem digit_nat {k:Nat} (h:k < 10):(UInt8.ofNat (48+k)).toNat=48+k:=by
 rw [UInt8.toNat_ofNat'];omega
theorem dec_val (n:Nat):valD 0 (Lib.decDigits n)=n/\(Lib.decDigits n).all vT=true/\Lib.decDigits n ≠ []:=by
 induction n using Nat.strongRecOn with
 | _ n ih =>
  rw [Lib.decDigits];split
  ·rename_i h;refine ⟨?_,?_,by simp⟩
   ·show 0 * 10+((UInt8.ofNat (48+n)).toNat - 48)=n;rw [digit_nat h];omega
   ·simp only [uW,rc,tJ,vT,digit_nat h];simp;omega
  ·rename_i h;obtain ⟨a,b,e⟩:=ih (n / 10) (by omega);refine ⟨?_,?_,by simp⟩
   ·unfold valD at a ⊢;rw [List.foldl_append,a];show n / 10 * 10+((UInt8.ofNat (48+n % 10)).toNat - 48)=n;rw [digit_nat (by omega)];omega
   ·rw [tU,b];simp only [uW,rc,tJ,vT,digit_nat (show n % 10 < 10 by omega)];simp;omega
theorem parseM_dig {M:Nat} (e:M<=18446744073709551615):∀(l:zd) (a:Nat),l.all vT=true->valD a l<=M->Lib.parseUintM M a l=.ok (valD a l)
 | [],a,_,_=>rfl
 | x::r,a,h,hv=>by
  simp only [uW,ud,vT,uh] at h;have b:valD (a * 10+(x.toNat - 48)) r<=M:=hv;have f:=valD_ge r (a * 10+(x.toNat - 48));rw [Lib.parseUintM,uv h.1,uG (by omega),uG (by omega),parseM_dig e r _ (by simpa [vT] using h.2) b];rfl
theorem puR_num (h:0<=n/\n < 18446744073709551616):puR (vj n)=(n,true):=by
 obtain ⟨a,b,e⟩:=dec_val n.toNat
 unfold puR vj Lib.parseUintB;rw [uG e,parseM_dig (by omega) _ 0 b (by rw [a];omega),a];simp only [tA,tF];omega
theorem parseI_itoa (h:-9223372036854775808<=n/\n<=9223372036854775807):Lib.parseIntB 64 (Lib.itoa n)=.ok n:=by
 unfold Lib.itoa;by_cases hn:n < 0
 ·rw [uv hn];obtain ⟨b,a,f⟩:=dec_val n.natAbs;unfold Lib.parseIntB;simp only;have e:Lib.parseUintB 64 (Lib.decDigits n.natAbs)=.ok n.natAbs:=by
   unfold Lib.parseUintB;rw [uG f,parseM_dig (by omega) _ 0 a (by rw [b];omega),b]
  simp only [show (45:UInt8).toNat=45 from rfl,or_true,uq,e];rw [uG (by simp),uG (by omega)];congr 1;omega
 ·rw [uG hn];obtain ⟨b,a,f⟩:=dec_val n.toNat
  have e:Lib.parseUintB 64 (Lib.decDigits n.toNat)=.ok n.toNat:=by
   unfold Lib.parseUintB;rw [uG f,parseM_dig (by omega) _ 0 a (by rw [b];omega),b]
  obtain ⟨c,r,g⟩:∃c r,Lib.decDigits n.toNat=c::r:=s7 f;rw [g] at e a ⊢;simp only [uW,ud,vT,uh] at a;unfold Lib.parseIntB;simp only;rw [uG (by omega),e];simp only;rw [uG (by omega),uG (by omega),uG (by omega)];congr 1;omega
theorem piR_num (h:-9223372036854775808<=n/\n<=9223372036854775807):piR (Lib.itoa n)=(n,true):=by
 unfold piR;rw [parseI_itoa h]
theorem pU {x:zd} (h:x.length<=16777216):zp x 10 64=some (puR x):=by
 unfold zp parseU;rw [uv ⟨rfl,rfl⟩,uv (by omega)]
theorem pI {x:zd} (h:x.length<=16777216):wc x 10 64=some (piR x):=by
 unfold wc parseI;rw [uv ⟨rfl,rfl,by omega⟩]
theorem pH (a b:UInt8):zp [a,b] 16 8=some (phR a b):=rfl
def dotR (x:zd) (r0 i0 d0:Int):Bool×Int×Int×Int:=match vP 46 x with
 | [a,b,c]=>if (puR a).2=false then (false,r0,i0,d0) else if (puR b).2=false then (false,r0,i0,d0) else if (puR c).2=false \/ (puR a).1 >= 16 \/ (puR b).1 > 4 then (false,r0,i0,(puR c).1) else (true,IntKind.wrap .u8 (puR a).1,IntKind.wrap .u32 (puR b).1,(puR c).1)
 | _=>(false,r0,i0,d0)
theorem dotE_is {x:zd} (hx:x.length<=16777216) (i i0 h:Int):dotE x i i0 h=some (dotR x i i0 h):=by
 unfold dotE dotR;rw [ye,split_is hx];have f:=λp j=>(cutL_mem 46 x p j).1;generalize vP 46 x=q at f ⊢;simp only [ua]
 match q with
 | []=>simp [ym]
 | [a]=>simp [ym]
 | [a,b]=>simp [ym]
 | [a,b,c] =>
  have k:=pU (uB (f a (by simp)) hx);have m:=pU (uB (f b (by simp)) hx);have o:=pU (uB (f c (by simp)) hx);cases h1:(puR a).2 <;> cases h2:(puR b).2 <;> cases g:(puR c).2 <;> simp [ym,k,m,o,h1,h2,g] <;> grind
 | a::b::c::d::e =>
  have g:((e.length:Int)+1+1+1+1 != 3)=true:=by simp;omega
  simp [ym,g]
theorem wrapU8_in (n:Int):InK .u8 (IntKind.wrap .u8 n):=by
 unfold InK;rw [IntKind.wrap_u8];simp [IntKind.min,IntKind.max,IntKind.signed,IntKind.bits];omega
theorem wf0:GC.wf ⟨⟨0,0⟩,0⟩:=by simp [GC.wf,GI.wf,InK,IntKind.min,IntKind.max,IntKind.signed,IntKind.bits]
theorem dig_no (a:vT c=false) {l:zd} (h:l.all vT=true):c ∉ l:=λb=>by
 rw [ur] at h;rw [h c b] at a;cases a
theorem num_no (a:vT c=false) (n:Int):c ∉ vj n:=dig_no a (dec_val n.toNat).2.1
theorem cut_dot (d:GC):vP 46 (dotT d)=[vj d.actor.rep,vj d.actor.inc,vj d.seq]:=by
 unfold dotT;rw [show ((((vj d.actor.rep++[46])++vj d.actor.inc)++[46])++vj d.seq)=vj d.actor.rep++46::(vj d.actor.inc++46::vj d.seq) by simp,cutL_app _ (num_no rfl _),cutL_app _ (num_no rfl _),cutL_one (num_no rfl _)]
theorem dotR_dot (b:GC.wf d) (a:xK d=true) (h i0 e:Int):dotR (dotT d) h i0 e=(true,d.actor.rep,d.actor.inc,d.seq):=by
 obtain ⟨⟨i,g⟩,j⟩:=b;unfold xK actorB at a;simp only [ud,uh] at a;have k:=inU8 i;have m:=inU32 g;have f:=inU64 j;unfold dotR;rw [cut_dot];simp only;rw [puR_num (by omega),puR_num (by omega),puR_num f];simp only [Bool.true_eq_false,uL,false_or];rw [uG (by omega)];rw [IntKind.wrap_u8,IntKind.wrap_u32];simp only [tA,pw,tF];constructor <;> omega
end
section
def byteH (a b:UInt8):UInt8:=UInt8.ofNat (IntKind.wrap .u8 (phR a b).1).toNat
def hexB:zd->Option zd
 | a::b::r=>if (phR a b).2=true then (hexB r).map λt=>byteH a b::t else none
 | _=>some []
def hexR (x d:zd):Bool×zd:=if x=[45] then (true,[]) else match hexB x with
 | some t=>(decide (0 < x.length),t)
 | none=>(false,d)
theorem hexB_len:∀(x t:zd),hexB x=some t->t.length<=x.length
 | [],t,h=>by cases h;simp
 | [a],t,h=>by cases h;simp
 | a::b::r,t,h=>by
  unfold hexB at h;split at h
  ·obtain ⟨u,e,rfl⟩:=tQ.1 h;have:=hexB_len r u e;simp only [ue];omega
  ·cases h
theorem hex_loop {x d:zd} (hx:x.length<=16777216) {f:(List UInt8)×Int->Option (Out (Bool×zd) ((List UInt8)×Int))} (m:∀s2,f s2=(if (decide ((IntKind.wrap .i64 (s2.2+(1:Int))) < ((x).length:Int)))=true then ((slc x s2.2 (IntKind.wrap .i64 (s2.2+(2:Int)))).bind λm1=>((zp m1 (16:Int) (8:Int)).bind λv2=>(if (!v2.2)=true then some (.ret (false,d)) else (ym (0<=(IntKind.wrap .u8 (v2.1))/\(IntKind.wrap .u8 (v2.1)) < 256) ((ym ((s2.1).length+(([(UInt8.ofNat (IntKind.wrap .u8 (v2.1)).toNat)]:List UInt8)).length<=yS) (some (.nxt ((s2.1++([(UInt8.ofNat (IntKind.wrap .u8 (v2.1)).toNat)]:List UInt8)),(IntKind.wrap .i64 (s2.2+(2:Int)))))))))))) else some (.brk (s2.1,s2.2)))) :
  ∀(r pre g:zd),x=pre++r->g.length<=pre.length->(hexB r=none->yr f (g,(pre.length:Int))=some (.inl (false,d)))/\∀t,hexB r=some t->∃j,yr f (g,(pre.length:Int))=some (.inr (g++t,j))
 | [],pre,g,e,ha=>by
  have k:=congrArg List.length e;simp only [uf,uk] at k;refine ⟨λh=>(by cases h),λt h=>⟨(pre.length:Int),?_⟩⟩;cases h;rw [wB,m];simp only;rw [xV (by omega),uG (by simp;omega)];simp
 | [a],pre,g,e,ha=>by
  have k:=congrArg List.length e;simp only [uf,ue,uk] at k;refine ⟨λh=>(by cases h),λt h=>⟨(pre.length:Int),?_⟩⟩;cases h;rw [wB,m];simp only;rw [xV (by omega),uG (by simp;omega)];simp
 | a::b::r,pre,g,e,ha=>by
  have k:=congrArg List.length e;simp only [uf,ue] at k;have w:yS=2147483648:=rfl;have p:=hex_loop hx m r (pre++[a,b]) (g++[byteH a b]) (by rw [e];simp) (by simp;omega);have hs:slc x (pre.length:Int) ((pre.length:Int)+2)=some [a,b]:=by
   rw [slc_at (by omega)];rw [e,show ((pre.length:Int)+2).toNat=pre.length+2 by omega,tI,sO];simp
  have o:InK .u8 (IntKind.wrap .u8 (phR a b).1):=wrapU8_in _;have o:=inU8 o;have i:f (g,(pre.length:Int))=if (phR a b).2=true then some (.nxt (g++[byteH a b],(((pre++[a,b]).length:Nat):Int))) else some (.ret (false,d)):=by
   rw [m];simp only;rw [xV (by omega),xV (by omega),uv (by simp;omega),hs,ua,pH,ua];cases h2:(phR a b).2 with
   | false=>rfl
   | true =>
    simp only [tT,up,uL,uq];rw [zx o,zx (by simp only [ue,uk];omega)];simp only [uf,ue,uk];rfl
  unfold hexB;cases h2:(phR a b).2 with
  | false =>
   rw [h2] at i;refine ⟨λ_=>?_,λt h=>(by cases h)⟩;rw [wB,i];rfl
  | true =>
   rw [h2] at i;simp only [uq] at i ⊢;have q:yr f (g,(pre.length:Int))=yr f (g++[byteH a b],(((pre++[a,b]).length:Nat):Int)):=by rw [wB,i]
   rw [q];refine ⟨λh=>p.1 (by simpa using h),λt h=>?_⟩;obtain ⟨u,s,rfl⟩:=tQ.1 h;obtain ⟨j,v⟩:=p.2 u s;exact ⟨j,by rw [v];simp⟩
theorem hexE_is {x:zd} (hx:x.length<=16777216) (d:zd):hexE x d=some (hexR x d):=by
 unfold hexE hexR;by_cases h:x=[45]
 ·rw [uv (by simp [h]),uv h]
 ·rw [uG (by simpa using h),uG h];have k:=hex_loop hx (d:=d) (λs2=>rfl) x [] [] rfl (by simp);cases hb:hexB x with
  | none =>
   have a:=k.1 hb;simp only [uk] at a;show lp (yr _ ([],((0:Nat):Int))) _=_;rw [a];rfl
  | some t =>
   obtain ⟨j,b⟩:=k.2 t hb;simp only [uk] at b;show lp (yr _ ([],((0:Nat):Int))) _=_;rw [b];have:=hexB_len x t hb;have e:maxLen=9223372036854775807:=rfl;simp only [lp,uT];rw [zx (by omega)];congr 2;exact sy.2 (by omega)
theorem hexv_d:∀k:Nat,k < 16->Proofs.hexv (Proofs.hexd k)=some k:=by decide
theorem byte_hex (c:UInt8):phR (Proofs.hexd (c.toNat / 16)) (Proofs.hexd (c.toNat % 16))=((c.toNat:Int),true):=by
 have a:=c.toNat_lt;unfold phR;rw [hexv_d _ (by omega),hexv_d _ (by omega)];simp only [tA,tF];omega
theorem hexB_hexs:∀t:zd,hexB (Proofs.hexs t)=some t
 | []=>rfl
 | c::r=>by
  show hexB (Proofs.hexd (c.toNat / 16)::Proofs.hexd (c.toNat % 16)::Proofs.hexs r)=_;have a:=c.toNat_lt;unfold hexB byteH;rw [byte_hex,uv rfl,hexB_hexs r];simp only [uU];rw [IntKind.wrap_u8,show ((c.toNat:Int) % 256).toNat=c.toNat by omega,UInt8.ofNat_toNat]
theorem hexR_hex (t d:zd):hexR (hexL t) d=(true,t):=by
 unfold hexL;split
 ·rename_i h;subst h;rfl
 ·rename_i h;have a:=Proofs.hexs_len t;have b:0 < t.length:=ri.2 h;unfold hexR;rw [uG,hexB_hexs]
  ·simp only [tA,tF];exact tp (by omega)
  ·intro e;rw [e] at a;simp at a;omega
def itemD (x:zd):Bool×Int×Int×Int:=if (Lib.cut x [61]).2.2=true then dotR (Lib.cut x [61]).1 0 0 0 else (false,0,0,0)
def itemH (x:zd):Bool×zd:=if ((Lib.cut x [61]).2.2&&(itemD x).1)=true then hexR (Lib.cut x [61]).2.1 [] else (false,[])
def itemP (x:zd):Bool×Int×Int×Int×zd:=(((Lib.cut x [61]).2.2&&(itemD x).1)&&(itemH x).1,(itemD x).2.1,(itemD x).2.2.1,(itemD x).2.2.2,(itemH x).2)
theorem itemE_is {x:zd} (hx:x.length<=16777216):itemE x=some (itemP x):=by
 unfold itemE;rw [xb,strCut_is hx,ua];have a:=cut_lens x 61;rw [show (if ((Lib.cut x [61]).2.2==true)=true then dotE (Lib.cut x [61]).1 0 0 0 else some (default,(0:Int),(0:Int),(0:Int)))=some (itemD x) by
  unfold itemD;cases h:(Lib.cut x [61]).2.2 with
  | false=>rfl
  | true=>exact dotE_is (by omega) 0 0 0,ua]
 rw [show (if (((Lib.cut x [61]).2.2&&(itemD x).1)==true)=true then hexE (Lib.cut x [61]).2.1 [] else some (default,([]:zd)))=some (itemH x) by
  unfold itemH;cases h:((Lib.cut x [61]).2.2&&(itemD x).1) with
  | false=>rfl
  | true=>exact hexE_is (by omega) [],ua]
 rfl
theorem dot_no (a:vT c=false) (b:c ≠ 46) (d:GC):c ∉ dotT d:=by
 unfold dotT;simp only [uC,ut,sA,py,rg];exact ⟨⟨⟨⟨num_no a _,b⟩,num_no a _⟩,b⟩,num_no a _⟩
theorem itemP_item (b:GF.wf it) (e:xK it.dot=true):itemP (xA it)=(true,it.dot.actor.rep,it.dot.actor.inc,it.dot.seq,it.text):=by
 have a:Lib.cut (xA it) [61]=(dotT it.dot,hexL it.text,true):=by
  unfold xA;rw [uy];exact cutT_hit (dot_no rfl (by decide) _)
 have hd:itemD (xA it)=(true,it.dot.actor.rep,it.dot.actor.inc,it.dot.seq):=by
  unfold itemD;rw [a,uv rfl];exact dotR_dot b.2.1 e 0 0 0
 have hh:itemH (xA it)=(true,it.text):=by
  unfold itemH;rw [a,hd];exact (uv rfl).trans (hexR_hex _ _)
 unfold itemP;rw [hh,hd,a];rfl
theorem tombE_is {x:zd} (hx:x.length<=16777216) {t:List GC} (w:t.length<=16777216):tombE x t ⟨⟨0,0⟩,0⟩=some ((dotR x 0 0 0).1,t++[⟨⟨(dotR x 0 0 0).2.1,(dotR x 0 0 0).2.2.1⟩,(dotR x 0 0 0).2.2.2⟩]):=by
 unfold tombE dotR;rw [ye,split_is hx];have i:=λp k=>(cutL_mem 46 x p k).1;generalize vP 46 x=q at i ⊢;simp only [ua];have h:IntKind.wrap .i64 ((((t++([(GC.mk (GI.mk (0:Int) (0:Int)) (0:Int))]:List GC)).length:Nat):Int) - 1)=(t.length:Int):=by
  simp only [uf,ue,uk];rw [xV (by omega)];omega
 rw [h];have g:∀u v:GC,(t++[u]).set ((t.length:Int)).toNat v=t++[v]:=λu v=>by simp
 have f:∀u:GC,wh (t++[u]) (t.length:Int)=some u:=λu=>by unfold wh;simp
 match q with
 | []=>simp [ym]
 | [a]=>simp [ym]
 | [a,b]=>simp [ym]
 | [a,b,c] =>
  have m:=pU (uB (i a (by simp)) hx);have o:=pU (uB (i b (by simp)) hx);have s:=pU (uB (i c (by simp)) hx);cases h1:(puR a).2 <;> cases h2:(puR b).2 <;> cases j:(puR c).2 <;> simp [ym,m,o,s,h1,h2,j,g,f];by_cases h4:(puR a).1 >= 16 \/ (puR b).1 > 4
  ·simp [h4]
  ·simp [h4,f]
 | a::b::c::d::e =>
  have j:((e.length:Int)+1+1+1+1 != 3)=true:=by simp;omega
  simp [ym,j]
def preP (x:zd):zd×Bool:=match x with
 | 33::r=>(r,true)
 | _=>(x,false)
theorem prefix_is (x:zd):xn x [33]=some (preP x):=by
 unfold xn yA yz;cases x with
 | nil=>simp [ym,preP]
 | cons a r =>
  rw [zx (by intro _;simp;omega),ua];by_cases ha:a=33
  ·subst ha;rw [slc_at (by simp;omega)];have:decide (((33::r:zd).length:Int) >= (([33]:zd).length:Int))=true:=by simp;omega
   rw [this];simp [preP]
  ·have:((decide (((a::r).length:Int) >= (([33]:zd).length:Int)))&&((((a::r).take (([33]:zd).length:Int).toNat).drop (0:Int).toNat)==([33]:zd)))=false:=by
    simp [ha]
   rw [this];simp only [tZ,uq,ua];unfold preP;split
   ·rename_i h;exact absurd (rk h).1 ha
   ·rfl
end
section
theorem leaf_shape (h:leafB l=true) :
  l=⟨1,l.n,0,dot0,[],[],[]⟩ \/ l=⟨2,0,0,dot0,[],[],[]⟩ \/ (l=⟨2,0,l.time,l.dot,l.text,[],[]⟩/\l.time ≠ 0/\qz l.time=true/\xK l.dot=true/\l.text.length<=40) \/
   (l=⟨3,0,0,dot0,[],l.items,l.tombs⟩/\(∀x ∈ l.items,xK x.dot=true/\x.text.length<=40/\x.time=0)/\∀d ∈ l.tombs,xK d=true) \/
   (l=⟨4,0,0,dot0,[],l.items,[]⟩/\∀x ∈ l.items,xK x.dot=true/\x.text.length<=40/\qz x.time=true):=by
 obtain ⟨typ,n,time,dot,text,items,tombs⟩:=l;unfold leafB zeroB tombsB at h;simp only at h;split at h
 ·rename_i e;simp only [ud,uh] at h;obtain ⟨⟨⟨⟨f,b⟩,i⟩,a⟩,g⟩:=h;subst e f b i a g;exact .inl rfl
 ·split at h
  ·rename_i e;simp only [ud,uh] at h;obtain ⟨⟨⟨f,b⟩,i⟩,a⟩:=h;subst e f b i;split at a
   ·rename_i e;simp only [ud,uh] at a;obtain ⟨g,j⟩:=a;subst e g j;exact .inr (.inl rfl)
   ·rename_i e;simp only [ud,uh] at a;exact .inr (.inr (.inl ⟨rfl,e,a.1.1,a.1.2,a.2⟩))
  ·split at h
   ·rename_i e;simp only [ud,uh] at h;obtain ⟨⟨⟨f,⟨b,i⟩,a⟩,⟨g,_⟩,_⟩,⟨j,_⟩,_⟩:=h;subst e f b i a;refine .inr (.inr (.inr (.inl ⟨rfl,λx hx=>?_,λd hd=>ur.1 j d hd⟩)));have:=ur.1 g x hx;unfold wC at this;simp only [ud,uh,up,uL] at this;exact ⟨this.1.1,this.1.2,this.2⟩
   ·split at h
    ·rename_i e;simp only [ud,uh] at h;obtain ⟨⟨⟨f,⟨b,i⟩,a⟩,k⟩,⟨g,_⟩,_⟩:=h;subst e f b i a k;refine .inr (.inr (.inr (.inr ⟨rfl,λx hx=>?_⟩)));have:=ur.1 g x hx;unfold wC at this;simp only [ud,uh,uq] at this;exact ⟨this.1.1,this.1.2,this.2⟩
    ·cases h
def bkLim (l:GE):Prop:=l.items.length+l.tombs.length<=4194304
def Good (r:GH):Prop:=xI r.path=true/\leafB r.leaf=true/\GE.wf r.leaf/\bkLim r.leaf
theorem leaf_texts (a:leafB l=true):(∀x ∈ l.items,x.text.length<=40)/\l.text.length<=40:=by
 rcases leaf_shape a with e | e | ⟨e,h⟩ | ⟨e,h,_⟩ | ⟨e,h⟩
 ·rw [e];simp
 ·rw [e];simp
 ·rw [e];simp;exact h.2.2.2
 ·rw [e];simp;exact λx hx=>(h x hx).2.1
 ·rw [e];simp;exact λx hx=>(h x hx).2.1
theorem items_bk:∀L:List GF,(∀x ∈ L,x.text.length<=40)->(L.map GF.bk).sum<=48 * L.length
 | [],_=>by simp
 | x::r,h=>by
  have e:=h x (by simp);have b:=items_bk r λy a=>h y (by simp [a]);simp only [uu,tc,ue,bk_item];omega
theorem dots_bk:∀L:List GC,(L.map GC.bk).sum=5 * L.length
 | []=>by simp
 | x::r=>by
  have:=dots_bk r;simp only [uu,tc,ue,bk_dot];omega
theorem leaf_bk (a:leafB l=true) (hs:bkLim l):l.bk<=1073741824:=by
 have e:=bk_leaf l;obtain ⟨b,f⟩:=leaf_texts a;have h:=items_bk l.items b;have g:=dots_bk l.tombs;unfold bkLim at hs;omega
theorem line_tot (b:GE.wf r.leaf) (g:bkLim r.leaf):zR r=some (zP r)/\(zP r ≠ []->Good r)/\(Good r->zP r=Lib.join ([Lib.join r.path [47],xW r.leaf.typ]++zJ r.leaf) [32]):=by
 have key:∀v,zR r=some v->zP r=v:=λv e=>by unfold zP;rw [e];rfl
 cases hl:leafB r.leaf with
 | true =>
  have h:=(line_is b (leaf_bk hl g)).1;rw [key _ h];refine ⟨h,λa=>?_,λf=>uv ⟨f.1,f.2.1⟩⟩;split at a
  ·rename_i c;exact ⟨c.1,c.2,b,g⟩
  ·exact absurd rfl a
 | false =>
  have h:zR r=some []:=by
   have j:=b.2.2.2.2.2.1.1;have i:=b.2.2.2.2.2.2.1;unfold zR;rw [q8];simp only [ua];cases hp:xI r.path with
   | false=>simp
   | true=>simp only [tT,tR,uq,leafMay_is j i,ua,tK,hl,tZ]
  rw [key _ h];refine ⟨h,λa=>absurd rfl a,λf=>?_⟩;rw [f.2.1] at hl;cases hl
theorem rdF1_is (v:List zd) (n:Nat) {x:zd} (hx:x.length<=1048576) (s:Int):rdF1 v n x s=some (if ((n:Int)==0&&(piR x).2)=true then .nxt (piR x).1 else .ret (⟨v,⟨1,(piR x).1,0,dot0,[],[],[]⟩⟩,false)):=by
 unfold rdF1;rw [pI (by omega)];simp only [ua];cases ((n:Int)==0&&(piR x).2) <;> rfl
def rdG2 (n:Nat) (x:zd) (s:Int×Int×Int×Int×zd):Bool×Int×Int×Int×Int×zd :=
 if ((n:Int)==0&&x==[45])=true then (true,s)
 else if ((n:Int)==0)=true then ((puR x).2,(puR x).1,s.2)
 else if ((n:Int)==1)=true then ((dotR x s.2.1 s.2.2.1 s.2.2.2.1).1,s.1,(dotR x s.2.1 s.2.2.1 s.2.2.2.1).2.1,(dotR x s.2.1 s.2.2.1 s.2.2.2.1).2.2.1,(dotR x s.2.1 s.2.2.1 s.2.2.2.1).2.2.2,s.2.2.2.2)
 else if ((n:Int)==2)=true then ((hexR x s.2.2.2.2).1,s.1,s.2.1,s.2.2.1,s.2.2.2.1,(hexR x s.2.2.2.2).2)
 else (false,s)
theorem rdF2_is (v:List zd) (n:Nat) {x:zd} (hx:x.length<=1048576) (s:Int×Int×Int×Int×zd):rdF2 v n x s=some (if (rdG2 n x s).1=true then .nxt (rdG2 n x s).2 else .ret (⟨v,⟨2,0,(rdG2 n x s).2.1,⟨⟨(rdG2 n x s).2.2.1,(rdG2 n x s).2.2.2.1⟩,(rdG2 n x s).2.2.2.2.1⟩,(rdG2 n x s).2.2.2.2.2,[],[]⟩⟩,false)):=by
 have a:∀w:Bool×Int×Int×Int×Int×zd,((some w).bind λv5=>(if (!v5.1)=true then some (.ret ((GH.mk v (GE.mk (IntKind.wrap .u8 ((IntKind.wrap .i64 ((1:Int)+(1:Int))))) (0:Int) v5.2.1 (GC.mk (GI.mk v5.2.2.1 v5.2.2.2.1) v5.2.2.2.2.1) v5.2.2.2.2.2 ([]:List GF) ([]:List GC))),false)) else some (.nxt (v5.2.1,v5.2.2.1,v5.2.2.2.1,v5.2.2.2.2.1,v5.2.2.2.2.2))):Option (Out (GH×Bool) (Int×Int×Int×Int×zd)))=some (if w.1=true then .nxt w.2 else .ret (⟨v,⟨2,0,w.2.1,⟨⟨w.2.2.1,w.2.2.2.1⟩,w.2.2.2.2.1⟩,w.2.2.2.2.2,[],[]⟩⟩,false)):=λw=>by
  rw [ua];cases w.1 <;> rfl
 unfold rdF2 rdG2;simp only [xb,pU (show x.length<=16777216 by omega),dotE_is (show x.length<=16777216 by omega),hexE_is (show x.length<=16777216 by omega),ua];split
 ·exact a _
 ·split
  ·exact a _
  ·split
   ·exact a _
   ·cases h:((n:Int)==2) with
    | true=>exact a _
    | false=>exact a _
def itm (t:Int) (p:Bool×Int×Int×Int×zd):GF:=⟨t,⟨⟨p.2.1,p.2.2.1⟩,p.2.2.2.1⟩,p.2.2.2.2⟩
def dotOf3 (x:zd):GC:=⟨⟨(dotR x 0 0 0).2.1,(dotR x 0 0 0).2.2.1⟩,(dotR x 0 0 0).2.2.2⟩
def rdG3 (x:zd) (s:List GF×List GC):Bool×List GF×List GC :=
 if (preP x).2=true then ((dotR (preP x).1 0 0 0).1,s.1,s.2++[dotOf3 (preP x).1]) else ((itemP x).1,s.1++[itm 0 (itemP x)],s.2)
theorem preP_len (x:zd):(preP x).1.length<=x.length:=by
 unfold preP;split <;> simp
theorem rdF3_is (v:List zd) (n:Nat) {x:zd} (hx:x.length<=1048576) {s:List GF×List GC} (j:s.1.length<=4194304) (i:s.2.length<=4194304):rdF3 v n x s=some (if (rdG3 x s).1=true then .nxt (rdG3 x s).2 else .ret (⟨v,⟨3,0,0,dot0,[],(rdG3 x s).2.1,(rdG3 x s).2.2⟩⟩,false)):=by
 have a:∀w:Bool×List GF×List GC,((some w).bind λv5=>(if (!v5.1)=true then some (.ret ((GH.mk v (GE.mk (IntKind.wrap .u8 ((IntKind.wrap .i64 ((2:Int)+(1:Int))))) (0:Int) (0:Int) (GC.mk (GI.mk (0:Int) (0:Int)) (0:Int)) ([]:zd) v5.2.1 v5.2.2)),false)) else some (.nxt (v5.2.1,v5.2.2))):Option (Out (GH×Bool) (List GF×List GC)))=some (if w.1=true then .nxt w.2 else .ret (⟨v,⟨3,0,0,dot0,[],w.2.1,w.2.2⟩⟩,false)):=λw=>by
  rw [ua];cases w.1 <;> rfl
 have g:yS=2147483648:=rfl;have f:=preP_len x;unfold rdF3 rdG3;simp only [prefix_is,ua];cases h:(preP x).2 with
 | true =>
  simp only [uq];have e:IntKind.wrap .i64 ((((s.2++([(GC.mk (GI.mk (0:Int) (0:Int)) (0:Int))]:List GC)).length:Nat):Int) - 1)=(s.2.length:Int):=by
   simp only [uf,ue,uk];rw [xV (by omega)];omega
  rw [zx (by simp only [ue,uk];omega),e];have b:∀u:GC,wh (s.2++[u]) (s.2.length:Int)=some u:=λu=>by unfold wh;simp
  rw [b,ua,tombE_is (by omega) (by omega),ua];simp only;rw [zx (by simp)];exact a _
 | false =>
  simp only [up,uL];rw [itemE_is (by omega),ua,zx (by simp only [ue,uk];omega)];exact a _
def timeR (x:zd):Bool×Int:=if (Lib.cut x [64]).2.2=true then ((puR (Lib.cut x [64]).1).2,(puR (Lib.cut x [64]).1).1) else (false,0)
def logR (x:zd):Bool×Int×Int×Int×zd:=if ((Lib.cut x [64]).2.2&&(timeR x).1)=true then itemP (Lib.cut x [64]).2.1 else (false,0,0,0,[])
def rdG4 (x:zd) (s:List GF):Bool×List GF:=(((Lib.cut x [64]).2.2&&(timeR x).1)&&(logR x).1,s++[itm (timeR x).2 (logR x)])
theorem rdF4_is (v:List zd) (n:Nat) {x:zd} (hx:x.length<=1048576) {s:List GF} (e:s.length<=4194304):rdF4 v n x s=some (if (rdG4 x s).1=true then .nxt (rdG4 x s).2 else .ret (⟨v,⟨4,0,0,dot0,[],(rdG4 x s).2,[]⟩⟩,false)):=by
 have a:∀w:Bool×List GF,((some w).bind λv5=>(if (!v5.1)=true then some (.ret ((GH.mk v (GE.mk (IntKind.wrap .u8 ((IntKind.wrap .i64 ((3:Int)+(1:Int))))) (0:Int) (0:Int) (GC.mk (GI.mk (0:Int) (0:Int)) (0:Int)) ([]:zd) v5.2 ([]:List GC))),false)) else some (.nxt v5.2)):Option (Out (GH×Bool) (List GF)))=some (if w.1=true then .nxt w.2 else .ret (⟨v,⟨4,0,0,dot0,[],w.2,[]⟩⟩,false)):=λw=>by
  rw [ua];cases w.1 <;> rfl
 have b:yS=2147483648:=rfl;have f:=cut_lens x 64;unfold rdF4;rw [xb,strCut_is (by omega),ua];rw [show (if ((Lib.cut x [64]).2.2==true)=true then ((zp (Lib.cut x [64]).1 (10:Int) (64:Int)).bind λv2=>some (v2.2,v2.1)) else some (default,(0:Int)))=some (timeR x) by
  unfold timeR;cases h:(Lib.cut x [64]).2.2 with
  | false=>rfl
  | true=>simp only [tR,uq];rw [pU (by omega)];rfl,ua]
 rw [show (if (((Lib.cut x [64]).2.2&&(timeR x).1)==true)=true then itemE (Lib.cut x [64]).2.1 else some (default,(0:Int),(0:Int),(0:Int),([]:zd)))=some (logR x) by
  unfold logR;cases h:((Lib.cut x [64]).2.2&&(timeR x).1) with
  | false=>rfl
  | true=>exact itemE_is (by omega),ua,zx (by simp only [ue,uk];omega)]
 exact a _
def kidx (w:zd):Int:=if w=[99,111,117,110,116,101,114] then 0 else if w=[114,101,103,105,115,116,101,114] then 1 else if w=[115,101,116] then 2 else if w=[108,111,103] then 3 else -1
theorem wordE_is (a w:zd) (r:List zd):wordE (a::w::r)=some (kidx w):=by
 have hi:wh (a::w::r) 1=some w:=rfl;unfold wordE kidx;rw [zx (by omega)];simp only [zY,hi,ua];show lp (zq _ [0,1,2,3] 0 ()) _=_;simp only [zq,uq,te,rO,uL];by_cases h1:w=[99,111,117,110,116,101,114]
 ·subst h1;rfl
 ·have b:(([99,111,117,110,116,101,114]:zd)==w)=false:=by simpa using λe=>h1 e.symm
  rw [uG h1];simp only [b,up,uL];by_cases h2:w=[114,101,103,105,115,116,101,114]
  ·subst h2;rfl
  ·have h:(([114,101,103,105,115,116,101,114]:zd)==w)=false:=by simpa using λe=>h2 e.symm
   rw [uG h2];simp only [h,up,uL];by_cases h3:w=[115,101,116]
   ·subst h3;rfl
   ·have f:(([115,101,116]:zd)==w)=false:=by simpa using λe=>h3 e.symm
    rw [uG h3];simp only [f,up,uL];by_cases h4:w=[108,111,103]
    ·subst h4;rfl
    ·have g:(([108,111,103]:zd)==w)=false:=by simpa using λe=>h4 e.symm
     rw [uG h4];simp [g,lp]
end
section
def isHx (c:UInt8):Bool:=vT c || (decide (97<=c.toNat)&&decide (c.toNat<=102))
theorem hexd_hx:∀k:Nat,k < 16->isHx (Proofs.hexd k)=true:=by decide
theorem hexs_hx (t:zd):(Proofs.hexs t).all isHx=true:=by
 rw [ur];intro x hx;unfold Proofs.hexs at hx;rw [List.mem_flatMap] at hx;obtain ⟨c,_,a⟩:=hx;have:=c.toNat_lt;simp only [ut,sA,py] at a;rcases a with rfl | rfl
 ·exact hexd_hx _ (by omega)
 ·exact hexd_hx _ (by omega)
theorem hex_no (a:isHx c=false) (b:c ≠ 45) (t:zd):c ∉ hexL t:=by
 unfold hexL;split
 ·simpa using b
 ·intro h;have:=ur.1 (hexs_hx t) c h;rw [a] at this;cases this
theorem itoa_no (a:vT c=false) (b:c ≠ 45) (n:Int):c ∉ Lib.itoa n:=by
 unfold Lib.itoa;split
 ·simp only [ut,rg];exact ⟨b,dig_no a (dec_val _).2.1⟩
 ·exact dig_no a (dec_val _).2.1
theorem item_no (a:isHx c=false) (b:c ≠ 45) (f:c ≠ 46) (e:c ≠ 61) (it:GF):c ∉ xA it:=by
 have hd:vT c=false:=by unfold isHx at a;simp only [tP] at a;exact a.1
 unfold xA;simp only [uC,ut,sA,py,rg];exact ⟨⟨dot_no hd f _,e⟩,hex_no a b _⟩
theorem tomb_no (a:isHx c=false) (e:c ≠ 46) (b:c ≠ 33) (d:GC):c ∉ wT d:=by
 have hd:vT c=false:=by unfold isHx at a;simp only [tP] at a;exact a.1
 unfold wT;simp only [uC,ut,sA,py,rg];exact ⟨b,dot_no hd e _⟩
theorem log_eq (it:GF):logT it=vj it.time++64::xA it:=by simp [logT,xA]
theorem log_no (a:isHx c=false) (b:c ≠ 45) (g:c ≠ 46) (e:c ≠ 61) (f:c ≠ 64) (it:GF):c ∉ logT it:=by
 have hd:vT c=false:=by unfold isHx at a;simp only [tP] at a;exact a.1
 rw [log_eq];simp only [uC,ut,rg];exact ⟨num_no hd _,f,item_no a b g e it⟩
theorem parts_no (l:GE):∀p ∈ zJ l,(32:UInt8) ∉ p:=by
 intro p a;unfold zJ at a;split at a
 ·simp only [uA] at a;subst a;exact itoa_no rfl (by decide) _
 ·split at a
  ·split at a
   ·simp only [uA] at a;subst a;decide
   ·simp only [ut,sA,py] at a;rcases a with rfl | rfl | rfl
    ·exact num_no rfl _
    ·exact dot_no rfl (by decide) _
    ·exact hex_no rfl (by decide) _
  ·split at a
   ·simp only [uC,tf] at a;rcases a with ⟨x,_,rfl⟩ | ⟨x,_,rfl⟩
    ·exact item_no rfl (by decide) (by decide) (by decide) x
    ·exact tomb_no rfl (by decide) (by decide) x
   ·simp only [tf] at a;obtain ⟨x,_,rfl⟩:=a;exact log_no rfl (by decide) (by decide) (by decide) (by decide) x
theorem word_no (n:Int):(32:UInt8) ∉ xW n:=by
 unfold xW
 repeat' split
 all_goals decide
theorem alnum_no (a:vU c=false) {s:zd} (h:s.all vU=true):c ∉ s:=λb=>by
 have:=ur.1 h c b;rw [a] at this;cases this
theorem path_names {p:List zd} (h:xI p=true):p ≠ []/\p.length<=3/\∀s ∈ p,s.all vU=true/\s.length<=12:=by
 unfold xI at h;simp only [ud,uh,ur] at h;refine ⟨λe=>by rw [e] at h;simp at h,h.1.2,λs hs=>?_⟩;have:=h.2 s hs;unfold nameB at this;simp only [ud,uh] at this;exact ⟨this.2,this.1.2⟩
theorem join_no {c b:UInt8} (a:c ≠ b):∀{xs:List zd},(∀x ∈ xs,c ∉ x)->c ∉ Lib.join xs [b]
 | [],_=>by simp [Lib.join_nil]
 | [x],h=>by rw [Lib.join_one];exact h x (by simp)
 | x::y::r,h=>by
  rw [join_two];simp only [uC,ut,rg];exact ⟨h x (by simp),a,join_no a λz e=>h z (by simp [e])⟩
theorem line_cut (h:Good r):vP 32 (zP r)=Lib.join r.path [47]::xW r.leaf.typ::zJ r.leaf/\vP 47 (Lib.join r.path [47])=r.path:=by
 obtain ⟨b,e,a⟩:=path_names h.1;refine ⟨?_,cutL_join b λx hx=>alnum_no rfl (a x hx).1⟩;rw [(line_tot h.2.2.1 h.2.2.2).2.2 h];refine cutL_join (by simp) λx hx=>?_;simp only [tj,uT,ut] at hx;rcases hx with rfl | rfl | hx
 ·exact join_no (by decide) λx hx=>alnum_no rfl (a x hx).1
 ·exact word_no _
 ·exact parts_no _ x hx
theorem loop_pushB {α ρ σ:Type} {f:Nat->α->σ->Option (Out ρ σ)} {g:σ->α->σ} (b:σ->Nat) (a:∀s x,b (g s x)<=b s+1) {N:Nat}:∀(L:List α) (k:Nat) (s:σ),(∀i x s,x ∈ L->b s<=N->f i x s=some (.nxt (g s x)))->b s+L.length<=N->zq f L k s=some (.inr (L.foldl g s))
 | [],_,_,_,_=>rfl
 | x::r,k,s,h,hN=>by
  simp only [ue] at hN;have:=a s x;simp only [zq];rw [h k x s (by simp) (by omega)];exact loop_pushB b a r (k+1) (g s x) (λi y s e hs=>h i y s (by simp [e]) hs) (by omega)
theorem preP_no {x:zd} (h:(33:UInt8) ∉ x):preP x=(x,false):=by
 unfold preP;split
 ·simp at h
 ·rfl
theorem rdG3_item (a:GF.wf it) (b:xK it.dot=true) (h0:it.time=0) (s:List GF×List GC):rdG3 (xA it) s=(true,s.1++[it],s.2):=by
 unfold rdG3;rw [preP_no (item_no rfl (by decide) (by decide) (by decide) it),itemP_item a b];simp only [up,uL,itm];rw [<- h0]
theorem rdG3_tomb (a:GC.wf d) (b:xK d=true) (s:List GF×List GC):rdG3 (wT d) s=(true,s.1,s.2++[d]):=by
 have e:preP (wT d)=(dotT d,true):=rfl;unfold rdG3 dotOf3;rw [e];simp only [uq];rw [dotR_dot a b]
theorem rdG4_log (a:GF.wf it) (f:xK it.dot=true) (s:List GF):rdG4 (logT it) s=(true,s++[it]):=by
 have b:Lib.cut (logT it) [64]=(vj it.time,xA it,true):=by
  rw [log_eq];exact cutT_hit (num_no rfl _)
 have e:timeR (logT it)=(true,it.time):=by
  unfold timeR;rw [b,puR_num (inU64 a.1)];rfl
 unfold rdG4 logR;rw [b,e];simp only [uV,uq];rw [itemP_item a f];rfl
theorem kidx_word (h:n=1 \/ n=2 \/ n=3 \/ n=4):kidx (xW n)=n - 1:=by
 rcases h with rfl | rfl | rfl | rfl <;> rfl
theorem num_dash (n:Int):vj n ≠ [45]:=λe=>num_no (c:=45) rfl n (by rw [e];simp)
theorem read_back (h:Good r) (hs:(zP r).length<=1048576):xe (zP r)=some (r,true):=by
 obtain ⟨z,c2⟩:=line_cut h;obtain ⟨Q,A,g,u⟩:=h;have D:=(line_tot g u).1;have E:(Lib.join r.path [47]).length<=16777216:=by
  have:=(cutL_mem 32 (zP r) (Lib.join r.path [47]) (by rw [z];simp)).1;omega
 have b:∀p ∈ zJ r.leaf,p.length<=1048576:=λp b=>uB (cutL_mem 32 (zP r) p (by rw [z];simp [b])).1 hs;rw [rl_eq];unfold rlE;rw [ye,split_is (by omega),ua,z,uG (by simp;omega)];simp only [ua];rw [wordE_is,kidx_word (leafB_typ A)];simp only [ua];have I:=leafB_typ A;rw [uG (by simp;omega)];rw [show wh (Lib.join r.path [47]::xW r.leaf.typ::zJ r.leaf) 0=some (Lib.join r.path [47]) from rfl,ua,ye,split_is E,ua,c2];rw [slc_at (by simp;omega),ua];rw [show ((Lib.join r.path [47]::xW r.leaf.typ::zJ r.leaf).take (((Lib.join r.path [47]::xW r.leaf.typ::zJ r.leaf).length:Int)).toNat).drop (2:Int).toNat=zJ r.leaf by rw [uP,sd];rfl];have a:((zR r).bind λv=>some (r,v==zP r))=some (r,true):=by rw [D];simp
 clear z c2 E I D;obtain ⟨path,l⟩:=r;simp only at *;rcases leaf_shape A with e | e | ⟨e,j,C,J,R⟩ | ⟨e,j,C⟩ | ⟨e,j⟩
 ·rw [e] at a b g ⊢;have M:=inI64 g.2.1;have m:zJ ⟨1,l.n,0,dot0,[],[],[]⟩=[Lib.itoa l.n]:=rfl;rw [m] at b ⊢;rw [uv (by simp)];have k:zq (rdF1 path) [Lib.itoa l.n] 0 0=some (.inr l.n):=by
   simp only [zq];rw [rdF1_is path 0 (b _ (by simp)),piR_num M];rfl
  rw [k];exact a
 ·rw [e] at a b g ⊢;have m:zJ ⟨2,0,0,dot0,[],[],[]⟩=[[45]]:=rfl;rw [m] at b ⊢;rw [uG (by simp),uv (by simp)];have k:zq (rdF2 path) [[45]] 0 ((0:Int),(0:Int),(0:Int),(0:Int),([]:zd))=some (.inr ((0:Int),(0:Int),(0:Int),(0:Int),([]:zd))):=by
   simp only [zq];rw [rdF2_is path 0 (b _ (by simp))];rfl
  rw [k];exact a
 ·rw [e] at a b g ⊢;have m:zJ ⟨2,0,l.time,l.dot,l.text,[],[]⟩=[vj l.time,dotT l.dot,hexL l.text]:=by
   unfold zJ;simp [j]
  rw [m] at b ⊢;rw [uG (by simp),uv (by simp)];have H:=inU64 g.2.2.1;have G:rdG2 0 (vj l.time) ((0:Int),(0:Int),(0:Int),(0:Int),([]:zd))=(true,l.time,0,0,0,[]):=by
   unfold rdG2;rw [uG (by simpa using num_dash l.time),uv (by simp),puR_num H]
  have K:rdG2 1 (dotT l.dot) (l.time,(0:Int),(0:Int),(0:Int),([]:zd))=(true,l.time,l.dot.actor.rep,l.dot.actor.inc,l.dot.seq,[]):=by
   unfold rdG2;rw [uG (by simp),uG (by simp),uv (by simp)];simp only;rw [dotR_dot g.2.2.2.1 J]
  have P:rdG2 2 (hexL l.text) (l.time,l.dot.actor.rep,l.dot.actor.inc,l.dot.seq,([]:zd))=(true,l.time,l.dot.actor.rep,l.dot.actor.inc,l.dot.seq,l.text):=by
   unfold rdG2;rw [uG (by simp),uG (by simp),uG (by simp),uv (by simp),hexR_hex]
  have k:zq (rdF2 path) [vj l.time,dotT l.dot,hexL l.text] 0 ((0:Int),(0:Int),(0:Int),(0:Int),([]:zd))=some (.inr (l.time,l.dot.actor.rep,l.dot.actor.inc,l.dot.seq,l.text)):=by
   simp only [zq];rw [rdF2_is path 0 (b _ (by simp)),G];simp only [uq];rw [rdF2_is path (0+1) (b _ (by simp)),K];simp only [uq];rw [rdF2_is path (0+1+1) (b _ (by simp)),P];simp only [uq]
  rw [k];exact a
 ·rw [e] at a b g u ⊢;have m:zJ ⟨3,0,0,dot0,[],l.items,l.tombs⟩=l.items.map xA++l.tombs.map wT:=rfl;rw [m] at b ⊢;rw [uG (by simp),uG (by simp),uv (by simp)];have q:∀x ∈ l.items,GF.wf x:=g.2.2.2.2.2.1.2;have F:∀x ∈ l.tombs,GC.wf x:=g.2.2.2.2.2.2.2;have o:l.items.length+l.tombs.length<=4194304:=u;have k:zq (rdF3 path) (l.items.map xA++l.tombs.map wT) 0 (([]:List GF),([]:List GC))=some (.inr ((l.items.map xA++l.tombs.map wT).foldl (λs x=>(rdG3 x s).2) (([]:List GF),([]:List GC)))):=by
   refine loop_pushB (λs=>s.1.length+s.2.length) (λs x=>?_) (N:=4194304) _ 0 _ (λi x s hx hs=>?_) (by simp;exact o)
   ·unfold rdG3;split <;> simp <;> omega
   ·rw [rdF3_is path i (b x hx) (by omega) (by omega)];simp only [uC,tf] at hx;rcases hx with ⟨y,f,rfl⟩ | ⟨y,f,rfl⟩
    ·rw [rdG3_item (q y f) (j y f).1 (j y f).2.2];rfl
    ·rw [rdG3_tomb (F y f) (C y f)];rfl
  have B:∀(L:List GF) (s:List GF×List GC),(∀x ∈ L,GF.wf x/\xK x.dot=true/\x.time=0)->(L.map xA).foldl (λs x=>(rdG3 x s).2) s=(s.1++L,s.2):=by
   intro L
   induction L with
   | nil=>intro s _;simp
   | cons x r ih =>
    intro s hx;obtain ⟨w,a2,a3⟩:=hx x (by simp);simp only [uu,tV];rw [rdG3_item w a2 a3,ih _ λy f=>hx y (by simp [f])];simp
  have O:∀(L:List GC) (s:List GF×List GC),(∀x ∈ L,GC.wf x/\xK x=true)->(L.map wT).foldl (λs x=>(rdG3 x s).2) s=(s.1,s.2++L):=by
   intro L
   induction L with
   | nil=>intro s _;simp
   | cons x r ih =>
    intro s hx;obtain ⟨w,a2⟩:=hx x (by simp);simp only [uu,tV];rw [rdG3_tomb w a2,ih _ λy f=>hx y (by simp [f])];simp
  rw [k,List.foldl_append,B _ _ λx hx=>⟨q x hx,(j x hx).1,(j x hx).2.2⟩,O _ _ λx hx=>⟨F x hx,C x hx⟩];exact a
 ·rw [e] at a b g u ⊢;have m:zJ ⟨4,0,0,dot0,[],l.items,[]⟩=l.items.map logT:=rfl;rw [m] at b ⊢;rw [uG (by simp),uG (by simp),uG (by simp),uv (by simp)];have q:∀x ∈ l.items,GF.wf x:=g.2.2.2.2.2.1.2;have o:l.items.length<=4194304:=u;have k:zq (rdF4 path) (l.items.map logT) 0 ([]:List GF)=some (.inr ((l.items.map logT).foldl (λs x=>(rdG4 x s).2) ([]:List GF))):=by
   refine loop_pushB (λs=>s.length) (λs x=>?_) (N:=4194304) _ 0 _ (λi x s hx hs=>?_) (by simp;exact o)
   ·simp [rdG4]
   ·rw [rdF4_is path i (b x hx) hs];simp only [tf] at hx;obtain ⟨y,f,rfl⟩:=hx;rw [rdG4_log (q y f) (j y f).1];rfl
  have B:∀(L:List GF) (s:List GF),(∀x ∈ L,GF.wf x/\xK x.dot=true)->(L.map logT).foldl (λs x=>(rdG4 x s).2) s=s++L:=by
   intro L
   induction L with
   | nil=>intro s _;simp
   | cons x r ih =>
    intro s hx;obtain ⟨w,a2⟩:=hx x (by simp);simp only [uu,tV];rw [rdG4_log w a2,ih _ λy f=>hx y (by simp [f])];simp
  rw [k,B _ _ λx hx=>⟨q x hx,(j x hx).1⟩];exact a
end
section
theorem join_cons2 (x:zd) (L:List zd):Lib.join (x::L) [32]=x++L.flatMap λy=>32::y:=by
 rw [Lib.join_cons];unfold Lib.joinTail;rw [List.flatMap_def];rfl
theorem joinP_len {p:List zd} (h:xI p=true):(Lib.join p [47]).length<=64:=by
 obtain ⟨_,f,a⟩:=path_names h;have b:=join_len p [47];have e:=lens_le p λs hs=>(a s hs).2;simp only [ue,uk] at b;omega
theorem lens_flat {α:Type} (g:α->zd) (c:Nat):∀L:List α,(∀x ∈ L,(g x).length<=c)->(L.flatMap g).length<=c * L.length
 | [],_=>by simp
 | x::r,h=>by
  have e:=h x (by simp);have b:=lens_flat g c r λy a=>h y (by simp [a]);simp only [th,uf,ue,px] at b ⊢;omega
theorem word_len (n:Int):(xW n).length<=8:=by
 unfold xW
 repeat' split
 all_goals simp
end
section
abbrev RSt:=Int×Int×Int×Int×Int×Int×Int×zd×List GF×List GC
end
section
end
section
end
section
def tup (i:Int) (l:GE):RSt:=(i,l.typ,l.n,l.time,l.dot.actor.rep,l.dot.actor.inc,l.dot.seq,l.text,l.items,l.tombs)
end
section
structure Odd (c:UInt8):Prop where
 hx:isHx c=false
 al:vU c=false
 n32:c ≠ 32
 n33:c ≠ 33
 n45:c ≠ 45
 n46:c ≠ 46
 n47:c ≠ 47
 n61:c ≠ 61
 n64:c ≠ 64
theorem Odd.ten:Odd 10:=by constructor <;> decide
theorem Odd.dig (h:Odd c):vT c=false:=by
 have:=h.hx;unfold isHx at this;simp only [tP] at this;exact this.1
theorem word_al (n:Int):(xW n).all vU=true:=by
 unfold xW
 repeat' split
 all_goals decide
theorem parts_odd (h:Odd c) (l:GE):∀p ∈ zJ l,c ∉ p:=by
 intro p a;unfold zJ at a;split at a
 ·simp only [uA] at a;subst a;exact itoa_no h.dig h.n45 _
 ·split at a
  ·split at a
   ·simp only [uA] at a;subst a;simpa using h.n45
   ·simp only [ut,sA,py] at a;rcases a with rfl | rfl | rfl
    ·exact num_no h.dig _
    ·exact dot_no h.dig h.n46 _
    ·exact hex_no h.hx h.n45 _
  ·split at a
   ·simp only [uC,tf] at a;rcases a with ⟨x,_,rfl⟩ | ⟨x,_,rfl⟩
    ·exact item_no h.hx h.n45 h.n46 h.n61 x
    ·exact tomb_no h.hx h.n46 h.n33 x
   ·simp only [tf] at a;obtain ⟨x,_,rfl⟩:=a;exact log_no h.hx h.n45 h.n46 h.n61 h.n64 x
theorem line_odd (h:Odd c) {r:GH} (a:Good r):c ∉ zP r:=by
 obtain ⟨e,f,b⟩:=path_names a.1;rw [(line_tot a.2.2.1 a.2.2.2).2.2 a];refine join_no h.n32 λx hx=>?_;simp only [tj,uT,ut] at hx;rcases hx with rfl | rfl | hx
 ·exact join_no h.n47 λx hx=>alnum_no h.al (b x hx).1
 ·exact alnum_no h.al (word_al _)
 ·exact parts_odd h _ x hx
def eOf (r:GH):GJ:=⟨r.path,r.leaf.typ,false,true,leaf0,r.leaf⟩
theorem xorder_is (a b:GH):vL a b=some (ordI (eOf a) (eOf b)):=order_is (eOf a) (eOf b)
theorem ord_neg (a b:GH):decide (ordI (eOf a) (eOf b) >= 0)=!kltB (rkey a) (rkey b):=by
 unfold ordI;show decide ((if kltB (rkey a) (rkey b)=true then (-1:Int) else if kltB (rkey b) (rkey a)=true then 1 else 0) >= 0)=_;cases h:kltB (rkey a) (rkey b) with
 | true=>rfl
 | false =>
  cases kltB (rkey b) (rkey a) <;> rfl
end
section
abbrev PSt:=zd×(List GJ)×Int×(List zd)×Int×Int×Int×Int×Int×Int×zd×(List GF)×(List GC)
abbrev PRes:=List GA×Int×Int
noncomputable def ppF:PSt->Option (Out PRes PSt) :=
 (λ(s1:PSt)=>((if (!(s1.1==([]:zd)))=true then ((xb s1.1 ([10]:zd)).bind λv24=>((xe v24.1).bind λv25=>(if ((!v25.2) || (!v24.2.2))=true then some (.ret (([]:List GA),s1.2.2.1,(4:Int))) else ((if ((decide (s1.2.2.1 > (1:Int)))==true)=true then vL (GH.mk s1.2.2.2.1 (GE.mk s1.2.2.2.2.1 s1.2.2.2.2.2.1 s1.2.2.2.2.2.2.1 (GC.mk (GI.mk s1.2.2.2.2.2.2.2.1 s1.2.2.2.2.2.2.2.2.1) s1.2.2.2.2.2.2.2.2.2.1) s1.2.2.2.2.2.2.2.2.2.2.1 s1.2.2.2.2.2.2.2.2.2.2.2.1 s1.2.2.2.2.2.2.2.2.2.2.2.2)) v25.1 else some default).bind λv27=>(if ((decide (s1.2.2.1 > (1:Int)))&&(decide (v27 >= (0:Int))))=true then some (.ret (([]:List GA),s1.2.2.1,(16:Int))) else (ym ((s1.2.1).length+(([(GJ.mk v25.1.path v25.1.leaf.typ false true zLf v25.1.leaf)]:List GJ)).length<=yS) (some (.nxt (v24.2.1,(s1.2.1++([(GJ.mk v25.1.path v25.1.leaf.typ false true zLf v25.1.leaf)]:List GJ)),(IntKind.wrap .i64 (s1.2.2.1+(1:Int))),v25.1.path,v25.1.leaf.typ,v25.1.leaf.n,v25.1.leaf.time,v25.1.leaf.dot.actor.rep,v25.1.leaf.dot.actor.inc,v25.1.leaf.dot.seq,v25.1.leaf.text,v25.1.leaf.items,v25.1.leaf.tombs))))))))) else some (.brk (s1.1,s1.2.1,s1.2.2.1,s1.2.2.2.1,s1.2.2.2.2.1,s1.2.2.2.2.2.1,s1.2.2.2.2.2.2.1,s1.2.2.2.2.2.2.2.1,s1.2.2.2.2.2.2.2.2.1,s1.2.2.2.2.2.2.2.2.2.1,s1.2.2.2.2.2.2.2.2.2.2.1,s1.2.2.2.2.2.2.2.2.2.2.2.1,s1.2.2.2.2.2.2.2.2.2.2.2.2))):Option (Out _ PSt)))
theorem pp_eq (b:zd):vD b=(if (decide (((b).length:Int) > (1048576:Int)))=true then some (([]:List GA),(0:Int),(3:Int)) else (lp (yr ppF (b,([]:List GJ),(1:Int),([]:List zd),(0:Int),(0:Int),(0:Int),(0:Int),(0:Int),(0:Int),([]:zd),([]:List GF),([]:List GC))) λ(e:zd×(List GJ)×Int×(List zd)×Int×Int×Int×Int×Int×Int×zd×(List GF)×(List GC))=>((ql ([]:List GA) e.2.1).bind λa=>some (a.1,(0:Int),a.2)))):=rfl
def row0:GH:=⟨[],leaf0⟩
def stOf (rest:zd) (es:List GJ) (n:Int) (q:GH):PSt:=(rest,es,n,q.path,q.leaf.typ,q.leaf.n,q.leaf.time,q.leaf.dot.actor.rep,q.leaf.dot.actor.inc,q.leaf.dot.seq,q.leaf.text,q.leaf.items,q.leaf.tombs)
def lastR (rows:List GH):GH:=rows.getLast?.getD row0
def pst (rest:zd) (rows:List GH):PSt:=stOf rest (rows.map eOf) ((rows.length:Int)+1) (lastR rows)
def Srt (rows:List GH):Prop:=rows.Pairwise λr q=>kltB (rkey r) (rkey q)=true
def fits (rows:List GH) (r:GH):Bool:=decide (rows=[]) || kltB (rkey (lastR rows)) (rkey r)
theorem last_snoc (rows:List GH) (q:GH):lastR (rows++[q])=q:=by simp [lastR]
theorem Srt.fits {rows R:List GH} {r:GH} (h:Srt (rows++r::R)):fits rows r=true:=by
 unfold Vv.fits;rcases List.eq_nil_or_concat rows with rfl | ⟨a,q,rfl⟩
 ·rfl
 ·rw [List.concat_eq_append] at *;rw [last_snoc];unfold Srt at h;rw [tz] at h;rw [h.2.2 q (by simp) r (by simp)];simp
theorem vA (r:GH) (R:List GH):zL zP (r::R)=zP r++10::zL zP R:=by simp [zL]
theorem lines_ge:∀R:List GH,R.length<=(zL zP R).length
 | []=>by simp [zL]
 | r::R=>by
  have:=lines_ge R;rw [vA];simp only [ue,uf];omega
theorem app_uniq {c:UInt8}:∀{a a' b f:zd},c ∉ a->c ∉ a'->a++c::b=a'++c::f->a=a'/\b=f
 | [],[],_,_,_,_,e=>⟨rfl,(rk e).2⟩
 | [],y::a',_,_,_,h,e=>by
  have:=(rk e).1;simp only [ut,rg] at h;exact absurd this h.1
 | x::a,[],_,_,h,_,e=>by
  have:=(rk e).1;simp only [ut,rg] at h;exact absurd this.symm h.1
 | x::a,y::a',b,f,h,h',e=>by
  obtain ⟨g,k⟩:=rk e;simp only [ut,rg] at h h';obtain ⟨j,i⟩:=app_uniq h.2 h'.2 k;exact ⟨by rw [g,j],i⟩
theorem pp_end (es:List GJ) (n:Int) (q:GH):yr ppF (stOf [] es n q)=some (.inr (stOf [] es n q)):=by
 rw [wB];rfl
theorem pp_round {rest:zd} (h0:rest ≠ []) (f:rest.length<=16777216) (es:List GJ) (g:es.length<=16777216) (n:Int) (i:1<=n/\n<=16777217) (q:GH) {r:GH} {b:Bool} (e:xe (Lib.cut rest [10]).1=some (r,b)) :
  yr ppF (stOf rest es n q)=if (!b || !(Lib.cut rest [10]).2.2)=true then some (.inl ([],n,4)) else if (decide (n > 1)&&!kltB (rkey q) (rkey r))=true then some (.inl ([],n,16)) else yr ppF (stOf (Lib.cut rest [10]).2.1 (es++[eOf r]) (n+1) r):=by
 have h:yS=2147483648:=rfl;have a:ppF (stOf rest es n q)=if (!b || !(Lib.cut rest [10]).2.2)=true then some (.ret ([],n,4)) else if (decide (n > 1)&&!kltB (rkey q) (rkey r))=true then some (.ret ([],n,16)) else some (.nxt (stOf (Lib.cut rest [10]).2.1 (es++[eOf r]) (n+1) r)):=by
  unfold ppF stOf;simp only;rw [uv (by simpa using h0),xb,strCut_is f,ua,e,ua];simp only;split
  ·rfl
  ·cases hn1:decide (n > 1) with
   | false =>
    simp only [show (false==true)=false from rfl,up,uL,ua,rG];rw [zx (by simp only [ue,uk];omega),xV (by omega)];rfl
   | true =>
    simp only [tR,uq,u5];rw [show (GH.mk q.path (GE.mk q.leaf.typ q.leaf.n q.leaf.time (GC.mk (GI.mk q.leaf.dot.actor.rep q.leaf.dot.actor.inc) q.leaf.dot.seq) q.leaf.text q.leaf.items q.leaf.tombs))=q from rfl,xorder_is,ua,ord_neg];split
    ·rfl
    ·rw [zx (by simp only [ue,uk];omega),xV (by omega)];rfl
 rw [wB];by_cases c1:(!b || !(Lib.cut rest [10]).2.2)=true
 ·rw [uv c1] at a ⊢;rw [a]
 ·rw [uG c1] at a ⊢;by_cases c2:(decide (n > 1)&&!kltB (rkey q) (rkey r))=true
  ·rw [uv c2] at a ⊢;rw [a]
  ·rw [uG c2] at a ⊢;rw [a]
end
section
def bkR (R:List GH):Nat:=(R.map λr=>r.leaf.bk).sum
theorem bkR_app (A B:List GH):bkR (A++B)=bkR A+bkR B:=by simp [bkR]
theorem tree_bks:∀(t:List GA) (d:Nat) (a:List zd),d<=2->xj d t=true->GA.bks t<=bkR (zj a t)+16 * (3 - d) * (zj a t).length:=by
 refine xP (λd a _ _=>by simp [GA.bks]) ?_;intro x r hx w d a hd p;rw [yD,uW,ud,<- yD] at p;obtain ⟨b,m⟩:=p;have y:=w d a hd m;obtain ⟨i,g,A⟩:=wA b;obtain ⟨q,L,j⟩:=rowsN_ne b a;have e:zj a (x::r)=(x.leaves.map (λl=>GH.mk (a++[x.name]) l)++zj (a++[x.name]) x.subs)++zj a r:=by
  simp only [zj];rw [yw]
 have o:1<=x.leaves.length+(zj (a++[x.name]) x.subs).length:=by
  have:=congrArg List.length j;rw [yw] at this;simp only [uf,ux,ue] at this;omega
 have z:x.bk=x.name.length+(x.leaves.map GE.bk).sum+GA.bks x.subs+4:=by
  cases x;simp only [GA.bk];omega
 have k:x.name.length<=12:=by
  unfold nameB at i;simp only [ud,uh] at i;exact i.1.2
 have v:bkR (x.leaves.map (λl=>GH.mk (a++[x.name]) l))=(x.leaves.map GE.bk).sum:=by
  unfold bkR;rw [sG];rfl
 rw [e,bkR_app,bkR_app,v,uf,uf,ux];simp only [GA.bks];have s:GA.bks x.subs<=bkR (zj (a++[x.name]) x.subs)+16 * (2 - d) * (zj (a++[x.name]) x.subs).length:=by
  by_cases h0:x.subs=[]
  ·rw [h0];simp [GA.bks]
  ·unfold treeB at g;simp only [ud,uY,uh] at g;have u:d+1 < 3:=by
    rcases g.1.1 with h | h
    ·exact absurd (s9.1 h) h0
    ·exact h
   have:=hx (d+1) (a++[x.name]) (by omega) g.2;rw [show 3 - (d+1)=2 - d by omega] at this;exact this
 generalize bkR (zj (a++[x.name]) x.subs)=B1 at *;generalize bkR (zj a r)=B2 at *;generalize (zj (a++[x.name]) x.subs).length=n1 at *;generalize (zj a r).length=n2 at *;generalize (x.leaves.map GE.bk).sum=B3 at *;generalize x.leaves.length=n3 at *;have f:d=0 \/ d=1 \/ d=2:=by omega
 rcases f with rfl | rfl | rfl
 ·simp only [Nat.sub_zero] at *;omega
 ·simp only [show 3 - 1=2 from rfl,show 2 - 1=1 from rfl] at *;omega
 ·simp only [show 3 - 2=1 from rfl,show 2 - 2=0 from rfl] at *;omega
theorem tree_wfs:∀(t:List GA) (d:Nat) (a:List zd),xj d t=true->(∀r ∈ zj a t,GE.wf r.leaf)->GA.bks t<=16777216->GA.wfs t:=by
 refine xP (λd a _ _ _=>by simp [GA.wfs]) ?_;intro x r hx A d a u b w;rw [yD,uW,ud,<- yD] at u;obtain ⟨i,o⟩:=u;obtain ⟨g,m,D⟩:=wA i;have e:zj a (x::r)=(x.leaves.map (λl=>GH.mk (a++[x.name]) l)++zj (a++[x.name]) x.subs)++zj a r:=by
  simp only [zj];rw [yw]
 rw [e] at b;simp only [GA.bks] at w;have B:=bk_node x;have j:x.name.length<=12:=by
  unfold nameB at g;simp only [ud,uh] at g;exact g.1.2
 have E:maxLen=9223372036854775807:=rfl;have C:=sum_len (f:=GE.bk) (λx=>by unfold GE.bk;omega) x.leaves;unfold treeB at m;simp only [ud] at m;have y:=hx (d+1) (a++[x.name]) m.2 (λq k=>b q (by simp [k])) (by omega);have v:=A d a o (λq k=>b q (by simp [k])) (by omega);have s:∀l ∈ x.leaves,GE.wf l:=λl z=>b ⟨a++[x.name],l⟩ (by simp [z]);have p:x.name.length<=maxLen:=by omega
 have h:x.leaves.length<=maxLen:=by omega
 refine ⟨?_,v⟩;cases x;simp only [GA.wf];exact ⟨p,⟨h,s⟩,y⟩
theorem flat_bk {α:Type} {g:α->zd} {b:α->Nat}:∀L:List α,(∀x ∈ L,b x<=16 * (g x).length+16)->(L.map b).sum<=16 * (L.flatMap λx=>32::g x).length
 | [],_=>by simp
 | x::r,h=>by
  have f:=h x (by simp);have e:=flat_bk (g:=g) r λy a=>h y (by simp [a]);simp only [uu,tc,th,uf,ue];omega
theorem hexL_ge (s:zd):2 * s.length<=(hexL s).length:=by
 unfold hexL;split
 ·rename_i h;subst h;simp
 ·rw [Proofs.hexs_len];omega
theorem leaf_len (j:leafB l=true):l.bk<=48+16 * ((zJ l).flatMap λy=>32::y).length:=by
 have a:=bk_leaf l;have s:=(leaf_texts j).2;rcases leaf_shape j with e | e | ⟨e,h,k,q,u⟩ | ⟨e,h,k⟩ | ⟨e,h⟩
 ·rw [e] at a ⊢;simp at a;omega
 ·rw [e] at a ⊢;simp at a;omega
 ·have f:zJ ⟨2,0,l.time,l.dot,l.text,[],[]⟩=[vj l.time,dotT l.dot,hexL l.text]:=by
   unfold zJ;simp [h]
  rw [e] at a ⊢;rw [f];simp at a ⊢;omega
 ·have i:l.text=[]:=by rw [e]
  have f:zJ l=l.items.map xA++l.tombs.map wT:=by rw [e];rfl
  rw [f,rS,uf,sQ,sQ];have m:=flat_bk (g:=xA) (b:=GF.bk) l.items λx hx=>by
   have:=hexL_ge x.text;rw [bk_item];simp only [xA,uf];omega
  have p:=flat_bk (g:=wT) (b:=GC.bk) l.tombs λx hx=>by rw [bk_dot];omega
  rw [i] at a;simp only [uk] at a;omega
 ·have i:l.text=[]:=by rw [e]
  have o:l.tombs=[]:=by rw [e]
  have f:zJ l=l.items.map logT:=by rw [e];rfl
  rw [f,sQ];have m:=flat_bk (g:=logT) (b:=GF.bk) l.items λx hx=>by
   have:=hexL_ge x.text;rw [bk_item];simp only [logT,uf];omega
  rw [i,o] at a;simp only [uk,tN,pF] at a;omega
theorem good_len (h:Good r):r.leaf.bk+48<=16 * ((zP r).length+1):=by
 obtain ⟨g,j,i⟩:=path_names h.1;have b:1<=(Lib.join r.path [47]).length:=by
  have a:=h.1;unfold xI at a;simp only [ud,uh,ur] at a;obtain ⟨x,L,e⟩:=s7 g;have:=a.2 x (by rw [e];simp);unfold nameB at this;simp only [ud,uh] at this;rw [e,Lib.join_cons,uf];omega
 have f:3<=(xW r.leaf.typ).length:=by
  unfold xW
  repeat' split
  all_goals simp
 rw [(line_tot h.2.2.1 h.2.2.2).2.2 h];simp only [tj,uT];rw [join_cons2,th];simp only [uf,ue];have key:=leaf_len h.2.1;omega
theorem rows_bk:∀R:List GH,(∀r ∈ R,Good r)->bkR R+48 * R.length<=16 * (zL zP R).length
 | [],_=>by simp [bkR]
 | r::R,h=>by
  have e:=good_len (h r (by simp));have b:=rows_bk R λq a=>h q (by simp [a]);rw [vA];simp only [bkR,uu,tc,ue,uf] at b ⊢;omega
theorem small_rows (a:treeB 0 t=true) (e:∀r ∈ zj [] t,Good r) (g:(zL zP (zj [] t)).length<=1048576):Small t:=by
 have i:=rows_bk _ e;have h:=tree_bks t 0 [] (by omega) (by unfold treeB at a;simp only [ud] at a;exact a.2);have b:GA.bks t<=16777216:=by omega
 exact ⟨tree_wfs t 0 [] (by unfold treeB at a;simp only [ud] at a;exact a.2) (λr f=>(e r f).2.2.1) b,b⟩
theorem Good.ok (h:Good r):LeafOk r.leaf:=by
 have a:=h.2.2.2;unfold bkLim at a;exact ⟨by omega,by omega,(inU64 h.2.2.1.2.2.1).1⟩
theorem patch_rows {R:List GH} (m:∀r ∈ R,Good r) (i2:Srt R) (g:R.length<=1048576):∃T,ql [] (R.map eOf)=some (T,0)/\treeB 0 T=true/\zj [] T=R:=by
 have j:Small []:=⟨by simp [GA.wfs],by simp [GA.bks]⟩
 have f:(R.map eOf).Pairwise eLt:=pa.2 i2;obtain ⟨T,k,t2,t3⟩:=patch_is (t:=[]) j (by rfl) (es:=R.map eOf) (by simp [zj];omega) (λe o=>by
  obtain ⟨r,a,rfl⟩:=tf.1 o;have b:=m r a;have p:=leafB_typ b.2.1;exact ⟨⟨b.1,by show 1<=r.leaf.typ/\r.leaf.typ<=4;omega,.inr rfl,λh=>(by cases h),λh=>(by cases h),λ_=>rfl,λ_=>⟨b.2.1,b.ok,rfl⟩,λh=>(by cases h)⟩,⟨λh=>(by cases h),λ_ r a=>by simp [zj] at a⟩⟩) f
 have t4:∀r,r ∈ zj [] T ↔ r ∈ R:=λr=>by
  rw [t3];simp only [zj,sA,false_and,false_or,tf];constructor
  ·rintro ⟨e,⟨q,i,rfl⟩,_,rfl⟩;exact i
  ·intro a;exact ⟨eOf r,⟨r,a,rfl⟩,rfl,rfl⟩
 exact ⟨T,k,t2,sorted_ext (lt:=λr q=>kltB (rkey r) (rkey q)=true) (λx h=>by rw [klt_irr] at h;cases h) (λ_ _ _=>klt_trans) (vu t2 []) i2 t4⟩
theorem prog_loop:∀(R rows:List GH),(∀r ∈ R,Good r)->Srt (rows++R)->(zL zP R).length<=1048576->rows.length+R.length<=1048576->yr ppF (pst (zL zP R) rows)=some (.inr (pst [] (rows++R)))
 | [],rows,_,_,_,_=>by rw [tv];exact pp_end _ _ _
 | r::R,rows,hg,hs,hl,hn=>by
  have h:=hg r (by simp);have g:=line_odd Odd.ten h;have j:=hs.fits;rw [vA] at hl ⊢;simp only [uf,ue] at hl hn;have i:Lib.cut (zP r++10::zL zP R) [10]=(zP r,zL zP R,true):=cutT_hit g;have e:=pp_round (rest:=zP r++10::zL zP R) (by simp) (by simp;omega) (rows.map eOf) (by simp;omega) ((rows.length:Int)+1) (by omega) (lastR rows) (r:=r) (b:=true) (by rw [i];exact read_back h (by omega));rw [i] at e;have a:(decide ((rows.length:Int)+1 > 1)&&!kltB (rkey (lastR rows)) (rkey r))=!fits rows r:=by
   unfold fits;have:decide ((rows.length:Int)+1 > 1)=!decide (rows=[]):=by
    cases rows <;> simp <;> omega
   rw [this];simp
  rw [a,j] at e;have f:yr ppF (pst (zP r++10::zL zP R) rows)=yr ppF (pst (zL zP R) (rows++[r])):=by
   unfold pst;rw [last_snoc,tC,uf];exact e
  rw [f,prog_loop R (rows++[r]) (λq k=>hg q (by simp [k])) (by simpa using hs) (by omega) (by simp;omega)];simp
theorem prog_parse {R:List GH} (f:∀r ∈ R,Good r) (hs:Srt R) (g:(zL zP R).length<=1048576) :
  ∃T,treeB 0 T=true/\Small T/\zj [] T=R/\vD (zL zP R)=some (T,0,0):=by
 have h:=lines_ge R;obtain ⟨T,j,t2,a⟩:=patch_rows f hs (by omega);have b:decide (((zL zP R).length:Int) > 1048576)=false:=uR (by omega);have i:yr ppF (zL zP R,([]:List GJ),(1:Int),([]:List zd),(0:Int),(0:Int),(0:Int),(0:Int),(0:Int),(0:Int),([]:zd),([]:List GF),([]:List GC))=yr ppF (pst (zL zP R) []):=rfl;have e:=prog_loop R [] f (by simpa using hs) g (by simp;omega);rw [uT] at e;refine ⟨T,t2,small_rows t2 (by rw [a];exact f) (by rw [a];exact g),a,?_⟩;rw [pp_eq,b];simp only [up,uL];rw [i,e];simp only [lp];rw [show (pst [] R).2.1=R.map eOf from rfl,j];rfl
end
section
theorem lpW {σ ρ:Type} {f:σ->Option (Out ρ σ)} {rest:σ->Option ρ} {j:σ} {P:ρ->Prop} (b a:σ->Prop) (i:σ->Nat) (hi:b j) (h:∀s,b s->(∃g,f s=some (.brk g)/\a g) \/ ∃g,f s=some (.nxt g)/\b g/\i g < i s) (m:∀s,a s->∃r,rest s=some r/\P r):∃r,lp (yr f j) rest=some r/\P r:=by
 obtain ⟨g,e,k⟩:=loopW_inv b a i h _ j rfl hi;rw [e];exact m g k
theorem lpN {σ τ ρ:Type} {f:σ->Option (Out (Out ρ τ) σ)} {rest:σ->Option (Out ρ τ)} {j:σ} {P:τ->Prop} (b a:σ->Prop) (i:σ->Nat) (hi:b j) (h:∀s,b s->(∃g,f s=some (.brk g)/\a g) \/ ∃g,f s=some (.nxt g)/\b g/\i g < i s) (m:∀s,a s->∃r,rest s=some (.nxt r)/\P r):∃r,lp (yr f j) rest=some (.nxt r)/\P r:=by
 obtain ⟨g,e,k⟩:=loopW_inv b a i h _ j rfl hi;rw [e];exact m g k
theorem idxAt {L:List α} {k:Nat} (h:k < L.length):wh L (k:Int)=some L[k]:=by
 unfold wh;rw [uv (by omega),uP,ui h]
theorem take_sum (f:α->Nat) {L:List α} {k:Nat} (h:k < L.length):((L.take (k+1)).map f).sum=((L.take k).map f).sum+f L[k]:=by
 rw [rE,ui h];simp only [Option.toList_some,tC,rq,uu,tN,tc,pF,tE]
theorem take_le (f:α->Nat) (L:List α) (k:Nat):((L.take k).map f).sum<=(L.map f).sum:=by
 have e:(L.map f).sum=((L.take k).map f).sum+((L.drop k).map f).sum:=by rw [<- rq,<- tC,t7]
 omega
theorem items_ge {ρ:Type}:∀(L:List GF) (i:Nat) (s:Int),0<=s->s+((L.map GF.bk).sum:Nat)<=1099511627776->∃v,zq (λ(_:Nat) (f:GF) (a:Int)=>(some (.nxt (IntKind.wrap .i64 ((IntKind.wrap .i64 (a+(1:Int)))+((f.text).length:Int)))):Option (Out ρ Int))) L i s=some (.inr v)/\s+L.length<=v/\v<=s+((L.map GF.bk).sum:Nat)
 | [],_,s,_,_=>⟨s,rfl,by simp,by simp⟩
 | x::L,i,s,h0,h1=>by
  simp only [uu,tc] at h1 ⊢;have h:x.text.length+1<=GF.bk x:=by unfold GF.bk;omega
  have b:IntKind.wrap .i64 (s+(1:Int))=s+1:=xV (by omega);have g:IntKind.wrap .i64 (s+1+(x.text.length:Int))=s+1+x.text.length:=xV (by omega);obtain ⟨v,e,j,k⟩:=items_ge (ρ:=ρ) L (i+1) (s+1+x.text.length) (by omega) (by omega);exact ⟨v,by simp only [zq,b,g];exact e,by simp only [ue];omega,by omega⟩
def lw (l:GE):Nat:=1+l.items.length+l.tombs.length
def rowsW (t:List GA):Nat:=((zj [] t).map λr=>lw r.leaf).sum
def rl (x:GA):Nat:=((vS [] x).map λr=>lw r.leaf).sum
theorem rows_lenA (a:List zd) (t:List GA):((zj a t).map λr=>lw r.leaf).sum=rowsW t:=by
 have:=rows_pre t a [];rw [tv] at this;rw [this,sG];rfl
theorem sum_flat {α a:Type} (g:α->List a) (w:a->Nat):∀L:List α,((L.flatMap g).map w).sum=(L.map λx=>((g x).map w).sum).sum
 | []=>rfl
 | x::r=>by
  have:=sum_flat g w r;simp only [th,tC,rq,uu,tc,this]
theorem rows_rl (t:List GA):rowsW t=(t.map rl).sum:=by
 unfold rowsW;rw [yb,sum_flat];rfl
theorem rl_is (x:GA):rl x=(x.leaves.map lw).sum+rowsW x.subs:=by
 unfold rl;rw [yw,tC,rq,rows_lenA,sG];rfl
theorem size_ge:∀(n:Nat) (t:List GA) (d:Int),GA.deps t < n->Small t->0<=d->d+GA.deps t<=10->∃v,yH n t d=some v/\((rowsW t:Nat):Int)<=v/\v<=(GA.bks t:Int)
 | 0,_,_,h,_,_,_=>by omega
 | n+1,t,d,h,hs,h0,hd=>by
  unfold yH;have W:=hs.len;have hB:(t.map GA.bk).sum<=16777216:=by rw [<- GA.bks_eq];exact hs.2
  refine lpW (λs=>∃k:Nat,s.2=(k:Int)/\k<=t.length/\(((t.take k).map rl).sum:Int)<=s.1/\s.1<=(((t.take k).map GA.bk).sum:Int)) (λs=>((t.map rl).sum:Int)<=s.1/\s.1<=((t.map GA.bk).sum:Int)) (λs=>t.length - s.2.toNat) ⟨0,rfl,tO _,by simp,by simp⟩ ?_ (λs hs=>⟨s.1,rfl,by rw [rows_rl];exact hs.1,by rw [GA.bks_eq];exact hs.2⟩)
  rintro ⟨a,i⟩ ⟨k,m,N,g1,g2⟩
  dsimp only at m g1 g2 ⊢;subst m;by_cases hlt:k < t.length
  ·right;have y:t[k] ∈ t:=sP hlt;have C:=hs.leaves y;have H:=qy y;have z:=xy t[k];have ed:IntKind.wrap .i64 (d+(1:Int))=d+1:=xV (by omega);obtain ⟨v,e,R,v2⟩:=size_ge n t[k].subs (d+1) (by omega) (hs.subs y) (by omega) (by omega);rw [uv (by simp;omega)];simp only [idxAt hlt,ua,ed,e];have X:=take_sum GA.bk hlt;have s2:=take_sum rl hlt;have s3:=take_le GA.bk t (k+1);have s4:=take_le rl t k;have K:=bk_node t[k];have I:=rl_is t[k];have z0:(0:Int)<=a:=by omega
   have B:IntKind.wrap .i64 (a+(1:Int))=a+1:=xV (by omega);have L:IntKind.wrap .i64 (a+1+(t[k].name.length:Int))=a+1+t[k].name.length:=xV (by omega);have D:IntKind.wrap .i64 (a+1+t[k].name.length+v)=a+1+t[k].name.length+v:=xV (by omega);have A:IntKind.wrap .i64 ((k:Int)+(1:Int))=((k+1:Nat):Int):=(xV (by omega)).trans (by omega);simp only [B,L,D,A];obtain ⟨c0,u⟩:∃c0,a+1+t[k].name.length+v=c0:=⟨_,rfl⟩
   rw [u];refine Exists.imp (λ_ h=>⟨h.1,h.2.1,h.2.2⟩) (lpN (P:=λp:Int×Int=>(∃k:Nat,p.2=(k:Int)/\k<=t.length/\(((t.take k).map rl).sum:Int)<=p.1/\p.1<=(((t.take k).map GA.bk).sum:Int))/\t.length - p.2.toNat < t.length - (k:Int).toNat) (λs=>∃q:Nat,s.2=(q:Int)/\q<=t[k].leaves.length/\c0+(((t[k].leaves.take q).map lw).sum:Nat)<=s.1/\s.1<=c0+(((t[k].leaves.take q).map GE.bk).sum:Nat)) (λs=>c0+((t[k].leaves.map lw).sum:Nat)<=s.1/\s.1<=c0+((t[k].leaves.map GE.bk).sum:Nat)) (λs=>t[k].leaves.length - s.2.toNat) ⟨0,rfl,tO _,by simp,by simp⟩ ?_ ?_)
   ·rintro ⟨b,j⟩ ⟨q,f,O,g,o⟩
    dsimp only at f g o ⊢;subst f;have U:=take_le GE.bk t[k].leaves q;by_cases hql:q < t[k].leaves.length
    ·right;rw [uv (tp (by omega))];simp only [idxAt hql,ua];have V:=take_sum GE.bk hql;have T:=take_sum lw hql;have Z:lw t[k].leaves[q]=1+t[k].leaves[q].items.length+t[k].leaves[q].tombs.length:=rfl;have Q:=take_le GE.bk t[k].leaves (q+1);have S:(t[k].leaves[q].items.map GF.bk).sum+t[k].leaves[q].tombs.length+t[k].leaves[q].text.length+1<=GE.bk t[k].leaves[q]:=by
      have:=dots_bk t[k].leaves[q].tombs;unfold GE.bk;omega
     have E:IntKind.wrap .i64 (b+(1:Int))=b+1:=xV (by omega);have M:IntKind.wrap .i64 (b+1+(t[k].leaves[q].text.length:Int))=b+1+t[k].leaves[q].text.length:=xV (by omega);have F:IntKind.wrap .i64 (b+1+t[k].leaves[q].text.length+(t[k].leaves[q].tombs.length:Int))=b+1+t[k].leaves[q].text.length+t[k].leaves[q].tombs.length:=xV (by omega);have J:IntKind.wrap .i64 ((q:Int)+(1:Int))=((q+1:Nat):Int):=(xV (by omega)).trans (by omega);simp only [E,M,F,J];obtain ⟨w,G,x1,Y⟩:=items_ge (ρ:=Out (Out Int (Int×Int)) (Int×Int)) t[k].leaves[q].items 0 (b+1+t[k].leaves[q].text.length+t[k].leaves[q].tombs.length) (by omega) (by omega);rw [G,vI];exact ⟨_,rfl,⟨q+1,rfl,by omega,by dsimp only;omega,by dsimp only;omega⟩,by dsimp only;omega⟩
    ·left;rw [uG (by simp;omega)];obtain rfl:q=t[k].leaves.length:=by omega
     rw [sd] at g o;exact ⟨_,rfl,g,o⟩
   ·rintro ⟨b,j⟩ ⟨g,o⟩
    dsimp only at g o ⊢;refine ⟨_,rfl,⟨k+1,rfl,by omega,?_,?_⟩,by dsimp only;omega⟩
    ·dsimp only;omega
    ·dsimp only;omega
  ·left;rw [uG (by simp;omega)];obtain rfl:k=t.length:=by omega
   rw [sd] at g1 g2;exact ⟨_,rfl,g1,g2⟩
theorem deps_le:∀(t:List GA) (d:Nat),d<=2->xj d t=true->GA.deps t<=3 - d:=by
 refine xP (λd _ _=>by simp [GA.deps]) ?_;intro x r hx j d hd f;rw [yD,uW,ud,<- yD] at f;obtain ⟨b,e⟩:=f;have m:=j d hd e;obtain ⟨k,a,o⟩:=wA b;have hs:=xy x;have g:GA.deps x.subs<=2 - d:=by
  by_cases h0:x.subs=[]
  ·rw [h0];simp [GA.deps]
  ·unfold treeB at a;simp only [ud,uY,uh] at a;have i:d+1 < 3:=by
    rcases a.1.1 with h | h
    ·exact absurd (s9.1 h) h0
    ·exact h
   have:=hx (d+1) (by omega) a.2;omega
 simp only [GA.deps];omega
theorem line_le (h:Good r):(zP r).length+1<=300 * lw r.leaf:=by
 have A:=joinP_len h.1;have j:=word_len r.leaf.typ;rw [(line_tot h.2.2.1 h.2.2.2).2.2 h];simp only [tj,uT];rw [join_cons2,th];simp only [uf,ue];have key:((zJ r.leaf).flatMap λy=>32::y).length<=200 * lw r.leaf:=by
  have b:=h.2.2.1;have i:=h.2.1;generalize r.leaf=l at b i;rcases leaf_shape i with e | e | ⟨e,f,m,u,v⟩ | ⟨e,f,m⟩ | ⟨e,f⟩
  ·have z:=inI64 b.2.1;have k:(Lib.itoa l.n).length<=21:=by
    unfold Lib.itoa;split
    ·have:=x9 l.n.natAbs (by omega);simp only [ue];omega
    ·have:=x9 l.n.toNat (by omega)
     omega
   have a:zJ l=[Lib.itoa l.n]:=by rw [e];rfl
   rw [a];simp [lw];omega
  ·have a:zJ l=[[45]]:=by rw [e];rfl
   rw [a];simp [lw];omega
  ·have B:=wz (inU64 b.2.2.1);have C:=wG b.2.2.2.1;have s:=qJ l.text;have a:zJ l=[vj l.time,dotT l.dot,hexL l.text]:=by
    unfold zJ;rw [show l.typ=2 by rw [e]];simp [f]
   rw [a];simp [lw];omega
  ·have a:zJ l=l.items.map xA++l.tombs.map wT:=by rw [e];rfl
   have g:∀x ∈ l.items,GF.wf x:=b.2.2.2.2.2.1.2;have o:∀x ∈ l.tombs,GC.wf x:=b.2.2.2.2.2.2.2;rw [a,rS,uf,sQ,sQ];have p:=lens_flat (λx=>32::xA x) 200 l.items λx hx=>by
    have:=wG (g x hx).2.1;have:=qJ x.text;have:=(f x hx).2.1;simp only [xA,uf,ue,uk];omega
   have q:=lens_flat (λx=>32::wT x) 200 l.tombs λx hx=>by
    have:=wG (o x hx);simp only [wT,uf,ue,uk];omega
   unfold lw;omega
  ·have a:zJ l=l.items.map logT:=by rw [e];rfl
   have g:∀x ∈ l.items,GF.wf x:=b.2.2.2.2.2.1.2;rw [a,sQ];have p:=lens_flat (λx=>32::logT x) 200 l.items λx hx=>by
    have:=wG (g x hx).2.1;have:=wz (inU64 (g x hx).1);have:=qJ x.text;have:=(f x hx).2.1;simp only [logT,uf,ue,uk];omega
   unfold lw;omega
 have w:1<=lw r.leaf:=by unfold lw;omega
 omega
theorem lines_w:∀R:List GH,(∀r ∈ R,Good r)->(zL zP R).length<=300 * (R.map λr=>lw r.leaf).sum
 | [],_=>by simp [zL]
 | r::R,h=>by
  have e:=line_le (h r (by simp));have b:=lines_w R λq a=>h q (by simp [a]);rw [vA];simp only [uu,tc,uf,ue];omega
theorem rows_good (h:Small t) (i:treeB 0 t=true):∀r ∈ zj [] t,Good r:=by
 intro r e;have a:=rows_ok t 0 [] h i rfl rfl r e;have f:=(rows_fine h).1 r e;have k:r.leaf.bk<=16777216:=uB (mem_bk (b:=λr:GH=>r.leaf.bk) e) (rows_fine h).2;have g:=bk_leaf r.leaf;have j:8 * r.leaf.items.length<=(r.leaf.items.map GF.bk).sum:=by
  have:∀L:List GF,8 * L.length<=(L.map GF.bk).sum:=by
   intro L
   induction L with
   | nil=>simp
   | cons x r ih=>simp only [uu,tc,ue,bk_item];omega
  exact this _
 have lt:=dots_bk r.leaf.tombs;exact ⟨a.path,a.leaf,f,by unfold bkLim;omega⟩
theorem great_len (h:Small t) (a:treeB 0 t=true) (b:vi t=some false):(zL zP (zj [] t)).length<=450000:=by
 have hd:=deps_le t 0 (by omega) (by unfold treeB at a;simp only [ud] at a;exact a.2);have hs:∃v,ref07Xsize t 0=some v/\((rowsW t:Nat):Int)<=v:=by
  obtain ⟨v,e,g,_⟩:=size_ge (GA.deps t+1) t 0 (by omega) h (by omega) (by omega);refine ⟨v,anyN_of (GA.deps t+1) λn k=>?_,g⟩;rw [size_fuel n (GA.deps t+1) t 0 (by omega) (by omega)];exact e
 obtain ⟨v,e,i⟩:=hs;unfold vi at b;rw [e,ua] at b;have f:¬ v > 1500:=by simpa using b
 have:=lines_w (zj [] t) (rows_good h a);have j:((zj [] t).map λr=>lw r.leaf).sum=rowsW t:=rfl;omega
end
section
theorem small_of (h:t.length<=maxLen/\∀y ∈ t,GA.wf y) (a:(t.map GA.bk).sum<=16777216):Small t:=⟨(GA.wfs_iff t).2 h.2,by rw [GA.bks_eq];exact a⟩
theorem rows_all (h:Small t):ref07Rows t []=some ((zj [] t).map vR):=by
 have hd:=deps_bks _ t (ug _);have:=h.2;exact anyN_of (GA.deps t+1) λn a=>rows7_is n t [] (by omega) h (by simp;omega)
theorem rows_srt (a:treeB 0 t=true):Srt (zj [] t):=vu a []
theorem lines_cut:∀{R:List GH} {p q:zd},(∀r ∈ R,Good r)->zL zP R=p++10::q->∃k,k<=R.length/\p++[10]=zL zP (R.take k)/\q=zL zP (R.drop k)
 | [],p,q,_,e=>by
  have:=congrArg List.length e;simp [zL] at this
 | r::R,p,q,h,e=>by
  rw [vA] at e;have i:=line_odd Odd.ten (h r (by simp));rcases cut_cases p 10 with j | ⟨a,b,rfl,s⟩
  ·obtain ⟨f,g⟩:=app_uniq i j e;refine ⟨1,by simp,?_,?_⟩
   ·rw [sn,pu,vA,f];simp [zL]
   ·rw [rh,sg,g]
  ·rw [uy] at e;obtain ⟨f,g⟩:=app_uniq i s e;obtain ⟨k,u,m,o⟩:=lines_cut (p:=b) (q:=q) (λx hx=>h x (by simp [hx])) g;refine ⟨k+1,by simp;omega,?_,by rw [rh];exact o⟩;rw [sn,vA,<- m,f];simp
def SInv (s:zd) (st:List Int×Nat):Prop:=st.2<=s.length/\1<=st.1.length/\st.1.length<=st.2+1/\∀x ∈ st.1,x=0 \/ ∃p q,s=p++10::q/\x=(p.length:Int)+1
theorem starts_loop {s:zd} (hs:s.length<=1048576) (q:∀c ∈ s,c.toNat < 128) {f:(List Int)×Nat->Option (Out Bool ((List Int)×Nat))} (k:∀a,f a=(if a.2 < (s).length then ((wh s (a.2:Int)).bind λg=>(if ((g.toNat:Int)==(10:Int))=true then (ym ((a.1).length+(([(IntKind.wrap .i64 ((a.2:Int)+(1:Int)))]:List Int)).length<=yS) (some (.nxt ((a.1++([(IntKind.wrap .i64 ((a.2:Int)+(1:Int)))]:List Int)),(a.2+(dec s a.2).2))))) else some (.nxt (a.1,(a.2+(dec s a.2).2))))) else some (.brk (a.1,a.2)))) :
  ∃S i,yr f ([0],0)=some (.inr (S,i))/\SInv s (S,i):=by
 have o:yS=2147483648:=rfl;have u:maxLen=9223372036854775807:=rfl;have key:=loopW_inv (f:=f) (SInv s) (SInv s) (λm=>s.length - m.2) (λm hi=>?_) _ ([0],0) rfl ⟨by simp,by simp,by simp,by simp⟩
 ·obtain ⟨⟨S,i⟩,e,h⟩:=key;exact ⟨S,i,e,h⟩
 ·obtain ⟨S,i⟩:=m;obtain ⟨p,i2,i3,i4⟩:=hi;simp only at p i2 i3 i4;by_cases hlt:i < s.length
  ·right;have j:s[i]?=some s[i]:=ui hlt;have hd:=dec_low j (q s[i] (sP hlt));have b:s=s.take i++s[i]::s.drop (i+1):=by
    rw [sx,t7]
   by_cases h10:s[i]=10
   ·refine ⟨(S++[(i:Int)+1],i+1),?_,⟨by simp only;omega,by simp,by simp;omega,λx hx=>?_⟩,by simp only;omega⟩
    ·rw [k];simp only;rw [uv hlt,zM j,ua,uv (by rw [h10];rfl),zx (by simp only [ue,uk];omega),hd,xV (by omega)]
    ·simp only [uC,uA] at hx;rcases hx with hx | rfl
     ·exact i4 x hx
     ·right;rw [h10] at b;exact ⟨s.take i,s.drop (i+1),b,by rw [tD,sF (by omega)]⟩
   ·refine ⟨(S,i+1),?_,⟨by simp only;omega,i2,by simp only;omega,i4⟩,by simp only;omega⟩;rw [k];simp only;rw [uv hlt,zM j,ua,uG,hd];simp only [sI];intro e;exact h10 (UInt8.toNat_inj.1 (by show s[i].toNat=10;omega))
  ·left;refine ⟨(S,i),?_,p,i2,i3,i4⟩;rw [k];simp only;rw [uG hlt]
theorem lines_low:∀{R:List GH},(∀r ∈ R,Good r)->∀c ∈ zL zP R,c.toNat < 128
 | [],_,c,h=>by simp [zL] at h
 | r::R,hg,c,h=>by
  rw [vA] at h;simp only [uC,ut] at h;rcases h with h | rfl | h
  ·apply Classical.byContradiction;intro b;have a:∀k:UInt8,k.toNat < 128->c ≠ k:=λk f e=>by rw [e] at b;exact b f
   refine line_odd ⟨?_,?_,a 32 (by decide),a 33 (by decide),a 45 (by decide),a 46 (by decide),a 47 (by decide),a 61 (by decide),a 64 (by decide)⟩ (hg r (by simp)) h
   ·unfold isHx vT;simp;omega
   ·unfold vU;simp;omega
  ·decide
  ·exact lines_low (λx hx=>hg x (by simp [hx])) c h
theorem law44ExportLines_top (t:List GA) (n:Int) (J:t.length<=maxLen/\∀y ∈ t,GA.wf y) (H:InK .u8 n)
  (X:((t.map GA.bk).sum+1)+1<=1048576):wO t n=some true:=by
 have h:Small t:=small_of J (by omega);have Z:=inU8 H;have hm:maxLen=9223372036854775807:=rfl;unfold wO;obtain ⟨G,F⟩:=ref07Great_tot h;rw [F,ua];cases G with
 | true=>simp [known44]
 | false =>
  rw [show (if (false==false)=true then ref07May t else some default)=some (treeB 0 t) from (uv rfl).trans (ref07May_is h),ua];cases ht:treeB 0 t with
  | false=>simp [known44]
  | true =>
   have Y:=great_len h ht F;have o:=rows_good h ht;have b:=rows_srt ht;rw [uG (by simp),text_is h ht,ua];obtain ⟨S,i,es,E,s2,P,s4⟩:=starts_loop (s:=zL zP (zj [] t)) (by omega) (lines_low o) (λE=>rfl);simp only at E s2 P;rw [es];simp only [lp];have A:Int.tmod (IntKind.wrap .i64 n) (S.length:Int)=n % (S.length:Int):=by
    rw [xV (by omega),Int.tmod_eq_emod_of_nonneg (by omega)]
   have u:=Int.emod_nonneg n (show (S.length:Int) ≠ 0 by omega);have w:=Int.emod_lt_of_pos n (show (0:Int) < (S.length:Int) by omega);obtain ⟨j,Q⟩:∃j:Nat,n % (S.length:Int)=j:=⟨(n % (S.length:Int)).toNat,by omega⟩
   have m:j < S.length:=by omega
   have hx:S[j] ∈ S:=sP m;rw [zx (by omega),A,Q,zM (ui m),ua];obtain ⟨k,k0,W,O,I⟩:∃k,k<=(zj [] t).length/\S[j]=((zL zP ((zj [] t).take k)).length:Int)/\slc (zL zP (zj [] t)) 0 S[j]=some (zL zP ((zj [] t).take k))/\slc (zL zP (zj [] t)) S[j] ((zL zP (zj [] t)).length:Int)=some (zL zP ((zj [] t).drop k)):=by
    have key:∃k,k<=(zj [] t).length/\S[j]=((zL zP ((zj [] t).take k)).length:Int):=by
     rcases s4 _ hx with e | ⟨p,q,e,L⟩
     ·exact ⟨0,by omega,by rw [e];simp [zL]⟩
     ·obtain ⟨k,v,c2,c3⟩:=lines_cut o e;refine ⟨k,v,?_⟩;rw [<- c2,L];simp
    obtain ⟨k,v,c2⟩:=key;have a:zL zP (zj [] t)=zL zP ((zj [] t).take k)++zL zP ((zj [] t).drop k):=by
     rw [<- lines_app,t7]
    have f:=congrArg List.length a;rw [uf] at f;refine ⟨k,v,c2,?_,?_⟩
    ·rw [slc_at (by omega),c2,a];simp
    ·rw [slc_at (by omega),c2,uP,uP,sd];rw [a];simp
   have a:zL zP ((zj [] t).take k)++zL zP ((zj [] t).drop k)=zL zP (zj [] t):=by
    rw [<- lines_app,t7]
   have f:=congrArg List.length a;rw [uf] at f;obtain ⟨T,V,a2,a3,a4⟩:=prog_parse (R:=(zj [] t).take k) (λr z=>o r (List.mem_of_mem_take z)) (b.sublist (List.take_sublist _ _)) (by omega);obtain ⟨U,M,C,D,K⟩:=prog_parse (R:=(zj [] t).drop k) (λr z=>o r (List.mem_of_mem_drop z)) (b.sublist (List.drop_sublist _ _)) (by omega);have B:=rows_small h;have N:=h.2;rw [O,ua,a4,ua,I,ua,K,ua];simp only [tR,uV,uq];rw [text_is a2 V,text_is C M];simp only [ua];rw [a3,D,a,zx (by intro _;omega)];simp only [tR,uV,uq];rw [rows_all a2,rows_all C,rows_all h];simp only [ua];have g:(IntKind.wrap .i64 (((((zj [] T).map vR).length:Nat):Int)+((((zj [] U).map vR).length:Nat):Int))==((((zj [] t).map vR).length:Nat):Int))=true:=by
    rw [a3,D];simp only [ux,tD,sM];rw [xV (by omega)];simp only [sI];omega
   rw [g];simp [known44]
end
end Go.Vv
