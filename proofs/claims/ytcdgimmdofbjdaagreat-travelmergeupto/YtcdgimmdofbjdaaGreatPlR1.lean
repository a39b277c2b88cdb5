/- Plain laws, as far as they are leaned on. -/
import Derived.Test.YtcdgimmdofbjdaaGreatPlR0
set_option linter.all false
open Option renaming some→aa
open Decidable renaming decide→ae
open Inhabited renaming default→af
open Go.IntKind renaming wrap→ai
open List renaming length→ak
namespace Go.Vv
open Go
variable{l:GE}{t u t0:List GC}{e:GJ}{q:GA->Bool}{L:List GI}{x:GC}{n i j:Nat}{σ ρ τ α:Type}{c:GI}{h g:List GK}{v A B T F:List GA}{s2:List GJ×List GK}{m:List (GA×GI)}{f:GH->Int}{S:GH->Prop}{m':List (GH×Int)}{d:GA}
theorem zjP{s:zp}(h:fL s=true):ak s<=12/\∀b∈s,b≠0:=by
 simp only[fL,tx,so,oB]at h;refine⟨h.1.2,λb k e=>?_⟩;have:=h.2 b k;rw[e]at this;revert this;decide
def wS(n:Nat):List GM->Nat
 |[]=>0
 |r::L=>r.leaf.bk+17*((ak r.path)-n)+wS n L
theorem zcA(n:Nat):∀A B:List GM,wS n (A++B)=wS n A+wS n B
 |[],B=>by simp[wS]
 |r::A,B=>by simp only[kc,wS,zcA n A B];omega
theorem zgu(a:List zp)(s:zp):∀ls:List GE,wS (ak a) (ls.map λl=>GM.mk (a++[s]) l)=(ls.map GE.bk).sum+17*(ak ls)
 |[]=>rfl
 |l::ls=>by
  simp only[m4,wS,zgu a s ls,jQ,nr,oA,lC];omega
theorem zsz(n:Nat):∀L:List GM,(∀r∈L,n+1<=ak r.path)->wS n L=wS (n+1) L+17*(ak L)
 |[],_=>rfl
 |r::L,h=>by
  have o:=h r (by simp);simp only[wS,zsz n L (λq k=>h q (by simp[k])),nr];omega
theorem zxf(x:GC):x.bk=(ak x.name+1)+(((x.leaves.map GE.bk).sum+1)+((GC.e6 x.wa+1)+0))+1:=by cases x;simp only[GC.bk]
theorem zpC:∀(t:List GC)(d:Nat) (a:List zp),(∀x∈t,pV d x=true)->GC.e6 t<=wS (ak a) (zk a t):=by
 refine qZ (λ_ _ _=>by simp[GC.e6]) ?_;intro x r D z d a p;have H:=z d a λy w=>p y (by simp[w]);have o:=p x (by simp);obtain⟨E,n2,_⟩:=wT o;have C:=D (d+1) (a++[x.name]) (zP n2).2;have G:=(zjP E).1;have k:=qB [x] d (by simp[tv,o]);rw[uR,wq]at k;simp only[oA,oa,nr,lC,l8]at C k;rw[pW x.wa ([]++[x.name]) (a++[x.name])]at k;show x.bk+GC.e6 r<=wS (ak a) (pR a x++zk a r);rw[zcA,wq,zcA,zgu,zsz (ak a) _ λq s=>by
  have:=(nk _ _ q s).1;simp at this;omega]
 have I:=zxf x;omega
theorem zpP{lt:GM->GM->Prop}(k:∀x,¬lt x x)(n:Nat):∀(L M:List GM),L.Pairwise lt->(∀x∈L,x∈M)->wS n L<=wS n M
 |[],_,_,_=>lV _
 |x::L,M,h,hs=>by
  obtain⟨r,o⟩:=ld.1 h;obtain⟨A,B,rfl⟩:=gj (hs x (by simp));have:=zpP k n L (A++B) o λy p=>by
   grind
  rw[zcA]at this;rw[zcA];simp only[wS];omega
def lS:List GM->Nat
 |[]=>0
 |r::L=>r.leaf.bk+lS L
theorem zsA:∀L:List GM,(∀r∈L,ak r.path<=3)->wS 0 L<=lS L+51*(ak L)
 |[],_=>ob _
 |r::L,h=>by
  have p:=h r (by simp);have o:=zsA L λq k=>h q (by simp[k]);simp only[wS,lS,nr];omega
theorem zif:∀(t:List GC)(a:List zp),GC.cz t->∀r∈zk a t,GE.wf r.leaf:=by
 refine qZ (λ_ _ _ h=>by simp[zk]at h) ?_;intro x r w s a h q k;simp only[GC.cz]at h;have k:q∈pR a x++zk a r:=k;rcases ma.1 k with k|k
 ·have o:ak x.name<=maxLen/\(ak x.leaves<=maxLen/\∀y∈x.leaves,GE.wf y)/\GC.cz x.wa:=by
   have:=h.1;cases x;simpa only[GC.wf]using this
  rcases ek.1 k with⟨l,p,rfl⟩|k
  ·simp_all
  ·grind
 ·grind
theorem zqv:∀(t:List GC)(d:Nat) (a:List zp),(∀x∈t,pV d x=true)->ak (zk a t)<=maxLen->(∀r∈zk a t,GE.wf r.leaf)->GC.cz t:=by
 refine qZ (λ_ _ _ _ _=>by simp[GC.cz]) ?_;intro x r J H d a E p k;have p:ak (pR a x++zk a r)<=maxLen:=p;have k:∀q∈pR a x++zk a r,GE.wf q.leaf:=k;rw[wq]at p;simp only[oA,oa]at p;obtain⟨M,n2,_⟩:=wT (E x (by simp));have G:=H d a (λy w=>E y (by simp[w])) (by omega) (λq s=>k q (by simp[s]));have z:=J (d+1) (a++[x.name]) (zP n2).2 (by omega) (λq s=>k q (ma.2 (.inl (ek.2 (.inr s)))));have I:=(zjP M).1;have o:ak x.name<=maxLen:=lg I (by decide);have C:∀y∈x.leaves,GE.wf y:=λy w=>k ⟨a++[x.name],y⟩ (ma.2 (.inl (ek.2 (.inl ⟨y,w,rfl⟩))));have D:ak x.leaves<=maxLen:=by omega
 simp only[GC.cz];refine⟨?_,G⟩;revert o C D z;cases x;intro z o C D;simp only[GC.wf]
 simp_all

theorem zq5(h:fv l):tg l=aa l:=by
 unfold tg;rw[uL (yO (by have:=h.z8;omega)),tb,wV (yO (by have:=h.y4;omega)),tb]
theorem zeU:∀(n:Nat)(t:List GC),GC.fB t<n->Small t->wi n t (λw=>tg w)=aa t
 |0,_,h,_=>by omega
 |n+1,t,h,hs=>by
  unfold wi;have E:=hs.len;rw[rd (λ_=>true) (λx=>x) t 0 [] (yO (by simp;omega))]
  ·simp
  ·intro i x s k C;have r:=te k;have z:=w9 x;have y:=hs.leaves k;rw[zeU n x.wa (by omega) (hs.wa k),tb];rw[rd (λ_=>true) (λl=>l) x.leaves 0 [] (yO (by simp;omega))]
   ·have p:(x.leaves.filter λ_=>true)=x.leaves:=by simp
    simp only[yw,ll,List.map_id_fun',id,p,oS];rw[ze (by omega)];cases x;simp
   ·intro j l s2 o D;show((tg l).bind _)=_;rw[zq5 (hs.leaf k o),tb,ze (by omega)];simp
theorem zq6(h:Small t):zaD t=aa t:=by
 unfold zaD n9;rw[tf (GC.fB t+1) λn k=>zeU n t (by omega) h,tb]
theorem zpQ:∀L:List GM,(∀r∈L,1<=ak r.path)->17*(ak L)<=wS 0 L
 |[],_=>ob _
 |r::L,h=>by
  have p:=h r (by simp);have o:=zpQ L λq k=>h q (by simp[k]);simp only[wS,nr];omega
structure eU(t:List GC):Prop where
 small:Small t
 tree:gX 0 t=true
 ws:wS 0 (zk [] t)<=14680064
 leaf:∀r∈zk [] t,r.leaf.bk<=1048576
theorem eU.row(h:eU t){r:GM}(k:r∈zk [] t):dH r:=zig t 0 [] h.small h.tree rfl rfl r k
theorem eU.len(h:eU t):ak (zk [] t)<=863533:=by
 have o:=zpQ (zk [] t) λr k=>by
  have:=(vD (h.row k).path).1
  grind
 have:=h.ws;omega
theorem zeb{M:List GM}(p:gX 0 u=true)(E:wS 0 M<=16777216)(D:ak M<=1048576)(s:∀r∈M,GE.wf r.leaf)(h:∀r∈zk [] u,r∈M):Small u/\wS 0 (zk [] u)<=wS 0 M:=by
 have o:∀x:GM,¬bO (xu x) (xu x)=true:=λx h=>by rw[zde]at h;cases h
 have k:=tJ p [];have z:=zpC u 0 [] (zP p).2;have w:=zpP o 0 _ _ k h;have C:=zh4 o _ _ k h;simp only[lC]at z;exact⟨⟨zqv u 0 [] (zP p).2 (lg (lg C D) (by decide)) λr y=>s r (h r y),by omega⟩,w⟩
theorem zlT{p:List zp}(k:eU t)(s:gX 0 u=true)(z:l.bk<=1100000)(w:GE.wf l)(y:ak p<=3)(h:∀r∈zk [] u,r∈zk [] t \/ r=⟨p,l⟩):Small u:=by
 have D:=k.ws;have C:=k.len;refine(zeb (M:=zk [] t++[⟨p,l⟩]) s (by rw[zcA];simp only[wS];omega) (by simp;omega) (λr o=>?_) λr o=>?_).1
 ·rcases ma.1 o with h|h
  ·exact zif t [] k.small.1 r h
  ·simp_all
 ·simp_all
theorem zgd(L:List GA):(L.map GA.bk).sum=5*(ak L):=by
 induction L with
 |nil=>rfl
 |cons d r ih =>
  have:GA.bk d=5:=rfl
  grind
theorem zaG{α:Type}(f:α->Nat)(q:α->Bool):∀L:List α,((L.filter q).map f).sum<=(L.map f).sum
 |[]=>by simp
 |x::r=>by
  have:=zaG f q r
  grind
theorem zp6(L:List GF)(x:GF):((uW L x).map GF.bk).sum<=(L.map GF.bk).sum+x.bk:=by
 unfold uW;split
 ·omega
 ·have e:=lD (p:=λy=>zQ y x) (l:=L)
  grind
theorem zhO(he:yz e=true):(yx l e).bk<=l.bk+1000:=by
 have d:=zrV he;have r:=zp6 l.z8 ⟨0,e.z6,e.op.text⟩;have o:=zp6 l.z8 ⟨e.time,e.z6,e.op.text⟩;have z:=za4 e.op.gZ l.y4;have p:=zaG GF.bk (λx:GF=>!(e.op.gZ.any λy=>ae (y=x.z6))) l.z8;have hd:=d.zzJ;have w:=d.text;have b0:∀x:GA,GA.bk x=5:=λ_=>rfl;have k:GF.bk ⟨0,e.z6,e.op.text⟩<=60:=by simp only[GF.bk,b0];omega
 have s:GF.bk ⟨e.time,e.z6,e.op.text⟩<=60:=by simp only[GF.bk,b0];omega
 unfold yx;split
 ·simp only[GE.bk];omega
 split
 ·generalize (ae (l.time=0) || (if l.time≠e.time then ae (l.time<e.time)else w6 l.z6 e.z6))=b;cases b
  ·simp_all
  ·simp only[oS,GE.bk,b0];omega
 split
 ·split
  ·omega
  ·simp only[GE.bk];omega
 split
 ·simp only[GE.bk,zgd];omega
 ·simp only[GE.bk];omega
theorem zlf(n:Int):dc .i64 (ai .i64 n):=by
 unfold dc;rw[IntKind.wrap_i64];constructor
 ·show(-9223372036854775808:Int)<=_;omega
 ·show _<=(9223372036854775807:Int);omega
theorem znW{q:GF->Prop}{L:List GF}{x:GF}(h:∀y∈L,q y)(p:q x):∀y∈uW L x,q y:=λy k=>by
 rcases d7 k with o|o
 ·simp_all
 ·simp_all
theorem zhN(N:GE.wf l)(he:yz e=true)(M:GJ.wf e)(hi:ak l.z8<=1048576)(J:ak l.y4<=1048576):GE.wf (yx l e):=by
 have d:=zrV he;obtain⟨k,w,r,p,C,o,s⟩:=N;obtain⟨H,I,O⟩:=M;obtain⟨U,Q,V,G,P⟩:=O;have D:∀n,n<=1048700->n<=maxLen:=λn h=>lg h (by decide);have X:=λx=>zcq l.z8 x;have Y:=za4 e.op.gZ l.y4;have R:=jh (λx:GF=>!(e.op.gZ.any λy=>ae (y=x.z6))) l.z8;have hd:=d.zzJ;have z:dc .u64 0:=⟨kp _,by decide⟩
 unfold yx;split
 ·exact⟨k,zlf _,r,p,C,o,s⟩
 split
 ·generalize (ae (l.time=0) || (if l.time≠e.time then ae (l.time<e.time)else w6 l.z6 e.z6))=b;cases b
  ·exact⟨k,w,r,p,C,o,s⟩
  ·exact⟨k,w,I,H,G,o,s⟩
 split
 ·split
  ·exact⟨k,w,r,p,C,o,s⟩
  ·exact⟨k,w,r,p,C,⟨D _ (by grind),znW o.2 ⟨z,H,G⟩⟩,s⟩
 split
 ·refine⟨k,w,r,p,C,⟨D _ (by grind),λy E=>o.2 y (lQ.1 E).1⟩,⟨D _ (by grind),λy E=>?_⟩⟩;rcases(ur _ _ _).1 E with h|h
  ·simp_all
  ·simp_all
 ·exact⟨k,w,r,p,C,⟨D _ (by grind),znW o.2 ⟨I,H,G⟩⟩,s⟩
theorem zoR{k:Int}(h:1<=k/\k<=4):GE.wf (qC k):=by
 have z:dc .u64 0:=⟨kp _,by decide⟩
 have p:dc .u8 0:=⟨kp _,by decide⟩
 have o:dc .u32 0:=⟨kp _,by decide⟩
 have r:dc .i64 0:=⟨by decide,by decide⟩
 refine⟨⟨by show(0:Int)<=k;omega,by show k<=255;omega⟩,r,z,⟨⟨p,o⟩,z⟩,by simp[qC],⟨by simp[qC],by simp[qC]⟩,⟨by simp[qC],by simp[qC]⟩⟩

theorem zgx{k:Int}(o:1<=k/\k<=4){r:Bool×zp×(List GE)×(List GC)}{v:GE}(h:tlR k r=aa (v,false)):v=qC k:=by
 unfold tlR at h;obtain⟨p,_,h⟩:=kh.1 h;obtain⟨v50,_,h⟩:=kh.1 h;split at h
 ·rw[zbt o,tb]at h
  simp_all
 ·obtain⟨y,_,h⟩:=kh.1 h;obtain⟨a,_,h⟩:=kh.1 h;obtain⟨b,_,h⟩:=kh.1 h
  simp_all
theorem zdR{p:List zp}(s:p≠[]){k:Int}(r:1<=k/\k<=4){v:GE}(h:uO t p k=aa (v,false)):v=qC k:=by
 have o:=zfd p 0 t (ae ((ak p:Int) > 0),([]:zp),([]:List GE),([]:List GC)) s;rw[zqB]at h;cases e:qa t p with
 |none =>
  rw[e]at o;obtain⟨u,o⟩:=o;rw[o]at h;simp only[yw]at h;exact zgx r h
 |some x =>
  rw[e]at o;simp only at o;rw[o]at h;simp only[yw]at h;exact zgx r h
theorem nD(l:GE):ak l.z8<=l.bk/\(ak l.y4)<=l.bk:=by
 have k:=zbc (f:=GF.bk) (λx=>by simp only[GF.bk];omega) l.z8;have o:=zgd l.y4;simp only[GE.bk];omega
theorem pA(E:eU t){p:List zp}(H:p≠[]){k:Int}(y:1<=k/\k<=4) :
  ∃l b,uO t p k=aa (l,b)/\xV t p k=aa (l,b)/\l.x4=k/\w7 l=true/\fv l/\GE.wf l/\l.bk<=1048576/\((b=true/\GM.mk p l∈zk [] t) \/ (b=false/\l=qC k/\∀r∈zk [] t,xu r≠(p,k))):=by
 have M:=E.len;have hs:=E.small;have C:=E.tree;have z:=λr w=>zig t 0 [] hs C rfl rfl r w;rcases cY C (λr w=>(z r w).ok) H y with⟨l,o,s,I⟩|⟨o,v,s⟩<;>rcases aB C (by omega) H y with⟨N,G,D,J⟩|⟨G,D⟩
 ·have e:=zd7 (key:=xu) (tJ C []) o G (by simp only[xu];rw[s,D]);injection e with _ e;subst e;have w:=z _ o;refine⟨l,true,I,J,s,w.leaf,w.ok,zif t [] hs.1 _ o,?_,.inl ⟨rfl,o⟩⟩;exact E.leaf _ o
 ·exact absurd (by simp only[xu];rw[s]) (G _ o)
 ·exact absurd (by simp only[xu];rw[D]) (o _ G)
 ·have e:=zdR H y s;subst e;exact⟨qC k,false,s,D,rfl,zmz y,zoS k,zoR y,(by simp[qC,GE.bk,GA.bk,GH.bk]),.inr ⟨rfl,rfl,o⟩⟩
theorem zmk(z:w7 l=true)(y:fv l){p:List zp}{t u:List GC}(G:sO p=true)(s:gX 0 t=true)(N:ak (zk [] t)<=8388606)(H:gX 0 u=true)(O:∀r,r∈zk [] u↔(r∈zk [] t/\xu r≠(p,l.x4)) \/ (true=true/\r=⟨p,l⟩)) :
  zfb t p l=aa u/\nu t p l=aa u:=by
 obtain⟨w,J,o⟩:=vD G;have key:∀n,ak p+1<=n->wE n t p l.x4 l true=aa u:=λn D=>by
  obtain⟨M,E,I,_,C⟩:=zev (k:=l.x4) (l:=l) (there:=true) (λ_=>⟨rfl,z,y⟩) p t 0 n w o (by omega) s (by omega) (by omega);have C:=C [];simp only[ll]at C;rw[E,zfp I H λr=>by simp_all]
 refine⟨tf (ak p+1) λn D=>?_,tf (ak p+1) λn D=>?_⟩
 ·rw[zmj z y p t 0 n w o (by omega) s (by omega) (by omega)]
  simp_all
 ·rw[zj5 z y p t 0 n w o (by omega) s (by omega) (by omega)]
  simp_all
theorem zgr(s:eU t)(he:yz e=true)(V:GJ.wf e) :
  ∃u l b,fQ t e=aa (u,0)/\sZ t e=aa (u,0)/\Small u/\gX 0 u=true/\uO t e.op.path (xF e.op.kind)=aa (l,b)/\l.x4=xF e.op.kind/\w7 (yx l e)=true/\fv (yx l e) /\
   ∀r,r∈zk [] u↔(r∈zk [] t/\xu r≠(e.op.path,xF e.op.kind)) \/ r=⟨e.op.path,yx l e⟩:=by
 have d:=zrV he;have hs:=s.small;have w:=s.tree;have P:=zbb d.kind;obtain⟨X,O,Z⟩:=vD d.path;obtain⟨l,b,H,N,E,Q,I,Y,h7,_⟩:=pA s X P;have J:=nD l;have z:=ze1 Q he E.symm;have hT:(yx l e).x4=xF e.op.kind:=by rw[oC,E]
 obtain⟨y,_⟩:=znS I he (by omega) (by omega);have D:=s.len;obtain⟨u,_,C,_,R⟩:=zmK (k:=(yx l e).x4) (l:=yx l e) (there:=true) (λ_=>⟨rfl,z,y⟩) d.path w (by omega);obtain⟨U,q2⟩:=zmk z y d.path w (by omega) C R;have M:Small u:=zlT s C (lg (zhO he) (by omega)) (zhN Y he V (by omega) (by omega)) O λr hr=>by
  grind
 have o:ak l.z8<=1048576:=by omega
 have p:ak l.y4<=1048576:=by omega
 have G:ze0 l e=(yx l e,0):=by
  unfold ze0
  simp_all
 refine⟨u,l,b,?_,?_,M,C,H,E,z,y,λr=>by simp_all⟩
 ·unfold fQ;rw[pI hs,uV,w,he];simp only[tb,ly,lG,oS,kN,s5,mb];rw[zgX,tb,H,tb,zhj e o p,G,tb];simp only[kI,s5,mb];rw[U,tb,zq6 M,tb]
 ·unfold sZ;rw[rI hs,s8,w,he];simp only[tb,ly,lG,oS,kN,s5,mb];rw[mi,tb,N,tb,zih e o p I.time,G,tb]
  simp_all

def dz:List zp->List zp
 |[]=>[]
 |[x]=>[x]
 |x::y::r=>if x=y then dz (y::r)else x::dz (y::r)
theorem zkq:∀(A:List zp)(x y:zp),dz (A++[x,y])=if x=y then dz (A++[x])else dz (A++[x])++[y]
 |[],x,y=>by by_cases h:x=y<;>simp[dz,h]
 |[a],x,y=>by
  by_cases h:x=y
  ·subst h;by_cases h2:a=x<;>simp[dz,h2]
  ·by_cases h2:a=x<;>simp[dz,h2,h]
 |a::b::A,x,y=>by
  have k:=zkq (b::A) x y;simp only[kc]at k ⊢;simp only[dz]
  grind
theorem zgg:∀(L:List zp)(d:zp),d∈dz L↔d∈L
 |[],_=>by simp[dz]
 |[x],_=>by simp[dz]
 |x::y::r,d=>by
  simp only[dz];split
  ·rename_i h;subst h;rw[zgg (x::r) d];simp
  ·rw[lx,zgg (y::r) d];simp
theorem zeR{lt:zp->zp->Prop}(k:∀a b,¬lt b a->a=b \/ lt a b)(tr:∀a b c,lt a b->lt b c->lt a c):∀(L:List zp),L.Pairwise (λa b=>¬lt b a)->(dz L).Pairwise lt
 |[],_=>by simp[dz]
 |[x],_=>by simp[dz]
 |x::y::r,h=>by
  have w:=(ld.1 h).2;have s:=zeR k tr (y::r) w;simp only[dz];split
  ·exact s
  ·rename_i p;refine ld.2 ⟨λz o=>?_,s⟩;rw[zgg]at o;have C:lt x y:=(k x y ((ld.1 h).1 y (by simp))).resolve_left p;rcases lx.1 o with rfl|o
   ·omega
   ·rcases k y z ((ld.1 w).1 z o)with rfl|D
    ·omega
    ·grind
theorem zh3{L:List zp}{a b:zp}(k:L[n]?=aa a)(o:L[n+1]?=aa b):L.take (n+2)=L.take n++[a,b]:=by
 rw[l6,l6,k,o];simp
theorem zgf{L:List zp}{a b:zp}(k:L[n]?=aa a)(o:L[n+1]?=aa b):dz (L.take (n+2))=if a=b then dz (L.take (n+1))else dz (L.take (n+1))++[b]:=by
 rw[zh3 k o,zkq,l6,k];rfl
noncomputable def zku(n:Nat)(s1:Int):Int×Int×(List zp)->Option (Out (Out (List zp) Int) (Int×Int×(List zp))):=λ(s2:Int×Int×(List zp))=>((zN (ak (s2.2.2)=n) ((if(ae (s2.2.1<((n-s1.toNat:Nat):Int)))=true then((zR (s2.2.2.drop s1.toNat) s2.2.1).bind λy51=>((zR (s2.2.2.drop s1.toNat) (ai .i64 (s2.2.1-(1:Int)))).bind λy52=>(if(!(y51==y52))=true then((zR (s2.2.2.drop s1.toNat) s2.2.1).bind λy54=>((zR s2.2.2 s2.1).bind λy55=>aa (.gV ((ai .i64 (s2.1+(1:Int))),(ai .i64 (s2.2.1+(1:Int))),(s2.2.2.set s2.1.toNat y54)))))else aa (.gV (s2.1,(ai .i64 (s2.2.1+(1:Int))),s2.2.2)))))else aa (.brk (s2.1,s2.2.1,s2.2.2))))))
theorem zlo{L:List zp}(Z:ak L<=16777216){k0:Nat}(J:0<k0)(U:k0<(ak L)){a:zp}(N:L[k0-1]?=aa a)(H:L[k0]?=aa a)(h3:dz (L.take k0)=L.take k0) :
  ∃p,ya (zku (ak L) (k0:Int)) ((k0:Int),1,L)=aa (.inr p)/\∃m:Nat,p.1=(m:Int)/\m<=(ak L)/\p.2.2.length=(ak L)/\p.2.2.take m=dz L:=by
 refine qb (f:=zku (ak L) (k0:Int)) (λs=>∃m b:Nat,s.1=(m:Int)/\s.2.1=(b:Int)/\1<=b/\k0+b<=(ak L)/\m+1<=k0+b/\s.2.2.length=(ak L)/\s.2.2.take m=dz (L.take (k0+b))/\s.2.2.drop (k0+b-1)=L.drop (k0+b-1))
  _ (λs=>(ak L)-s.2.1.toNat) ?_ _ _ rfl ⟨k0,1,rfl,rfl,ob _,by omega,by omega,rfl,?_,by simp⟩
 ·rintro⟨i,j,M⟩ ⟨m,b,C,G,V,Y,X,w,z,y⟩
  simp only at C G w z y;subst C G;simp only[zku,zN,w,oS,o5];by_cases hb:k0+b<(ak L)
  ·right;have r:∀t,k0+b-1<=t->M[t]?=L[t]?:=λt R=>by
    have:=congrArg (λl=>l[t-(k0+b-1)]?) y
    grind
   have E:L[k0+b]?=aa L[k0+b]:=rk hb;have hb1:k0+b-1<(ak L):=by omega
   have O:L[k0+b-1]?=aa (L[k0+b-1]'hb1):=rk hb1;have D:zR (M.drop k0) (b:Int)=aa L[k0+b]:=by simp only[zR,o5,lj];rw[nK (by omega),r _ (by omega),E]
   have I:zR (M.drop k0) (ai .i64 ((b:Int)-1))=aa (L[k0+b-1]'hb1):=by
    rw[ze7 (by omega) (by omega)];simp only[zR,o5,lj]
    grind
   have P:zR M (m:Int)=aa (M[m]'(by omega)):=by simp[zR]
   have k:=zgf (L:=L) (n:=k0+b-1) O (by rw[show k0+b-1+1=k0+b by omega];exact E);rw[show k0+b-1+2=k0+(b+1) by omega,show k0+b-1+1=k0+b by omega]at k;have o:M.drop (k0+(b+1)-1)=L.drop (k0+(b+1)-1):=by
    have:=congrArg (λl=>l.drop 1) y;simp only[kf]at this
    rwa[show k0+b-1+1=k0+(b+1)-1 by omega]at this
   rw[nK (by simp;omega),D,tb,I,tb];by_cases he:L[k0+b]=L[k0+b-1]'hb1
   ·refine⟨((m:Int),((b+1:Nat):Int),M),by simp[he,xZ (show b<=16777216 by omega)],⟨m,b+1,rfl,rfl,by omega,by omega,by omega,w,?_,o⟩,by simp;omega⟩
    simp_all
   ·refine⟨(((m+1:Nat):Int),((b+1:Nat):Int),M.set m L[k0+b]),?_,⟨m+1,b+1,rfl,rfl,by omega,by omega,by omega,by simp_all,?_,?_⟩,by simp;omega⟩
    ·simp[he,D,P,xZ (show b<=16777216 by omega),xZ (show m<=16777216 by omega)]
    ·rw[k,n4 (λe=>he e.symm),<- z,l6,jS (ob _),li (by omega)];rfl
    ·rw[jT (by omega)];exact o
  ·left;have Q:k0+b=ak L:=by omega
   rw[n4 (by simp;omega)]
   grind
 ·have:=zgf (L:=L) (n:=k0-1) N (by rw[show k0-1+1=k0 by omega];exact H)
  grind
noncomputable def mD(s0:List zp):Int->Option (Out (List zp) Int):=λ(s1:Int)=>((if(ae (s1<(ak (s0):Int)))=true then((zR s0 s1).bind λy35=>((zR s0 (ai .i64 (s1-(1:Int)))).bind λy36=>(if(y35==y36)=true then(zN (0<=s1/\s1<=((ak s0:Nat):Int)) ((lp (ya (zku (ak s0) s1) (s1,(1:Int),s0)) λ(s2:Int×Int×(List zp))=>(zN (0<=s2.1/\s2.1<=((ak s0:Nat):Int)) (((fP (s2.2.2.take s2.1.toNat++List.replicate ((ak s0)-s2.1.toNat) ([]:zp)) (0:Int) s2.1).bind λm57=>aa (.ret m57)))))))else aa (.gV (ai .i64 (s1+(1:Int)))))))else aa (.brk s1)))
theorem zi0(k:List zp):wo k=(if(ae ((ak (k):Int)<(2:Int)))=true then aa k else(lp (ya (mD k) (1:Int)) λ(_:Int)=>aa k)):=rfl
theorem zi2{L:List zp}(E:ak L<=16777216):∀(n k:Nat),(ak L)-k=n->0<k->k<=ak L->dz (L.take k)=L.take k->lp (ya (mD L) (k:Int)) (λ(_:Int)=>aa L)=aa (dz L):=by
 intro n
 induction n with
 |zero =>
  intro k G h0 hk hd;have:k=ak L:=by omega
  subst this;rw[yK];simp only[mD]
  simp_all
 |succ n ih =>
  intro k G h0 hk hd;have o:k<(ak L):=by omega
  have r:L[k]?=aa L[k]:=rk o;have hk1:k-1<(ak L):=by omega
  have y:L[k-1]?=aa (L[k-1]'hk1):=rk hk1;rw[yK];have z:zR L (k:Int)=aa L[k]:=by simp[zR]
  have w:zR L (ai .i64 ((k:Int)-1))=aa (L[k-1]'hk1):=by
   rw[ze7 h0 (by omega)];simp only[zR,o5];rw[nK (by omega),y]
  have p:=zgf (L:=L) (n:=k-1) y (by rw[show k-1+1=k by omega];exact r);rw[show k-1+2=k+1 by omega,show k-1+1=k by omega]at p;by_cases he:L[k]=L[k-1]'hk1
  ·obtain⟨s,C,m,H,I,J,D⟩:=zlo E h0 o (a:=L[k]) (by simp_all) r hd;have hs:fP (s.2.2.take ((m:Int)).toNat++List.replicate ((ak L)-((m:Int)).toNat) ([]:zp)) (0:Int) (m:Int)=aa (s.2.2.take m):=by
    unfold fP;rw[nK (by simp;omega)];simp only[o5,gl,kZ]
    grind
   have:mD L (k:Int)=aa (.ret (dz L)):=by
    simp only[mD];rw[nK (by simp;omega),z,tb,w,tb,nK (by simp[he])];rw[ze (by omega),C];simp only[lp];rw[ze (by omega),H,hs,tb,D]
   simp_all
  ·have:mD L (k:Int)=aa (.gV ((k+1:Nat):Int)):=by
    simp only[mD];rw[nK (by simp;omega),z,tb,w,tb,n4 (by simp[he]),xZ (by omega)]
   rw[this];refine ih (k+1) (by omega) (by omega) (by omega) ?_;rw[p,n4 (λe=>he e.symm),hd,l6,r];rfl
theorem ziZ{L:List zp}(k:ak L<=16777216):wo L=aa (dz L):=by
 rw[zi0];by_cases h:(ak L)<2
 ·rw[nK (by simp;omega)]
  match L,h with
  |[],_=>rfl
  |[x],_=>rfl
  |_::_::_,h=>simp at h;omega
 ·rw[n4 (by simp;omega)];have:=zi2 k ((ak L)-1) 1 rfl (by omega) (by omega) (by
   match L,h with
   |x::y::r,_=>rfl
   |[],h=>simp at h
   |[x],h=>simp at h)
  omega
def zsh(L:List zp):List zp:=L.mergeSort λa b=>!Op.bytesLess b a
theorem zjo{L:List zp}(k:ak L<=lim):aR L=aa (zsh L):=by
 unfold aR zsh;rw[nK k];congr 2;funext x y;rw[lI];simp only[so,kb,Go.Proofs.bytesLess_eq,iI];rfl
theorem zcC(L:List zp):(zsh L).Perm L:=hJ ..
theorem zlQ(L:List zp):(zsh L).Pairwise λa b=>¬Op.bytesLess b a=true:=by
 have:=gD (le:=λa b:zp=>!Op.bytesLess b a) (λa b c p k=>by
  simp only[kb]at *;cases h:Op.bytesLess c a with
  |false=>rfl
  |true =>
   rcases eH a b with rfl|o|o
   ·rw[k]at h;cases h
   ·rw[x8 h o]at k;cases k
   ·rw[p]at o;cases o) (λa b=>by
  cases h:Op.bytesLess b a with
  |false=>rfl
  |true =>
   cases k:Op.bytesLess a b with
   |false=>rfl
   |true=>have:=x8 h k;rw[um]at this;cases this) L
 refine this.imp λ{a b} h=>?_;simpa using h
theorem zqE{L:List zp}(h:L.Pairwise λa b=>Op.bytesLess a b=true):zsh L=L:=by
 refine pM (cf:=λa b=>if Op.bytesLess a b=true then -1 else 1) (zcC L) ((zlQ L).imp ?_) (h.imp ?_) ?_
 ·simp_all
 ·intro a b k o;split at o
  ·rename_i p;have:=x8 k p;rw[um]at this;cases this
  ·omega
 ·intro x y w r s o;rcases eH x y with e|e|e
  ·exact e
  ·simp_all
  ·simp_all
def zk1(L:List zp)(d:zp):List zp:=if(L.any λy=>ae (y=d))=true then L else L.takeWhile (λy=>Op.bytesLess y d)++([d]++L.dropWhile λy=>Op.bytesLess y d)
theorem zmt(L:List zp)(d x:zp):x∈zk1 L d↔x=d \/ x∈L:=by
 unfold zk1;split
 ·simp_all
 ·have h:x∈L↔x∈L.takeWhile (λy=>Op.bytesLess y d) \/ x∈L.dropWhile (λy=>Op.bytesLess y d):=by
   rw[<- ma,lD]
  grind
theorem zoK{L:List zp}(d:zp)(h:L.Pairwise λa b=>Op.bytesLess a b=true):(zk1 L d).Pairwise λa b=>Op.bytesLess a b=true:=by
 unfold zk1;split
 ·exact h
 ·rename_i p;refine zm1 (lt:=λa b:zp=>Op.bytesLess a b) (λ_ _ _=>x8) h λy o=>?_;rcases eH y d with rfl|k|k
  ·simp_all
  ·simp_all
  ·simp_all
def zg0(L ds:List zp):List zp:=ds.foldl zk1 L
theorem zbo:∀(ds L:List zp)(x:zp),x∈zg0 L ds↔x∈ds \/ x∈L
 |[],L,x=>by simp[zg0]
 |d::ds,L,x=>by
  have:=zbo ds (zk1 L d) x;simp only[zg0,kS]at this ⊢;rw[this,zmt]
  grind
theorem zc0:∀(ds:List zp){L:List zp},L.Pairwise (λa b=>Op.bytesLess a b=true)->(zg0 L ds).Pairwise λa b=>Op.bytesLess a b=true
 |[],_,h=>h
 |d::ds,_,h=>zc0 ds (zoK d h)
theorem zoJ(ds:List zp):dz (zsh ds)=zg0 [] ds:=by
 refine vL (lt:=λa b=>Op.bytesLess a b=true) (λa=>by simp[um]) (λ_ _ _=>x8) _ _ (zeR (lt:=λa b=>Op.bytesLess a b=true) (λa b k=>?_) (λ_ _ _=>x8) _ (zlQ _)) (zc0 ds List.Pairwise.nil) λx=>?_
 ·rcases eH a b with e|e|e
  ·simp_all
  ·simp_all
  ·simp_all
 ·rw[zgg,(zcC _).mem_iff,zbo];simp

def zjn:List GC->List zp->List GC
 |t,[]=>t
 |t,s::p=>zjn (match fx t s with|some x=>x.wa|none=>[]) p
theorem zoV(t:List GC)(s:zp):((xY t s).bind λk=>(aa (.gV k.1.wa):Option (Out (List zp) (List GC))))=aa (.gV (match fx t s with|some x=>x.wa|none=>[])):=by
 rw[nB];cases fx t s<;>rfl
theorem zj1:∀(p:List zp)(n:Nat) (t:List GC),zf (λ(w:Nat)(k:zp) (o:(List GC))=>(((xY o k).bind λr=>aa (.gV r.1.wa)):Option (Out (List zp) (List GC)))) p n t=aa (.inr (zjn t p))
 |[],_,_=>rfl
 |s::p,n,t=>by
  simp only[zf,zoV t s,zjn];exact zj1 p (n+1) _
theorem zgs{α β ρ:Type}(f:α->β):∀(L:List α)(n:Nat) (A:List β),ak A+ak L<=16777216->zf (λ(_:Nat)(x:α) (s:List β)=>((zN (ak (s)+ak (([f x]:List β))<=lim) (aa (.gV (s++([f x]:List β))))):Option (Out ρ (List β)))) L n A=aa (.inr (A++L.map f))
 |[],n,A,_=>by simp[zf]
 |x::r,n,A,h=>by
  simp only[nr]at h;have k:zN (ak A+ak ([f x]:List β)<=lim) (aa (.gV (A++[f x])):Option (Out ρ (List β)))=aa (.gV (A++[f x])):=ze (by simp[lim];omega);simp only[zf,k];rw[zgs f r (n+1) (A++[f x]) (by simp;omega)];simp
theorem lpW{f:σ->Option (Out ρ σ)}{rest:σ->Option ρ}{y:σ}{P:ρ->Prop}(o k:σ->Prop)(w:σ->Nat)(hi:o y)(h:∀s,o s->(∃p,f s=aa (.brk p)/\k p) \/ ∃p,f s=aa (.gV p)/\o p/\w p<w s)(C:∀s,k s->∃r,rest s=aa r/\P r):∃r,lp (ya f y) rest=aa r/\P r:=by
 obtain⟨p,e,z⟩:=qb o k w h _ y rfl hi
 simp_all
theorem lpN{f:σ->Option (Out (Out ρ τ) σ)}{rest:σ->Option (Out ρ τ)}{y:σ}{P:τ->Prop}(o k:σ->Prop)(w:σ->Nat)(hi:o y)(h:∀s,o s->(∃p,f s=aa (.brk p)/\k p) \/ ∃p,f s=aa (.gV p)/\o p/\w p<w s)(C:∀s,k s->∃r,rest s=aa (.gV r)/\P r):∃r,lp (ya f y) rest=aa (.gV r)/\P r:=by
 obtain⟨p,e,z⟩:=qb o k w h _ y rfl hi
 simp_all
theorem aT{L:List α}{k:Nat}(h:k<(ak L)):zR L (k:Int)=aa L[k]:=by
 unfold zR
 simp_all
theorem zb9(f:α->Nat){L:List α}{k:Nat}(h:k<(ak L)):((L.take (k+1)).map f).sum=((L.take k).map f).sum+f L[k]:=by
 rw[l6,rk h]
 grind
theorem zff(f:α->Nat)(L:List α)(k:Nat):((L.take k).map f).sum<=(L.map f).sum:=by
 have e:(L.map f).sum=((L.take k).map f).sum+((L.drop k).map f).sum:=by rw[<- List.sum_append,<- lZ,kW]
 omega
theorem zka{ρ:Type}:∀(L:List GF)(i:Nat) (s:Int),0<=s->s+((L.map GF.bk).sum:Nat)<=1099511627776->∃v,zf (λ(_:Nat)(p:GF) (k:Int)=>(aa (.gV (ai .i64 ((ai .i64 (k+(1:Int)))+(ak (p.text):Int)))):Option (Out ρ Int))) L i s=aa (.inr v)/\s+ak L<=v/\v<=s+((L.map GF.bk).sum:Nat)
 |[],_,s,_,_=>⟨s,rfl,by simp,by simp⟩
 |x::L,i,s,h0,h1=>by
  simp only[m4,jQ]at h1 ⊢;have w:ak x.text+1<=GF.bk x:=by unfold GF.bk;omega
  have o:ai .i64 (s+(1:Int))=s+1:=vj (by omega);have r:ai .i64 (s+1+(ak x.text:Int))=s+1+ak x.text:=vj (by omega);obtain⟨v,e,y,z⟩:=zka (ρ:=ρ) L (i+1) (s+1+ak x.text) (by omega) (by omega);exact⟨v,by simp only[zf,o,r];exact e,by grind,by omega⟩
def lw(l:GE):Nat:=1+ak l.z8+(ak l.y4)
def cq(t:List GC):Nat:=((zk [] t).map λr=>lw r.leaf).sum
def rl(x:GC):Nat:=((pR [] x).map λr=>lw r.leaf).sum
theorem zl1(a:List zp)(t:List GC):((zk a t).map λr=>lw r.leaf).sum=cq t:=by
 have:=zce t a [];rw[ko]at this;rw[this,kY];rfl
theorem zjl{α β:Type}(g:α->List β)(w:β->Nat):∀L:List α,((L.flatMap g).map w).sum=(L.map λx=>((g x).map w).sum).sum
 |[]=>rfl
 |x::r=>by
  have:=zjl g w r
  simp_all
theorem zqI(t:List GC):cq t=(t.map rl).sum:=by
 unfold cq;rw[xd,zjl];rfl
theorem zva(x:GC):rl x=(x.leaves.map lw).sum+cq x.wa:=by
 unfold rl;rw[wq,lZ,List.sum_append,zl1,kY];rfl
theorem zlU:∀(n:Nat)(t:List GC) (d:Int),GC.fB t<n->Small t->0<=d->d+GC.fB t<=10->∃v,xK n t d=aa v/\((cq t:Nat):Int)<=v/\v<=(GC.e6 t:Int)
 |0,_,_,h,_,_,_=>by omega
 |n+1,t,d,h,hs,h0,hd=>by
  unfold xK;have hl:=hs.len;have hB:(t.map GC.bk).sum<=16777216:=by rw[<- GC.d9];exact hs.2
  refine lpW (λs=>∃k:Nat,s.2=(k:Int)/\k<=(ak t)/\(((t.take k).map rl).sum:Int)<=s.1/\s.1<=(((t.take k).map GC.bk).sum:Int)) (λs=>((t.map rl).sum:Int)<=s.1/\s.1<=((t.map GC.bk).sum:Int)) (λs=>(ak t)-s.2.toNat) ⟨0,rfl,lV _,by simp,by simp⟩ ?_ (λs hs=>⟨s.1,rfl,by rw[zqI];exact hs.1,by rw[GC.d9];exact hs.2⟩)
  rintro⟨a,i⟩ ⟨k,p,hk,U,N⟩
  dsimp only at p U N ⊢;subst p;by_cases hlt:k<(ak t)
  ·right;have D:t[k]∈t:=jF hlt;have I:=hs.leaves D;have R:=te D;have E:=w9 t[k];have Y:ai .i64 (d+(1:Int))=d+1:=vj (by omega);obtain⟨v,e,v1,v2⟩:=zlU n t[k].wa (d+1) (by omega) (hs.wa D) (by omega) (by omega);rw[nK (by simp;omega)];simp only[aT hlt,tb,Y,e];have s1:=zb9 GC.bk hlt;have s2:=zb9 rl hlt;have s3:=zff GC.bk t (k+1);have s4:=zff rl t k;have Z:=zbE t[k];have V:=zva t[k];have z0:(0:Int)<=a:=by omega
   have H:ai .i64 (a+(1:Int))=a+1:=vj (by omega);have w2:ai .i64 (a+1+(t[k].name.length:Int))=a+1+t[k].name.length:=vj (by omega);have J:ai .i64 (a+1+t[k].name.length+v)=a+1+t[k].name.length+v:=vj (by omega);have G:ai .i64 ((k:Int)+(1:Int))=((k+1:Nat):Int):=(vj (by omega)).trans (by omega);simp only[H,w2,J,G];obtain⟨c0,y⟩:∃c0,a+1+t[k].name.length+v=c0:=⟨_,rfl⟩
   rw[y];refine Exists.imp (λ_ h=>⟨h.1,h.2.1,h.2.2⟩) (lpN (P:=λr:Int×Int=>(∃k:Nat,r.2=(k:Int)/\k<=(ak t)/\(((t.take k).map rl).sum:Int)<=r.1/\r.1<=(((t.take k).map GC.bk).sum:Int))/\(ak t)-r.2.toNat<(ak t)-(k:Int).toNat) (λs=>∃q:Nat,s.2=(q:Int)/\q<=t[k].leaves.length/\c0+(((t[k].leaves.take q).map lw).sum:Nat)<=s.1/\s.1<=c0+(((t[k].leaves.take q).map GE.bk).sum:Nat)) (λs=>c0+((t[k].leaves.map lw).sum:Nat)<=s.1/\s.1<=c0+((t[k].leaves.map GE.bk).sum:Nat)) (λs=>t[k].leaves.length-s.2.toNat) ⟨0,rfl,lV _,by simp,by simp⟩ ?_ ?_)
   ·rintro⟨b,j⟩ ⟨q,o,hq,z,C⟩
    dsimp only at o z C ⊢;subst o;have u3:=zff GE.bk t[k].leaves q;by_cases hql:q<t[k].leaves.length
    ·right;rw[nK (lJ (by omega))];simp only[aT hql,tb];have u1:=zb9 GE.bk hql;have u5:=zb9 lw hql;have u6:lw t[k].leaves[q]=1+t[k].leaves[q].z8.length+t[k].leaves[q].y4.length:=rfl;have u2:=zff GE.bk t[k].leaves (q+1);have u4:(t[k].leaves[q].z8.map GF.bk).sum+t[k].leaves[q].y4.length+t[k].leaves[q].text.length+1<=GE.bk t[k].leaves[q]:=by
      have:=zgd t[k].leaves[q].y4;unfold GE.bk;omega
     have M:ai .i64 (b+(1:Int))=b+1:=vj (by omega);have y2:ai .i64 (b+1+(t[k].leaves[q].text.length:Int))=b+1+t[k].leaves[q].text.length:=vj (by omega);have O:ai .i64 (b+1+t[k].leaves[q].text.length+(t[k].leaves[q].y4.length:Int))=b+1+t[k].leaves[q].text.length+t[k].leaves[q].y4.length:=vj (by omega);have X:ai .i64 ((q:Int)+(1:Int))=((q+1:Nat):Int):=(vj (by omega)).trans (by omega);simp only[M,y2,O,X];obtain⟨w,Q,x1,x2⟩:=zka (ρ:=Out (Out Int (Int×Int)) (Int×Int)) t[k].leaves[q].z8 0 (b+1+t[k].leaves[q].text.length+t[k].leaves[q].y4.length) (by omega) (by omega);rw[Q,yw];exact⟨_,rfl,⟨q+1,rfl,by omega,by omega,by omega⟩,by omega⟩
    ·left;rw[n4 (by simp;omega)]
     grind
   ·rintro⟨b,j⟩ ⟨z,C⟩
    dsimp only at z C ⊢;refine⟨_,rfl,⟨k+1,rfl,by omega,?_,?_⟩,by omega⟩
    ·omega
    ·omega
  ·left;rw[n4 (by simp;omega)]
   grind
theorem znx:∀(t:List GC)(d:Nat),d<=2->tv d t=true->GC.fB t<=3-d:=by
 refine qZ (λd _ _=>by simp[GC.fB]) ?_;intro x r E w d hd s;rw[xe,l7,tx,<- xe]at s;obtain⟨k,o⟩:=s;have D:=w d hd o;obtain⟨C,y,z⟩:=wT k;have hs:=w9 x;have p:GC.fB x.wa<=2-d:=by
  by_cases h0:x.wa=[]
  ·rw[h0];simp[GC.fB]
  ·unfold gX at y
   grind
 simp only[GC.fB];omega

def wn(a b:GK):Bool:=if a.e.time=b.e.time/\a.e.z6=b.e.z6 then ae (a.aF<b.aF)else if a.e.time≠b.e.time then ae (a.e.time<b.e.time)else w6 a.e.z6 b.e.z6
theorem zf9(a:GK):wn a a=false:=by simp[wn]
theorem zqg{a b c:GK}(s:wn a b=true)(p:wn b c=true):wn a c=true:=by
 have z:=@up a.e.z6 b.e.z6 c.e.z6;have r:=wR a.e.z6;have y:=f7 a.e.z6 b.e.z6;have k:=@up b.e.z6 a.e.z6 b.e.z6;have w:=wR b.e.z6;have o:=wR c.e.z6;unfold wn at *
 grind
theorem zno{a b:GK}(o:wn a b=false)(k:wn b a=false):a.e.time=b.e.time/\a.e.z6=b.e.z6/\a.aF=b.aF:=by
 have p:=f7 a.e.z6 b.e.z6;unfold wn at *
 grind
theorem zcu{a b:GK}(h:wn a b=true):wn b a=false:=by
 cases e:wn b a with
 |false=>rfl
 |true=>have:=zqg h e;rw[zf9]at this;cases this
theorem zkl{a b c:GK}(o:wn b a=false)(k:wn c b=false):wn c a=false:=by
 cases e:wn c a with
 |false=>rfl
 |true =>
  cases e2:wn a b with
  |true=>have:=zqg e e2;rw[k]at this;cases this
  |false =>
   obtain⟨p,s,r⟩:=zno e2 o;have:wn c b=true:=by
    unfold wn at e ⊢
    simp_all
   simp_all
def swp(h:List GK)(i j:Nat):List GK:=(h.set i (h.getD j af)).set j (h.getD i af)
def Hup(h:List GK)(n j:Nat):Prop:=(∀c,c<n->0<c->c≠j->wn (h.getD c af) (h.getD ((c-1) / 2) af)=false)/\∀c,c<n->0<c->(c-1) / 2=j->0<j->wn (h.getD c af) (h.getD ((j-1) / 2) af)=false
def Hdn(h:List GK)(n i:Nat):Prop:=(∀c,c<n->0<c->(c-1) / 2≠i->wn (h.getD c af) (h.getD ((c-1) / 2) af)=false)/\∀c,c<n->0<c->(c-1) / 2=i->0<i->wn (h.getD c af) (h.getD ((i-1) / 2) af)=false
def Hp(h:List GK)(n:Nat):Prop:=∀c,c<n->0<c->wn (h.getD c af) (h.getD ((c-1) / 2) af)=false
theorem zfh(h:List GK)(i j:Nat):ak (swp h i j)=ak h:=by simp[swp]
theorem zjk(hi:i<(ak h))(k:j<(ak h))(c:Nat):(swp h i j).getD c af=if c=j then h.getD i af else if c=i then h.getD j af else h.getD c af:=by
 unfold swp
 grind
theorem zfg(hi:i<(ak h))(k:j<(ak h)):(swp h i j).Perm h:=by
 unfold swp
 grind
theorem zqw(D:n<=ak h)(z:j<n)(h0:0<j)(s:wn (h.getD j af) (h.getD ((j-1) / 2) af)=true)(H:Hup h n j):Hup (swp h ((j-1) / 2) j) n ((j-1) / 2):=by
 obtain⟨o,C⟩:=H;have k:=zjk (h:=h) (i:=(j-1) / 2) (j:=j) (by omega) (by omega);refine⟨λc p c0 r=>?_,λc p c0 r y=>?_⟩
 ·rw[k,k];by_cases e:c=j
  ·subst e;rw[nK rfl,n4 (by omega),nK rfl];exact zcu s
  ·rw[n4 e,n4 (by omega)];by_cases e2:(c-1) / 2=j
   ·simp_all
   ·rw[n4 e2];by_cases e3:(c-1) / 2=(j-1) / 2
    ·rw[nK e3];have:=o c p c0 e;rw[e3]at this;exact zkl (zcu s) this
    ·simp_all
 ·rw[k,k];have w:=o ((j-1) / 2) (by omega) y (by omega);by_cases e:c=j
  ·subst e;rw[nK rfl,n4 (by omega),n4 (by omega)];exact w
  ·rw[n4 e,n4 (by omega),n4 (by omega),n4 (by omega)];have:=o c p c0 e;rw[r]at this;exact zkl w this
theorem zlH(H:Hup h n j)(hs:j=0 \/ wn (h.getD j af) (h.getD ((j-1) / 2) af)=false):Hp h n:=λc k c0=>by
 by_cases e:c=j
 ·grind
 ·exact H.1 c k c0 e
theorem zrZ(D:n<=ak h)(y:j<n)(h0:0<j)(p:(j-1) / 2=i)(r:wn (h.getD j af) (h.getD i af)=true)(w:∀c,c<n->0<c->(c-1) / 2=i->wn (h.getD c af) (h.getD j af)=false)(H:Hdn h n i):Hdn (swp h i j) n j:=by
 obtain⟨C,z⟩:=H;have k:=zjk (h:=h) (i:=i) (j:=j) (by omega) (by omega);refine⟨λc s c0 o=>?_,λc s c0 o _=>?_⟩
 ·rw[k,k];by_cases e:c=j
  ·subst e;rw[nK rfl,n4 (by omega),nK (by omega)];exact zcu r
  ·rw[n4 e,n4 o];by_cases e2:(c-1) / 2=i
   ·grind
   ·rw[n4 e2];by_cases e3:c=i
    ·simp_all
    ·simp_all
 ·rw[k,k,p]
  grind
theorem znv(H:Hdn h n i)(hs:∀c,c<n->0<c->(c-1) / 2=i->wn (h.getD c af) (h.getD i af)=false):Hp h n:=λc k c0=>by
 by_cases e:(c-1) / 2=i
 ·simp_all
 ·exact H.1 c k c0 e
theorem zrF(H:Hp h n):∀c,c<n->wn (h.getD c af) (h.getD 0 af)=false:=by
 intro c
 induction c using Nat.strongRecOn with
 |_ c ih =>
  intro k;rcases iD c with rfl|h0
  ·exact zf9 _
  ·exact zkl (ih ((c-1) / 2) (by omega) (by omega)) (H c k h0)

noncomputable def upF(v235:List GK):Int×List GK->Option (Out (List GK) (Int×List GK)):=(λ(s2:Int×(List GK))=>((zN (ak (s2.2)=ak (v235)) (((if(((ai .i64 (Int.tdiv (ai .i64 (s2.1-(1:Int))) (2:Int)))==s2.1)==false)=true then yC s2.2 s2.1 (ai .i64 (Int.tdiv (ai .i64 (s2.1-(1:Int))) (2:Int)))else aa af).bind λv298=>(if(((ai .i64 (Int.tdiv (ai .i64 (s2.1-(1:Int))) (2:Int)))==s2.1) || (!v298))=true then aa (.brk (s2.1,s2.2))else((((zR s2.2 s2.1).bind λy305=>((zR s2.2 (ai .i64 (Int.tdiv (ai .i64 (s2.1-(1:Int))) (2:Int)))).bind λy306=>((zR s2.2 (ai .i64 (Int.tdiv (ai .i64 (s2.1-(1:Int))) (2:Int)))).bind λy307=>((zR (s2.2.set (ai .i64 (Int.tdiv (ai .i64 (s2.1-(1:Int))) (2:Int))).toNat y305) s2.1).bind λy308=>aa ((s2.2.set (ai .i64 (Int.tdiv (ai .i64 (s2.1-(1:Int))) (2:Int))).toNat y305).set s2.1.toNat y306))))):Option (List GK)).bind λv300=>(zN (ak (v300)=ak (v235)) (aa (.gV ((ai .i64 (Int.tdiv (ai .i64 (s2.1-(1:Int))) (2:Int))),v300))))))))):Option (Out _ (Int×(List GK)))))
noncomputable def znt(s2:List GJ×List GK)(v1220:Int):Int×List GK->Option (Out (Bool×List GK) (Int×List GK)):=(λ(s3:Int×(List GK))=>((zN (ak (s3.2)=ak (s2.2)) ((if((ae ((ai .i64 ((ai .i64 ((2:Int)*s3.1))+(1:Int))) >= (ai .i64 (v1220-(1:Int))))) || (ae ((ai .i64 ((ai .i64 ((2:Int)*s3.1))+(1:Int)))<(0:Int))))=true then aa (.brk (s3.1,s3.2))else((if((ae ((ai .i64 ((ai .i64 ((ai .i64 ((2:Int)*s3.1))+(1:Int)))+(1:Int)))<(ai .i64 (v1220-(1:Int)))))==true)=true then yC s3.2 (ai .i64 ((ai .i64 ((ai .i64 ((2:Int)*s3.1))+(1:Int)))+(1:Int))) (ai .i64 ((ai .i64 ((2:Int)*s3.1))+(1:Int)))else aa af).bind λv1314=>(if((ae ((ai .i64 ((ai .i64 ((ai .i64 ((2:Int)*s3.1))+(1:Int)))+(1:Int)))<(ai .i64 (v1220-(1:Int)))))&&v1314)=true then((yC s3.2 (ai .i64 ((ai .i64 ((ai .i64 ((2:Int)*s3.1))+(1:Int)))+(1:Int))) s3.1).bind λv1316=>(if(!v1316)=true then aa (.brk (s3.1,s3.2))else((((zR s3.2 (ai .i64 ((ai .i64 ((ai .i64 ((2:Int)*s3.1))+(1:Int)))+(1:Int)))).bind λy1323=>((zR s3.2 s3.1).bind λy1324=>((zR s3.2 s3.1).bind λy1325=>((zR (s3.2.set s3.1.toNat y1323) (ai .i64 ((ai .i64 ((ai .i64 ((2:Int)*s3.1))+(1:Int)))+(1:Int)))).bind λy1326=>aa ((s3.2.set s3.1.toNat y1323).set (ai .i64 ((ai .i64 ((ai .i64 ((2:Int)*s3.1))+(1:Int)))+(1:Int))).toNat y1324))))):Option (List GK)).bind λv1318=>(zN (ak (v1318)=ak (s2.2)) (aa (.gV ((ai .i64 ((ai .i64 ((ai .i64 ((2:Int)*s3.1))+(1:Int)))+(1:Int))),v1318)))))))else((yC s3.2 (ai .i64 ((ai .i64 ((2:Int)*s3.1))+(1:Int))) s3.1).bind λv1327=>(if(!v1327)=true then aa (.brk (s3.1,s3.2))else((((zR s3.2 (ai .i64 ((ai .i64 ((2:Int)*s3.1))+(1:Int)))).bind λy1334=>((zR s3.2 s3.1).bind λy1335=>((zR s3.2 s3.1).bind λy1336=>((zR (s3.2.set s3.1.toNat y1334) (ai .i64 ((ai .i64 ((2:Int)*s3.1))+(1:Int)))).bind λy1337=>aa ((s3.2.set s3.1.toNat y1334).set (ai .i64 ((ai .i64 ((2:Int)*s3.1))+(1:Int))).toNat y1335))))):Option (List GK)).bind λv1329=>(zN (ak (v1329)=ak (s2.2)) (aa (.gV ((ai .i64 ((ai .i64 ((2:Int)*s3.1))+(1:Int))),v1329)))))))))))):Option (Out _ (Int×(List GK)))))
noncomputable def zqT:List GJ×List GK->Option (Out (List GJ×List GK) (List GJ×List GK)):=(λ(s2:(List GJ)×(List GK))=>(((aa ((ak (s2.2):Nat):Int):Option Int).bind λv1089=>(if(ae (v1089 > (0:Int)))=true then((((aa ((ak (s2.2):Nat):Int):Option Int).bind λv1220=>((((zR s2.2 (ai .i64 (v1220-(1:Int)))).bind λy1228=>((zR s2.2 (0:Int)).bind λy1229=>((zR s2.2 (0:Int)).bind λy1230=>((zR (s2.2.set (0:Int).toNat y1228) (ai .i64 (v1220-(1:Int)))).bind λy1231=>aa ((s2.2.set (0:Int).toNat y1228).set (ai .i64 (v1220-(1:Int))).toNat y1229))))):Option (List GK)).bind λv1223=>(zN (ak (v1223)=ak (s2.2)) (((lp (ya (znt s2 v1220) ((0:Int),v1223)) λ(s3:Int×(List GK))=>aa ((ae (s3.1 > (0:Int))),s3.2)):Option (Bool×(List GK))).bind λv1232=>(zN (ak (v1232.2)=ak (s2.2)) ((((zR v1232.2 (ai .i64 (((ak (s2.2):Nat):Int)-(1:Int)))).bind λy1343=>((fP v1232.2 (0:Int) (ai .i64 (((ak (s2.2):Nat):Int)-(1:Int)))).bind λm1344=>aa (y1343,m1344))):Option (GK×(List GK))).bind λv1338=>aa (v1338.1,v1338.2))))))):Option (GK×(List GK))).bind λv1093=>(zN (ak (s2.1)+ak (([v1093.1.e]:List GJ))<=lim) (aa (.gV ((s2.1++([v1093.1.e]:List GJ)),v1093.2)))))else aa (.brk (s2.1,s2.2)))):Option (Out _ ((List GJ)×(List GK)))))
noncomputable def zow:Nat->GJ->List GK->Option (Out (List GJ) (List GK)):=(λ(n1:Nat)(x1:GJ) (s1:(List GK))=>(((nM x1).bind λv158=>(((((zN (ak (s1)+ak (([(GK.mk v158 (n1:Int))]:List GK))<=lim) (aa (s1++([(GK.mk v158 (n1:Int))]:List GK)))):Option (List GK)).bind λv235=>((aa ((ak (v235):Nat):Int):Option Int).bind λv238=>(((lp (ya (upF v235) ((ai .i64 (v238-(1:Int))),v235)) λ(s2:Int×(List GK))=>aa s2.2):Option (List GK)).bind λv241=>(zN (ak (v241)=ak (v235)) (aa v241))))):Option (List GK)).bind λv159=>aa (.gV v159))):Option (Out _ (List GK))))
theorem zoD(o:List GJ):uJ o=(lp (zf zow o 0 ([]:List GK)) λ(p:(List GK))=>(((lp (ya zqT (([]:List GJ),p)) λ(s2:(List GJ)×(List GK))=>aa (s2.1,s2.2)):Option ((List GJ)×(List GK))).bind λk=>aa k.1)):=rfl

theorem zc9{k:Nat}(hi:i<(ak h))(o:k<(ak h)):yC h (i:Int) (k:Int)=aa (wn (h.getD i af) (h.getD k af)):=by
 have p:h.getD i af=h[i]:=by simp_all
 have r:h.getD k af=h[k]:=by simp_all
 unfold yC;rw[aT hi,aT o,tb,tb,p,r,uF,tb];unfold wn;have:((h[i].e.time==h[k].e.time)&&(h[i].e.z6.zi.fk==h[k].e.z6.zi.fk&&(h[i].e.z6.zi.inc==h[k].e.z6.zi.inc&&(h[i].e.z6.seq==h[k].e.z6.seq&&true))))=ae (h[i].e.time=h[k].e.time/\h[i].e.z6=h[k].e.z6):=by
  rw[lI];rcases h[i].e.z6 with⟨⟨a,b⟩,c⟩
  rcases h[k].e.z6 with⟨⟨w,y⟩,s⟩
  grind
 grind
theorem zsK(j:Nat)(k:j<=16777216):ai .i64 (Int.tdiv (ai .i64 ((j:Int)-1)) 2)=(((j-1) / 2:Nat):Int):=by
 rw[vj (n:=(j:Int)-1) (by omega)];cases j with
 |zero=>rfl
 |succ j =>
  have:((j+1:Nat):Int)-1=(j:Int):=by omega
  rw[this,show Int.tdiv (j:Int) 2=((j / 2:Nat):Int)from rfl,vj (by omega)];simp
theorem zqx{v:List GK}(E:ak h=ak v)(G:ak v<=16777216){j:Nat}(w:j<(ak v))(H:Hup h (ak v) j):∃o,ya (upF v) ((j:Int),h)=aa (.inr o)/\o.2.Perm h/\Hp o.2 (ak v):=by
 refine qb (f:=upF v) (λs=>∃j:Nat,s.1=(j:Int)/\j<(ak v)/\s.2.Perm h/\Hup s.2 (ak v) j) (λs=>s.2.Perm h/\Hp s.2 (ak v)) (λs=>s.1.toNat) ?_ _ _ rfl ⟨j,rfl,w,.refl _,H⟩
 rintro⟨q,g⟩ ⟨j,rfl,w,k,H⟩
 dsimp only at k H ⊢;have z:ak g=ak v:=k.length_eq.trans E;unfold upF;dsimp only;rw[ze z,zsK j (by omega)];rcases iD j with rfl|h0
 ·left;exact⟨(((0:Nat):Int),g),by simp,k,zlH H (.inl rfl)⟩
 ·have p:((((j-1) / 2:Nat):Int)==(j:Int))=false:=by
   grind
  rw[p,lG,nK rfl,zc9 (by omega) (by omega),tb,lM];cases hb:wn (g.getD j af) (g.getD ((j-1) / 2) af)with
  |false=>left;exact⟨((j:Int),g),by simp,k,zlH H (.inr hb)⟩
  |true =>
   right;have D:zR g (j:Int)=aa (g.getD j af):=by rw[aT (by omega)];simp[lu,rk (show j<(ak g) by omega)]
   have C:zR g (((j-1) / 2:Nat):Int)=aa (g.getD ((j-1) / 2) af):=by rw[aT (by omega)];simp[lu,rk (show(j-1) / 2<(ak g) by omega)]
   have r:∃y,zR (g.set ((j-1) / 2) (g.getD j af)) (j:Int)=aa y:=⟨_,aT (by simp_all)⟩
   obtain⟨y,r⟩:=r;have hs:((g.set ((j-1) / 2) (g.getD j af)).set j (g.getD ((j-1) / 2) af))=swp g ((j-1) / 2) j:=rfl;refine⟨((((j-1) / 2:Nat):Int),swp g ((j-1) / 2) j),?_,⟨(j-1) / 2,rfl,by omega,(zfg (by omega) (by omega)).trans k,zqw (by omega) w h0 hb H⟩,by omega⟩;simp only[ly,s5,mb,D,C,tb,o5,r,hs];rw[ze (by grind)]
theorem zsE(i:Nat)(hi:i<=16777216):ai .i64 ((ai .i64 ((2:Int)*(i:Int)))+1)=((2*i+1:Nat):Int):=by
 rw[vj (n:=(2:Int)*(i:Int)) (by omega),vj (by omega)];omega
theorem zn8(i:Nat)(hi:i<=16777216):ai .i64 (((2*i+1:Nat):Int)+1)=((2*i+2:Nat):Int):=by
 rw[vj (by omega)];omega
theorem znQ(h:j<(ak g)):zR g (j:Int)=aa (g.getD j af):=by
 rw[aT h];simp[lu,rk h]
theorem zcc(hi:i<(ak g))(o:j<(ak g)):((zR g (j:Int)).bind λk=>(zR g (i:Int)).bind λr=>(zR g (i:Int)).bind λ_=>(zR (g.set (i:Int).toNat k) (j:Int)).bind λ_=>aa ((g.set (i:Int).toNat k).set (j:Int).toNat r))=aa (swp g i j):=by
 obtain⟨y,p⟩:∃y,zR (g.set i (g.getD j af)) (j:Int)=aa y:=⟨_,aT (by simp_all)⟩
 simp only[znQ hi,znQ o,tb,o5,p];rfl
def bw(g:List GK)(m i:Nat):Nat:=if 2*i+2<m/\wn (g.getD (2*i+2) af) (g.getD (2*i+1) af)=true then 2*i+2 else 2*i+1
theorem zlj{m:Nat}(k:ak g=s2.2.length)(s:s2.2.length=m+1)(w:m<=8388600)(hi:i<=m) :
  znt s2 ((m+1:Nat):Int) ((i:Int),g)=if m<=2*i+1 then aa (.brk ((i:Int),g))else if wn (g.getD (bw g m i) af) (g.getD i af)=true then aa (.gV (((bw g m i:Nat):Int),swp g i (bw g m i)))else aa (.brk ((i:Int),g)):=by
 unfold znt;dsimp only;rw[ze k];have r:ai .i64 (((m+1:Nat):Int)-1)=(m:Int):=by rw[vj (by omega)];omega
 simp only[zsE i (by omega),zn8 i (by omega),r];by_cases hc:m<=2*i+1
 ·grind
 ·rw[n4 (by simp;omega),n4 hc];unfold bw;by_cases h2:2*i+2<m
  ·have o:ae (((2*i+2:Nat):Int)<(m:Int))=true:=by simp;omega
   simp only[o,lG,oS,zc9 (show 2*i+2<(ak g) by omega) (show 2*i+1<(ak g) by omega),tb,lq];cases hb:wn (g.getD (2*i+2) af) (g.getD (2*i+1) af)with
   |true =>
    simp only[h2,j5,oS,zc9 (show 2*i+2<(ak g) by omega) (show i<(ak g) by omega),tb,zcc (show i<(ak g) by omega) (show 2*i+2<(ak g) by omega)];rw[ze (by rw[zfh];exact k)]
    grind
   |false =>
    simp only[h2,and_false,s5,mb,zc9 (show 2*i+1<(ak g) by omega) (show i<(ak g) by omega),tb,zcc (show i<(ak g) by omega) (show 2*i+1<(ak g) by omega)];rw[ze (by rw[zfh];exact k)]
    grind
  ·have o:ae (((2*i+2:Nat):Int)<(m:Int))=false:=by simp;omega
   have p:¬(2*i+2<m/\wn (g.getD (2*i+2) af) (g.getD (2*i+1) af)=true):=by omega
   simp only[o,p,j3,s5,(show(false==true)=false from rfl),mb,tb,zc9 (show 2*i+1<(ak g) by omega) (show i<(ak g) by omega),zcc (show i<(ak g) by omega) (show 2*i+1<(ak g) by omega)];rw[ze (by rw[zfh];exact k)]
   grind
theorem zns{m:Nat}(D:ak g=s2.2.length)(E:s2.2.length=m+1)(I:m<=8388600)(H:Hdn g m 0) :
  ∃r,ya (znt s2 ((m+1:Nat):Int)) ((0:Int),g)=aa (.inr r)/\r.2.Perm g/\Hp r.2 m/\r.2.getD m af=g.getD m af:=by
 refine qb (f:=znt s2 ((m+1:Nat):Int)) (λs=>∃i:Nat,s.1=(i:Int)/\i<=m/\s.2.Perm g/\Hdn s.2 m i/\s.2.getD m af=g.getD m af) (λs=>s.2.Perm g/\Hp s.2 m/\s.2.getD m af=g.getD m af) (λs=>m-s.1.toNat) ?_ _ _ rfl ⟨0,rfl,lV _,.refl _,H,rfl⟩
 rintro⟨q,u⟩ ⟨i,rfl,hi,p,H,k⟩
 dsimp only at p H k ⊢;have G:ak u=m+1:=by rw[p.length_eq,D,E]
 rw[zlj (p.length_eq.trans D) E I hi];by_cases hc:m<=2*i+1
 ·left;exact⟨((i:Int),u),by simp_all,p,znv H λc z w C=>by omega,k⟩
 ·rw[n4 hc];have y:bw u m i<m/\0<bw u m i/\(bw u m i-1) / 2=i/\i<bw u m i:=by
   unfold bw;split<;>omega
  have o:∀c,c<m->0<c->(c-1) / 2=i->wn (u.getD c af) (u.getD (bw u m i) af)=false:=by
   intro c z w C;have:c=2*i+1 \/ c=2*i+2:=by omega
   unfold bw;split
   ·rename_i hh;rcases this with rfl|rfl
    ·exact zcu hh.2
    ·exact zf9 _
   ·rename_i hh;rcases this with rfl|rfl
    ·exact zf9 _
    ·simp_all
  cases hb:wn (u.getD (bw u m i) af) (u.getD i af)with
  |true =>
   right;refine⟨(((bw u m i:Nat):Int),swp u i (bw u m i)),by rfl,⟨bw u m i,rfl,by omega,(zfg (by omega) (by omega)).trans p,zrZ (by omega) y.1 y.2.1 y.2.2.1 hb o H,?_⟩,by omega⟩;rw[zjk (by omega) (by omega),n4 (by omega),n4 (by omega)];omega
  |false =>
   left;refine⟨((i:Int),u),by rfl,p,znv H λc z w C=>zkl hb (o c z w C),k⟩
theorem zo7{x:GK}(h:x∈g):∃c,c<(ak g)/\x=g.getD c af:=by
 obtain⟨c,k,rfl⟩:=je h;exact⟨c,k,by simp_all⟩
theorem zlM{m:Nat}(h:ak g=m+1):g=g.take m++[g.getD m af]:=by
 have e:g.getD m af=g[m]:=by simp_all
 rw[e];have:=kW m g;rw[iu (by omega),lW (by omega)]at this
 simp_all
theorem zhq(g:List GK){m c:Nat}(h:c<m):(g.take m).getD c af=g.getD c af:=by
 simp_all
theorem zkf(g:List GK)(x:GK){c:Nat}(h:c<(ak g)):(g++[x]).getD c af=g.getD c af:=by
 grind
theorem zmm{out:List GJ}{m:Nat}(y:ak g=m+1)(I:m<=8388600)(O:ak out<=8388600)(H:Hp g (m+1)) :
  ∃g',zqT (out,g)=aa (.gV (out++[(g.getD 0 af).e],g'))/\(ak g')=m/\Hp g' m/\(g'++[g.getD 0 af]).Perm g:=by
 have o:=zfh g 0 m;have r:=zjk (h:=g) (i:=0) (j:=m) (by omega) (by omega);have hd:Hdn (swp g 0 m) m 0:=⟨λc C z J=>by
  rw[r,r,n4 (by omega),n4 (by omega),n4 (by omega),n4 J];exact H c (by omega) z,λc _ _ _ h=>by omega⟩
 obtain⟨p,M,E,N,P⟩:=zns (s2:=(out,g)) (g:=swp g 0 m) (m:=m) o y I hd;have k:p.2.getD m af=g.getD 0 af:=by grind
 have s:p.2.length=m+1:=by rw[E.length_eq,o,y]
 have G:ai .i64 (((m+1:Nat):Int)-1)=(m:Int):=by rw[vj (by omega)];omega
 have w:=zcc (g:=g) (i:=0) (j:=m) (by omega) (by omega);simp only[o5,io,gl]at w;refine⟨p.2.take m,?_,by simp_all,λc C z=>by rw[zhq _ C,zhq _ (by omega)];exact N c C z,?_⟩
 ·unfold zqT;simp only[tb,y,G];rw[nK (lJ (by omega))];simp only[gl,o5,w,tb];rw[ze (by rw[o,y]),M,yw,tb,ze s];dsimp only;have D:fP p.2 (0:Int) (m:Int)=aa (p.2.take m):=by
   unfold fP
   grind
  rw[znQ (by omega),tb,D,tb,tb,tb];dsimp only;rw[ze (by simp[lim];omega),k]
 ·rw[<- k,<- zlM s];exact E.trans (zfg (by omega) (by omega))
theorem zox{E:List GK}(I:ak E<=8388600){h:List GK}(J:h.Perm E)(H:Hp h (ak h)) :
  ∃P:List GK,(∃u,ya zqT (([]:List GJ),h)=aa (.inr (P.map (·.e),u)))/\P.Perm E/\P.Pairwise λa b=>wn b a=false:=by
 have step:∀s:List GJ×List GK,(∃P:List GK,s.1=P.map (·.e)/\(P++s.2).Perm E/\Hp s.2 s.2.length/\P.Pairwise (λa b=>wn b a=false)/\∀a∈P,∀b∈s.2,wn b a=false) ->
   (∃k,zqT s=aa (.brk k)/\∃(P:List GK)(u:List GK),k=(P.map (·.e),u)/\P.Perm E/\P.Pairwise λa b=>wn b a=false) \/
   ∃k,zqT s=aa (.gV k)/\(∃P:List GK,k.1=P.map (·.e)/\(P++k.2).Perm E/\Hp k.2 k.2.length/\P.Pairwise (λa b=>wn b a=false)/\∀a∈P,∀b∈k.2,wn b a=false)/\k.2.length<s.2.length:=by
  rintro⟨out,g⟩ ⟨P,rfl,z,o,G,D⟩
  dsimp only at z o D ⊢;have p:=z.length_eq;rw[oA]at p;cases hg:(ak g)with
  |zero =>
   left;have:g=[]:=lA hg;subst this;exact⟨_,rfl,P,[],rfl,by simp_all,G⟩
  |succ m =>
   right;rw[hg]at o;obtain⟨g',k1,k2,k3,C⟩:=zmm (out:=P.map (·.e)) hg (by omega) (by simp;omega) o;have w:∀b∈g',b∈g:=λb y=>C.mem_iff.1 (by simp[y]);have h0:g.getD 0 af∈g:=C.mem_iff.1 (by simp);refine⟨_,k1,⟨P++[g.getD 0 af],by simp,?_,by simp_all,?_,?_⟩,by simp_all⟩
   ·grind
   ·grind
   ·intro a r b y;rcases ma.1 r with r|r
    ·simp_all
    ·rw[la]at r;subst r;obtain⟨c,M,rfl⟩:=zo7 (w b y);exact zrF o c (by omega)
 obtain⟨k,e,P,u,rfl,z,o⟩:=qb (f:=zqT) _ _ (λs=>s.2.length) step _ (([]:List GJ),h) rfl ⟨[],rfl,by grind,H,by simp,by simp⟩
 grind

def o6:Nat->List GJ->List GK
 |_,[]=>[]
 |n,e::r=>⟨e,(n:Int)⟩::o6 (n+1) r
theorem zeJ:∀(n:Nat)(l:List GJ),(o6 n l).map (·.e)=l
 |_,[]=>rfl
 |n,e::r=>by simp only[o6,m4,zeJ (n+1) r]
theorem zpj(n:Nat)(l:List GJ):ak (o6 n l)=ak l:=by
 have:=congrArg List.length (zeJ n l)
 simp_all
theorem znn:∀(n:Nat)(l:List GJ) (x:GK),x∈o6 n l->(n:Int)<=x.aF
 |_,[],x,h=>by simp[o6]at h
 |n,e::r,x,h=>by
  rcases lx.1 h with rfl|h
  ·simp_all
  ·have:=znn (n+1) r x h;omega
theorem znm:∀(n:Nat)(l:List GJ),(o6 n l).Pairwise λa b=>a.aF<b.aF
 |_,[]=>by simp[o6]
 |n,e::r=>by
  simp only[o6,ld];exact⟨λx k=>by have:=znn (n+1) r x k;show(n:Int)<_;omega,znm (n+1) r⟩
theorem zt7(k:ak e.op.path<=lim)(o:ak e.op.gZ<=lim):nM e=aa e:=by
 unfold nM;rw[zam k,wV o];rfl
theorem zkY(E:ak g<=8388600)(z:ak e.op.path<=lim)(w:ak e.op.gZ<=lim)(H:Hp g (ak g)) :
  ∃g',zow n e g=aa (.gV g')/\g'.Perm (g++[⟨e,(n:Int)⟩])/\Hp g' (ak g'):=by
 have o:ak (g++[(⟨e,(n:Int)⟩:GK)])=ak g+1:=by simp
 have k:Hup (g++[(⟨e,(n:Int)⟩:GK)]) (ak (g++[(⟨e,(n:Int)⟩:GK)])) (ak g):=by
  rw[o];exact⟨λc y p C=>by rw[zkf g _ (by omega),zkf g _ (by omega)];exact H c (by omega) p,λc y p C D=>by omega⟩
 obtain⟨s,k1,k2,k3⟩:=zqx (v:=g++[⟨e,(n:Int)⟩]) rfl (by omega) (j:=ak g) (by omega) k;have r:ai .i64 (((ak g+1:Nat):Int)-1)=(ak g:Int):=by rw[vj (by omega)];omega
 refine⟨s.2,?_,k2,by rw[k2.length_eq];exact k3⟩;unfold zow;simp only[zt7 z w,tb];rw[ze (by simp[lim];omega),tb,o,r,k1,yw,tb,ze (by rw[k2.length_eq,o]),tb]
theorem zgT:∀(r:List GJ)(g:List GK),(∀e∈r,ak e.op.path<=lim/\(ak e.op.gZ)<=lim)->ak g+ak r<=8388600->Hp g (ak g) ->
  ∃h,zf zow r (ak g) g=aa (.inr h)/\h.Perm (g++o6 (ak g) r)/\Hp h (ak h)
 |[],g,_,_,H=>⟨g,rfl,by simp[o6],H⟩
 |e::r,g,he,hl,H=>by
  simp only[nr]at hl;obtain⟨g',k1,k2,k3⟩:=zkY (n:=ak g) (by omega) (he e (by simp)).1 (he e (by simp)).2 H;have k:ak g'=ak g+1:=by rw[k2.length_eq];simp
  obtain⟨h,w,p,o⟩:=zgT r g' (λx s=>he x (by simp[s])) (by omega) k3;refine⟨h,?_,?_,o⟩
  ·simp only[zf,k1]
   simp_all
  ·refine p.trans ?_;rw[k];simp only[o6]
   grind
theorem zhs{l:List GJ}(o:ak l<=8388600)(he:∀e∈l,ak e.op.path<=lim/\(ak e.op.gZ)<=lim) :
  ∃P:List GK,uJ l=aa (P.map (·.e))/\P.Perm (o6 0 l)/\P.Pairwise λa b=>wn b a=false:=by
 obtain⟨h,y,z,s⟩:=zgT l [] he (by simp_all) (λc r w=>by simp at r);obtain⟨P,⟨u,e⟩,k,p⟩:=zox (E:=o6 0 l) (by rw[zpj];exact o) (h:=h) (by simp_all) s;refine⟨P,?_,k,p⟩;rw[zoD]
 simp_all
theorem zoE{l:List GJ}{P M:List GK}(k:P.Perm (o6 0 l))(z:M.Perm (o6 0 l))(w:P.Pairwise λa b=>wn b a=false)(C:M.Pairwise λa b=>wn b a=false):P=M:=by
 refine pM (cf:=λa b=>if wn a b=true then -1 else 1) (k.trans z.symm) (w.imp λ{a b} h=>by simp[h]) (C.imp λ{a b} h=>by simp[h]) λx y p o s r=>?_;have s:wn x y=false:=by
  grind
 have r:wn y x=false:=by
  grind
 obtain⟨_,_,q⟩:=zno s r;have p:=k.mem_iff.1 p;have o:=k.mem_iff.1 o;obtain⟨i,hi,rfl⟩:=je p;obtain⟨j,E,rfl⟩:=je o;have D:=lF.1 (znm 0 l)
 grind
theorem zjU(m:List (GA×Int))(k d:GA)(v:Int):zG GA.fh 0 (uN GA.fh m k v) d=if d=k then v else zG GA.fh 0 m d:=by
 induction m with
 |nil=>simp only[uN,zG,zbx,so]
 |cons e r ih =>
  simp only[uN,zbx];by_cases h:k=e.1
  ·subst h;by_cases h2:d=e.1<;>simp[zG,zbx,h2]
  ·by_cases h2:d=e.1
   ·subst h2;simp[zG,zbx,h,Ne.symm h]
   ·simp[zG,zbx,h,h2,ih]
theorem zhF(h:ak A+ak B<=16777216):qA [A,B]=aa (A++B):=by
 have o:ai .i64 (0+(ak A:Int))=(ak A:Int):=by rw[vj (by omega)];omega
 have s:ai .i64 ((ak A:Int)+(ak B:Int))=((ak A+ak B:Nat):Int):=by rw[vj (by omega)];omega
 have r:uQ [] ((ak A+ak B:Nat):Int)=aa []:=by
  unfold uQ;have k:ai .i64 ((0:Int)-((0:Nat):Int))=0:=rfl;have p:ai .i64 (((ak A+ak B:Nat):Int)-0)=((ak A+ak B:Nat):Int):=by simp_all
  rw[k,p,n4 (by simp;omega)];by_cases h0:ak A+ak B=0
  ·simp_all
  ·rw[nK (by simp;omega),ze (by simp[lim];omega)];rfl
 unfold qA;simp only[zf,o];rw[n4 (by simp)];simp only[s];rw[n4 (by simp;omega)];simp only[yw,r,tb];rw[ze (by simp[lim];omega)];simp only[ll];rw[ze (by simp[lim];omega)];rfl
theorem zgi{A B:List GF}(h:ak A+ak B<=16777216):wX [A,B]=aa (A++B):=by
 have o:ai .i64 (0+(ak A:Int))=(ak A:Int):=by rw[vj (by omega)];omega
 have s:ai .i64 ((ak A:Int)+(ak B:Int))=((ak A+ak B:Nat):Int):=by rw[vj (by omega)];omega
 have r:uc [] ((ak A+ak B:Nat):Int)=aa []:=by
  unfold uc;have k:ai .i64 ((0:Int)-((0:Nat):Int))=0:=rfl;have p:ai .i64 (((ak A+ak B:Nat):Int)-0)=((ak A+ak B:Nat):Int):=by simp_all
  rw[k,p,n4 (by simp;omega)];by_cases h0:ak A+ak B=0
  ·simp_all
  ·rw[nK (by simp;omega),ze (by simp[lim];omega)];rfl
 unfold wX;simp only[zf,o];rw[n4 (by simp)];simp only[s];rw[n4 (by simp;omega)];simp only[yw,r,tb];rw[ze (by simp[lim];omega)];simp only[ll];rw[ze (by simp[lim];omega)];rfl
def sE(T:List GA):List GF->List GF->List GF
 |_,[]=>[]
 |pre,x::r=>(if x.z6∈pre.map (·.z6) \/ x.z6∈T then []else [x])++sE T (pre++[x]) r
theorem zeF(T:List GA):∀(A B pre:List GF),sE T pre (A++B)=sE T pre A++sE T (pre++A) B
 |[],B,pre=>by simp[sE]
 |x::A,B,pre=>by
  simp only[kc,sE,zeF T A B (pre++[x]),lf,ll]
theorem zeE(T:List GA):∀(A pre:List GF),(∀x∈A,x.z6∉pre.map (·.z6)/\x.z6∉T)->(A.map (·.z6)).Nodup->sE T pre A=A
 |[],_,_,_=>rfl
 |x::A,pre,h,hn=>by
  have o:=h x (by simp);simp only[m4,jm]at hn;simp only[sE];rw[n4 (by simp only[not_or];exact o),zeE T A (pre++[x]) (λy k=>⟨by
   have:=(h y (by simp[k])).1;simp only[lZ,m4,l9,ma,la,not_or];refine⟨this,λe=>hn.1 ?_⟩;rw[<- e];exact hM k,(h y (by simp[k])).2⟩) hn.2]
  rfl
theorem zeD(T:List GA):∀(B pre:List GF),(∀x∈B,x.z6∈pre.map (·.z6))->sE T pre B=[]
 |[],_,_=>rfl
 |x::B,pre,h=>by
  simp only[sE];rw[nK (.inl (h x (by simp))),zeD T B (pre++[x]) (λy k=>by
   have:=h y (by simp[k]);simp only[lZ,ma];exact .inl this)]
  rfl
noncomputable def znL(v1:List GF)(tombs2:List GA):Nat->Nat->List (GA×Int)×List GF->Option (Out (List GF) (List (GA×Int)×List GF)):=(λ(n1:Nat)(_:Nat) (s1:List (GA×Int)×(List GF))=>(((zR v1 (n1:Int)).bind λy17=>((((if(((zG GA.fh (0:Int) (uN GA.fh s1.1 y17.z6 (ai .i64 ((zG GA.fh (0:Int) s1.1 y17.z6)+(1:Int)))) y17.z6)==(1:Int))==true)=true then xq tombs2 y17.z6 else aa af).bind λv22=>(if(((zG GA.fh (0:Int) (uN GA.fh s1.1 y17.z6 (ai .i64 ((zG GA.fh (0:Int) s1.1 y17.z6)+(1:Int)))) y17.z6)==(1:Int))&&(!v22))=true then(zN (ak (s1.2)+ak (([y17]:List GF))<=lim) (aa ((uN GA.fh s1.1 y17.z6 (ai .i64 ((zG GA.fh (0:Int) s1.1 y17.z6)+(1:Int)))),(s1.2++([y17]:List GF)))))else aa ((uN GA.fh s1.1 y17.z6 (ai .i64 ((zG GA.fh (0:Int) s1.1 y17.z6)+(1:Int)))),s1.2))):Option (List (GA×Int)×(List GF))).bind λv18=>aa (.gV (v18.1,v18.2)))):Option (Out _ (List (GA×Int)×(List GF)))))
theorem zr8(a0 p:List GF)(k:List GA):pC a0 p k=((wX ([a0,p]:List (List GF))).bind λo=>(zN (((ak (o):Nat):Int)<=9223372036854775807) (lp (zf (znL o k) (List.range ((((ak (o):Nat):Int)).toNat)) 0 (([]:List (GA×Int)),([]:List GF))) λ(r:List (GA×Int)×(List GF))=>((qT (λx y=>tR x y) r.2).bind λv25=>aa v25)))):=rfl
theorem zhJ{V:List GF}{T:List GA}(s:ak V<=16777216):∀(R:List Nat)(pre rest:List GF) (m:List (GA×Int)) (acc:List GF),V=pre++rest->ak R=ak rest->(∀d,zG GA.fh 0 m d=(((pre.map (·.z6)).count d:Nat):Int))->ak acc<=(ak pre) ->
  ∃m',zf (znL V T) R (ak pre) (m,acc)=aa (.inr (m',acc++sE T pre rest))
 |[],pre,rest,m,acc,h,hr,_,_=>by
  have:rest=[]:=lA hr.symm;subst this;exact⟨m,by simp[zf,sE]⟩
 |z::R,pre,[],m,acc,h,hr,_,_=>by simp at hr
 |z::R,pre,x::rest,m,acc,h,hr,hm,ha=>by
  simp only[nr]at hr;have w:ak V=ak pre+(ak rest+1):=by rw[h];simp
  have hi:zR V (ak pre:Int)=aa x:=by
   rw[aT (by omega)]
   simp_all
  have C:(pre.map (·.z6)).count x.z6<=ak pre:=by
   have:=List.count_le_length (a:=x.z6) (l:=pre.map (·.z6))
   simp_all
  have r:ai .i64 ((((pre.map (·.z6)).count x.z6:Nat):Int)+1)=(((pre.map (·.z6)).count x.z6+1:Nat):Int):=xZ (by omega);have k:∀d,zG GA.fh 0 (uN GA.fh m x.z6 (((pre.map (·.z6)).count x.z6+1:Nat):Int)) d=((((pre++[x]).map (·.z6)).count d:Nat):Int):=λd=>by
   rw[zjU]
   grind
  have o:ak (pre++[x])=ak pre+1:=by simp
  have step:znL V T (ak pre) z (m,acc)=aa (.gV (uN GA.fh m x.z6 (((pre.map (·.z6)).count x.z6+1:Nat):Int),acc++(if x.z6∈pre.map (·.z6) \/ x.z6∈T then []else [x]))):=by
   unfold znL;simp only[hi,tb,hm,r,zjU,oS];by_cases h0:x.z6∈pre.map (·.z6)
   ·grind
   ·have:(pre.map (·.z6)).count x.z6=0:=List.count_eq_zero.2 h0;rw[this];have he:(((0+1:Nat):Int)==(1:Int))=true:=rfl;rw[he,lG,nK rfl,ot,tb,lq];by_cases hT:x.z6∈T
    ·grind
    ·have:(T.any λy=>ae (y=x.z6))=false:=by
      grind
     rw[this,nK (by simp),ze (by simp[lim];omega),n4 (by simp_all)];simp
  obtain⟨m',p⟩:=zhJ s R (pre++[x]) rest _ (acc++(if x.z6∈pre.map (·.z6) \/ x.z6∈T then []else [x])) (by rw[h];simp) (by omega) k (by grind);refine⟨m',?_⟩;simp only[zf,step,sE];rw[o]at p;rw[p,lf]
theorem zwN{x y:GF}:tR x y=aa (if zQ x y=true then -1 else 1):=by
 unfold tR;rw[uF,tb];show(if zQ x y=true then aa (-1:Int)else aa 1)=_
 grind
theorem zhI{L:List GF}(D:ak L<=8388608)(z:L.Pairwise λa b=>zQ a b=true)(p:(L.map (·.z6)).Nodup)(s:∀x∈L,x.z6∉T):pC L L T=aa L:=by
 rw[zr8,zgi (by omega),tb,ze (by simp;omega)];obtain⟨m',e⟩:=zhJ (V:=L++L) (T:=T) (by simp;omega) (List.range (((ak (L++L):Nat):Int)).toNat) [] (L++L) [] [] rfl (by simp;omega) (λd=>rfl) (by simp);have w:sE T [] (L++L)=L:=by
  rw[zeF,zeE T L [] (λx k=>⟨by simp,s x k⟩) p,zeD T L ([]++L) (λx k=>hM k),ko]
 rw[w,ll]at e;have e:zf (znL (L++L) T) (List.range (((ak (L++L):Nat):Int)).toNat) 0 ([],[])=aa (.inr (m',L)):=e;rw[e,yw];dsimp only;have r:∀{x y:GF},x∈L->y∈L->x.z6=y.z6->x=y:=λ{x y} k o e=>by
  obtain⟨i,hi,rfl⟩:=je k;obtain⟨j,E,rfl⟩:=je o;have C:=lF.1 p
  grind
 rw[zcd (cf:=λx y=>if zQ x y=true then -1 else 1) (lt:=λx y=>zQ x y=true) (L:=L) (R:=L) (λx _ y _=>zwN) (λx y=>by grind) (λx h=>by rw[zm5]at h;cases h) (λ_ _ _=>zho) (λx k y o=>?_) (.refl _) z (by simp[lim];omega)]
 ·rfl
 ·by_cases e:x.z6=y.z6
  ·grind
  ·exact .inr (zm4 e)
theorem zr1(h:T.Pairwise λa b=>w6 a b=true):dd (srt (T++T))=T:=by
 refine vL (lt:=λa b=>w6 a b=true) (λa h=>by rw[wR]at h;cases h) (λ_ _ _=>up) _ _ (zdz (lt:=λa b=>w6 a b=true) (λa b h=>?_) (λ_ _ _=>up) _ (zlP _)) h λx=>?_
 ·rcases f7 a b with k|k|k
  ·simp_all
  ·simp_all
  ·simp_all
 ·rw[zhE,(zaH _).mem_iff];simp
theorem znc(h:w7 l=true)(J:GE.wf l)(hi:ak l.z8<=8388608)(C:ak l.y4<=8388608):uI l l l=aa (l,0):=by
 have w:sq l=aa true:=by rw[zbu (lg hi (by decide)) (lg C (by decide)),h]
 unfold uI;rw[w];simp only[tb,ly,lG,oS,kN,s5,mb,kI];have Q:=h;unfold w7 at h;split at h
 ·rename_i k;simp only[tx,so]at h;rw[k];have:uH l l l=aa l:=by
   unfold uH;have N:ai .i64 (l.n-l.n)=0:=by rw[Int.sub_self];rfl
   have I:ai .i64 (l.n+0)=l.n:=by
    rw[Int.add_zero,vj];obtain⟨_,y,_⟩:=J;exact⟨y.1,y.2⟩
   rw[N,I]
  rw[show zR ([0,1,2,3,4]:List Nat) (1:Int)=aa 1 from rfl,tb];show((uH l l l).bind _)=_
  simp_all
 split at h
 ·rename_i k o;rw[o];have:qO l l l=aa l:=by
   unfold qO;simp only[uF]
   grind
  rw[show zR ([0,1,2,3,4]:List Nat) (2:Int)=aa 2 from rfl,tb];show((qO l l l).bind _)=_
  simp_all
 split at h
 ·rename_i k o s;simp only[tx,so,tY,th,fG]at h;obtain⟨⟨⟨H,⟨D,z3⟩,z4⟩,⟨M,p⟩,r⟩,⟨O,z⟩,t3⟩:=h;rw[s];have hd:=zr1 (zaM z);have G:∀x∈l.z8,x.z6∉l.y4:=λx P w=>by
   grind
  have:nI l l l=aa l:=by
   unfold nI;rw[zhF (by omega),tb,zcE (by simp[lim];omega),tb,zeS (by rw[(zaH _).length_eq];simp;omega),tb,hd,zhI hi (zbf p) r G,tb];cases l
   simp_all[cT]
  rw[show zR ([0,1,2,3,4]:List Nat) (3:Int)=aa 3 from rfl,tb];show((nI l l l).bind _)=_
  simp_all
 split at h
 ·rename_i k o s E;simp only[tx,so,tY,fG]at h;obtain⟨⟨⟨H,⟨D,z3⟩,z4⟩,z5⟩,⟨M,p⟩,r⟩:=h;rw[E];have:nJ l l l=aa l:=by
   unfold nJ;rw[zhI hi (zbf p) r (λ_ _=>by simp),tb];cases l
   simp_all[cT]
  rw[show zR ([0,1,2,3,4]:List Nat) (4:Int)=aa 4 from rfl,tb];show((nJ l l l).bind _)=_
  simp_all
 ·cases h

noncomputable def zjj(l0 a1 b2:GC):List GE×Int->Option (Out (List GE) (List GE×Int)):=(λ(s1:(List GE)×Int)=>((if(ae (s1.2<=(4:Int)))=true then((wh l0 s1.2).bind λv20=>((wh a1 s1.2).bind λv21=>((wh b2 s1.2).bind λv22=>(if((v20.2 || v21.2) || v22.2)=true then((uI v20.1 v21.1 v22.1).bind λv24=>(zN (ak (s1.1)+ak (([v24.1]:List GE))<=lim) (aa (.gV ((s1.1++([v24.1]:List GE)),(ai .u8 (s1.2+(1:Int))))))))else aa (.gV (s1.1,(ai .u8 (s1.2+(1:Int)))))))))else aa (.brk (s1.1,s1.2))):Option (Out _ ((List GE)×Int))))
theorem zn9(p k o:GC):pG p k o=(lp (ya (zjj p k o) (([]:List GE),(1:Int))) λ(r:(List GE)×Int)=>aa r.1):=rfl
theorem ztJ(k:bj t=true)(o:ak t<=16777216):nc t []=aa (t.map (·.name)):=by
 unfold nc;rw[zj1];simp only[yw,zjn];rw[zgs (λx:GC=>x.name) _ 0 [] (by simp_all)];simp only[yw,ll];rw[zjo (by simp[lim];omega),zqE,tb];exact kz.2 ((t7 _).1 k)
theorem zk4(k:bj t=true)(p:ak t<=5592405):pH [t,t,t]=aa (t.map (·.name)):=by
 have o:(t.map (·.name)).Pairwise λa b=>Op.bytesLess a b=true:=kz.2 ((t7 _).1 k);unfold pH;simp only[zf,ztJ k (by omega),tb];rw[ze (by simp[lim];omega)];simp only[ll];rw[ze (by simp[lim];omega)];simp only[];rw[ze (by simp[lim];omega)];simp only[yw];rw[zjo (by simp[lim];omega),tb,ziZ (by rw[(zcC _).length_eq];simp;omega),tb,zoJ];congr 1;refine vL (lt:=λa b=>Op.bytesLess a b=true) (λa h=>by rw[um]at h;cases h) (λ_ _ _=>x8) _ _ (zc0 _ (by simp)) o λx=>?_;rw[zbo];simp
theorem zmx(h:bj t=true){x:GC}(p:x∈t):fx t x.name=aa x:=by
 have k:=lF.1 ((t7 t).1 h);cases e:fx t x.name with
 |none =>
  have:=js.1 e x p
  simp_all
 |some y =>
  have s:=jd e;have r:y.name=x.name:=by simpa using List.find?_some e
  obtain⟨i,hi,rfl⟩:=je p;obtain⟨j,o,rfl⟩:=je s;rcases jP i j with h|h|h
  ·have:=k i j hi o h;rw[r,um]at this;cases this
  ·simp_all
  ·have:=k j i o hi h;rw[r,um]at this;cases this
def pick(ls:List GE)(k:Int):List GE:=(ls.find? λl=>l.x4==k).toList
theorem zjW{ls:List GE}(h:ls.Pairwise λx y=>x.x4<y.x4){k:Int}{x:GE}:x∈pick ls k↔x∈ls/\x.x4=k:=by
 unfold pick;cases e:ls.find? λl=>l.x4==k with
 |none =>
  simp_all
 |some y =>
  have r:=jd e;have p:y.x4=k:=by grind
  simp only[Option.toList_some,la];exact⟨λh=>by simp_all,λo=>zlG h o.1 r (o.2.trans p.symm)⟩
theorem zqV(ls:List GE)(k:Int):(pick ls k).Pairwise λx y=>x.x4<y.x4:=by
 unfold pick
 simp_all
theorem zvk{ls:List GE}(h:ls.Pairwise λx y=>x.x4<y.x4)(p:∀l∈ls,1<=l.x4/\l.x4<=4):pick ls 1++pick ls 2++pick ls 3++pick ls 4=ls:=by
 refine vL (lt:=λx y:GE=>x.x4<y.x4) (λa h=>by omega) (λa b c r o=>by omega) _ _ ?_ h λx=>?_
 ·have m:=λk=>@zjW ls h k;simp only[kg,zqV,iY,ma,m]
  grind
 ·simp only[ma,zjW h]
  grind
theorem zrt(G:∀l∈x.leaves,fv l){k:Int}(z:1<=k/\k<=4):wh x k=aa (match x.leaves.find? (λl=>l.x4==k)with|some l=>(l,true)|none=>(qC k,false)):=by
 have r:=zfd [x.name] 0 [x] (ae ((ak ([x.name]:List zp):Int) > 0),([]:zp),([]:List GE),([]:List GC)) (by simp);have H:qa [x] [x.name]=aa x:=by simp[qa,fx]
 rw[H]at r;simp only at r;unfold wh;rw[zqB,r];simp only[yw];unfold tlR yp;rcases dp (q:=λy:GE=>y.x4==k) (del:=λD=>sS D k) x.leaves 0 (λx _=>rfl)with⟨w,C⟩|⟨A,y,B,o,C,I,w⟩
 ·have:x.leaves.find? (λl=>l.x4==k)=none:=js.2 λy s=>by rw[C y s];simp
  rw[this];simp only[w,yw,tb,zbt z];simp
 ·have s:y∈x.leaves:=by rw[o];simp
  have E:x.leaves.find? (λl=>l.x4==k)=aa y:=by
   grind
  rw[E];have p:=G y s;have c1:((!true) || (ae (((ak A:Nat):Int)<(0:Int))))=false:=by simp
  have J:y.x4=k:=by simp_all
  simp only[w,lp,tb,l8,c1,lG,oS,zbt z,lM];rw[n4 (by simp[qC];omega),o,zu (x:=y) (by simp),tb,uL (yO (jO p.z8)),tb,wV (yO (jO p.y4)),tb];rfl
theorem mc(w:∀l∈x.leaves,fv l)(p:∀l∈x.leaves,uI l l l=aa (l,0)){k k':Int}(r:1<=k/\k<=4)(s:k+1=k'){acc:List GE}(y:ak acc<=10):zjj x x x (acc,k)=aa (.gV (acc++pick x.leaves k,k')):=by
 have o:ai .u8 (k+1)=k':=by
  rw[IntKind.wrap_u8];omega
 unfold zjj pick;simp only[zrt w r,o];rw[nK (by simp;omega)];cases e:x.leaves.find? (λl=>l.x4==k)with
 |none=>simp
 |some l =>
  simp only[tb,kN,oS,p l (jd e)];rw[ze (by simp[lim];omega)];rfl
theorem zfy(ls:List GE)(k:Int):ak (pick ls k)<=1:=by
 unfold pick
 simp_all
theorem zkJ(r:∀l∈x.leaves,fv l)(p:∀l∈x.leaves,uI l l l=aa (l,0))(y:x.leaves.Pairwise λa b=>a.x4<b.x4)(D:∀l∈x.leaves,1<=l.x4/\l.x4<=4):pG x x x=aa x.leaves:=by
 have z:=zfy x.leaves 1;have C:=zfy x.leaves 2;have G:=zfy x.leaves 3;have o:=zvk y D;have E:∀A,zjj x x x (A,5)=aa (.brk (A,5)):=λA=>rfl;generalize h1:pick x.leaves 1=P1 at z o;generalize h2:pick x.leaves 2=P2 at C o;generalize h3:pick x.leaves 3=P3 at G o;generalize h4:pick x.leaves 4=P4 at o;have w:=mc r p (k:=1) (k':=2) (by omega) (by omega) (acc:=[]) (by simp);have s2:=mc r p (k:=2) (k':=3) (by omega) (by omega) (acc:=[]++P1) (by simp;omega);have s:=mc r p (k:=3) (k':=4) (by omega) (by omega) (acc:=[]++P1++P2) (by simp;omega);have s4:=mc r p (k:=4) (k':=5) (by omega) (by omega) (acc:=[]++P1++P2++P3) (by simp;omega);rw[h1]at w;rw[h2]at s2;rw[h3]at s;rw[h4]at s4;rw[zn9,yK,w];simp only[];rw[yK,s2];simp only[];rw[yK,s];simp only[];rw[yK,s4];simp only[];rw[yK,E]
 simp_all
theorem zem{ρ:Type}{f:Nat->zp->List GC->Option (Out ρ (List GC))}:∀(t:List GC)(i:Nat) (s:List GC),ak s+ak t<=lim->(∀x∈t,∀(i:Nat)(s:List GC),ak s+1<=lim->f i x.name s=aa (.gV (s++[x])))->zf f (t.map (·.name)) i s=aa (.inr (s++t))
 |[],i,s,_,_=>by simp[zf]
 |x::t,i,s,hl,h=>by
  simp only[nr]at hl;simp only[m4,zf,h x (by simp) i s (by omega)];rw[zem t (i+1) (s++[x]) (by simp;omega) λy k=>h y (by simp[k])];simp
theorem zbU:∀(n:Nat)(t:List GC) (d:Nat),GC.fB t<n->Small t->GC.e6 t<=5592405->gX d t=true->wO n t t t=aa t
 |0,_,_,h,_,_,_=>by omega
 |n+1,t,d,h,hs,hb,ht=>by
  obtain⟨r,C⟩:=zP ht;have k:ak t<=5592405:=lg (ziz t) hb;unfold wO;rw[zk4 r k,tb,zem t 0 [] (by simp[lim];omega)]
  ·simp
  ·intro x o i s M;have D:=C x o;rw[rQ]at D;simp only[tx]at D;obtain⟨⟨⟨_,_⟩,y⟩,E⟩:=D;have H:=te o;have I:=w9 x;have J:=zhK o;have R:=zbE x;obtain⟨p,w⟩:=tO E;have Q:((x.leaves.map GE.bk).sum)<=GC.e6 t:=by omega
   have G:∀l∈x.leaves,l.bk<=5592405:=λl k=>by
    have:=zfi (f:=GE.bk) k;omega
   have N:∀l∈x.leaves,fv l:=λl k=>hs.leaf o k;have z:∀l∈x.leaves,GE.wf l:=λl k=>by
    have:=(GC.eM t).1 hs.1 x o;cases x;simp only[GC.wf]at this
    simp_all
   have P:∀l∈x.leaves,uI l l l=aa (l,0):=λl k=>by
    have V:=nD l;have U:=G l k;exact znc (w l k) (z l k) (by omega) (by omega)
   have O:∀l∈x.leaves,1<=l.x4/\l.x4<=4:=λl k=>by
    have:=w l k;unfold w7 at this
    grind
   rw[nB,zmx r o];simp only[tb];rw[zkJ N P p O,tb,zbU n x.wa (d+1) (by omega) (hs.wa o) (by omega) y,tb,ze (by omega)];cases x;rfl
theorem zel(hs:Small t)(p:GC.e6 t<=5592405)(k:gX 0 t=true):pr t t t=aa (t,0):=by
 have o:uZ t=aa true:=by rw[pI hs,k]
 unfold pr zan;rw[o];simp only[tb,ly,lG,oS,kN,s5,mb];rw[tf (GC.fB t+1) λn r=>zbU n t 0 (by omega) hs p k];rfl

noncomputable def zqp:Nat->GJ->List GC->Option (Out ((List GC)×Int) (List GC)):=(λ(n2:Nat)(x2:GJ) (s2:(List GC))=>(((fQ s2 x2).bind λv22=>(if(v22.2 != (0:Int))=true then aa (.ret (([]:List GC),v22.2))else aa (.gV v22.1))):Option (Out _ (List GC))))
theorem znd(t0:List GC)(k:List GJ):nN t0 k=((uZ t0).bind λs=>((if((!s)==false)=true then yZ k (λy=>rg y)else aa af).bind λz=>(if((!s) || z)=true then aa (([]:List GC),(2:Int))else(lp (zf (λ(C:Nat)(w:GJ) (o:List (GA×Int))=>(aa (.gV (uN GA.fh o w.z6 (ai .i64 ((zG GA.fh (0:Int) o w.z6)+(1:Int))))):Option (Out _ (List (GA×Int))))) k 0 ([]:List (GA×Int))) λ(o:List (GA×Int))=>(if(ae ((ak (o):Int)<(ak (k):Int)))=true then aa (([]:List GC),(8:Int))else((pr t0 t0 t0).bind λr=>((uJ k).bind λp=>(lp (zf zqp p 0 r.1) λ(s2:(List GC))=>aa (s2,(0:Int)))))))))):=rfl
theorem nT{f:GJ->Option Bool}{q:GJ->Bool}(p:List GJ)(k:∀x∈p,f x=aa (q x)):yZ p f=aa (p.any q):=by
 unfold yZ vt;rw[rh p k,tb,ri]
structure ee(k:Nat)(t:List GC):Prop where
 small:Small t
 tree:gX 0 t=true
 ws:wS 0 (zk [] t)<=300000+200000*k
 leaf:∀r∈zk [] t,r.leaf.bk<=150000+1000*k
theorem ee.dq{k:Nat}(h:ee k t)(p:k<=40):eU t:=⟨h.small,h.tree,by have:=h.ws;omega,λr o=>by have:=h.leaf r o;omega⟩
theorem zxi{k x:Nat}(h:x<=150000+1000*k):x<=150000+1000*(k+1):=by omega
theorem zun{k x:Nat}(h:x<=150000+1000*k):x+1000<=150000+1000*(k+1):=by omega
theorem zuo{k:Nat}(h:k<40):300000+200000*(k+1)<=16777216:=by omega
theorem zxh{k w b p:Nat}(r:k<40)(h:w<=300000+200000*k)(s:b<=150000+1000*(k+1))(o:p<=3):w+(b+17*(p-0)+0)<=300000+200000*(k+1):=by omega
theorem zkz{k:Nat}(h:ee k t)(I:k<40)(he:yz e=true)(O:GJ.wf e):∃u,fQ t e=aa (u,0)/\sZ t e=aa (u,0)/\ee (k+1) u:=by
 have z:=h.dq (by omega);have d:=zrV he;obtain⟨Y,R,p3⟩:=vD d.path;obtain⟨u,l,b,U,Q,Z,J,V,h6,_,h8,h9⟩:=zgr z he O;obtain⟨l',b',C,_,g3,g4,g5,P,_,X⟩:=pA z Y (zbb d.kind);rw[V]at C;simp only[p5,kG]at C;obtain⟨rfl,rfl⟩:=C;have G:l.bk<=150000+1000*k:=by
  rcases X with⟨_,o⟩|⟨_,o,_⟩
  ·exact h.leaf _ o
  ·subst o;simp only[qC,GE.bk,GA.bk,GH.bk,l9,List.sum_nil,lC];omega
 have E:l.bk+1000<=150000+1000*(k+1):=zun G;have D:=zhO (l:=l) he;have w:=nD l;have y:=zhN P he O (by omega) (by omega);have s:=h.ws;have N:=z.len;have p:∀r∈zk [] u,r∈zk [] t++[(⟨e.op.path,yx l e⟩:GM)]:=λr o=>by
  rcases(h9 r).1 o with o|o
  ·simp[o.1]
  ·simp[o]
 have H:wS 0 (zk [] t++[(⟨e.op.path,yx l e⟩:GM)])<=300000+200000*(k+1):=by
  rw[zcA];simp only[wS];exact zxh I s (lg D E) R
 obtain⟨q1,q2⟩:=zeb (M:=zk [] t++[(⟨e.op.path,yx l e⟩:GM)]) J (lg H (zuo I)) (by simp;omega) (λr o=>by
  rcases ma.1 o with o|o
  ·exact zif t [] h.small.1 r o
  ·rw[la]at o;subst o;exact y) p
 refine⟨u,U,Q,Z,J,lg q2 H,λr o=>?_⟩;rcases ma.1 (p r o)with o|o
 ·exact zxi (h.leaf r o)
 ·rw[la]at o
  grind
theorem zlX(l:List GJ):∃m:List (GA×Int),zf (λ(p:Nat)(k:GJ) (o:List (GA×Int))=>(aa (.gV (uN GA.fh o k.z6 (ai .i64 ((zG GA.fh (0:Int) o k.z6)+(1:Int))))):Option (Out ((List GC)×Int) (List (GA×Int))))) l 0 ([]:List (GA×Int))=aa (.inr m)/\(ak m)<=(ak l)/\(ak m=(ak l)↔(l.map (·.z6)).Nodup):=by
 refine⟨_,mt (λs x=>uN GA.fh s x.z6 (ai .i64 ((zG GA.fh 0 s x.z6)+1))) l 0 [] (λ_ _ _ _=>rfl),?_⟩;have h:=n8 (l.map λe=>(⟨0,e.z6,[]⟩:GF)) [] (by simp[sr]);simp only[lC,l8,sr,l9,ll,List.foldl_map,kY,oa]at h;exact h
theorem zmH(h:w7 l=true):l.bk<=100*lw l:=by
 have hi:∀L:List GF,(∀x∈L,ak x.text<=40)->(L.map GF.bk).sum<=48*(ak L):=by
  intro L
  induction L with
  |nil=>intro _;simp
  |cons x r ih =>
   intro h;have s:=h x (by simp);have k:=ih λy o=>h y (by simp[o]);simp only[m4,jQ,nr,GF.bk,GA.bk,GH.bk];omega
 have p:∀b,l.z8.all (qV b)=true->∀x∈l.z8,ak x.text<=40:=λb w x z=>by
  have:=oB.1 w x z;simp only[qV,tx,so]at this;omega
 have key:ak l.text<=40/\∀x∈l.z8,ak x.text<=40:=by
  unfold w7 at h;split at h
  ·simp only[tx,so,tY]at h
   simp_all
  split at h
  ·grind
  split at h
  ·simp only[tx,so,tY]at h
   simp_all
  split at h
  ·simp only[tx,so,tY]at h
   simp_all
  ·cases h
 have s:=hi _ key.2;have k:=zgd l.y4;have C:=key.1;simp only[GE.bk,GA.bk,GH.bk,lw]at k ⊢;omega
theorem ztQ:∀L:List GM,(∀r∈L,w7 r.leaf=true)->lS L<=100*(L.map λr=>lw r.leaf).sum/\(ak L)<=(L.map λr=>lw r.leaf).sum
 |[],_=>by simp[lS]
 |r::L,h=>by
  have s:=zmH (h r (by simp));obtain⟨o,w⟩:=ztQ L λx k=>h x (by simp[k]);have p:1<=lw r.leaf:=by unfold lw;omega
  simp only[lS,m4,jQ,nr];omega
theorem zpD{a b c:Nat}(p:a<=b+51*n)(k:b<=100*c)(r:n<=c)(o:c<=1500):a<=300000+200000*0:=by omega
theorem zpf(hs:Small t)(p:gX 0 t=true)(s:uh t=aa false):ee 0 t:=by
 have hd:=znx t 0 (by omega) (by unfold gX at p;simp only[tx]at p;exact p.2);obtain⟨v,e,G,_⟩:=zlU (GC.fB t+1) t 0 (by omega) hs (by omega) (by omega);have z:mh t 0=aa v:=tf (GC.fB t+1) λn I=>by
  rw[zcJ n (GC.fB t+1) t 0 (by omega) (by omega)];exact e
 unfold uh at s;rw[z,tb]at s;have w:¬v > 1500:=by simp_all
 have k:=zig t 0 [] hs p rfl rfl;obtain⟨y,D⟩:=ztQ (zk [] t) λr o=>(k r o).leaf;have E:(zk [] t).map (λr=>lw r.leaf)=(zk [] t).map λr=>lw r.leaf:=rfl;have C:((zk [] t).map λr=>lw r.leaf).sum<=1500:=by
  have:((zk [] t).map λr=>lw r.leaf).sum=cq t:=rfl;omega
 refine⟨hs,p,zpD (zsA (zk [] t) λr o=>(vD (k r o).path).2.1) y D C,λr o=>?_⟩;have H:=zmH (k r o).leaf;have J:lw r.leaf<=((zk [] t).map λr=>lw r.leaf).sum:=zfi (f:=λr:GM=>lw r.leaf) o;omega
theorem zpY{l:List GJ}(p:ak l<=8388600)(he:∀e∈l,ak e.op.path<=lim/\(ak e.op.gZ)<=lim){R:List GK}(w:R.Perm (o6 0 l))(r:R.Pairwise λa b=>wn b a=false):uJ l=aa (R.map (·.e)):=by
 obtain⟨P,o,s,k⟩:=zhs p he;rw[o,zoE s w k r]

theorem bp(a b:GH):GH.fh a b=ae (a=b):=by
 cases a;cases b;simp[GH.fh,Bool.decide_and]
 grind
theorem zxb(a b:GA):GA.fh a b=ae (a=b):=by
 obtain⟨⟨_,_⟩,_⟩:=a;obtain⟨⟨_,_⟩,_⟩:=b;simp[GA.fh]
 grind
section
variable{K W:Type}[DecidableEq K]{eq:K->K->Bool}(he:∀a b,eq a b=ae (a=b))
include he
theorem zg7(m:List (K×W))(k x:K)(v d:W):zG eq d (wM eq m k v) x=if x=k then v else zG eq d m x:=by
 induction m with
 |nil=>simp[wM,zG,he]
 |cons e r ih =>
  simp only[wM,zG,he]at ih ⊢;by_cases h:k=e.1<;>by_cases h2:x=e.1<;>simp_all[zG]
  grind
theorem zaV(m:List (K×W))(k:K)(v:W):(wM eq m k v).map (·.1)=if k∈m.map (·.1)then m.map (·.1)else m.map (·.1)++[k]:=by
 induction m with
 |nil=>simp[wM]
 |cons e r ih =>
  simp only[wM,he]at ih ⊢
  grind
theorem zrl(m:List (K×W))(k:K):vR eq m k=ae (k∈m.map (·.1)):=by
 induction m with
 |nil=>rfl
 |cons e r ih=>simp only[vR,he,ih,m4,lx,Bool.decide_or]
theorem zaT(d:W):∀(m:List (K×W)),(m.map (·.1)).Nodup->∀e∈m,zG eq d m e.1=e.2
 |[],_,_,h=>by cases h
 |p::r,hn,e,h=>by
  simp only[m4,jm]at hn;simp only[zG,he];rcases lx.1 h with rfl|h
  ·simp
  ·rw[n4 (by grind),zaT d r hn.2 e h]
theorem rS(d:W)(k:K):∀(m:List (K×W)),k∉m.map (·.1)->zG eq d m k=d
 |[],_=>rfl
 |p::r,h=>by
  simp only[m4,lx,not_or]at h;simp only[zG,he,h.1,jc,s5,mb,rS d k r h.2]
end
def zr:List GA->GH->Int
 |[],_=>0
 |d::r,a=>if fa d=true/\d.zi=a then max d.seq (zr r a)else zr r a
theorem xj:∀(v:List GA)(a:GH),0<=zr v a
 |[],_=>kp _
 |d::r,a=>by have:=xj r a;simp only[zr];split<;>omega
theorem vG(a:GH):∀(u v:List GA),zr (u++v) a=max (zr u a) (zr v a)
 |[],v=>by have:=xj v a;simp only[ll,zr];omega
 |d::r,v=>by have:=vG a r v;simp only[kc,zr];split<;>omega
theorem xL{a:GH}:∀{v:List GA},0<zr v a->∃d∈v,fa d=true/\d.zi=a/\d.seq=zr v a
 |[],h=>by simp[zr]at h
 |d::r,h=>by
  simp only[zr]at h ⊢;by_cases hd:fa d=true/\d.zi=a
  ·rw[nK hd]at h ⊢;by_cases hm:zr r a<=d.seq
   ·grind
   ·obtain⟨x,o,k⟩:=xL (v:=r) (a:=a) (by omega)
    grind
  ·rw[n4 hd]at h ⊢;obtain⟨x,o,k⟩:=xL h
   grind
theorem sD{a:GH}{d:GA}:∀{v:List GA},d∈v->fa d=true->d.zi=a->d.seq<=zr v a
 |x::r,h,h1,h2=>by
  simp only[zr];rcases lx.1 h with rfl|h
  ·grind
  ·have:=sD h h1 h2;split<;>omega
def aJ(f:GH->Int):Prop:=∀a,0<=f a/\(0<f a->fa ⟨a,f a⟩=true)
theorem rP(v:List GA):aJ (zr v):=λa=>⟨xj v a,λh=>by
 obtain⟨d,r,k,p,o⟩:=xL h;rw[<- o];subst p;exact k⟩
def dW(a b:GH):Prop:=a.fk<b.fk \/ a.fk=b.fk/\a.inc<b.inc
structure Can(L:List GA)(f:GH->Int):Prop where
 pw:L.Pairwise λa b=>dW a.zi b.zi
 mem:∀d,d∈L↔0<d.seq/\d.seq=f d.zi
theorem zbK(a:GH):¬dW a a:=by unfold dW;omega
theorem zkE{a b c:GH}(h:dW a b)(k:dW b c):dW a c:=by unfold dW at *;omega
theorem cI(a b:GH):a=b \/ dW a b \/ dW b a:=by
 obtain⟨r,i⟩:=a;obtain⟨s,j⟩:=b;simp only[dW,GH.mk.injEq];omega
theorem Can.eq{L M:List GA}(h:Can L f)(k:Can M f):L=M :=
 vL (lt:=λa b=>dW a.zi b.zi) (λa=>zbK _) (λ_ _ _=>zkE) L M h.pw k.pw λd=>by rw[h.mem,k.mem]
theorem Can.get{L:List GA}(h:Can L f)(k:aJ f)(a:GH):zr L a=f a:=by
 by_cases h0:0<f a
 ·have s:(⟨a,f a⟩:GA)∈L:=(h.mem _).2 ⟨h0,rfl⟩;have w:=sD s ((k a).2 h0) rfl;obtain⟨d,o,_,r,p⟩:=xL (v:=L) (a:=a) (by grind);have:=((h.mem d).1 o).2
  simp_all
 ·have w:=(k a).1;have o:=xj L a;by_cases r:0<zr L a
  ·obtain⟨d,p,_,z,y⟩:=xL r;have:=(h.mem d).1 p
   simp_all
  ·omega
theorem few:∀(L:List Nat)(lo n:Nat),L.Pairwise (· < ·)->(∀x∈L,lo<=x/\x<n)->ak L<=n-lo
 |[],_,_,_,_=>lV _
 |x::r,lo,n,hp,hb=>by
  have p:=hb x (by simp);have k:=ld.1 hp;have:=few r (x+1) n k.2 λy o=>⟨k.1 y o,(hb y (by simp[o])).2⟩
  grind
theorem Can.len{L:List GA}(h:Can L f)(p:aJ f)(y:∀d∈L,0<=d.zi.fk):ak L<=64:=by
 have o:∀d∈L,0<=d.zi.fk/\d.zi.fk<16/\1<=d.zi.inc/\d.zi.inc<=4:=λd hd=>by
  have z:=(h.mem d).1 hd;have w:=(p d.zi).2 (by omega);simp only[fa,zkD,tx,so]at w
  simp_all
 have:=few (L.map λd=>(d.zi.fk*4+d.zi.inc-1).toNat) 0 64 (by
  rw[kz];refine h.pw.imp_of_mem λ{a b} r k s=>?_;have:=o a r;have:=o b k;unfold dW at s;omega) λx C=>by
   grind
 simp_all

theorem zaW{α:Type}{lt:α->α->Prop}(tr:∀x y z,lt x y->lt y z->lt x z):∀(L:List α),L.Pairwise (λx y=>lt x y \/ lt y x)->∃R:List α,R.Perm L/\R.Pairwise lt
 |[],_=>⟨[],.refl _,.nil⟩
 |x::L,h=>by
  obtain⟨C,w⟩:=ld.1 h;obtain⟨R,r,hs⟩:=zaW tr L w;have ins:∀(R:List α),R.Pairwise lt->(∀y∈R,lt x y \/ lt y x)->∃Q:List α,Q.Perm (x::R)/\Q.Pairwise lt:=by
   intro R
   induction R with
   |nil=>exact λ_ _=>⟨[x],.refl _,by simp⟩
   |cons y R ih =>
    intro hs s;obtain⟨E,s2⟩:=ld.1 hs;rcases s y (by simp)with h|h
    ·refine⟨x::y::R,.refl _,ld.2 ⟨λz o=>?_,hs⟩⟩
     grind
    ·obtain⟨Q,k,p⟩:=ih s2 λz o=>s z (by simp[o]);refine⟨y::Q,(List.Perm.cons y k).trans (List.Perm.swap x y R),ld.2 ⟨λz o=>?_,p⟩⟩
     grind
  obtain⟨Q,k,p⟩:=ins R hs λy D=>C y (r.mem_iff.1 D);exact⟨Q,k.trans (List.Perm.cons x r),p⟩
theorem zjZ{α ρ σ:Type}{f:Nat->Nat->σ->Option (Out ρ σ)}{g:Nat->α->σ->Option (Out ρ σ)}{V:List α}(h:∀i x y s,V[i]?=aa x->f i y s=g i x s):∀(R:List Nat)(pre rest:List α) (s:σ),V=pre++rest->ak R=ak rest->zf f R (ak pre) s=zf g rest (ak pre) s
 |[],_,[],_,_,_=>rfl
 |y::R,pre,x::rest,s,hV,hR=>by
  have e:V[ak pre]?=aa x:=by rw[hV];simp
  simp only[zf,h _ _ y s e];rcases g (ak pre) x s with _|(r|k|k)<;>try rfl
  simpa using zjZ h R (pre++[x]) rest k (by simp[hV]) (by simp_all)
theorem zk7{f:Nat->Nat->σ->Option (Out ρ σ)}(g:Nat->α->σ->Option (Out ρ σ)){V:List α}(h:∀i x y s,V[i]?=aa x->f i y s=g i x s)(s:σ):zf f (List.range (((ak V:Nat):Int)).toNat) 0 s=zf g V 0 s :=
 zjZ h _ [] V s rfl (by simp)
structure eV(m:List (GH×Int))(f:GH->Int):Prop where
 nd:(m.map (·.1)).Nodup
 get:∀a,zG GH.fh 0 m a=f a
theorem zav:∀(v:List GA)(i:Nat) (s:List (GH×Int)) (g:GH->Int),eV s g->(∀a,0<=g a) ->
  ∃o,zf (λ(H:Nat)(p:GA) (w:List (GH×Int))=>(((om p).bind λD=>(if D=true then aa (.gV (wM GH.fh w p.zi (if p.seq > (zG GH.fh (0:Int) w p.zi)then p.seq else(zG GH.fh (0:Int) w p.zi))))else aa (.gV w))):Option (Out (List (GH×Int)) (List (GH×Int))))) v i s=aa (.inr o) /\
   eV o (λa=>max (g a) (zr v a))/\(ak o)<=ak s+(ak v)
 |[],i,s,g,h,hg=>⟨s,rfl,⟨h.nd,λa=>by have:=hg a;simp only[zr,h.get];omega⟩,nv _ _⟩
 |x::r,i,s,g,h,hg=>by
  simp only[zf,rq,tb];cases hb:fa x with
  |false =>
   simp only[s5,mb];obtain⟨o,e,k,l⟩:=zav r (i+1) s g h hg;exact⟨o,e,⟨k.nd,λa=>by rw[k.get];simp[zr,hb]⟩,by simp;omega⟩
  |true =>
   simp only[oS];have z:eV (wM GH.fh s x.zi (if x.seq > zG GH.fh 0 s x.zi then x.seq else zG GH.fh 0 s x.zi)) (λa=>if a=x.zi then max (g a) x.seq else g a):=by
    refine⟨?_,λa=>?_⟩
    ·rw[zaV bp];split
     ·exact h.nd
     ·rename_i G;rw[List.nodup_append];exact⟨h.nd,by simp,λa y b C=>by grind⟩
    ·rw[zg7 bp,h.get,h.get]
     grind
   obtain⟨o,e,k,l⟩:=zav r (i+1) _ _ z (λa=>by grind);refine⟨o,e,⟨k.nd,λa=>?_⟩,?_⟩
   ·rw[k.get];have:=xj r a;by_cases y:a=x.zi
    ·subst y;simp only[oS,zr,hb,iY];omega
    ·rw[n4 y];simp only[zr];rw[n4 (λh=>y h.2.symm)]
   ·have E:ak (wM GH.fh s x.zi (if x.seq > zG GH.fh 0 s x.zi then x.seq else zG GH.fh 0 s x.zi))<=ak s+1:=by
     have:=congrArg List.length (zaV bp s x.zi (if x.seq > zG GH.fh 0 s x.zi then x.seq else zG GH.fh 0 s x.zi))
     grind
    grind
theorem ra(v:List GA):∃m,xr v=aa m/\eV m (zr v)/\(ak m)<=ak v:=by
 obtain⟨o,e,k,l⟩:=zav v 0 [] (λ_=>0) ⟨by simp,λ_=>rfl⟩ (λ_=>kp _);refine⟨o,by unfold xr;rw[e];rfl,⟨k.nd,λa=>?_⟩,by simpa using l⟩;rw[k.get];have:=xj v a;omega
theorem zjd(a b:GH):nW a b<0↔dW a b:=by
 unfold nW sM aU dW;grind
theorem zgv{m:List (GH×Int)}(h:eV m f)(E:ak m<=lim)(h0:∀a,0<f a->a∈m.map (·.1)):∃L,qv m=aa L/\Can L f:=by
 obtain⟨R,D,hs⟩:=zaW (lt:=dW) (λ_ _ _=>zkE) (m.map (·.1)) (h.nd.imp λ{a b} C=>by
  rcases cI a b with e|e|e
  ·exact(C e).elim
  ·exact .inl e
  ·exact .inr e)
 have r:ak R<=lim:=by rw[D.length_eq];simpa using E
 have N:bq m (λ(I:List (GH×Int))=>((qT (λx y=>uo x y) (I.map (λx=>x.1))).bind λz=>aa z))=aa R:=zbI λp w=>by
  rw[zcd (cf:=nW) (lt:=dW) (R:=R) (λx _ y _=>zal x y) zjd zbK (λ_ _ _=>zkE) (λx _ y _=>cI x y) (D.trans (w.symm.map _)) hs (by rw[oa,w.length_eq];exact E)];rfl
 unfold qv;simp only[zN,nK E,N,tb];rw[nK (by simp only[lim]at r;omega)];have J:=rd (ρ:=List GA) (λa=>ae (0<f a)) (λa=>(⟨a,f a⟩:GA)) (f:=λ(O:Nat)(k:GH) (o:List GA)=>if ae (zG GH.fh 0 m k > 0)=true then(if(ak o)+[(⟨k,zG GH.fh 0 m k⟩:GA)].length<=lim then aa (Out.gV (o++[⟨k,zG GH.fh 0 m k⟩]))else none)else aa (.gV o)) R 0 [] (by simpa using r) (λi a s P hs=>by
  simp only[h.get,gU,kM,nK hs])
 rw[zk7 (g:=λ(O:Nat)(k:GH) (o:List GA)=>if ae (zG GH.fh 0 m k > 0)=true then(if(ak o)+[(⟨k,zG GH.fh 0 m k⟩:GA)].length<=lim then aa (Out.gV (o++[⟨k,zG GH.fh 0 m k⟩]))else none)else aa (.gV o)) (λi x y s M=>by
  rw[zu M];rfl),J]
 refine⟨_,rfl,?_,λd=>?_⟩
 ·rw[ll,kz]
  grind
 ·simp only[ll,lH,lQ,so];constructor
  ·rintro⟨a,⟨_,G⟩,rfl⟩;exact⟨G,rfl⟩
  ·rintro⟨G,H⟩
   refine⟨d.zi,⟨D.mem_iff.2 (h0 _ (by omega)),by omega⟩,by rw[<- H]⟩
theorem eV.key{m:List (GH×Int)}(h:eV m f)(a:GH)(h0:0<f a):a∈m.map (·.1):=jL λk=>by
 have:=h.get a;rw[rS bp 0 a m k]at this;omega
theorem zpv(o:ak v<=lim):∃L,rY v=aa L/\Can L (zr v):=by
 obtain⟨m,e,k,l⟩:=ra v;obtain⟨L,p,c⟩:=zgv k (lg l o) k.key;exact⟨L,by unfold rY;rw[e];simp only[tb,p],c⟩
theorem zhA(v:List GA)(a:GH):zeN v a=aa (zr v a):=by
 obtain⟨m,e,k,_⟩:=ra v;unfold zeN;rw[e];simp only[tb,k.get]
def gY(v:List GA)(d:GA):Bool:=fa d&&ae (d.seq<=zr v d.zi)
theorem qc(v:List GA)(d:GA):sH v d=aa (gY v d):=by
 unfold sH gY;rw[rq];simp only[tb,zhA]
 grind

structure eW(m:List (GH×Int))(f:GH->Int)(S:GH->Prop):Prop where
 nd:(m.map (·.1)).Nodup
 get:∀a,zG GH.fh 0 m a=f a
 key:∀a,a∈m.map (·.1)↔S a
theorem eW.mem{m:List (GH×Int)}(h:eW m f S)(e:GH×Int):e∈m↔S e.1/\e.2=f e.1:=by
 constructor
 ·intro he;exact⟨(h.key _).1 (lH.2 ⟨e,he,rfl⟩),by rw[<- h.get,zaT bp 0 m h.nd e he]⟩
 ·rintro⟨r,p⟩
  obtain⟨o,s,k⟩:=lH.1 ((h.key _).2 r);have:=zaT bp 0 m h.nd o s;have w:e=o:=Prod.ext k.symm (by rw[p,<- h.get,<- k,this])
  simp_all
theorem zaS{β:Type}{m:List (α×β)}(h:(m.map (·.1)).Nodup):m.Nodup:=by
 rw[kE,kz]at h;rw[kE];exact h.imp λo k=>o (by rw[k])
theorem eW.perm{m:List (GH×Int)}(h:eW m f S)(k:eW m' f S):m.Perm m' :=
 (List.perm_ext_iff_of_nodup (zaS h.nd) (zaS k.nd)).2 λe=>by rw[h.mem,k.mem]
theorem eW.dl{m:List (GH×Int)}(h:eW m f S)(p:m'.Perm m):eW m' f S:=by
 have o:(m'.map (·.1)).Nodup:=(p.map _).nodup_iff.2 h.nd;have r:∀a,a∈m'.map (·.1)↔S a:=λa=>by rw[(p.map (·.1)).mem_iff,h.key]
 refine⟨o,λa=>?_,r⟩;by_cases ha:a∈m'.map (·.1)
 ·obtain⟨e,k,w⟩:=lH.1 ha;have z:=zaT bp 0 m' o e k;have y:=((h.mem e).1 (p.mem_iff.1 k)).2
  simp_all
 ·rw[rS bp 0 a m' ha,<- h.get,rS bp 0 a m λs=>ha ((p.map (·.1)).mem_iff.2 s)]
theorem eV.k{m:List (GH×Int)}(h:eV m f):eW m f (λa=>a∈m.map (·.1)):=⟨h.nd,h.get,λ_=>Iff.rfl⟩
theorem eW.put{m:List (GH×Int)}(h:eW m f S)(x:GH)(v:Int):eW (wM GH.fh m x v) (λa=>if a=x then v else f a) (λa=>S a \/ a=x):=by
 refine⟨?_,λa=>by rw[zg7 bp,h.get],λa=>?_⟩
 ·rw[zaV bp];split
  ·exact h.nd
  ·rename_i k;rw[List.nodup_append];exact⟨h.nd,by simp,λa r b o=>by grind⟩
 ·rw[zaV bp];split
  ·rename_i k;rw[h.key];constructor
   ·exact .inl
   ·rintro(p|rfl)
    ·exact p
    ·exact(h.key _).1 k
  ·simp[h.key]
theorem zio{ρ:Type}{F:Nat->GH×Int->List (GH×Int)->Option (Out ρ (List (GH×Int)))}{w:GH->Int}:∀(p:List (GH×Int)) (i:Nat) (s:List (GH×Int)) (f:GH->Int) (S:GH->Prop),
  (∀e∈p,∀i s,F i e s=aa (.gV (wM GH.fh s e.1 (w e.1))))->eW s f S ->
  ∃o,zf F p i s=aa (.inr o)/\eW o (λa=>if a∈p.map (·.1)then w a else f a) (λa=>S a \/ a∈p.map (·.1))
 |[],i,s,f,S,_,h=>⟨s,rfl,by simpa using h⟩
 |e::r,i,s,f,S,hF,h=>by
  simp only[zf,hF e (by simp)];obtain⟨o,y,k⟩:=zio r (i+1) _ _ _ (λx z=>hF x (by simp[z])) (h.put e.1 (w e.1));refine⟨o,y,k.nd,λa=>?_,λa=>?_⟩
  ·rw[k.get]
   grind
  ·rw[k.key];simp only[m4,lx];exact or_assoc
theorem zr7{a b:List (GH×Int)}{g:GH->Int}{c:Int->Int->Int}{D:Int->Int->Option Int}(O:eV a f)(J:eV b g)(E:∀x y,D x y=aa (c x y))(hc:c 0 0=0) :
  ∃m,w8 a b D=aa m/\eW m (λx=>c (f x) (g x)) (λx=>x∈a.map (·.1) \/ x∈b.map (·.1)):=by
 have run:∀r:List (GH×Int),r.Perm a->∃o,zf (λ(_:Nat)(C:(GH×Int)) (o:List (GH×Int))=>(((D C.2 (zG GH.fh (0:Int) b C.1)).bind λv4=>aa (.gV (wM GH.fh o C.1 v4))):Option (Out (List (GH×Int)) (List (GH×Int))))) r 0 []=aa (.inr o) /\
   ∀p:List (GH×Int),p.Perm b->∃s2,zf (λ(_:Nat)(z:(GH×Int)) (s2:List (GH×Int))=>(((D (zG GH.fh (0:Int) a z.1) z.2).bind λI=>aa (.gV (wM GH.fh s2 z.1 I))):Option (Out (List (GH×Int)) (List (GH×Int))))) p 0 o=aa (.inr s2)/\eW s2 (λx=>c (f x) (g x)) (λx=>x∈a.map (·.1) \/ x∈b.map (·.1)):=by
  intro r H;have k1:=O.k.dl H;obtain⟨o,N,V⟩:=zio (w:=λx=>c (f x) (g x)) r 0 [] (λ_=>0) (λ_=>False) (F:=λ(_:Nat)(C:(GH×Int)) (o:List (GH×Int))=>(((D C.2 (zG GH.fh (0:Int) b C.1)).bind λv4=>aa (.gV (wM GH.fh o C.1 v4))):Option (Out (List (GH×Int)) (List (GH×Int))))) (λe he i s=>by
   simp only[E,tb,J.get,((k1.mem e).1 he).2]) ⟨by simp,λ_=>rfl,λ_=>by simp⟩
  refine⟨o,N,λp G=>?_⟩;have k2:=J.k.dl G;obtain⟨s2,M,n2⟩:=zio (w:=λx=>c (f x) (g x)) p 0 o _ _ (F:=λ(_:Nat)(z:(GH×Int)) (s2:List (GH×Int))=>(((D (zG GH.fh (0:Int) a z.1) z.2).bind λI=>aa (.gV (wM GH.fh s2 z.1 I))):Option (Out (List (GH×Int)) (List (GH×Int))))) (λe he i s=>by
   simp only[E,tb,O.get,((k2.mem e).1 he).2]) V
  refine⟨s2,M,n2.nd,λx=>?_,λx=>?_⟩
  ·rw[n2.get];by_cases h3:x∈p.map (·.1)
   ·simp[h3]
   ·by_cases h4:x∈r.map (·.1)
    ·simp_all
    ·rw[n4 h3,n4 h4];have z1:f x=0:=by rw[<- k1.get,rS bp 0 x r h4]
     have Z:g x=0:=by rw[<- k2.get,rS bp 0 x p h3]
     simp_all
  ·rw[n2.key,k1.key,k2.key];simp
 obtain⟨o,N,P⟩:=run a (.refl _);obtain⟨s2,M,n2⟩:=P b (.refl _);refine⟨nrm s2,?_,n2.dl (zjN s2)⟩;unfold w8;refine zbI λr H=>?_;obtain⟨t1,Q,R⟩:=run r H;rw[Q];refine zbI λp G=>?_;obtain⟨Y,U,X⟩:=R p G;rw[U];exact congrArg aa (ztH (X.perm n2))
theorem eW.len{m:List (GH×Int)}{a b:List (GH×Int)}(h:eW m f (λx=>x∈a.map (·.1) \/ x∈b.map (·.1))):ak m<=ak a+ak b:=by
 have:=(kE.1 h.nd)
 have hs:ak (m.map (·.1))<=ak (a.map (·.1)++b.map (·.1)):=h.nd.length_le_of_subset λx k=>by simpa using (h.key x).1 k
 simp_all
theorem zlE{a b:List GA}(P:ak a+ak b<=lim){c:Int->Int->Int}{r:Int->Int->Option Int}(o:∀x y,r x y=aa (c x y))(N:c 0 0=0)(O:∀x y,0<=x->0<=y->0<c x y->0<x \/ 0<y) :
  ∃L,((xr a).bind λC=>((xr b).bind λE=>((w8 C E r).bind λv3=>bq v3 (λ(w:List (GH×Int))=>((qv w).bind λv5=>aa v5)))))=aa L/\Can L (λx=>c (zr a x) (zr b x)):=by
 obtain⟨m,I,k1,Q⟩:=ra a;obtain⟨n,D,k2,R⟩:=ra b;obtain⟨q,J,k3⟩:=zr7 k1 k2 o N;have key:∀p:List (GH×Int),p.Perm q->∃L,qv p=aa L/\Can L (λx=>c (zr a x) (zr b x)):=λp h=>by
  have k:=k3.dl h;exact zgv ⟨k.nd,k.get⟩ (by have:=k.len;omega) λx H=>(eV.key ⟨k.nd,k.get⟩ x H)
 obtain⟨L,U,s⟩:=key q (.refl _);refine⟨L,?_,s⟩;rw[I,D];simp only[tb,J];refine zbI λp h=>?_;obtain⟨M,z,G⟩:=key p h;rw[z,G.eq s];rfl
theorem zrB{a b:List GA}(k:ak a+ak b<=lim):∃L,vW a b=aa L/\Can L (λx=>max (zr a x) (zr b x)) :=
 zlE (c:=λx y=>max x y) k (λx y=>by unfold zaY;congr 1;split<;>omega) (by decide) (λx y _ _ h=>by omega)
theorem zrn{a b:List GA}(k:ak a+ak b<=lim):∃L,zdx a b=aa L/\Can L (λx=>min (zr a x) (zr b x)) :=
 zlE (c:=λx y=>min x y) k (λx y=>by unfold zaX;congr 1;split<;>omega) (by decide) (λx y _ _ h=>by omega)
open Classical in
noncomputable def fj(a b:List GA):Bool:=ae (∀x,zr a x<=zr b x)
open Classical in
theorem tE(a b:List GA):wD a b=aa (fj a b):=by
 obtain⟨m,D,k1,G⟩:=ra a;obtain⟨n,z,k2,H⟩:=ra b;unfold wD;rw[D,z];simp only[tb];refine zbI λp h=>?_;have k3:=k1.k.dl h;have run:∀(r:List (GH×Int)) (i:Nat),zf (λ(_:Nat)(w:(GH×Int)) (E:Unit)=>((if(ae (w.2 > (zG GH.fh (0:Int) n w.1)))=true then aa (.ret false)else aa (.gV ())):Option (Out Bool Unit))) r i ()=aa (if(r.all λe=>ae (e.2<=zr b e.1))=true then .inr ()else .inl false):=by
  intro r
  induction r with
  |nil=>intro i;rfl
  |cons e r ih =>
   intro i;rw[zf];simp only[k2.get e.1,l7]
   grind
 rw[run];have y:(p.all λe=>ae (e.2<=zr b e.1))=fj a b:=by
  unfold fj;rw[lI,oB,so];constructor
  ·intro o x;by_cases hx:x∈p.map (·.1)
   ·obtain⟨e,s,rfl⟩:=lH.1 hx;have:=o e s;rw[so,((k3.mem e).1 s).2]at this;exact this
   ·have C:=k3.get x;rw[rS bp 0 x p hx]at C;have:=xj b x;omega
  ·intro o e he;rw[so,((k3.mem e).1 he).2];exact o _
 rw[y];cases fj a b<;>rfl

theorem zc5{α ρ σ:Type}{f:Nat->α->σ->Option (Out ρ σ)}{V:List α}(I:List α->σ->Prop)(h:∀pre x rest s,V=pre++x::rest->V[ak pre]?=aa x->I pre s->∃k,f (ak pre) x s=aa (.gV k)/\I (pre++[x]) k) :
  ∀(rest pre:List α)(s:σ),V=pre++rest->I pre s->∃k,zf f rest (ak pre) s=aa (.inr k)/\I V k
 |[],pre,s,e,hi=>⟨s,rfl,by simp_all⟩
 |x::rest,pre,s,e,hi=>by
  obtain⟨r,o,p⟩:=h pre x rest s e (by rw[e];simp) hi;simp only[zf,o];simpa using zc5 I h rest (pre++[x]) r (by simp[e]) p
theorem zha(P:Option τ->Prop){f:Nat->α->σ->Option (Out τ σ)}{V:List α}{p:σ}{rest:σ->Option τ}(I:List α->σ->Prop)(h:∀pre x rest s,V=pre++x::rest->V[ak pre]?=aa x->I pre s->∃o,f (ak pre) x s=aa (.gV o)/\I (pre++[x]) o)(h0:I [] p)(k:∀o,I V o->P (rest o)):P (lp (zf f V 0 p) rest):=by
 obtain⟨o,e,r⟩:=zc5 I h V [] p rfl h0
 simp_all
theorem rL(v:List GA)(a:GH):uT v a=aa (zr v a):=by
 unfold uT;obtain⟨G,e,h⟩:=zc5 (ρ:=Int) (f:=λ(k:Nat)(r:GA) (p:Int)=>(((vz r).bind λo=>(zN ((o==true)=true->0<=(k:Int)/\(k:Int)<(ak (v):Int)) ((zN (((o&&(((v).getD (k:Int).toNat af).zi.fk==a.fk&&(((v).getD (k:Int).toNat af).zi.inc==a.inc&&true)))==true)=true->0<=(k:Int)/\(k:Int)<(ak (v):Int)) ((if((o&&(((v).getD (k:Int).toNat af).zi.fk==a.fk&&(((v).getD (k:Int).toNat af).zi.inc==a.inc&&true)))&&(ae (((v).getD (k:Int).toNat af).seq > p)))=true then aa (.gV r.seq)else aa (.gV p))))))):Option (Out _ Int))) (V:=v) (λpre s=>s=zr pre a) (λpre x rest s y C hi=>by
  subst hi;have H:(ak pre)<(ak v):=by rw[y];simp
  have w:v.getD (ak pre) af=x:=by rw[lu,C];rfl
  rw[ui];simp only[tb,o5,w,k9];have E:(0:Int)<=(ak pre:Int)/\(ak pre:Int)<(ak v:Int):=by omega
  simp only[zN,E,j5,hU,oS];have z:zr (pre++[x]) a=if fa x=true/\x.zi=a then max (zr pre a) x.seq else zr pre a:=by
   rw[vG];have:=xj pre a;simp only[zr];split<;>omega
  have D:(x.zi.fk==a.fk&&x.zi.inc==a.inc)=ae (x.zi=a):=by
   obtain⟨⟨_,_⟩,_⟩:=x;cases a;simp only[GH.mk.injEq,Bool.decide_and];rfl
  rw[z,D];cases fa x
  ·exact⟨_,by simp;rfl,by simp⟩
  ·by_cases ha:x.zi=a
   ·by_cases hs:x.seq > zr pre a
    ·grind
    ·grind
   ·exact⟨_,by simp[ha];rfl,by simp[ha]⟩) v [] 0 rfl rfl
 rw[show(0:Nat)=(ak ([]:List GA))from rfl,e,h];rfl
theorem rK(v:List GA)(d:GA):uj v d=aa (gY v d):=by
 unfold uj gY;rw[ui];simp only[tb,rL]
 grind
theorem zgF{L:List α}(H:ak L<=16777216)(p:α->Bool){f:Int->Option (Out ρ Int)}(D:∀(i:Nat)(y:α),L[i]?=aa y->f i=if p y=true then aa (.gV ((i+1:Nat):Int))else aa (.brk i))(E:f (ak L)=aa (.brk (ak L))) :
  ya f 0=aa (.inr (ak (L.takeWhile p):Int)):=by
 obtain⟨s,e,h⟩:=qb (f:=f) (λs=>∃i:Nat,s=i/\i<=ak (L.takeWhile p)) (λs=>s=(ak (L.takeWhile p):Int)) (λs=>(ak L)-s.toNat) (by
  rintro s ⟨i,rfl,hi⟩
  have G:=(kF (l:=L) p).length_le;by_cases he:i=(ak L)
  ·grind
  ·obtain⟨y,w⟩:∃y,L[i]?=aa y:=⟨L[i]'(by omega),rk _⟩
   have k:=D i y w;by_cases hp:p y=true
   ·rw[nK hp]at k;refine .inr ⟨_,k,⟨i+1,rfl,?_⟩,by omega⟩;refine Nat.lt_of_le_of_ne hi λC=>?_;have hd:L.dropWhile p=y::L.drop (i+1):=by
     have r:=lD (p:=p) (l:=L);have z:L.drop i=L.dropWhile p:=by
      conv=>lhs;rw[<- r]
      grind
     rw[<- z,iu (by omega)]
     grind
    have:=List.head?_dropWhile_not p L
    simp_all
   ·rw[n4 hp]at k;refine .inl ⟨_,k,?_⟩;congr 1;refine Nat.le_antisymm hi (Nat.le_of_not_lt λo=>hp ?_);have r:(L.takeWhile p)[i]?=aa y:=by
     rw[jx.1 (kF (l:=L) p),ml,nK o];exact w
    exact(oB.1 (List.all_takeWhile (p:=p) (l:=L))) y (lc r)) _ 0 rfl ⟨0,rfl,lV _⟩
 rw[e,h]
theorem zmh{α:Type}{lt:α->α->Prop}(tr:∀x y z,lt x y->lt y z->lt x z)(p:α->Bool)(x:α):∀L:List α,L.Pairwise lt->(∀y∈L,p y=true->lt y x)->(∀y∈L,p y=false->lt x y)->(L.takeWhile p++[x]++L.drop (ak (L.takeWhile p))).Pairwise lt
 |[],_,_,_=>by simp
 |y::L,h,h1,h2=>by
  obtain⟨k1,k2⟩:=ld.1 h;cases hp:p y with
  |true =>
   have o:=zmh tr p x L k2 (λz k=>h1 z (by simp[k])) (λz k=>h2 z (by simp[k]));simp only[ku,hp,oS,kc,nr,i8];refine ld.2 ⟨λz k=>?_,o⟩;rcases ma.1 k with k|k
   ·rcases ma.1 k with k|k
    ·exact k1 z ((kF p).subset k)
    ·simp_all
   ·grind
  |false =>
   simp only[ku,hp,s5,mb,ll,lC,kZ,ic];refine ld.2 ⟨λz k=>?_,h⟩
   grind
theorem zmD(p:α->Bool)(x y:α)(L:List α):y∈L.takeWhile p++[x]++L.drop (ak (L.takeWhile p))↔y∈L \/ y=x:=by
 have:L.drop (ak (L.takeWhile p))=L.dropWhile p:=by
  have:=jZ (l₁:=L.takeWhile p) (l₂:=L.dropWhile p)
  rwa[lD]at this
 rw[this]
 conv=>rhs;rw[<- lD (p:=p) (l:=L)]
 grind
theorem zhz{a b:GA}(h:a.zi≠b.zi):w6 a b=true↔dW a.zi b.zi:=by
 obtain⟨⟨r,i⟩,s⟩:=a;obtain⟨⟨t,j⟩,u⟩:=b;simp only[gP,GH.mk.injEq]at h;simp only[w6,dW];grind
theorem rC(X:ak v<=16777216):∃L,vN v=aa L/\Can L (zr v):=by
 unfold vN;refine zha (λo=>∃L,o=aa L/\Can L (zr v)) (λpre s=>s.Pairwise (λa b=>dW a.zi b.zi)/\(∀d,d∈s↔d∈pre/\fa d=true/\d.seq=zr v d.zi)/\(ak s)<=ak pre) (λpre x rest s R I hi=>?_) ⟨.nil,by simp,ob _⟩ λM h=>⟨M,rfl,h.1,λd=>?_⟩
 ·obtain⟨O,z,Y⟩:=hi;have V:(ak pre)<(ak v):=by rw[R];simp
  have N:v.getD (ak pre) af=x:=by simp_all
  have U:(0:Int)<=(ak pre:Int)/\(ak pre:Int)<(ak v:Int):=by omega
  rw[ui];simp only[tb,o5,N,rL];simp only[zN,U,j5,hU,oS];have g8:¬(fa x=true/\x.seq=zr v x.zi/\¬0<zr s x.zi)->(∀d,d∈s↔d∈pre++[x]/\fa d=true/\d.seq=zr v d.zi):=λD d=>by
   rw[z];simp only[ma,la];refine⟨λh=>⟨.inl h.1,h.2⟩,λh=>⟨?_,h.2⟩⟩;rcases h.1 with w|rfl
   ·exact w
   ·have h0:0<zr s d.zi:=jL λI=>D ⟨h.2.1,h.2.2,I⟩;obtain⟨e,P,_,J,Z⟩:=xL h0;have E:=(z e).1 P;have:e=d:=by
     obtain⟨_,_⟩:=e;obtain⟨_,_⟩:=d;simp only at J E h ⊢;simp[J,E.2.2,h.2.2]
    simp_all
  by_cases D:fa x=true/\x.seq=zr v x.zi/\¬0<zr s x.zi
  ·obtain⟨Q,n2,G⟩:=D;have k:∀y∈s,y.zi≠x.zi:=λy p he=>G (by
    have w:=(z y).1 p;have r:=sD p w.2.1 he;have C:=w.2.1;simp only[fa,tx,so]at C;omega)
   refine⟨s.takeWhile (λy=>w6 y x)++[x]++s.drop (ak (s.takeWhile λy=>w6 y x)),?_,?_,λd=>?_,?_⟩
   ·have hs:ak s<=16777216:=by omega
    simp only[Q,<- n2,G,ly,kI,kN,jc,s5,mb,jJ,oS,tb];rw[zgF hs (λy=>w6 y x) (λi y p=>by
     have w:i<(ak s):=(tu.1 p).1;have r:s.getD i af=y:=by simp_all
     have C:(0:Int)<=(i:Int)/\(i:Int)<(ak s:Int):=by omega
     simp only[C,j5,hU,oS,jB,jJ,o5,r,vC,tb,lq];rw[xZ (by omega)]) (by simp)]
    have:=(kF (l:=s) λy=>w6 y x).length_le;simp only[lp,show fP s 0 (ak (s.takeWhile λy=>w6 y x):Int)=aa (s.take (ak (s.takeWhile λy=>w6 y x)))from zpS (by omega),zuv _ _ this,<- jx.1 (kF (l:=s) λy=>w6 y x),tb,ll,lC,oA,jC,kM,lim]
    grind
   ·refine zmh (lt:=λa b:GA=>dW a.zi b.zi) (λ_ _ _=>zkE) _ x s O (λy p h=>(zhz (k y p)).1 h) λy p h=>?_;rcases cI x.zi y.zi with e|e|e
    ·grind
    ·exact e
    ·rw[(zhz (k y p)).2 e]at h;cases h
   ·rw[zmD,z];simp only[ma,la]
    grind
   ·have:=(kF (l:=s) λy=>w6 y x).length_le
    grind
  ·grind
 ·rw[h.2.1];constructor
  ·rintro⟨_,r,C⟩
   simp only[fa,tx,so]at r;omega
  ·rintro⟨w,r⟩
   obtain⟨x,k1,k2,k3,H⟩:=xL (v:=v) (a:=d.zi) (by omega);have:x=d:=by
    obtain⟨_,_⟩:=x;obtain⟨_,_⟩:=d;simp only at k3 H r ⊢;simp[k3,H,r]
   simp_all
theorem Can.zzA{L:List GA}(h:Can L (zr v)):ak L<=ak v:=by
 have r:L.Nodup:=by
  rw[kE];exact h.pw.imp λ{a b} k e=>by subst e;exact zbK _ k
 refine r.length_le_of_subset λd hd=>?_;have o:=(h.mem d).1 hd;obtain⟨x,k1,k2,k3,p⟩:=xL (v:=v) (a:=d.zi) (by omega);have:x=d:=by
  obtain⟨_,_⟩:=x;obtain⟨_,_⟩:=d;simp only at k3 p o ⊢;simp[k3,p,o.2]
 simp_all
theorem zgM{a b:List GA}(k:ak a+ak b<=16777216):∃L,vq a b=aa L/\Can L (λx=>max (zr a x) (zr b x)):=by
 obtain⟨L,e,c⟩:=rC (v:=a++b) (by simp_all);refine⟨L,?_,?_⟩
 ·unfold vq;simp only[zN,ll];rw[nK (by simp only[lC,lim];omega),nK (by simp only[lim];omega),e];rfl
 ·rwa[show zr (a++b)=λx=>max (zr a x) (zr b x)from funext λx=>vG x a b]at c
theorem zbS(a b:List GA):pu a b=aa (ae (a=b)):=by
 unfold pu;by_cases h:ak a=(ak b)
 ·rw[n4 (by simp[h]),zaK b (eq:=λa b=>(a.zi.fk==b.zi.fk&&(a.zi.inc==b.zi.inc&&(a.seq==b.seq&&true)))) tT a 0 (by omega) (λj x k=>by rfl)];simp only[kZ];by_cases h2:a=b<;>simp[h2,lp]
 ·rw[nK (by grind)];have:a≠b:=λe=>h (by rw[e]);simp[this]
open Classical in
theorem zkF(a b:List GA):(a.all λx=>!(fa x&&ae (x.seq > zr b x.zi)))=fj a b:=by
 unfold fj;rw[lI,oB,so];constructor
 ·intro h x;by_cases h0:0<zr a x
  ·obtain⟨d,k,p,s,r⟩:=xL h0
   grind
  ·have:=xj b x;omega
 ·intro h x o;cases hd:fa x with
  |false=>rfl
  |true =>
   have k:=sD o hd rfl
   grind
theorem zae(a b:List GA):tL a b=aa (fj a b):=by
 unfold tL;rw[ziw (λx=>!(fa x&&ae (x.seq > zr b x.zi))) (r:=false) (λi x k=>by
  have s:i<(ak a):=(tu.1 k).1;have o:a.getD i af=x:=by rw[lu,k];rfl
  have p:(0:Int)<=(i:Int)/\(i:Int)<(ak a:Int):=by omega
  simp only[ui,tb,o5,o,rL,zN,p,j5,hU,oS];cases fa x<;>simp;split<;>simp_all),zkF]
 cases fj a b<;>rfl
theorem zbT{a b:List GA}(r:ak a<=16777216):∃L,uC a b=aa L/\Can L (λx=>min (zr a x) (zr b x)):=by
 obtain⟨A,e,c⟩:=rC (v:=a) r;have C:ak A<=16777216:=lg c.zzA r;have p:=rP a;unfold uC;rw[e];simp only[tb];refine zha (λo=>∃L,o=aa L/\Can L (λx=>min (zr a x) (zr b x))) (λpre s=>s=pre.map λx=>(⟨x.zi,min x.seq (zr b x.zi)⟩:GA)) (λpre x rest s I P hi=>?_) rfl λJ h=>?_
 ·subst hi;have O:(ak pre)<(ak A):=by rw[I];simp
  refine⟨_,?_,rfl⟩;rw[rL];simp only[tb,zN];have U:ak (pre.map λx=>(⟨x.zi,min x.seq (zr b x.zi)⟩:GA))+1<=lim:=by simp only[oa,lim];omega
  obtain⟨xa,xs⟩:=x;by_cases h:zr b xa > xs
  ·rw[nK (by simpa using h),nK (by omega),lZ,List.map_singleton,Int.min_eq_left (gT h)]
  ·rw[n4 (by simpa using h),nK (by omega),lZ,List.map_singleton,Int.min_eq_right (Int.not_lt.1 h)]
 ·subst h;obtain⟨L,D,E⟩:=rC (v:=A.map λx=>(⟨x.zi,min x.seq (zr b x.zi)⟩:GA)) (by simpa using C);refine⟨L,by rw[D];rfl,?_⟩;have:zr (A.map λx=>(⟨x.zi,min x.seq (zr b x.zi)⟩:GA))=λx=>min (zr a x) (zr b x):=funext λx=>by
   have R:=xj a x;have n2:=xj b x;have N:=xj (A.map λx=>(⟨x.zi,min x.seq (zr b x.zi)⟩:GA)) x;by_cases h:0<zr (A.map λx=>(⟨x.zi,min x.seq (zr b x.zi)⟩:GA)) x
   ·obtain⟨d,k,M,G,w⟩:=xL h;obtain⟨y,z,rfl⟩:=lH.1 k;have Q:=((c.mem y).1 z).2;simp only at G w
    simp_all
   ·have h0:¬0<min (zr a x) (zr b x):=λh0=>by
     have H:(⟨x,zr a x⟩:GA)∈A:=(c.mem _).2 ⟨show 0<zr a x by omega,rfl⟩;have hd:=(p x).2 (by omega);have k:=sD (v:=A.map λx=>(⟨x.zi,min x.seq (zr b x.zi)⟩:GA)) (a:=x) (lH.2 ⟨_,H,rfl⟩) (by
      simp only[fa,tx,so]at hd ⊢;exact⟨⟨hd.1.1,by omega⟩,by omega⟩) rfl
     simp only at k;omega
    omega
  rwa[this]at E

theorem aJ.max{f g:GH->Int}(h:aJ f)(k:aJ g):aJ λx=>max (f x) (g x):=λa=>by
 show 0<=Max.max (f a) (g a)/\(0<Max.max (f a) (g a)->fa ⟨a,Max.max (f a) (g a)⟩=true)
 have:=(h a).1;refine⟨by omega,λh0=>?_⟩;rcases Int.le_total (f a) (g a)with e|e
 ·rw[Int.max_eq_right e]at h0 ⊢;exact(k a).2 h0
 ·rw[Int.max_eq_left e]at h0 ⊢;exact(h a).2 h0
theorem aJ.min{f g:GH->Int}(h:aJ f)(k:aJ g):aJ λx=>min (f x) (g x):=λa=>by
 show 0<=Min.min (f a) (g a)/\(0<Min.min (f a) (g a)->fa ⟨a,Min.min (f a) (g a)⟩=true)
 have:=(h a).1;have:=(k a).1;refine⟨by omega,λh0=>?_⟩;rcases Int.le_total (f a) (g a)with e|e
 ·rw[Int.min_eq_left e]at h0 ⊢;exact(h a).2 h0
 ·rw[Int.min_eq_right e]at h0 ⊢;exact(k a).2 h0
theorem Can.aA{L:List GA}(h:Can L f)(S:List GH)(r:∀x,0<f x->x∈S):ak L<=ak S:=by
 have p:(L.map (·.zi)).Nodup:=by
  rw[kE,kz];exact h.pw.imp λ{a b} k e=>by rw[e]at k;exact zbK _ k
 have:=p.length_le_of_subset (l₂:=S) λx o=>by
  obtain⟨d,hd,rfl⟩:=lH.1 o;have:=(h.mem d).1 hd
  grind
 simp_all
theorem ziq{x:GH}(h:0<zr v x):x∈v.map (·.zi):=by
 obtain⟨d,k,_,o,_⟩:=xL h
 grind
theorem tz(o:ak v<=16777216):∃L,rY v=aa L/\vN v=aa L/\Can L (zr v):=by
 obtain⟨L,e,c⟩:=zpv (v:=v) (by simp only[lim];omega);obtain⟨M,p,k⟩:=rC o;exact⟨L,e,by rw[p,k.eq c],c⟩
theorem qN{a b:List GA}(o:ak a+ak b<=16777216):∃L,vW a b=aa L/\vq a b=aa L/\Can L (λx=>max (zr a x) (zr b x))/\(∀x,zr L x=max (zr a x) (zr b x))/\(ak L)<=ak a+ak b:=by
 obtain⟨L,e,c⟩:=zrB (a:=a) (b:=b) (by simp only[lim];omega);obtain⟨M,p,k⟩:=zgM o;refine⟨L,e,by rw[p,k.eq c],c,λx=>c.get ((rP a).max (rP b)) x,?_⟩;have:=c.aA (a.map (·.zi)++b.map (·.zi)) λx r=>by
  simp only[ma];have:=xj a x;have:=xj b x;by_cases h:0<zr a x
  ·exact .inl (ziq h)
  ·exact .inr (ziq (by omega))
 simp_all
theorem zc4{a b:List GA}(p:ak a+ak b<=16777216):∃L,zdx a b=aa L/\uC a b=aa L/\(∀x,zr L x=min (zr a x) (zr b x))/\(ak L)<=ak a:=by
 obtain⟨L,e,c⟩:=zrn (a:=a) (b:=b) (by simp only[lim];omega);obtain⟨M,o,k⟩:=zbT (a:=a) (b:=b) (by omega);refine⟨L,e,by rw[o,k.eq c],λx=>c.get ((rP a).min (rP b)) x,?_⟩;have:=c.aA (a.map (·.zi)) λx r=>ziq (by omega)
 simp_all
theorem zhw(L M:List GA):xG L M=aa (ae (L=M)):=oH L M
theorem zdC{L:List GA}(h:ak L<=lim):xH L=aa L:=nU h
theorem zdl{f:GA->Option Bool}(p:List GA)(k:∀x∈p,f x=aa (q x)):yh p f=aa (p.any q):=by
 unfold yh qm;rw[rh p k,tb,ri]
def ziy(l:List GA)(d:GA)(v:List GA):Bool:=allI (λi x=>yG l i x&&!ae (x=d)&&gY v x) l
theorem zec{l:List GA}(p:ak l<=16777216)(c:GI):qP l c=aa (ziy l c.z6 c.vV):=by
 unfold qP;rw[ul (λi x=>yG l i x&&!ae (x=c.z6)&&gY c.vV x) (r:=false) (λi x o=>by
  have s:i<(ak l):=(tu.1 o).1;rw[tT];simp only[vP,qc,yG];by_cases h0:i=0
  ·subst h0;simp only[zN];cases hh:gY c.vV x<;>by_cases hd:x=c.z6<;>simp[hd]<;>simp_all
  ·rw[sR (by omega) (by omega)];rw[ze (λ_=>by omega)];have k:ae ((i:Int) > 0)=true:=by simp;omega
   simp only[k,jJ,oS,tb,o5,lq,nS,h0,jc,lM];cases w6 (l.getD (i-1) af) x<;>cases hh:gY c.vV x<;>by_cases hd:x=c.z6<;>simp[hd]<;>simp_all)]
 unfold ziy;cases allI (λi x=>yG l i x&&!ae (x=c.z6)&&gY c.vV x) l<;>rfl
theorem zhg{l:List GA}(z:ak l<=16777216)(d:GA)(v:List GA):uz l d v=aa (ziy l d v):=by
 unfold uz;rw[ul (λi x=>yG l i x&&!ae (x=d)&&gY v x) (r:=false) (λi x p=>by
  have w:i<(ak l):=(tu.1 p).1;have s:l.getD i af=x:=by rw[lu,p];rfl
  have o:(0:Int)<=(i:Int)/\(i:Int)<(ak l:Int):=by omega
  rw[tT];simp only[vC,rK,yG,o5,s];by_cases h0:i=0
  ·subst h0;have k:l≠[]:=by rintro rfl;simp at w
   simp only[zN];cases hh:gY v x<;>by_cases hd:x=d<;>simp[hd,k]<;>simp_all
  ·rw[sR (by omega) (by omega)];rw[ze (λ_=>by omega),ze (λ_=>o)];have y:ae ((i:Int) > 0)=true:=by simp;omega
   simp only[y,jJ,oS,tb,o5,lq,h0,jc,lM];rw[ze (λ_=>o)];cases w6 (l.getD (i-1) af) x<;>cases hh:gY v x<;>by_cases hd:x=d<;>simp[hd]<;>simp_all)]
 unfold ziy;cases allI (λi x=>yG l i x&&!ae (x=d)&&gY v x) l<;>rfl
def xM(c:GI):GJ:=⟨c.z6,c.time,c.op⟩
open Classical in
noncomputable def ms(c:GI):Bool:=yz (xM c)&&ae (Can c.vV (zr c.vV))&&ae (zr c.vV c.z6.zi=c.z6.seq)&&ae (ak c.xo<=64)&&ziy c.xo c.z6 c.vV&&ziy c.op.gZ c.z6 c.vV
theorem oQ{L:List GA}(h:Can L (zr v)):L=v↔Can v (zr v):=⟨λe=>e ▸ h,λk=>h.eq k⟩
open Classical in
theorem zb0(p:ak c.vV<=16777216)(o:ak c.xo<=16777216)(r:ak c.op.gZ<=16777216):tU c=aa (ms c):=by
 obtain⟨L,e,_,k⟩:=tz p;unfold tU ms r6;have hd:ae (L=c.vV)=ae (Can c.vV (zr c.vV)):=kP.2 (oQ k);have s:ae ((ak c.xo:Int)<=64)=ae (ak c.xo<=64):=kP.2 (by omega);have w:(zr c.vV c.z6.zi==c.z6.seq)=ae (zr c.vV c.z6.zi=c.z6.seq):=rfl;simp only[tb,uV,e,zhw,zhA,zec o,zec r,xM]
 grind
open Classical in
theorem zas(p:ak c.vV<=16777216)(o:ak c.xo<=16777216)(r:ak c.op.gZ<=16777216):nq c=aa (ms c):=by
 obtain⟨L,_,e,k⟩:=tz p;unfold nq ms mg;have hd:ae (L=c.vV)=ae (Can c.vV (zr c.vV)):=kP.2 (oQ k);have s:ae ((ak c.xo:Int)<=64)=ae (ak c.xo<=64):=kP.2 (by omega);have w:(zr c.vV c.z6.zi != c.z6.seq)=!ae (zr c.vV c.z6.zi=c.z6.seq):=rfl;simp only[tb,s8,e,zbS,rL,zhg o,zhg r,xM]
 grind

def c6(a b:GI):Prop:=a.time<b.time \/ a.time=b.time/\w6 a.z6 b.z6=true
structure Gr(F:List GA)(L:List GI):Prop where
 may:∀c∈L,ms c=true
 len:∀c∈L,ak c.vV<=64/\(ak c.xo)<=64
 out:∀c∈L,gY F c.z6=false
 cl:∀c∈L,∀d,gY c.vV d=true->gY F d=true \/ ∃e∈L,e.z6=d
 bef:∀c∈L,∀e∈L,gY c.vV e.z6=true->e=c \/ e.time<c.time
 tr:∀c∈L,∀e∈L,gY c.vV e.z6=true->∀a,zr e.vV a<=zr c.vV a
 pw:L.Pairwise c6
structure ba(c:GI):Prop where
 ev:yz (xM c)=true
 can:Can c.vV (zr c.vV)
 own:zr c.vV c.z6.zi=c.z6.seq
 lp:ziy c.xo c.z6 c.vV=true
theorem vT(h:ms c=true):ba c:=by
 unfold ms at h;simp only[tx,so]at h;exact⟨h.1.1.1.1.1,h.1.1.1.1.2,h.1.1.1.2,h.1.2⟩
theorem ba.z6{c:GI}(h:ba c):fa c.z6=true:=by
 have:=h.ev;unfold yz xM at this
 simp_all
theorem ba.has(h:ba c):gY c.vV c.z6=true:=by
 unfold gY;rw[h.z6,h.own];simp
theorem ba.zzP(h:ba c):c.xo.Pairwise λa b=>w6 a b=true:=zaM (by
 rw[rH,fg];intro i x hi;have:=fg.1 h.lp i x hi;simp only[tx]at this;exact this.1.1)
theorem zo5(h:gY v d=true):fa d=true:=by
 unfold gY at h;rw[tx]at h;exact h.1
theorem vE(v:List GA)(d:GA):gY v d=true↔fa d=true/\d.seq<=zr v d.zi:=by
 unfold gY;rw[tx,so]
def C0:GI:=GI.mk (GA.mk (GH.mk (0:Int) (0:Int)) (0:Int)) ([]:List GA) ([]:List GA) (0:Int) (GN.mk (0:Int) ([]:List zp) (0:Int) ([]:zp) ([]:List GA))
def qE(L:List GI)(d:GA):Option GI:=L.find? λe=>ae (e.z6=d)
def bz(L:List GI)(d:GA):Bool:=(qE L d).isSome
def n7(L:List GI)(d:GA):List GA:=((qE L d).getD C0).vV
theorem zdi(L:List GI)(d:GA):bz L d=true↔∃e∈L,e.z6=d:=by
 unfold bz qE;rw[List.find?_isSome];simp
theorem rj(h:qE L d=aa c):c∈L/\c.z6=d:=by
 unfold qE at h
 grind
structure Mp(m:List (GA×GI))(L:List GI):Prop where
 perm:m.Perm (L.map λc=>(c.z6,c))
 nd:(L.map (·.z6)).Nodup
theorem Mp.keys(h:Mp m L):(m.map (·.1)).Perm (L.map (·.z6)):=by
 have:=h.perm.map (·.1)
 rwa[kY]at this
theorem Mp.has(h:Mp m L)(d:GA):vR GA.fh m d=bz L d:=by
 rw[zrl zxb,lI,so,h.keys.mem_iff,zdi,lH]
theorem Mp.get(h:Mp m L)(d:GA):zG GA.fh C0 m d=(qE L d).getD C0:=by
 have p:(m.map (·.1)).Nodup:=h.keys.nodup_iff.2 h.nd;cases hf:qE L d with
 |none =>
  rw[rS zxb];rfl;intro k;have:=(zdi L d).2 (by simpa using h.keys.mem_iff.1 k);unfold bz at this;rw[hf]at this;cases this
 |some c =>
  obtain⟨o,r⟩:=rj hf;have:=zaT zxb C0 m p (c.z6,c) (h.perm.mem_iff.2 (lH.2 ⟨c,o,rfl⟩))
  simp_all
theorem zht(d:GA):∀(L:List GI)(i:Nat),∃k:Int,lp (zf (λ(s:Nat)(o:GI) (_:Unit)=>((if(o.z6.zi.fk==d.zi.fk&&(o.z6.zi.inc==d.zi.inc&&(o.z6.seq==d.seq&&true)))=true then aa (.ret (s:Int))else aa (.gV ())):Option (Out Int Unit))) L i ()) (λ(_:Unit)=>aa (-1:Int))=aa k /\
  ((qE L d=none/\k=-1) \/ ∃(j:Nat)(c:GI),k=((i+j:Nat):Int)/\L[j]?=aa c/\qE L d=aa c)
 |[],i=>⟨-1,rfl,.inl ⟨rfl,rfl⟩⟩
 |c::L,i=>by
  simp only[zf,tT];by_cases h:c.z6=d
  ·exact⟨(i:Int),by simp[h,lp],.inr ⟨0,c,by simp,rfl,by simp[qE,h]⟩⟩
  ·obtain⟨k,e,p⟩:=zht d L (i+1);simp only[tT]at e;refine⟨k,by simp_all,?_⟩;have r:qE (c::L) d=qE L d:=by simp[qE,h]
   rw[r];rcases p with p|⟨j,w,C,z,y⟩
   ·simp_all
   ·exact .inr ⟨j+1,w,by omega,by simp_all,y⟩
theorem znh(b:GL)(L:List GI)(d:GA):∃k:Int,xU ⟨b,L⟩ d=aa k/\((qE L d=none/\k=-1) \/ ∃(j:Nat)(c:GI),k=(j:Int)/\L[j]?=aa c/\qE L d=aa c):=by
 obtain⟨k,e,h⟩:=zht d L 0;exact⟨k,e,by simpa using h⟩
theorem zo6(b:GL)(L:List GI)(d:GA):xc ⟨b,L⟩ d=aa (bz L d || gY b.f d):=by
 obtain⟨k,e,h⟩:=znh b L d;unfold xc;rw[e];simp only[tb,rK];rcases h with⟨h,rfl⟩|⟨j,c,rfl,_,h⟩
 ·simp[bz,h]
 ·simp[bz,h]
theorem zxN(h:Mp m L)(b:GL)(v:List GA)(d:GA):wU ⟨b,m,v⟩ d=aa (bz L d || gY b.f d):=by
 unfold wU zV;simp only[tb,h.has,qc]
 grind
def dR(F:List GA)(L:List GI)(c:GI)(a:GH):Int :=
 max (max (min (zr c.vV a) (zr F a)) (zr [c.z6] a)) (max (zr c.xo a) (zr (c.xo.flatMap (n7 L)) a))
theorem zjf(h:Gr F L)(d:GA):ak (n7 L d)<=64:=by
 unfold n7;cases hf:qE L d with
 |none=>exact lV _
 |some c=>exact(h.len c (rj hf).1).1
theorem ztR{b:GL}(h:Mp m L)(g:Gr b.f L)(v:List GA)(D:ak b.f<=64){c:GI}(E:ak c.vV<=64)(C:ak c.xo<=64) :
  ∃K,wc ⟨b,m,v⟩ c=aa K/\∀a,zr K a=dR b.f L c a:=by
 obtain⟨A,w,_,y,N⟩:=zc4 (a:=c.vV) (b:=b.f) (by omega);obtain⟨B,p,_,_,n2,O⟩:=qN (a:=A) (b:=[c.z6]++c.xo) (by simp;omega);unfold wc;rw[w];simp only[tb];rw[ze (by simp only[kM,lim];omega),p];simp only[tb];refine zha (λo=>∃K,o=aa K/\∀a,zr K a=dR b.f L c a) (λpre s=>(∀a,zr s a=max (zr B a) (zr (pre.flatMap (n7 L)) a))/\(ak s)<=129+64*(ak pre)) (λpre x rest s z r hi=>?_) ⟨λa=>?_,?_⟩ λs h=>⟨s,rfl,λa=>?_⟩
 ·have H:(ak pre)<(ak c.xo):=by rw[z];simp
  have r:(zG GA.fh C0 m x).vV=n7 L x:=by rw[h.get];rfl
  have I:=zjf g x;obtain⟨M,J,_,_,k,G⟩:=qN (a:=s) (b:=n7 L x) (by omega);refine⟨M,?_,λa=>?_,?_⟩
  ·show(vW s (zG GA.fh C0 m x).vV).bind _=_
   simp_all
  ·rw[k,hi.1,jY,vG]
   simp_all
  ·grind
 ·have:=xj B a;simp only[iq,zr];omega
 ·grind
 ·rw[h.1,n2,y,vG];unfold dR;omega
theorem zmV{b:GL}(g:Gr b.f L)(Q:ak b.f<=64){c:GI}(R:ak c.vV<=64)(P:ak c.xo<=64) :
  ∃K,xE ⟨b,L⟩ c=aa K/\∀a,zr K a=dR b.f L c a:=by
 obtain⟨A,_,H,J,Z⟩:=zc4 (a:=c.vV) (b:=b.f) (by omega);obtain⟨B,_,D,_,n2,l2⟩:=qN (a:=A) (b:=[c.z6]) (by simp;omega);unfold xE;rw[H];simp only[tb];rw[D];simp only[tb];refine zha (λo=>∃K,o=aa K/\∀a,zr K a=dR b.f L c a) (λpre s=>(∀a,zr s a=max (zr B a) (max (zr pre a) (zr (pre.flatMap (n7 L)) a)))/\(ak s)<=129+65*(ak pre)) (λpre x rest s O Y hi=>?_) ⟨λa=>?_,?_⟩ λs h=>⟨s,rfl,λa=>?_⟩
 ·have U:(ak pre)<(ak c.xo):=by rw[O];simp
  have X:=zjf g x;obtain⟨M,_,I,_,r,E⟩:=qN (a:=s) (b:=[x]) (by simp;omega);simp only[kM]at E;obtain⟨N,_,e4,_,C,V⟩:=qN (a:=M) (b:=n7 L x) (by omega);obtain⟨k,z,p⟩:=znh b L x;rw[I];simp only[tb];rw[z];simp only[tb];rcases p with⟨p,rfl⟩|⟨j,y,rfl,G,p⟩
  ·have w:n7 L x=[]:=by unfold n7;rw[p];rfl
   refine⟨M,by rfl,λa=>?_,?_⟩
   ·rw[r,hi.1,jY,vG,vG];simp only[jf,iq,ko,w];have:=xj pre a;have:=xj [x] a;have:zr [] a=0:=rfl;have:=xj (pre.flatMap (n7 L)) a;omega
   ·grind
  ·have w:y.vV=n7 L x:=by unfold n7;rw[p];rfl
   refine⟨N,?_,λa=>?_,?_⟩
   ·rw[nK (by simp),zu G];simp only[tb]
    simp_all
   ·rw[C,r,hi.1,jY,vG,vG]
    grind
   ·grind
 ·have:=xj B a;simp only[iq,zr];omega
 ·grind
 ·rw[h.1,n2,J];unfold dR;omega

open Classical in
noncomputable def bS(f g:GH->Int):Bool:=ae (∀a,f a<=g a)
theorem m8{u:List GA}{g:GH->Int}(o:∀a,zr u a=f a)(k:∀a,zr v a=g a):fj u v=bS f g:=by
 rw[show f=zr u from funext λa=>(o a).symm,show g=zr v from funext λa=>(k a).symm];rfl
def en(F:List GA)(L:List GI)(d:GA):Bool:=bz L d || gY F d
def zqn(L:List GI)(c:GI)(p:GA):Bool:=match qE L p with
 |none=>false
 |some x=>(c.xo.any λq=>!ae (q=p)&&gY x.vV q) || ae (x.time >= c.time)
def knP(L:List GI)(ah:GA)(p:GA):Bool:=match qE L p with
 |none=>false
 |some x=>gY x.vV ah
def zpc(F:List GA)(L:List GI)(c:GI)(ah:GA):Bool :=
 !(c.xo.any (zqn L c))&&((c.z6.seq==1 || gY F ah) || c.xo.any (knP L ah))
theorem zf3{ρ:Type}(k p:GA->Bool){f:Nat->GA->Bool->Option (Out ρ Bool)}{r:ρ}{rest:Bool->Option ρ}:∀(o:List GA)(i:Nat) (s:Bool),
  (∀j x s,o[j]?=aa x->f (i+j) x s=if k x=true then aa (.ret r)else aa (.gV (s || p x))) ->
  lp (zf f o i s) rest=if o.any k=true then aa r else rest (s || o.any p)
 |[],i,s,_=>by simp[zf,lp]
 |x::o,i,s,h=>by
  have h0:=h 0 x s rfl;simp only[ja]at h0;have w:=zf3 k p (f:=f) (r:=r) (rest:=rest) o (i+1) (s || p x) λj y s z=>by
   have:=h (j+1) y s z;rwa[show i+(j+1)=i+1+j by omega]at this
  by_cases hb:k x=true
  ·rw[nK hb]at h0;simp only[zf,h0,iV,hb,gG,oS];rfl
  ·rw[n4 hb]at h0;rw[jp]at hb;simp only[zf,h0,iV,hb,lM,w,Bool.or_assoc]
theorem zpb{b:GL}(h:Mp m L)(v:List GA)(c:GI)(k:GA):xD ⟨b,m,v⟩ c k=aa (zpc b.f L c k):=by
 unfold xD;have p:∀o:GA->Option Bool,(∀x,o x=aa (gY b.f k))->(if((c.z6.seq==(1:Int))==false)=true then o k else aa af)=aa (if(c.z6.seq==(1:Int))=true then af else gY b.f k):=λo w=>by
  cases c.z6.seq==(1:Int)<;>simp[w]
 rw[show(if((c.z6.seq==(1:Int))==false)=true then sH b.f k else aa af)=aa (if(c.z6.seq==(1:Int))=true then af else gY b.f k)from p (λ_=>sH b.f k) λ_=>qc _ _];simp only[tb];rw[zf3 (zqn L c) (knP L k) (r:=false) c.xo 0 _ λj x s z=>by
  simp only[h.has];rw[show(zG GA.fh (GI.mk (GA.mk (GH.mk (0:Int) (0:Int)) (0:Int)) ([]:List GA) ([]:List GA) (0:Int) (GN.mk (0:Int) ([]:List zp) (0:Int) ([]:zp) ([]:List GA))) m x)=(qE L x).getD C0 from h.get x];unfold bz zqn knP;cases hf:qE L x with
  |none=>simp
  |some y =>
   simp only[Option.isSome_some,ly,s5,mb,jq,qc];rw[zdl (q:=λq=>!ae (q=x)&&gY y.vV q) c.xo λq _=>by
    unfold vF;rw[tT,qc];by_cases hq:q=x<;>simp[hq]]
   cases s<;>simp]
 unfold zpc;cases hb:c.xo.any (zqn L c)<;>cases c.z6.seq==(1:Int)<;>simp
noncomputable def zo8(F:List GA)(L:List GI)(c:GI)(ah:GA):Bool :=
 (c.xo.any λp=>!en F L p) || (ae (c.z6.seq > 1)&&!en F L ah) || !bS (zr c.vV) (dR F L c)
theorem ztZ{b:GL}(g:Gr b.f L)(C:ak b.f<=64){c:GI}(y:ak c.vV<=64)(w:ak c.xo<=64)(k:GA):xT ⟨b,L⟩ c k=aa (zo8 b.f L c k):=by
 obtain⟨K,e,z⟩:=zmV g C y w;unfold xT;rw[ziw (λp=>en b.f L p) (r:=true) (λi x D=>by
  rw[zo6];simp only[tb];show(if(!en b.f L x)=true then _ else _)=_;by_cases h9:en b.f L x=true
  ·rw[h9];rfl
  ·rw[jp]at h9;rw[h9];rfl)]
 have s:(c.xo.any λp=>!en b.f L p)=!(c.xo.all λp=>en b.f L p):=by
  rw[<- List.not_all_eq_any_not]
 unfold zo8;rw[s,zo6,e];have o:fj c.vV K=bS (zr c.vV) (dR b.f L c):=m8 (λa=>rfl) z;simp only[tb,zae];have hh:(bz L k || gY b.f k)=en b.f L k:=rfl;rw[hh];cases c.xo.all (λp=>en b.f L p)<;>cases ae (c.z6.seq > 1)<;>cases en b.f L k<;>simp[o]
theorem zlA{b:GL}(g:Gr b.f L)(O:ak b.f<=64){c:GI}(hm:ba c)(Y:ak c.vV<=64)(V:ak c.xo<=64)(w:GA):xw ⟨b,L⟩ c w=aa (!zpc b.f L c w || !bS (dR b.f L c) (zr c.vV)):=by
 obtain⟨K,e,Z⟩:=zmV g O Y V;have G:∀(i j:Nat)(p q:GA),c.xo[i]?=aa p->c.xo[j]?=aa q->(ae (q=p)=ae (j=i)):=λi j p q hi I=>by
  have C:=lF.1 hm.zzP;obtain⟨Q,hi⟩:=tu.1 hi;obtain⟨P,I⟩:=tu.1 I;refine kP.2 ⟨λo=>?_,λo=>by subst o;rw[<- hi,<- I]⟩;subst o;rcases jP j i with E|E|E
  ·have:=C j i P Q E;rw[hi,I,wR]at this;cases this
  ·exact E
  ·have:=C i j Q P E;rw[hi,I,wR]at this;cases this
 unfold xw;rw[show(if((c.z6.seq==(1:Int))==false)=true then uj b.f w else aa af)=aa (if(c.z6.seq==(1:Int))=true then af else gY b.f w)from by
  rw[rK];cases c.z6.seq==(1:Int)<;>simp]
 simp only[tb];rw[zf3 (zqn L c) (knP L w) (r:=true) c.xo 0 _ λj x s R=>by
  obtain⟨k,U,D⟩:=znh b L x;simp only[l8];rw[U];simp only[tb];unfold zqn knP;rcases D with⟨D,rfl⟩|⟨i,y,rfl,N,D⟩
  ·simp[D]
  ·rw[n4 (by simp)];simp only[D,zu N,tb,rK];by_cases ht:y.time >= c.time
   ·simp[ht]
   ·rw[n4 (by simpa using ht)];have il:i<(ak L):=(tu.1 N).1;have X:L.getD i af=y:=by rw[lu,N];rfl
    have key:∀s2:Bool,(lp (zf (λ(z:Nat)(x3:GA) (_:Unit)=>((zN ((((z:Int) != (j:Int))==true)=true->0<=(i:Int)/\(i:Int)<(ak (L):Int)) ((zN ((((z:Int) != (j:Int))==true)=true->0<=(z:Int)/\(z:Int)<(ak (c.xo):Int)) (((if(((z:Int) != (j:Int))==true)=true then aa (gY (((L).getD (i:Int).toNat af).vV) ((c.xo).getD (z:Int).toNat af))else aa af).bind λM=>(if(((z:Int) != (j:Int))&&M)=true then aa (.ret (.ret true))else aa (.gV ()))))))):Option (Out (Out Bool Bool) Unit))) c.xo 0 ()) λ(_:Unit)=>aa (.gV s2))=if(c.xo.any λq=>!ae (q=x)&&gY y.vV q)=true then aa (.ret true)else aa (.gV s2):=λs2=>by
     rw[ul (λn q=>!(!ae (n=j)&&gY y.vV q)) (r:=.ret true) (λn q o=>by
      have nl:n<(ak c.xo):=(tu.1 o).1;have ng:c.xo.getD n af=q:=by rw[lu,o];rfl
      rw[ze (λ_=>by omega),ze (λ_=>by omega)];simp only[o5,X,ng];by_cases hnj:n=j
      ·subst hnj;simp
      ·have J:((n:Int) != (j:Int))=true:=by simp only[bne_iff_ne,gP];omega
       simp only[J,jJ,oS,tb,hnj,jc,jk,lq];cases gY y.vV q<;>rfl)]
     have:allI (λn q=>!(!ae (n=j)&&gY y.vV q)) c.xo=!(c.xo.any λq=>!ae (q=x)&&gY y.vV q):=by
      rw[List.not_any_eq_all_not,lI,fg,oB];constructor
      ·intro hh q o;obtain⟨n,H⟩:=lz.1 o;have:=hh n q H;rw[G j n x q (by simpa using R) H];simpa using this
      ·intro hh n q H;have:=hh q (lc H);rw[G j n x q (by simpa using R) H]at this;simpa using this
     rw[this];cases c.xo.any λq=>!ae (q=x)&&gY y.vV q<;>rfl
    simp only[ht,jc,ia];cases gY y.vV w
    ·simp only[s5,mb,yw,ia];exact key s
    ·simp only[oS,yw,im];exact key true]
 rw[e];have hw:fj K c.vV=bS (dR b.f L c) (zr c.vV):=m8 Z (λa=>rfl);simp only[tb,zae];unfold zpc;cases O:c.xo.any (zqn L c)<;>cases c.z6.seq==(1:Int)<;>cases gY b.f w<;>cases c.xo.any (knP L w)<;>simp[hw]

def bC(y c:GI):Bool:=ae (y.time<c.time) || (y.time==c.time&&w6 y.z6 c.z6)
theorem zkv(y c:GI):bC y c=true↔c6 y c:=by
 unfold bC c6;simp
def bY(L:List GI)(c:GI):List GI:=L.takeWhile (λy=>bC y c)++[c]++L.drop (ak (L.takeWhile λy=>bC y c))
theorem qD(L:List GI)(c x:GI):x∈bY L c↔x∈L \/ x=c:=zmD _ c x L
theorem zqk{a b:GI}(h:c6 a b)(k:c6 b c):c6 a c:=by
 unfold c6 at *;rcases h with h|⟨p,o⟩
 ·omega
 ·rcases k with k|⟨k1,k2⟩
  ·omega
  ·exact .inr ⟨by omega,up o k2⟩
theorem zgm(a:GI):¬c6 a a:=by
 unfold c6;rintro(h|⟨_,h⟩)
 ·omega
 ·rw[wR]at h;cases h
theorem bM{a b:GI}(h:a.z6≠b.z6):c6 a b \/ c6 b a:=by
 unfold c6;rcases f7 a.z6 b.z6 with e|e|e
 ·simp_all
 ·grind
 ·grind
theorem zdk{x:GA}(hd:fa d=true)(k:gY v x=true)(o:x.zi=d.zi)(hs:d.seq<=x.seq):gY v d=true:=by
 rw[vE]at k ⊢
 grind
theorem zrm{x:GA}(hd:fa d=true)(p:x∈v)(o:fa x=true)(k:x.zi=d.zi)(hs:d.seq<=x.seq):gY v d=true:=by
 rw[vE];have:=sD p o k
 grind
theorem zaZ(h:fa d=true):1<=d.seq/\d.seq<=1048576:=by
 simp only[fa,tx,so]at h;omega
structure eB(F:List GA)(L:List GI)(c:GI):Prop where
 may:ms c=true
 len:ak c.vV<=64/\(ak c.xo)<=64
 new:en F L c.z6=false
 gap:zo8 F L c ⟨c.z6.zi,c.z6.seq-1⟩=false
 fol:zpc F L c ⟨c.z6.zi,c.z6.seq-1⟩=true
 le:bS (dR F L c) (zr c.vV)=true
open Classical in
theorem zfQ(f g:GH->Int):bS f g=true↔∀a,f a<=g a:=by unfold bS;rw[so]
theorem eB.eq(h:eB F L c)(a:GH):zr c.vV a=dR F L c a:=by
 have k:=h.gap;unfold zo8 at k;simp only[kw,Bool.not_eq_false']at k;have o:=k.2;have p:=h.le;rw[zfQ]at o p
 grind
theorem eB.cE{y:GI}(h:eB F L c){p:GA}(o:p∈c.xo)(r:qE L p=aa y):y.time<c.time:=by
 have k:=h.fol;unfold zpc at k;simp only[tx,kb,ki]at k;have:=k.1 p o;unfold zqn at this
 simp_all
theorem eB.split{F:List GA}{L:List GI}{c:GI}(g:Gr F L)(h:eB F L c){d:GA}(hd:gY c.vV d=true):gY F d=true \/ d=c.z6 \/ ∃y∈L,gY y.vV d=true/\y.time<c.time/\∀a,zr y.vV a<=zr c.vV a:=by
 have P:=vT h.may;have z:=zo5 hd;have O:=zaZ z;have hs:=((vE _ _).1 hd).2;have below:∀{p:GA}{y:GI},p∈c.xo->qE L p=aa y->∀a,zr y.vV a<=zr c.vV a:=λ{p y} D s a=>by
  rw[h.eq];by_cases h0:0<zr y.vV a
  ·obtain⟨d,M,I,J,d4⟩:=xL h0;rw[<- d4];have:zr (c.xo.flatMap (n7 L)) a >= d.seq:=sD (ip.2 ⟨p,D,by unfold n7;rw[s];exact M⟩) I J;unfold dR;omega
  ·have:=xj [c.z6] a;unfold dR;omega
 rw[h.eq]at hs;unfold dR at hs;by_cases k1:d.seq<=zr F d.zi
 ·exact .inl ((vE _ _).2 ⟨z,k1⟩)
 by_cases k2:d.seq<=zr [c.z6] d.zi
 ·obtain⟨x,w,E,r,G⟩:=xL (v:=[c.z6]) (a:=d.zi) (by omega);rw[la]at w;subst w;by_cases hq:d.seq=c.z6.seq
  ·refine .inr (.inl ?_);cases hc:c.z6;cases d;rw[hc]at r hq;simp only at r hq;simp[r,hq]
  ·have C:=h.fol;unfold zpc at C;simp only[tx,lN,jo,jt]at C;rcases C.2 with(k|k)|⟨p,D,o⟩
   ·omega
   ·exact .inl (zdk z k r (by grind))
   ·unfold knP at o;split at o
    ·cases o
    ·rename_i y s;exact .inr (.inr ⟨y,(rj s).1,zdk z o r (by grind),h.cE D s,below D s⟩)
 by_cases k3:d.seq<=zr c.xo d.zi
 ·obtain⟨x,w,E,r,G⟩:=xL (v:=c.xo) (a:=d.zi) (by omega);have C:=h.gap;unfold zo8 at C;simp only[kw,ki,kb]at C;have k:=C.1.1 x w;rw[gn]at k;unfold en at k;rw[lN]at k;rcases k with k|k
  ·unfold bz at k;obtain⟨y,s⟩:=iy.1 k;obtain⟨H,N⟩:=rj s;have:=(vT (g.may y H)).has;rw[N]at this;exact .inr (.inr ⟨y,H,zdk z this r (by omega),h.cE w s,below w s⟩)
  ·exact .inl (zdk z k r (by omega))
 obtain⟨x,w,E,r,G⟩:=xL (v:=c.xo.flatMap (n7 L)) (a:=d.zi) (by omega);obtain⟨p,D,o⟩:=ip.1 w;unfold n7 at o;cases hf:qE L p with
 |none=>rw[hf]at o;cases o
 |some y =>
  rw[hf]at o;exact .inr (.inr ⟨y,(rj hf).1,zrm z o E r (by omega),h.cE D hf,below D hf⟩)
theorem Gr.ins(g:Gr F L)(h:eB F L c):Gr F (bY L c):=by
 have r:=h.new;unfold en at r;rw[kw]at r;have s:∀e∈L,e.z6≠c.z6:=λe he k=>by
  have:=(zdi L c.z6).2 ⟨e,he,k⟩
  simp_all
 refine⟨λx k=>?_,λx k=>?_,λx k=>?_,λx k d hd=>?_,λx k e he hd=>?_,λx k e he hd=>?_,?_⟩
 ·rcases(qD _ _ _).1 k with k|rfl
  ·exact g.may x k
  ·exact h.may
 ·rcases(qD _ _ _).1 k with k|rfl
  ·exact g.len x k
  ·exact h.len
 ·rcases(qD _ _ _).1 k with k|rfl
  ·exact g.out x k
  ·simp_all
 ·have lift:(gY F d=true \/ ∃e∈L,e.z6=d)->(gY F d=true \/ ∃e∈bY L c,e.z6=d):=λhh=>by
   rcases hh with hh|⟨e,o,E⟩
   ·simp_all
   ·exact .inr ⟨e,(qD _ _ _).2 (.inl o),E⟩
  rcases(qD _ _ _).1 k with k|rfl
  ·exact lift (g.cl x k d hd)
  ·rcases h.split g hd with o|o|⟨y,w,C,_⟩
   ·simp_all
   ·grind
   ·exact lift (g.cl y w d C)
 ·rcases(qD _ _ _).1 k with p|rfl
  ·rcases(qD _ _ _).1 he with he|rfl
   ·exact g.bef x p e he hd
   ·rcases g.cl x p _ hd with o|⟨z,I,H⟩
    ·simp_all
    ·simp_all
  ·rcases(qD _ _ _).1 he with he|rfl
   ·rcases h.split g hd with o|o|⟨y,w,C,M,_⟩
    ·rw[g.out e he]at o;cases o
    ·simp_all
    ·rcases g.bef y w e he C with rfl|E
     ·omega
     ·omega
   ·simp_all
 ·rcases(qD _ _ _).1 k with p|rfl
  ·rcases(qD _ _ _).1 he with he|rfl
   ·exact g.tr x p e he hd
   ·rcases g.cl x p _ hd with o|⟨z,I,H⟩
    ·simp_all
    ·simp_all
  ·rcases(qD _ _ _).1 he with he|rfl
   ·rcases h.split g hd with o|o|⟨y,w,C,_,J⟩
    ·rw[g.out e he]at o;cases o
    ·exact absurd o (s e he)
    ·exact λa=>Int.le_trans (g.tr y w e he C a) (J a)
   ·exact λa=>kp _
 ·refine zmh (lt:=c6) (λ_ _ _=>zqk) _ c L g.pw (λy _ D=>(zkv y c).1 D) λy D G=>?_;rcases bM (s y D)with o|o
  ·rw[(zkv y c).2 o]at G;cases G
  ·exact o
theorem Gr.gZ(g:Gr F L):(L.map (·.z6)).Nodup:=by
 rw[kE,kz];refine g.pw.imp_of_mem λ{a b} k o w he=>?_;have r:=(vT (g.may a k)).has;rw[he]at r;have p:=(vT (g.may b o)).has;rw[<- he]at p;rcases g.bef a k b o r with s|s
 ·subst s;exact zgm _ w
 ·rcases g.bef b o a k p with y|y
  ·simp_all
  ·omega

noncomputable def bE(b:GL)(c:GI)(m:List (GA×GI))(v:List GA):Option (Int×List (GA×GI)×(List GA)):=((zV ⟨b,m,v⟩).bind λv897=>(if v897=true then aa ((1:Int),m,v)else((tU c).bind λv899=>(if(!v899)=true then aa ((4:Int),m,v)else((wU ⟨b,m,v⟩ c.z6).bind λv901=>(if v901=true then aa ((8:Int),m,v)else((wc ⟨b,m,v⟩ c).bind λv903=>(lp (((yh c.xo (λx0=>yi x0 ⟨b,m,v⟩)).bind λv926=>(if v926=true then aa (.inr v926)else((if((ae (c.z6.seq > (1:Int)))==true)=true then yi (GA.mk c.z6.zi (ai .u64 (c.z6.seq-(1:Int)))) ⟨b,m,v⟩else aa af).bind λv928=>(if((ae (c.z6.seq > (1:Int)))&&v928)=true then aa (.inr ((ae (c.z6.seq > (1:Int)))&&v928))else((wD c.vV v903).bind λv930=>aa (.inr (!v930))))))):Option (_ ⊕ Bool)) λ(s2:Bool)=>(if s2=true then aa ((9:Int),m,v)else((wD v903 c.vV).bind λv932=>((if((!v932)==false)=true then xD ⟨b,m,v⟩ c (GA.mk c.z6.zi (ai .u64 (c.z6.seq-(1:Int))))else aa af).bind λv933=>(if((!v932) || (!v933))=true then aa ((4:Int),m,v)else(if(ae ((ak (m):Int) >= (200:Int)))=true then aa ((10:Int),m,v)else((uG c).bind λv937=>((vW v c.vV).bind λv938=>aa ((0:Int),(wM GA.fh m c.z6 v937),v938))))))))))))))))
noncomputable def zo4(b:GL)(c:GI)(L:List GI):Option (Int×(List GI)):=((nq c).bind λv1022=>(if(!v1022)=true then aa ((4:Int),L)else((xc (GS.mk b L) c.z6).bind λv1024=>(if v1024=true then aa ((8:Int),L)else((xT (GS.mk b L) c (GA.mk c.z6.zi (ai .u64 (c.z6.seq-(1:Int))))).bind λv1026=>(if v1026=true then aa ((9:Int),L)else((xw (GS.mk b L) c (GA.mk c.z6.zi (ai .u64 (c.z6.seq-(1:Int))))).bind λv1028=>(if v1028=true then aa ((4:Int),L)else(if(ae ((ak (L):Int) >= (200:Int)))=true then aa ((10:Int),L)else(lp (ya (λ(s2:Int)=>((zN (((ae (s2<(ak (L):Int)))==true)=true->0<=s2/\s2<(ak (L):Int)) ((zN ((((ae (s2<(ak (L):Int)))==true)&&((ae (((L).getD s2.toNat af).time<c.time))==false))=true->0<=s2/\s2<(ak (L):Int)) ((zN (((((ae (s2<(ak (L):Int)))==true)&&((ae (((L).getD s2.toNat af).time<c.time))==false))&&((((L).getD s2.toNat af).time==c.time)==true))=true->0<=s2/\s2<(ak (L):Int)) (((if((((ae (s2<(ak (L):Int)))==true)&&((ae (((L).getD s2.toNat af).time<c.time))==false))&&((((L).getD s2.toNat af).time==c.time)==true))=true then wy (((L).getD s2.toNat af).z6) c.z6 else aa af).bind λv1091=>(if((ae (s2<(ak (L):Int)))&&((ae (((L).getD s2.toNat af).time<c.time)) || ((((L).getD s2.toNat af).time==c.time)&&v1091)))=true then aa (.gV (ai .i64 (s2+(1:Int))))else aa (.brk s2))))))))):Option (Out _ Int))) (0:Int)) λ(s2:Int)=>((fP L (0:Int) s2).bind λm1093=>(zN (ak (([]:List GI))+ak (m1093)<=lim) ((zN (ak ((([]:List GI)++m1093))+ak (([c]:List GI))<=lim) (((fP L s2 (ak (L):Int)).bind λm1096=>(zN (ak (((([]:List GI)++m1093)++([c]:List GI)))+ak (m1096)<=lim) (aa ((0:Int),(((([]:List GI)++m1093)++([c]:List GI))++m1096))))))))))))))))))))
structure GQ(b:GL)(m:List (GA×GI))(v:List GA)(L:List GI):Prop where
 mp:m.Perm (L.map λc=>(c.z6,c))
 gr:Gr b.f L
 vv:∀a,zr v a=max (zr b.f a) (zr (L.flatMap (·.vV)) a)
 vl:ak v<=64+64*(ak L)
 vc:Can v (zr v)
theorem GQ.map{b:GL}(h:GQ b m v L):Mp m L:=⟨h.mp,h.gr.gZ⟩
theorem GQ.zzN{b:GL}(h:GQ b m v L):ak m=ak L:=by
 rw[h.mp.length_eq,oa]
theorem zmi{V:Type}(k:GA)(x:V):∀m:List (GA×V),vR GA.fh m k=false->wM GA.fh m k x=m++[(k,x)]
 |[],_=>rfl
 |e::m,h=>by
  simp only[vR,kw]at h;simp only[wM,h.1,s5,mb,zmi k x m h.2,kc]
theorem ztK(h:Mp m L)(b:GL)(v:List GA)(d:GA):yi d ⟨b,m,v⟩=aa (!en b.f L d):=by
 unfold yi;rw[zxN h];rfl
theorem zfH(h:ms c=true):ak c.op.path<=3/\(ak c.op.gZ)<=64:=by
 have:=(vT h).ev;unfold yz xM opB sO at this
 simp_all
theorem zq7(h:ms c=true)(k:ak c.vV<=64)(o:ak c.xo<=64):uG c=aa c:=by
 have p:=zfH h;unfold uG;rw[wV (by simp only[lim];omega),zdC (by simp only[lim];omega),zam (by simp only[lim];omega),wV (by simp only[lim];omega)];rfl
theorem wr1{n:Int}(h:1<=n/\n<=1048576):ai .u64 (n-1)=n-1:=by
 rw[IntKind.wrap_u64];omega
theorem zkd{b:GL}(g:Gr b.f L)(D:ak L<=12)(p:ak b.f<=64)(h:eB b.f L c)(hd:ak c.op.gZ<=100):zo4 b c L=aa (0,bY L c):=by
 have k:=vT h.may;have r:=zaZ k.z6;have z:=h.new;unfold zo4;rw[zas (by have:=h.len;omega) (by have:=h.len;omega) (by omega),h.may,zo6];simp only[tb,ly,s5,mb];rw[show(bz L c.z6 || gY b.f c.z6)=en b.f L c.z6 from rfl,z,wr1 r,ztZ g p h.len.1 h.len.2,h.gap,zlA g p k h.len.1 h.len.2,h.fol,h.le];simp only[tb,ly,kN,s5,mb];rw[n4 (by simp;omega)];rw[zgF (ρ:=Int×List GI) (L:=L) (by omega) (λy=>bC y c) (λi y o=>by
  have C:i<(ak L):=(tu.1 o).1;have s:L.getD i af=y:=by rw[lu,o];rfl
  have w:(0:Int)<=(i:Int)/\(i:Int)<(ak L:Int):=by omega
  simp only[zN,w,j5,hU,oS,jB,jJ,o5,s,vC,lq];rw[xZ (by omega)];unfold bC;cases ae (y.time<c.time)<;>cases y.time==c.time<;>simp) (by simp[zN])]
 have:=(kF (l:=L) λy=>bC y c).length_le;simp only[lp,show fP L 0 (ak (L.takeWhile λy=>bC y c):Int)=aa (L.take (ak (L.takeWhile λy=>bC y c)))from zpS (by omega),zuv _ _ this,<- jx.1 (kF (l:=L) λy=>bC y c),tb,ll,zN];rw[nK (by simp only[lC,lim];omega),nK (by simp only[kM,lim];omega),nK (by simp only[oA,jC,kM,lim];omega)];rfl
theorem bJ{b:GL}(st:GQ b m v L)(R:ak L<=12)(D:ak b.f<=64)(z:ms c=true)(o:ak c.vV<=64/\(ak c.xo)<=64)(hd:ak c.op.gZ<=100) :
  (∃e,bE b c m v=aa (e,m,v)/\∃Q,zo4 b c L=aa (Q,L)) \/ (eB b.f L c/\∃V,vW v c.vV=aa V/\bE b c m v=aa (0,wM GA.fh m c.z6 c,V)):=by
 have H:=vT z;have J:=zaZ H.z6;obtain⟨K,P,N⟩:=ztR st.map st.gr v D o.1 o.2;have k:bE b c m v=bE b c m v:=rfl
 conv at k=>rhs;unfold bE
 rw[zb0 (by omega) (by omega) (by omega),z,zxN st.map,P]at k;unfold zV at k;have M:(bz L c.z6 || gY b.f c.z6)=en b.f L c.z6:=rfl;simp only[tb,ly,s5,mb,wr1 J,M]at k;have s:zo4 b c L=zo4 b c L:=rfl
 conv at s=>rhs;unfold zo4
 rw[zas (by omega) (by omega) (by omega),z,zo6]at s;simp only[tb,ly,s5,mb,wr1 J,M]at s;cases h1:en b.f L c.z6 with
 |true =>
  simp_all
 |false =>
  simp only[h1,s5,mb]at k s;rw[ztZ st.gr D o.1 o.2]at s;have E:∀rest:Bool->Option (Int×List (GA×GI)×List GA),(lp (((yh c.xo (λO=>yi O ⟨b,m,v⟩)).bind λr=>(if r=true then aa (.inr r)else((if((ae (c.z6.seq > (1:Int)))==true)=true then yi (GA.mk c.z6.zi (c.z6.seq-(1:Int))) ⟨b,m,v⟩else aa af).bind λw=>(if((ae (c.z6.seq > (1:Int)))&&w)=true then aa (.inr ((ae (c.z6.seq > (1:Int)))&&w))else((wD c.vV K).bind λy=>aa (.inr (!y))))))):Option (_ ⊕ Bool)) rest)=rest (zo8 b.f L c ⟨c.z6.zi,c.z6.seq-1⟩):=λrest=>by
   have G:fj c.vV K=bS (zr c.vV) (dR b.f L c):=m8 (λa=>rfl) N;rw[zdl (q:=λp=>!en b.f L p) c.xo λx _=>ztK st.map b v x,ztK st.map,tE,G];unfold zo8;simp only[tb];cases c.xo.any (λp=>!en b.f L p)<;>cases ae (c.z6.seq > 1)<;>cases en b.f L ⟨c.z6.zi,c.z6.seq-1⟩<;>simp
  rw[E]at k;cases h2:zo8 b.f L c ⟨c.z6.zi,c.z6.seq-1⟩with
  |true =>
   grind
  |false =>
   simp only[h2,s5,mb,tb]at k s;have G:fj K c.vV=bS (dR b.f L c) (zr c.vV):=m8 N (λa=>rfl);rw[tE,G,zpb st.map]at k;rw[zlA st.gr D H o.1 o.2]at s;simp only[tb,s5,mb]at k s;by_cases C:bS (dR b.f L c) (zr c.vV)=true/\zpc b.f L c ⟨c.z6.zi,c.z6.seq-1⟩=true
   ·obtain⟨C,I⟩:=C;obtain⟨V,e,_⟩:=qN (a:=v) (b:=c.vV) (by have:=st.vl;omega);refine .inr ⟨⟨z,o,h1,h2,I,C⟩,V,e,?_⟩;rw[k,C,I,zq7 z o.1 o.2,e,st.zzN]
    grind
   ·grind

theorem zpe(L:List GI)(c:GI)(a:GH):zr ((bY L c).flatMap (·.vV)) a=max (zr (L.flatMap (·.vV)) a) (zr c.vV a):=by
 have h:=kW (ak (L.takeWhile λy=>bC y c)) L;rw[<- jx.1 (kF (l:=L) λy=>bC y c)]at h
 conv=>rhs;rw[<- h]
 unfold bY;simp only[jY,vG,jf,iq,ko];omega
theorem zfz(L:List GI)(c:GI):(bY L c).Perm (L++[c]):=by
 have h:=kW (ak (L.takeWhile λy=>bC y c)) L;rw[<- jx.1 (kF (l:=L) λy=>bC y c)]at h;unfold bY
 grind
theorem zkb{b:GL}(st:GQ b m v L)(H:(ak L)<12)(y:ak b.f<=64)(D:ak c.vV<=64/\(ak c.xo)<=64)(hd:ak c.op.gZ<=100) :
  ∃r o,bE b c m v=aa r/\zo4 b c L=aa o/\GQ b r.2.1 r.2.2 o.2/\o.2.length<=ak L+1/\∀x∈o.2,x∈L \/ x=c:=by
 cases hm:ms c with
 |false =>
  refine⟨(4,m,v),(4,L),?_,?_,st,gN _,λx s=>.inl s⟩
  ·unfold bE zV;rw[zb0 (by omega) (by omega) (by omega),hm];rfl
  ·unfold zo4;rw[zas (by omega) (by omega) (by omega),hm];rfl
 |true =>
  rcases bJ st (by omega) y hm D hd with⟨e,z,G,E⟩|⟨ok,V,e,z⟩
  ·simp_all
  ·obtain⟨V',p,_,c1,C,I⟩:=qN (a:=v) (b:=c.vV) (by have:=st.vl;omega);rw[e]at p;injection p with p;subst p;have k:ak (bY L c)=ak L+1:=by rw[(zfz L c).length_eq];simp
   have w:=ok.new;unfold en at w;rw[kw]at w;refine⟨_,_,z,zkd st.gr (by omega) y ok hd,⟨?_,st.gr.ins ok,λa=>?_,?_,?_⟩,by simp_all,λx s=>(qD L c x).1 s⟩
   ·simp only;rw[zmi _ _ _ (by rw[st.map.has];exact w.1)];refine(st.mp.append_right _).trans ?_;have:=(zfz L c).map λc=>(c.z6,c)
    grind
   ·simp only;rw[C,st.vv,zpe];omega
   ·have:=st.vl;simp only[k];omega
   ·simp only
    rwa[show zr V=λx=>max (zr v x) (zr c.vV x)from funext C]
theorem zrq(P:Option τ->Prop){f:Nat->α->σ->Option (Out τ σ)}{V:List α}{w:σ}{rest:σ->Option τ}(I:List α->σ->Prop)(h:∀pre x r s,V=pre++x::r->I pre s->(∃o,f (ak pre) x s=aa (.gV o)/\I (pre++[x]) o) \/ ∃t,f (ak pre) x s=aa (.ret t)/\P (aa t))(h0:I [] w)(k:∀o,I V o->P (rest o)):P (lp (zf f V 0 w) rest):=by
 have key:∀(r pre:List α)(s:σ),V=pre++r->I pre s->P (lp (zf f r (ak pre) s) rest):=by
  intro r
  induction r with
  |nil=>intro pre s e hi;rw[ko]at e;subst e;exact k s hi
  |cons x r ih =>
   intro pre s e hi;rcases h pre x r s e hi with⟨o,p,y⟩|⟨t,p,y⟩
   ·simp only[zf,p]
    grind
   ·simp only[zf,p];exact y
 exact key V [] w rfl h0
theorem zgA{α ρ:Type}{f:Nat->Nat->List α->Option (Out ρ (List α))}{V:List α}(h:∀i x y,V[i]?=aa x->f i y V=aa (.gV V)):∀(R:List Nat)(pre rest:List α),V=pre++rest->ak R=ak rest->zf f R (ak pre) V=aa (.inr V)
 |[],_,[],_,_=>rfl
 |y::R,pre,x::rest,hV,hR=>by
  have e:V[ak pre]?=aa x:=by rw[hV];simp
  simp only[zf,h _ _ y e];simpa using zgA h R (pre++[x]) rest (by simp[hV]) (by simp_all)
theorem zbd{f:Nat->Nat->List α->Option (Out ρ (List α))}{V:List α}(h:∀i x y,V[i]?=aa x->f i y V=aa (.gV V)):zf f (List.range (((ak V:Nat):Int)).toNat) 0 V=aa (.inr V):=zgA h _ [] V rfl (by simp)
theorem zfl{V:List α}{x:α}(h:V[i]?=aa x):V.set i x=V:=by
 obtain⟨k,rfl⟩:=tu.1 h
 simp_all
theorem zmp:∀(n:Nat)(t:List GC),GC.fB t<n->Small t->x9 n t=aa t
 |0,_,h,_=>by omega
 |n+1,t,h,hs=>by
  unfold x9;have E:=hs.len;rw[po (yO (by omega))];simp only[tb];rw[ze (by omega),zbd (λi x y p=>?_)]
  ·simp only[yw];rw[ze trivial]
  ·have o:=lc p;have s:=te o;have D:=w9 x;have w:=hs.leaves o;rw[ze rfl,zu p];simp only[tb];rw[mE (yO (by omega))];simp only[tb];rw[ze (by omega),zbd (λj l z k=>?_)]
   ·simp only[yw];rw[ze trivial,zmp n x.wa (by omega) (hs.wa o)];simp only[tb,o5];have:=zfl p;cases x;exact congrArg (λq=>aa (Out.gV q)) this
   ·have r:=hs.leaf o (lc k);have C:=(tu.1 k).1;rw[ze rfl,zu k];simp only[tb];rw[uL (yO (by have:=r.z8;omega))];simp only[tb];rw[wV (yO (by have:=r.y4;omega))];simp only[tb,o5];have:=zfl k;rw[show x.leaves.set j (GE.mk l.x4 l.n l.time l.z6 l.text l.z8 l.y4)=x.leaves from this,zu k]
    simp_all
theorem zq4(h:Small t):uX t=aa t:=by
 unfold uX pf;rw[tf (GC.fB t+1) λn k=>zmp n t (by omega) h];rfl
theorem zmq{b:GL}(h:Small b.tree)(k:ak b.f<=lim)(o:ak b.fb<=lim):yk b=aa b:=by
 unfold yk;rw[zdC k,wV o,zq4 h];rfl
open Classical in
noncomputable def ziu(b:GL):Bool:=ae (Can b.f (zr b.f))&&ae (ak b.fb<=64)&&ae (b.time<=1099511627776)&&gX 0 b.tree&&allI (λi x=>gY b.f x&&yG b.fb i x) b.fb &&
 (if(ak b.f)=0 then b.time==0&&ae (ak b.fb=0)else ae (b.time > 0)&&ae ((ak b.fb) > 0))
open Classical in
theorem zqm{b:GL}(hs:Small b.tree)(C:ak b.f<=64):uy b=aa (ziu b):=by
 obtain⟨L,_,e,k⟩:=tz (v:=b.f) (by omega);have hd:ae (L=b.f)=ae (Can b.f (zr b.f)):=kP.2 (oQ k);have p:ae ((ak b.fb:Int) > 64)=!ae (ak b.fb<=64):=by
  rw[<- decide_not];exact kP.2 (by omega)
 have o:ae (b.time > 1099511627776)=!ae (b.time<=1099511627776):=by
  rw[<- decide_not];exact kP.2 (by omega)
 unfold uy ziu;rw[e,rI hs];simp only[tb,zbS,hd,p,o];cases h1:ae (Can b.f (zr b.f))with
 |false=>simp
 |true =>
  cases h2:ae (ak b.fb<=64)with
  |false=>simp
  |true =>
   rw[so]at h2;cases ae (b.time<=1099511627776)with
   |false=>simp
   |true =>
    cases gX 0 b.tree with
    |false=>simp
    |true =>
     simp only[ly,kN,jJ,oS,tb,s5,mb,lB,lq];rw[ul (λi x=>gY b.f x&&yG b.fb i x) (r:=false) (λi x s=>by
      have z:i<(ak b.fb):=(tu.1 s).1;have y:b.fb.getD i af=x:=by rw[lu,s];rfl
      rw[rK];simp only[tb,vC,o5,y];by_cases h0:i=0
      ·subst h0;unfold yG;cases gY b.f x<;>simp[zN]
      ·rw[sR (by omega) (by omega),ze (λ_=>by omega),ze (λ_=>by omega)];have w:ae ((i:Int) > 0)=true:=by simp;omega
       unfold yG;simp only[w,jJ,k9,o5,lq,h0,jc,lM];cases gY b.f x<;>cases w6 (b.fb.getD (i-1) af) x<;>simp)]
     cases allI (λi x=>gY b.f x&&yG b.fb i x) b.fb with
     |false=>rfl
     |true =>
      simp only[oS,lq];by_cases h3:ak b.f=0
      ·rw[nK h3,nK (by simp only[jo];omega)];congr 2;rw[lI];simp
      ·rw[n4 h3,n4 (by simp only[jo];omega)];congr 2
       simp_all
theorem zjX{b:GL}(h:ziu b=true):Can b.f (zr b.f)/\(ak b.fb)<=64/\b.time<=1099511627776/\gX 0 b.tree=true/\allI (λi x=>gY b.f x&&yG b.fb i x) b.fb=true/\(if(ak b.f)=0 then b.time==0&&ae (ak b.fb=0)else ae (b.time > 0)&&ae ((ak b.fb) > 0))=true:=by
 unfold ziu at h
 simp_all
theorem zvb{l:List GA}(z:ak l<=16777216)(h:∀i x,l[i]?=aa x->yG l i x=true):sA l=aa true:=by
 unfold sA;obtain⟨s,e,_⟩:=qb (f:=λ(k:Int)=>((if(ae (k<(ak (l):Int)))=true then((zR l (ai .i64 (k-(1:Int)))).bind λp=>((zR l k).bind λr=>((xR p r).bind λo=>(if(ae (o >= (0:Int)))=true then aa (.ret false)else aa (.gV (ai .i64 (k+(1:Int))))))))else aa (.brk k)):Option (Out Bool Int))) (λs=>∃i:Nat,s=i/\1<=i) (λ_=>True) (λs=>(ak l)-s.toNat) (by
  rintro s ⟨i,rfl,hi⟩
  by_cases hlt:i<(ak l)
  ·refine .inr ⟨((i+1:Nat):Int),?_,⟨i+1,rfl,by omega⟩,by omega⟩;rw[nK (by simpa using hlt),sR (by omega) (by omega)];have w:l[i-1]?=aa l[i-1]:=rk _;have y:l[i]?=aa l[i]:=rk _;rw[zu w,zu y];simp only[tb,vP,nS];have:=h i _ y;unfold yG at this;rw[show ae (i=0)=false from lL (by omega),lM,lu,w,jq]at this;rw[this,xZ (by omega)];rfl
  ·exact .inl ⟨_,by rw[n4 (by simp_all)],trivial⟩) _ 1 rfl ⟨1,rfl,ob _⟩
 rw[e];rfl
theorem zup{b:GL}(hs:Small b.tree)(E:ak b.f<=64)(h:ziu b=true):wQ b=aa true:=by
 obtain⟨w,D,G,s,y,r⟩:=zjX h;obtain⟨L,e,_,k⟩:=tz (v:=b.f) (by omega);have z:L=b.f:=(oQ k).2 w;have p:=fg.1 y;unfold wQ;rw[e];simp only[tb,zhw,z,jB,ly,lM];rw[show ae ((ak b.fb:Int) > 64)=false from lL (by omega),zvb (by omega) (λi x o=>by
  have:=p i x o;rw[tx]at this;exact this.2)]
 simp only[jJ,oS,tb,ly,kN];rw[zdl (q:=λd=>!gY b.f d) b.fb (λx _=>by unfold sB;rw[qc];rfl)];have C:(b.fb.any λd=>!gY b.f d)=false:=by
  rw[ki];intro x o;obtain⟨i,hi⟩:=lz.1 o;have:=p i x hi;rw[tx]at this
  simp_all
 simp only[C,tb,s5,mb,pI hs,s];by_cases h0:ak b.f=0
 ·rw[nK h0,tx,jo,so]at r
  simp_all
 ·rw[n4 h0,tx,so,so]at r
  grind

theorem Gr.inj(g:Gr F L){a b:GI}(k:a∈L)(o:b∈L)(he:a.z6=b.z6):a=b:=by
 have s:=(vT (g.may a k)).has;rw[he]at s;have p:=(vT (g.may b o)).has;rw[<- he]at p;rcases g.bef a k b o s with w|w
 ·simp_all
 ·rcases g.bef b o a k p with r|r
  ·exact r
  ·omega
def zks(a b:GI):Int:=aU (sM a.time b.time) (zdy a.z6 b.z6)
theorem znE(a b:GI):zks a b<0↔c6 a b:=by
 have:=zeP a.z6 b.z6;unfold zks c6 aU sM
 grind
theorem znF(a b:GI):xW a b=aa (zks a b):=by
 unfold xW;rw[zgk,vP];simp only[tb];rw[za0];rfl
theorem ou{b:GL}(st:GQ b m v L)(D:ak L<=12):wB ⟨b,m,v⟩=aa L:=by
 have E:=st.zzN;unfold wB zV;simp only[tb,lM];by_cases h0:ak L=0
 ·simp_all
 ·rw[n4 (by simp_all),ze (by simp only[lim];omega)];have hs:bq m (λ(w:List (GA×GI))=>((qT (λx y=>xW x y) (w.map (λx=>x.2))).bind λs=>aa s))=aa L:=zbI λp z=>by
   have r:(p.map (λx=>x.2)).Perm L:=by
    have:=(z.trans st.mp).map (λx=>x.2);rw[kY,show((λx:GA×GI=>x.2)∘λc:GI=>(c.z6,c))=id from rfl,List.map_id]at this;omega
   rw[zcd (cf:=zks) (lt:=c6) (R:=L) (λx _ y _=>znF x y) znE zgm (λ_ _ _=>zqk) (λx o y C=>by
    by_cases he:x.z6=y.z6
    ·exact .inl (st.gr.inj (r.mem_iff.1 o) (r.mem_iff.1 C) he)
    ·exact .inr (bM he)) r.symm st.gr.pw (by rw[r.length_eq];simp only[lim];omega)]
   rfl
  rw[hs];simp only[tb];rw[ze (by omega),zbd (λi x y o=>?_)]
  ·simp only[yw];rw[ze trivial]
  ·have k:=lc o;rw[ze rfl,zu o];simp only[tb];rw[zq7 (st.gr.may x k) (st.gr.len x k).1 (st.gr.len x k).2];simp only[tb,o5,zfl o]
structure PV(F:List GA)(L:List GI)(i:Nat)(v:List GA):Prop where
 get:∀a,zr v a=max (zr F a) (zr ((L.take i).map (·.z6)) a)
 can:Can v (zr v)
 len:ak v<=64+i
theorem PV.step(h:PV F L i v){c:GI}(o:L[i]?=aa c)(hi:i<=12):∃w,vW v [c.z6]=aa w/\PV F L (i+1) w:=by
 obtain⟨w,e,_,k,n,l⟩:=qN (a:=v) (b:=[c.z6]) (by have:=h.len;simp;omega);refine⟨w,e,λa=>?_,?_,by have:=h.len;simp only[kM]at l;omega⟩
 ·rw[n,h.get,l6,o,lZ,vG]
  simp_all
 ·rwa[show zr w=λx=>max (zr v x) (zr [c.z6] x)from funext n]
theorem zhp{a:GH}(h:0<zr ((L.take i).map (·.z6)) a):∃(k:Nat)(e:GI),k<i/\L[k]?=aa e/\e.z6.zi=a/\e.z6.seq=zr ((L.take i).map (·.z6)) a:=by
 obtain⟨d,p,_,w,s⟩:=xL h;obtain⟨e,o,rfl⟩:=lH.1 p;obtain⟨k,r⟩:=lz.1 o
 grind
theorem znu{k:Nat}{e:GI}(p:k<i)(he:L[k]?=aa e)(o:fa e.z6=true):e.z6.seq<=zr ((L.take i).map (·.z6)) e.z6.zi:=by
 refine sD (lH.2 ⟨e,?_,rfl⟩) o rfl;refine lc (i:=k) ?_
 simp_all
theorem Gr.zzy(g:Gr F L){i j:Nat}{a b:GI}(k:L[i]?=aa a)(o:L[j]?=aa b)(w:a.time<b.time):i<j:=by
 obtain⟨r,k⟩:=tu.1 k;obtain⟨s,o⟩:=tu.1 o;have p:=lF.1 g.pw;rcases jP i j with h|h|h
 ·exact h
 ·simp_all
 ·have:=p j i s r h;rw[k,o]at this;unfold c6 at this;omega
theorem PV.has{F:List GA}{L:List GI}(g:Gr F L){i:Nat}{v:List GA}(h:PV F L i v){j:Nat}{c:GI}(r:L[j]?=aa c):gY v c.z6=ae (j<i):=by
 have y:=lc r;have o:=vT (g.may c y);have C:=zaZ o.z6;rw[lI,so,vE,h.get];constructor
 ·rintro⟨_,z⟩
  have D:=g.out c y;have O:¬c.z6.seq<=zr F c.z6.zi:=λI=>by
   rw[(vE _ _).2 ⟨o.z6,I⟩]at D;cases D
  obtain⟨k,e,M,he,H,N⟩:=zhp (L:=L) (a:=c.z6.zi) (i:=i) (by omega);have p:=lc he;have:=zdk o.z6 (vT (g.may e p)).has H (by omega);rcases g.bef e p c y this with rfl|G
  ·obtain⟨E,J⟩:=tu.1 r;obtain⟨lk,s⟩:=tu.1 he;have C:=lF.1 g.pw;rcases jP j k with w|w|w
   ·omega
   ·omega
   ·have:=C k j lk E w;rw[J,s]at this;exact(zgm _ this).elim
  ·have:=g.zzy r he G;omega
 ·intro z;have:=znu z r o.z6;exact⟨o.z6,by omega⟩
theorem PV.closed(g:Gr F L){i:Nat}{v:List GA}(h:PV F L i v){j:Nat}{c:GI}(w:L[j]?=aa c)(N:j<i)(a:GH):zr c.vV a<=zr v a:=by
 have E:=lc w;rw[h.get];by_cases h0:0<zr c.vV a
 ·have hd:gY c.vV ⟨a,zr c.vV a⟩=true:=(vE _ _).2 ⟨(rP c.vV a).2 h0,kp _⟩;rcases g.cl c E _ hd with H|⟨e,C,I⟩
  ·have:=((vE _ _).1 H).2
   grind
  ·have o:=hd;rw[<- I]at o;obtain⟨k,s⟩:=lz.1 C;have r:k<i:=by
    rcases g.bef c E e C o with z|z
    ·subst z;obtain⟨G,D⟩:=tu.1 w;obtain⟨lk,p⟩:=tu.1 s;have J:=lF.1 g.pw;rcases jP j k with y|y|y
     ·have:=J j k G lk y;rw[D,p]at this;exact(zgm _ this).elim
     ·omega
     ·omega
    ·have:=g.zzy s w z;omega
   have M:=znu r s (vT (g.may e C)).z6
   grind
 ·have:=xj F a;omega
theorem zjO(g:GP):rF g=aa false:=by
 rfl
theorem zbG{b:GL}(k:yk b=aa b):wZ ⟨b,m,v⟩=aa b:=by
 unfold wZ zV;simp only[tb,s5,mb,k]
theorem zm9{b:GL}(k:ak v<=lim):sC ⟨b,m,v⟩=aa v:=by
 unfold sC zV;simp only[tb,s5,mb,zdC k]
theorem zdm{f:GI->Option Bool}{q:GI->Bool}(p:List GI)(k:∀x∈p,f x=aa (q x)):xA p f=aa (p.any q):=by
 unfold xA ve;rw[rh p k,tb,ri]
theorem qY{u:List GA}(h:∀a,zr u a<=zr v a):fj u v=true:=by
 have:=(zfQ (zr u) (zr v)).2 h;rw[<- m8 (u:=u) (v:=v) (λ_=>rfl) (λ_=>rfl)]at this;exact this
theorem zwJ{b:GL}(st:GQ b m v L)(G:ak L<=12)(J:yk b=aa b){i:Nat}{w:List GA}(hi:i<=ak L)(h:PV b.f L i w):vX ⟨b,m,v⟩ w=aa 0:=by
 obtain⟨C,e,_,k⟩:=tz (v:=w) (by have:=h.len;omega);have D:C=w:=(oQ k).2 h.can;unfold vX;rw[zjO,e,zbG J,zm9 (by have:=st.vl;simp only[lim];omega),ou st G];simp only[tb,s5,mb,zhw,D,jB,ly,tE];rw[qY (λa=>by rw[h.get];omega),qY (λa=>?_)]
 ·simp only[tb,ly,s5,mb];rw[zdm (q:=λc=>gY w c.z6&&!fj c.vV w) L (λx _=>by
   unfold tG;rw[qc,tE];cases gY w x.z6<;>rfl)]
  have:(L.any λc=>gY w c.z6&&!fj c.vV w)=false:=by
   rw[ki];intro c N;obtain⟨j,s⟩:=lz.1 N;rw[h.has st.gr s];by_cases hji:j<i
   ·rw[qY (h.closed st.gr s hji)];simp
   ·grind
  simp_all
 ·rw[h.get,st.vv];have O:zr ((L.take i).map (·.z6)) a<=zr (L.flatMap (·.vV)) a:=by
   by_cases h0:0<zr ((L.take i).map (·.z6)) a
   ·obtain⟨k,e,_,he,M,H⟩:=zhp h0;have p:=lc he;have I:=vT (st.gr.may e p);have o:=I.own;rw[<- H,<- o,M];have r:0<zr e.vV a:=by simp_all
    obtain⟨d,E,y,z,d4⟩:=xL r;rw[<- d4];exact sD (ip.2 ⟨e,p,E⟩) y z
   ·have:=xj (L.flatMap (·.vV)) a;omega
  omega

theorem zeo{α ρ σ:Type}{f:Nat->α->σ->Option (Out ρ σ)}(B:List α):∀(A:List α)(n:Nat) (s t:σ),zf f A n s=aa (.inr t)->(∀i x s u,f i x s≠aa (.brk u))->zf f (A++B) n s=zf f B (n+ak A) t
 |[],n,s,t,h,_=>by
  simp only[zf,p5,Sum.inr.injEq]at h
  simp_all
 |x::A,n,s,t,h,hb=>by
  simp only[zf,kc]at h ⊢;split at h
  ·cases h
  ·cases h
  ·simp_all
  ·rename_i u e;rw[zeo B A (n+1) u t h hb,nr]
   grind
theorem zpG(i:Nat)(x:GJ)(s u:List GC):zqp i x s≠aa (.brk u):=by
 unfold zqp;cases fQ s x with
 |none=>simp
 |some v=>simp only[tb];split<;>simp
structure FT(t0:List GC)(L:List GI)(i:Nat)(t:List GC):Prop where
 run:zf zqp ((L.take i).map xM) 0 t0=aa (.inr t)
 dq:ee i t
theorem FT.step(h:FT t0 L i t)(hi:i<40){c:GI}(r:L[i]?=aa c)(he:yz (xM c)=true)(o:GJ.wf (xM c)):∃u,sZ t (xM c)=aa (u,0)/\FT t0 L (i+1) u:=by
 obtain⟨u,s,p,k⟩:=zkz h.dq hi he o;refine⟨u,p,?_,k⟩;rw[l6,r,lZ,zeo _ _ _ _ _ h.run zpG];simp only[Option.toList_some,m4,l9,zf];unfold zqp
 simp_all
theorem ziP(p:α->Bool)(i:Nat)(L:List α)(h:∀j c,L[j]?=aa c->p c=ae (j<i)):L.filter p=L.take i:=by
 conv=>lhs;rw[<- kW i L]
 rw[kK,kq.2 λx k=>?_,kH.2 λx k=>?_,ko]
 ·obtain⟨j,o⟩:=lz.1 k
  grind
 ·obtain⟨j,o⟩:=lz.1 k
  grind
theorem zt1(g:Gr F L)(O:ak L<=12){i:Nat}{t:List GC}(hs:Small t0)(I:GC.e6 t0<=5592405)(D:gX 0 t0=true)(h:FT t0 L i t):nN t0 ((L.take i).map xM)=aa (t,0):=by
 have k:∀e∈(L.take i).map xM,∃c∈L,xM c=e:=λe he=>by
  grind
 have J:∀e∈(L.take i).map xM,yz e=true:=λe he=>by
  obtain⟨c,c1,rfl⟩:=k e he;exact(vT (g.may c c1)).ev
 have E:ak ((L.take i).map xM)<=12:=by simp;omega
 have s:((L.take i).map xM).Pairwise λa b=>a.time<b.time \/ a.time=b.time/\w6 a.z6 b.z6=true:=by
  rw[kz];exact(g.pw.sublist (List.take_sublist i L)).imp λh=>h
 have y:(((L.take i).map xM).map (·.z6)).Nodup:=by
  rw[kY];exact(g.gZ.sublist ((List.take_sublist i L).map _))
 have o:uJ ((L.take i).map xM)=aa ((L.take i).map xM):=by
  rw[zpY (R:=o6 0 ((L.take i).map xM)) (by omega) (λe he=>by
   obtain⟨c,c1,rfl⟩:=k e he;have:=zfH (g.may c c1);simp only[xM,lim];omega) (.refl _) ?_,zeJ]
  have C:((o6 0 ((L.take i).map xM)).map (·.e)).Pairwise λa b=>a.time<b.time \/ a.time=b.time/\w6 a.z6 b.z6=true:=by
   rw[zeJ];exact s
  rw[kz]at C;refine C.imp λ{a b} r=>?_;unfold wn;rcases r with G|⟨G,w⟩
  ·grind
  ·rw[n4 (λz=>by rw[z.2,wR]at w;cases w),n4 (λz=>z G.symm)];cases h5:w6 b.e.z6 a.e.z6 with
   |false=>rfl
   |true=>have:=up w h5;rw[wR]at this;cases this
 obtain⟨m,M,N,H⟩:=zlX ((L.take i).map xM);have P:=H.2 y;rw[znd,pI hs,D];simp only[tb,ly,jJ,oS];rw[nT (q:=λe=>!yz e) _ (λx _=>by unfold rg;rw[uV];rfl)];have p:(((L.take i).map xM).any λe=>!yz e)=false:=by
  simp_all
 rw[p];simp only[tb,kN,s5,mb];rw[M,yw,n4 (by simp_all),zel hs I D,tb,o,tb,h.run,yw]
theorem zzn{b:GL}(st:GQ b m v L)(k:ak L<=12)(p:yk b=aa b)(hs:Small b.tree)(y:GC.e6 b.tree<=5592405)(r:gX 0 b.tree=true){i:Nat}{w:List GA}{t:List GC}(hi:i<=ak L)(h:PV b.f L i w)(C:FT b.tree L i t):x6 ⟨b,m,v⟩ w=aa (t,0):=by
 have z:∀(j:Nat)(c:GI),L[j]?=aa c->gY w c.z6=ae (j<i):=λj c D=>h.has st.gr D;have o:L.filter (λc=>gY w c.z6)=L.take i:=by
  apply ziP;exact z
 unfold x6;rw[zwJ st k p hi h,ou st k];simp only[tb,kI,s5,mb];rw[rd (λc=>gY w c.z6) xM L 0 [] (by simp only[lC,lim];omega) (λi x s _ hs=>by
  rw[qc];show(if gY w x.z6=true then(zN (ak s+1<=lim) (aa (Out.gV (s++[xM x]))))else aa (Out.gV s))=_;rw[ze hs])]
 simp only[yw,ll];rw[zbG p,o];simp only[tb];rw[zt1 st.gr k hs y r C];rfl
theorem zdD{L:List GA}(h:L.Pairwise λa b=>dW a.zi b.zi)(s:∀d∈L,fa d=true):Can L (zr L):=by
 refine⟨h,λd=>⟨λhd=>?_,λhd=>?_⟩⟩
 ·have H:=zaZ (s d hd);have G:=sD hd (s d hd) rfl;obtain⟨x,C,E,k,r⟩:=xL (v:=L) (a:=d.zi) (by omega);have:x=d:=jL λD=>by
   obtain⟨i,hi⟩:=lz.1 C;obtain⟨j,p⟩:=lz.1 hd;obtain⟨z,hi⟩:=tu.1 hi;obtain⟨w,p⟩:=tu.1 p;have y:=lF.1 h;rcases jP i j with o|o|o
   ·have:=y i j z w o;rw[hi,p,k]at this;exact zbK _ this
   ·simp_all
   ·have:=y j i w z o;rw[hi,p,k]at this;exact zbK _ this
  grind
 ·obtain⟨x,C,E,k,r⟩:=xL (v:=L) (a:=d.zi) (by omega);have:x=d:=by
   obtain⟨_,_⟩:=x;obtain⟨_,_⟩:=d;simp only at k r hd ⊢;simp[k,r,hd.2]
  simp_all
def kD(r:Int):GA:=GA.mk (GH.mk r 1) 1
def kC(r n t:Int)(vv ps:List GA):GI:=GI.mk (GA.mk (GH.mk r (1:Int)) (1:Int)) ps vv t (GN.mk (1:Int) ([([97]:zp)]:List zp) n ([]:zp) ([]:List GA))
def k1:GI:=kC 0 5 1 [kD 0] []
def k2:GI:=kC 1 3 2 [kD 0,kD 1] [kD 0]
def k3:GI:=kC 2 4 2 [kD 0,kD 2] [kD 0]
def kB:GL:=⟨0,[],[],0,[]⟩
theorem zfU{b:GL}(st:GQ b m v L)(z:(ak L)<12)(p:ak b.f<=64)(ok:eB b.f L c)(hd:ak c.op.gZ<=100):∃m' V,bE b c m v=aa (0,m',V)/\GQ b m' V (bY L c):=by
 obtain⟨r,C,D,k,y,_⟩:=zkb st z p ok.len hd;have s:=zkd st.gr (by omega) p ok hd;rw[s]at k;injection k with k;subst k;rcases bJ st (by omega) p ok.may ok.len hd with⟨e,w,E,o⟩|⟨_,V,_,w⟩
 ·rw[s]at o;simp only[p5,kG]at o;have:=congrArg List.length o.2;rw[(zfz L c).length_eq]at this
  simp_all
 ·grind
theorem ztN:ms k1=true:=by
 unfold ms;simp only[tx,so];exact⟨⟨⟨⟨⟨by decide,zdD (by simp[k1,kC]) (by decide)⟩,by decide⟩,by decide⟩,by decide⟩,by decide⟩
theorem ztM:ms k2=true:=by
 unfold ms;simp only[tx,so];exact⟨⟨⟨⟨⟨by decide,zdD (by simp[k2,kC,dW,kD]) (by decide)⟩,by decide⟩,by decide⟩,by decide⟩,by decide⟩
theorem ztL:ms k3=true:=by
 unfold ms;simp only[tx,so];exact⟨⟨⟨⟨⟨by decide,zdD (by simp[k3,kC,dW,kD]) (by decide)⟩,by decide⟩,by decide⟩,by decide⟩,by decide⟩
theorem zq9(r:ms c=true)(o:ak c.vV<=64/\(ak c.xo)<=64)(w:en F L c.z6=false)(y:(c.xo.any λp=>!en F L p)=false)(z:c.z6.seq=1)(k:zpc F L c ⟨c.z6.zi,c.z6.seq-1⟩=true)(s:∀a,zr c.vV a=dR F L c a):eB F L c:=by
 have e:zr c.vV=dR F L c:=funext s;have C:bS (dR F L c) (dR F L c)=true:=(zfQ _ _).2 λa=>kp _;refine⟨r,o,w,?_,k,by simp_all⟩;unfold zo8
 simp_all
theorem zvo:eB [] [] k1:=zq9 ztN (by decide) (by decide) (by decide) rfl (by decide) λa=>by
 show zr [kD 0] a=max (max (min (zr [kD 0] a) 0) (zr [kD 0] a)) (max 0 0);have:=xj [kD 0] a;omega
theorem zvn:eB [] [k1] k2:=zq9 ztM (by decide) (by decide) (by decide) rfl (by decide) λa=>by
 have e:k2.xo.flatMap (n7 [k1])=[kD 0]:=by decide
 have k:zr [kD 0,kD 1] a=max (zr [kD 0] a) (zr [kD 1] a):=vG a [kD 0] [kD 1];unfold dR;rw[e];show zr [kD 0,kD 1] a=max (max (min (zr [kD 0,kD 1] a) 0) (zr [kD 1] a)) (max (zr [kD 0] a) (zr [kD 0] a));omega
theorem zvm:eB [] [k1,k2] k3:=zq9 ztL (by decide) (by decide) (by decide) rfl (by decide) λa=>by
 have e:k3.xo.flatMap (n7 [k1,k2])=[kD 0]:=by decide
 have k:zr [kD 0,kD 2] a=max (zr [kD 0] a) (zr [kD 2] a):=vG a [kD 0] [kD 2];unfold dR;rw[e];show zr [kD 0,kD 2] a=max (max (min (zr [kD 0,kD 2] a) 0) (zr [kD 2] a)) (max (zr [kD 0] a) (zr [kD 0] a));omega
theorem ztX:bY [k1] k2=[k1,k2]:=by decide
theorem ztW:bY [k1,k2] k3=[k1,k2,k3]:=by decide

theorem zmY:yk kB=aa kB:=zmq (b:=kB) ⟨by simp[kB,GC.cz],by simp[kB,GC.e6]⟩ (by simp[kB]) (by simp[kB])
theorem ztT:wQ kB=aa true:=zup (b:=kB) ⟨by simp[kB,GC.cz],by simp[kB,GC.e6]⟩ (by simp[kB]) (by
 unfold ziu;simp only[tx,so];exact⟨⟨⟨⟨⟨zdD (by simp[kB]) (by simp[kB]),by decide⟩,by decide⟩,by decide⟩,by decide⟩,by decide⟩)
theorem zqa:Small kB.tree:=⟨by simp[kB,GC.cz],by simp[kB,GC.e6]⟩
theorem ztS:ee 0 kB.tree:=⟨zqa,by decide,by simp[kB,zk,wS],by simp[kB,zk]⟩
theorem zy8:GQ kB [] [] []:=⟨.nil,⟨by simp,by simp,by simp,by simp,by simp,by simp,.nil⟩,λa=>rfl,by simp,zdD .nil (by simp)⟩
theorem kSt:∃s r k p o v3,bE kB k1 [] []=aa (0,s,r)/\bE kB k2 s r=aa (0,k,p)/\bE kB k3 k p=aa (0,o,v3)/\GQ kB o v3 [k1,k2,k3]:=by
 obtain⟨s,r,z,y⟩:=zfU zy8 (by decide) (by decide) zvo (by decide);obtain⟨k,p,D,s2⟩:=zfU (L:=[k1]) y (by decide) (by decide) zvn (by decide);rw[ztX]at s2;obtain⟨o,v3,C,w⟩:=zfU s2 (by decide) (by decide) zvm (by decide);rw[ztW]at w
 grind
theorem zsy:GJ.wf (xM k1):=by
 simp[xM,k1,kC,GJ.wf,GA.wf,GH.wf,GN.wf,dc,maxLen];decide
theorem zsx:GJ.wf (xM k2):=by
 simp[xM,k2,kC,GJ.wf,GA.wf,GH.wf,GN.wf,dc,maxLen];decide
theorem kPV:PV kB.f [k1,k2,k3] 2 [kD 0,kD 1]:=⟨λa=>by
 show zr [kD 0,kD 1] a=max 0 (zr [kD 0,kD 1] a);have:=xj [kD 0,kD 1] a;omega,zdD (by simp[kD,dW]) (by decide),by simp⟩
theorem zjM{k:Nat}(E:ee k t)(U:k<40){c:GI}(he:yz (xM c)=true)(M:GJ.wf (xM c))(J:c.op.path=[[97]])(I:c.op.kind=1){u:List GC}(P:sZ t (xM c)=aa (u,0)){A:GE}(G:(A=qC 1/\∀r,r∉zk [] t) \/ (A.x4=1/\∀r,r∈zk [] t↔r=⟨[[97]],A⟩)) :
  (yx A (xM c)).x4=1/\∀r,r∈zk [] u↔r=⟨[[97]],yx A (xM c)⟩:=by
 obtain⟨X,l,b,_,z,_,_,D,Q,_,_,O⟩:=zgr (E.dq (by omega)) he M;rw[P]at z;simp only[p5,kG,kA]at z;subst z;have o:xF (xM c).op.kind=1:=by show xF c.op.kind=1;rw[I];rfl
 have H:(xM c).op.path=[[97]]:=J;rw[o]at D Q;rw[H]at D;obtain⟨Y,R,C,_,V,_,_,_,_,y⟩:=pA (E.dq (by omega)) (p:=[[97]]) (by simp) (k:=1) (by omega);rw[D]at C;simp only[p5,kG]at C;obtain⟨rfl,rfl⟩:=C;have N:l=A:=by
  rcases G with⟨w,s⟩|⟨w,s⟩
  ·simp_all
  ·rcases y with⟨_,y⟩|⟨_,_,y⟩
   ·simp_all
   ·exact(y ⟨[[97]],A⟩ ((s _).2 rfl) (by simp[xu,w];rfl)).elim
 subst N;refine⟨?_,λr=>?_⟩
 ·unfold yx
  grind
 ·rw[O,H,o];constructor
  ·rintro(⟨k1,k2⟩|k1)
   ·rcases G with⟨_,s⟩|⟨w,s⟩
    ·simp_all
    ·have:=(s _).1 k1;subst this;exact(k2 (by simp[xu,w];rfl)).elim
   ·exact k1
  ·simp_all
theorem zwP:∃t,FT kB.tree [k1,k2,k3] 2 t/\∃l b,xV t [[97]] 1=aa (l,b)/\l.n=8:=by
 have D:yz (xM k1)=true:=by decide
 have y:yz (xM k2)=true:=by decide
 have G:FT kB.tree [k1,k2,k3] 0 kB.tree:=⟨rfl,ztS⟩
 obtain⟨u,J,s⟩:=G.step (by omega) (c:=k1) rfl D zsy;obtain⟨H,E⟩:=zjM ztS (by omega) D zsy rfl rfl J (A:=qC 1) (.inl ⟨rfl,λr=>by simp[kB,zk]⟩);obtain⟨w,M,z⟩:=s.step (by omega) (c:=k2) rfl y zsx;obtain⟨N,C⟩:=zjM s.dq (by omega) y zsx rfl rfl M (.inr ⟨H,E⟩);refine⟨w,z,?_⟩;obtain⟨l,b,_,I,O,_,_,_,_,o⟩:=pA (z.dq.dq (by omega)) (p:=[[97]]) (by simp) (k:=1) (by omega);refine⟨l,b,I,?_⟩;rcases o with⟨_,o⟩|⟨_,_,o⟩
 ·have:=(C _).1 o;simp only[GM.mk.injEq,iY]at this;rw[this];decide
 ·exact(o _ ((C _).2 rfl) (by rfl)).elim

theorem zy9(st:GQ kB m v [k1,k2,k3]):vX ⟨kB,m,v⟩ [kD 1]=aa 9:=by
 obtain⟨C,e,_,k⟩:=tz (v:=[kD 1]) (by simp);have o:C=[kD 1]:=(oQ k).2 (zdD (by simp) (by decide));unfold vX;rw[zjO,e,zbG zmY,zm9 (by have:=st.vl;simp only[lim];simp at this;omega),ou st (by decide)];simp only[tb,s5,mb,zhw,o,jB,ly,tE];rw[qY (u:=kB.f) (v:=[kD 1]) (λa=>xj [kD 1] a),qY (u:=[kD 1]) (v:=v) (λa=>?_)]
 ·simp only[tb,ly,s5,mb];rw[zdm (q:=λc=>gY [kD 1] c.z6&&!fj c.vV [kD 1]) [k1,k2,k3] (λx _=>by
   unfold tG;rw[qc,tE];cases gY [kD 1] x.z6<;>rfl)]
  have p:fj k2.vV [kD 1]=false:=by
   cases h:fj k2.vV [kD 1]with
   |false=>rfl
   |true =>
    have:bS (zr k2.vV) (zr [kD 1])=true:=h;rw[zfQ]at this;have:=this ⟨0,1⟩;exact absurd this (by decide)
  have s:gY [kD 1] k2.z6=true:=by decide
  simp_all
 ·rw[st.vv];have r:zr ([k1,k2,k3].flatMap (·.vV)) a=max (zr ([kD 0]++[kD 0]) a) (max (zr [kD 1] a) (zr [kD 0,kD 2] a)):=by
   rw[show [k1,k2,k3].flatMap (·.vV)=([kD 0]++[kD 0])++([kD 1]++[kD 0,kD 2])from by decide];simp only[vG]
  omega
theorem zdd:wu=aa true:=by
 obtain⟨D,z,w,C,p,v3,O,N,P,st⟩:=kSt;obtain⟨t,G,l,b,Q,H⟩:=zwP;have J:x6 ⟨kB,p,v3⟩ [kD 0,kD 1]=aa (t,0):=zzn st (by decide) zmY zqa (by simp[kB,GC.e6]) (by decide) (by decide) kPV G;have R:=zy9 st;unfold wu;rw[show wQ (GL.mk (0:Int) ([]:List GA) ([]:List GA) (0:Int) ([]:List GC))=aa true from ztT,show yk (GL.mk (0:Int) ([]:List GA) ([]:List GA) (0:Int) ([]:List GC))=aa kB from zmY];unfold yQ pB;simp only[tb,ly,s5,mb,kI];rw[ze (by omega)];have step:∀(n:Nat)(y:GI) (s:List (GA×GI)×List GA) (m':List (GA×GI)) (E:List GA),[k1,k2,k3][n]?=aa y->bE kB y s.1 s.2=aa (0,m',E)->(((zR [k1,k2,k3] (n:Int)).bind λr=>(bE kB r s.1 s.2).bind λk=>(if(k.1 != (0:Int))=true then aa (.ret false)else aa (.gV (k.2.1,k.2.2)))):Option (Out Bool (List (GA×GI)×List GA)))=aa (.gV (m',E)):=λn y s m' E M I=>by
  rw[zu M,tb,I];rfl
 refine zha (λo=>o=aa true) (λpre s=>s=if(ak pre)=0 then([],[])else if(ak pre)=1 then(D,z)else if(ak pre)=2 then(w,C)else(p,v3)) (λpre x rest s X V hi=>?_) rfl λs hi=>?_
 ·have U:(ak pre)<3:=by
   grind
  rcases(show(ak pre)=0 \/ (ak pre)=1 \/ (ak pre)=2 by omega)with h|h|h
  ·rw[h]at hi ⊢;subst hi;exact⟨(D,z),step 0 k1 ([],[]) D z rfl O,by simp[h]⟩
  ·rw[h]at hi ⊢;subst hi;exact⟨(w,C),step 1 k2 (D,z) w C rfl N,by simp[h]⟩
  ·rw[h]at hi ⊢;subst hi;exact⟨(p,v3),step 2 k3 (w,C) p v3 rfl P,by simp[h]⟩
 ·have hs:s=(p,v3):=by simpa using hi
  subst hs;show((x6 ⟨kB,p,v3⟩ [kD 0,kD 1]).bind _)=_;rw[J];simp only[tb];rw[Q];simp only[tb,H,jJ,lB,oS];show((vX ⟨kB,p,v3⟩ [kD 1]).bind _)=_
  grind
def nF(L ds:List GF):List GF:=ds.foldl uW L
theorem zfR:∀(ds:List GF){L:List GF},L.Pairwise (λa b=>zQ a b=true)->(nF L ds).Pairwise λa b=>zQ a b=true
 |[],_,h=>h
 |d::ds,_,h=>zfR ds (ziF d h)
theorem zeu:∀(ds:List GF){L:List GF},fG L=true->fG (nF L ds)=true
 |[],_,h=>h
 |d::ds,_,h=>zeu ds (zdc d h)
theorem zhk{q:GF->Bool}:∀(ds:List GF){L:List GF},L.all q=true->ds.all q=true->(nF L ds).all q=true
 |[],_,h,_=>h
 |d::ds,L,h,k=>by
  simp only[l7,tx]at k;exact zhk ds (zgt h k.1) k.2
theorem zdb:∀(ds L:List GF),ak (nF L ds)<=ak L+(ak ds)
 |[],L=>by simp[nF]
 |d::ds,L=>by
  have k:=zdb ds (uW L d);have o:=zcq L d;simp only[nF,kS,nr]at k ⊢;omega
theorem zet:∀(ds L:List GF),(ds.map (·.z6)).Nodup->(nF L ds).Perm (L++ds.filter λx=>ae (x.z6∉L.map (·.z6)))
 |[],L,_=>by simp[nF]
 |d::ds,L,h=>by
  simp only[m4,jm]at h;obtain⟨C,w⟩:=h;have s:=zet ds (uW L d) w;show(nF (uW L d) ds).Perm _;refine s.trans ?_;by_cases hd:d.z6∈L.map (·.z6)
  ·have e:uW L d=L:=by
    unfold uW;rw[nK];obtain⟨y,k,e⟩:=lH.1 hd;exact jt.2 ⟨y,k,by simpa using e⟩
   rw[e,kT,n4 (by simp only[so];exact λh=>h hd)]
  ·have e:uW L d=L.takeWhile (λy=>zQ y d)++([d]++L.dropWhile λy=>zQ y d):=by
    unfold uW;rw[n4];intro h;obtain⟨y,k,e⟩:=jt.1 h;exact hd (lH.2 ⟨y,k,by simpa using e⟩)
   have o:(uW L d).Perm (d::L):=by
    have G:=lD (p:=λy=>zQ y d) (l:=L);rw[e]
    grind
   have r:(ds.filter λx=>ae (x.z6∉(uW L d).map (·.z6)))=ds.filter λx=>ae (x.z6∉L.map (·.z6)):=by
    refine jw λx E=>?_;have D:x.z6≠d.z6:=λe=>C (by rw[<- e];exact hM E);have z:x.z6∈(uW L d).map (·.z6)↔x.z6∈(d::L).map (·.z6):=(o.map _).mem_iff;simp only[z,m4,lx,D,false_or]
   rw[r,kT,nK (by simpa using hd)];exact(o.append_right _).trans List.perm_middle.symm
def zgn(A B:List GF)(T:List GA):List GF:=(nF A B).filter λx=>!(T.any λy=>ae (y=x.z6))
theorem noT:(!(T.any λy=>ae (y=d)))=ae (d∉T):=by
 by_cases h:d∈T
 ·have:(T.any λy=>ae (y=d))=true:=jt.2 ⟨d,h,by simp⟩;simp[this,h]
 ·have:(T.any λy=>ae (y=d))=false:=ki.2 λy k=>by
   simp only[so]
   rintro rfl
   exact h k
  simp[this,h]
theorem zpw(h:T.Pairwise λa b=>w6 a b=true):oG [] T=T:=by
 refine vL (lt:=λa b=>w6 a b=true) (λa h=>by rw[wR]at h;cases h) (λ_ _ _=>up) _ _ (zbB T .nil) h λx=>?_;rw[ur];simp
theorem zcP:∀(ds L:List GF)(n:Nat),ak L+ak ds<=16777215->zf (λ(s:Nat)(p:GF) (o:(List GF))=>(((sf o p).bind λk=>aa (.gV k)):Option (Out (GE×Int) (List GF)))) ds n L=aa (.inr (nF L ds))
 |[],L,n,_=>rfl
 |d::ds,L,n,h=>by
  simp only[nr]at h;have r:=zcq L d;simp only[zf];rw[zcO (by omega),tb];exact zcP ds (uW L d) (n+1) (by omega)
def xf(a b:GE):Bool:=if b.time≠a.time then ae (b.time<a.time)else w6 b.z6 a.z6
def dS(l a b:GE):GE :=
 if l.x4=1 then GE.mk 1 (ai .i64 (a.n+ai .i64 (b.n-l.n))) 0 cT [] [] []
 else if l.x4=2 then(if a.time=0 \/ (b.time≠0/\xf a b=false)then b else a)
 else GE.mk l.x4 0 0 cT [] (zgn a.z8 b.z8 (oG a.y4 b.y4)) (oG a.y4 b.y4)
theorem zuV(a b l:Int):ai .i64 (ai .i64 (a-l)+b)=ai .i64 (a+ai .i64 (b-l)):=by
 simp only[IntKind.wrap_i64];omega
theorem zwM(h:w7 l=true)(k:l.x4=1):l=GE.mk 1 l.n 0 cT [] [] []:=by
 unfold w7 at h;rw[nK k]at h;simp only[tx,so,tY]at h;cases l
 simp_all
theorem zru(h:w7 l=true)(k:l.x4=2):l=GE.mk 2 0 l.time l.z6 l.text [] []:=by
 unfold w7 at h;rw[n4 (by omega),nK k]at h;simp only[tx,so]at h;cases l
 simp_all
structure bV(l:GE)(tm:Bool):Prop where
 n:l.n=0
 time:l.time=0
 z6:l.z6=cT
 text:l.text=[]
 all:l.z8.all (qV tm)=true
 pw:l.z8.Pairwise λa b=>zQ a b=true
 once:fG l.z8=true
 td:l.y4.all fa=true
 tpw:l.y4.Pairwise λa b=>w6 a b=true
theorem zoY(h:w7 l=true)(z:l.x4=3):bV l false:=by
 unfold w7 at h;rw[n4 (by omega),n4 (by omega),nK z]at h;simp only[tx,so,tY,th]at h;obtain⟨⟨⟨w,⟨p,z3⟩,z4⟩,⟨k,y⟩,s⟩,⟨r,o⟩,t3⟩:=h;exact⟨w,p,z3,z4,k,zbf y,s,r,zaM o⟩
theorem zla(h:w7 l=true)(w:l.x4=4):bV l true/\l.y4=[]:=by
 unfold w7 at h;rw[n4 (by omega),n4 (by omega),n4 (by omega),nK w]at h;simp only[tx,so,tY]at h;obtain⟨⟨⟨r,⟨o,z3⟩,z4⟩,z5⟩,⟨k,s⟩,p⟩:=h;exact⟨⟨r,o,z3,z4,k,zbf s,p,by rw[z5];rfl,by rw[z5];exact .nil⟩,z5⟩
theorem qj(h:w7 l=true):1<=l.x4/\l.x4<=4:=by
 unfold w7 at h
 grind
theorem zpx(h:A.all q=true)(k:B.all q=true):(oG A B).all q=true:=oB.2 λx p=>by
 rcases(ur B A x).1 p with o|o
 ·exact oB.1 k x o
 ·exact oB.1 h x o
theorem zrI{a b:GE}(k:w7 l=true)(o:a.x4=l.x4)(p:b.x4=l.x4):(dS l a b).x4=l.x4:=by
 unfold dS
 grind
theorem zrJ{a b:GE}(G:w7 l=true)(o:w7 a=true)(s:w7 b=true)(N:a.x4=l.x4)(I:b.x4=l.x4):w7 (dS l a b)=true:=by
 have M:=qj G;unfold dS;split
 ·simp[w7,tY]
 split
 ·split
  ·exact s
  ·exact o
 ·rename_i J H;have key:∀k,bV a k->bV b k->(zgn a.z8 b.z8 (oG a.y4 b.y4)).all (qV k)=true/\fV (zgn a.z8 b.z8 (oG a.y4 b.y4))=true/\fG (zgn a.z8 b.z8 (oG a.y4 b.y4))=true:=λk p q=>by
   unfold zgn;refine⟨?_,zcg ((zfR b.z8 p.pw).filter _),?_⟩
   ·have:=zhk b.z8 p.all q.all;rw[oB]at this ⊢;exact λx r=>this x (lQ.1 r).1
   ·have:=zeu b.z8 p.once;unfold fG at this ⊢;rw[so]at this ⊢;exact this.sublist (List.filter_sublist.map _)
  by_cases h3:l.x4=3
  ·have p:=zoY o (by omega);have q:=zoY s (by omega);obtain⟨k1,k2,k3⟩:=key false p q;have E:=zpx p.td q.td;have w:=zbO (zbB b.y4 p.tpw);have t3:(oG a.y4 b.y4).all (λd=>!(zgn a.z8 b.z8 (oG a.y4 b.y4)).any λx=>ae (x.z6=d))=true:=oB.2 λd hd=>by
    rw[kb,ki];intro x r;have:=(lQ.1 r).2;rw[noT]at this;simp only[so]at this ⊢
    rintro rfl
    exact this hd
   unfold w7;simp only[h3];simp[tY,th,k1,k2,k3,E,w,t3]
  ·have z:l.x4=4:=by omega
   obtain⟨p,y⟩:=zla o (by omega);obtain⟨q,D⟩:=zla s (by omega);obtain⟨k1,k2,k3⟩:=key true p q;have C:oG a.y4 b.y4=[]:=by rw[y,D];rfl
   rw[C]at k1 k2 k3 ⊢;unfold w7;simp only[z];simp[tY,k1,k2,k3]

theorem zpa{a b:GE}(p:w7 l=true)(o:w7 a=true)(w:w7 b=true)(r:a.x4=l.x4)(z:b.x4=l.x4):(dS l a b).z8.length<=ak a.z8+(ak b.z8)/\(dS l a b).y4.length<=ak a.y4+(ak b.y4)/\(0<=a.time->0<=b.time->0<=(dS l a b).time):=by
 unfold dS;split
 ·simp
 split
 ·split
  ·exact⟨by omega,by omega,λ_ h=>h⟩
  ·exact⟨by omega,by omega,λh _=>h⟩
 ·have s:=zdb b.z8 a.z8;have k:=za4 b.y4 a.y4;have C:=jh (λx:GF=>!((oG a.y4 b.y4).any λy=>ae (y=x.z6))) (nF a.z8 b.z8);simp only[zgn];exact⟨by omega,k,λ_ _=>kp _⟩
theorem zzb{a b:GE}(h:l.x4=2):dS l a b=if a.time=0 \/ (b.time≠0/\xf a b=false)then b else a:=by
 unfold dS;rw[n4 (by omega),nK h]
theorem zo9{a b:GE}(M:w7 l=true)(w:w7 a=true)(O:w7 b=true)(I:fv l)(G:fv a)(D:fv b)(hi:ak a.z8+ak b.z8<=8388608)(ht:ak a.y4+ak b.y4<=8388608)(N:a.x4=l.x4)(J:b.x4=l.x4):tn l a b=aa (dS l a b,0):=by
 have R:vY l=aa true:=by rw[rJ (lg I.z8 (by decide)) (lg I.y4 (by decide)) I.time,M]
 have V:vY a=aa true:=by rw[rJ (lg G.z8 (by decide)) (lg G.y4 (by decide)) G.time,w]
 have U:vY b=aa true:=by rw[rJ (lg D.z8 (by decide)) (lg D.y4 (by decide)) D.time,O]
 have hr:=qj M;have tail:l.x4≠1->l.x4≠2->a.y4.Pairwise (λa b=>w6 a b=true) ->
   (lp (zf (λ(n1:Nat)(x1:GA) (E:(List GA))=>(((qL E x1).bind λC=>aa (.gV C)):Option (Out (GE×Int) (List GA)))) a.y4 0 ([]:List GA)) λ(E:(List GA))=>(lp (zf (λ(n2:Nat)(x2:GA) (s2:(List GA))=>(((qL s2 x2).bind λs=>aa (.gV s)):Option (Out (GE×Int) (List GA)))) b.y4 0 E) λ(s2:(List GA))=>(zN (ak (([]:List GF))+ak (a.z8)<=lim) ((lp (zf (λ(n3:Nat)(Q:GF) (H:(List GF))=>(((sf H Q).bind λp=>aa (.gV p)):Option (Out (GE×Int) (List GF)))) b.z8 0 (([]:List GF)++a.z8)) λ(H:(List GF))=>((s6 H s2).bind λr=>aa ((GE.mk l.x4 (0:Int) (0:Int) (GA.mk (GH.mk (0:Int) (0:Int)) (0:Int)) ([]:zp) r s2),(0:Int))))))))=aa (dS l a b,0):=λo k Z=>by
  rw[rz _ _ _ (by simp;omega),yw]
  try dsimp only
  rw[zpw Z,rz _ _ _ (by omega),yw]
  try dsimp only
  rw[ze (by simp[lim];omega),ll,zcP _ _ _ (by omega),yw];have:=zdb b.z8 a.z8;rw[zed _ _ (by omega),tb];unfold dS;rw[n4 o,n4 k];rfl
 unfold tn;simp only[R,V,U,tb,ly,lG,oS,kN,s5,mb,N,J,kI];have z:l.x4=1 \/ l.x4=2 \/ l.x4=3 \/ l.x4=4:=by omega
 rcases z with h|h|h|h
 ·rw[nK (by simp[h])];unfold dS;rw[nK h,h,zuV];rfl
 ·rw[n4 (by simp[h]),nK (by simp[h])];have ea:=zru w (N.trans h);have X:=zru O (J.trans h);rw[zzb h];unfold xf;simp only[rB];have P:GE.mk l.x4 0 a.time a.z6 a.text [] []=a:=by rw[h];exact ea.symm
  have y:GE.mk l.x4 0 b.time b.z6 b.text [] []=b:=by rw[h];exact X.symm
  by_cases o:a.time=0
  ·by_cases k:b.time=0
   ·rw[k]at y;simp[o,k,y]
   ·simp[o,k,y]
  ·by_cases k:b.time=0
   ·simp[o,k,P]
   ·have c3:(a.time==(0:Int))=false:=by simp[o]
    have Y:(b.time==(0:Int))=false:=by simp[k]
    have c5:(a.time != (0:Int))=true:=by simp[o]
    rw[c3,Y,c5];simp only[lB,lG,oS,tb,lM,lq,o,false_or,k,gP,iP,iY,P,y,s5,mb];cases(if ¬b.time=a.time then ae (b.time<a.time)else w6 b.z6 a.z6)<;>simp
 ·rw[n4 (by simp[h]),n4 (by simp[h])];exact tail (by omega) (by omega) (zoY w (by omega)).tpw
 ·rw[n4 (by simp[h]),n4 (by simp[h])];exact tail (by omega) (by omega) (zla w (by omega)).1.tpw

def toR(r:GM):GO:=GO.mk r.path r.leaf
theorem zpV:∀(n:Nat)(t:List GC) (a:List zp),GC.fB t<n->ak a+GC.fB t<=1000->ak (zk [] t)<=8388608->uf n t a=aa ((zk a t).map toR)
 |0,_,_,h,_,_=>by omega
 |n+1,t,a,h,ha,hl=>by
  unfold uf;simp only[ll];have loop:∀(u:List GC)(i:Nat) (acc:List GO),(∀x∈u,x∈t)->ak acc+ak (zk [] u)<=8388608->zf (λ(I:Nat)(k:GC) (s:(List GO))=>((zN (ak (([]:List zp))+ak (a)<=lim) ((zN (ak (a)+ak (([k.name]:List zp))<=lim) ((lp (zf (λ(n2:Nat)(p:GE) (s2:(List GO))=>((zN (ak (s2)+ak (([(GO.mk (a++([k.name]:List zp)) p)]:List GO))<=lim) (aa (.gV (s2++([(GO.mk (a++([k.name]:List zp)) p)]:List GO))))):Option (Out _ (List GO)))) k.leaves 0 s) λ(s2:(List GO))=>((uf n k.wa (a++([k.name]:List zp))).bind λv44=>(zN (ak (s2)+ak (v44)<=lim) (aa (.gV (s2++v44)))))))))):Option (Out (List GO) (List GO)))) u i acc=aa (.inr (acc++(zk a u).map toR)):=by
   intro u
   induction u with
   |nil=>intro i acc _ _;simp[zf,zk]
   |cons x u ih =>
    intro i acc w G;have C:=w x (by simp);have hd:=te C;have D:=w9 x;have H:=uD C;have r:ak (zk [] (x::u))=ak x.leaves+ak (zk [] x.wa)+ak (zk [] u):=by
     rw[show x::u=[x]++u from rfl,ux,uR,wq];simp only[oA,oa];rw[pW x.wa ([]++[x.name]) []]
    have o:=zpV n x.wa (a++[x.name]) (by omega) (by simp;omega) (by omega);simp only[zf];rw[ze (by simp[lim];omega),ze (by simp[lim];omega),zgs (λp:GE=>GO.mk (a++[x.name]) p) x.leaves 0 acc (by omega),yw];simp only[o,tb];rw[ze (yO (by simp only[oA,oa];rw[pW x.wa (a++[x.name]) []];omega))];simp only[];rw[ih (i+1) _ (λy E=>w y (by simp[E])) (by simp only[oA,oa];rw[pW x.wa (a++[x.name]) []];omega)];rw[show x::u=[x]++u from rfl,ux,uR,wq];simp[toR]
  have:=loop t 0 [] (λ_ h=>h) (by simpa using hl);rw[ll]at this;exact(congrArg (λz=>lp z λ(s:(List GO))=>aa s) this).trans rfl

end Go.Vv
