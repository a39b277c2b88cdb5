/- Maps and boxes that are handed over by a pointer: read where they lie. -/
import Derived.Test.YtcdgimmdofbjdaaGreatVvSs
import Derived.Test.YtcdgimmdofbjdaaGreatVvMr
import Derived.Test.YtcdgimmdofbjdaaGreatVvSh
import Derived.Test.YtcdgimmdofbjdaaGreatVvPt
set_option linter.all false
open Option renaming some→aa
open Option renaming none→ac
namespace Go.Vv
open Go Go.RowKit
variable{Q:List AV->AH->Prop}{rest:List Oper}{env' args:List AV}{n:Nat}{α:Type}{f:FuncId}{body:Code}{seen:List Nat}
section
variable{K W:Type}{P:Program}{kt et t:TypeId}{kv:K->AV}{vv:W->AV}{eq:K->K->Bool}{d:W}{ops:Array Oper}{o:Oper}{env:List AV}{H:AH}{m:List (K×W)}{k:K}{id:Nat}{x y z:Operand}
theorem zjV{m:List (K×W)}(a:vR eq m k=false):zG eq d m k=d:=by
 induction m with
 |nil=>rfl
 |cons e r ih=>simp only[vR,kw]at a;simp only[zG,a.1,s5,mb];exact ih a.2
theorem za5(b:o.op=.lookup t x y false)(j:P.underlying t=aa (.map kt et))(a:KQ P kt kv eq)(r:ut P et=aa (vv d))(q:yy env x=aa (.map id))(p:H.g7 id=aa (.q7 (m.map (zZ kv vv)) 0))(c:yy env y=aa (kv k)) :
  zj P o env H=.ok (vv (zG eq d m k)) H:=by
 obtain⟨i,e⟩:=zF q;obtain⟨l,g⟩:=zF c;simp only[zj,b,i,e,l,g,j,lB,oS,oV,a.1,a.2,p,n5 a d k m 0,r];cases hm:vR eq m k with
 |true=>simp[t6,oo]
 |false=>simp[t6,oo,zjV hm]
theorem zbH(b:o.op=.lookup t x y true)(j:P.underlying t=aa (.map kt et))(a:KQ P kt kv eq)(r:ut P et=aa (vv d))(q:yy env x=aa (.map id))(p:H.g7 id=aa (.q7 (m.map (zZ kv vv)) 0))(c:yy env y=aa (kv k)) :
  zj P o env H=.ok (.fl [vv (zG eq d m k),.bool (vR eq m k)]) H:=by
 obtain⟨i,e⟩:=zF q;obtain⟨l,g⟩:=zF c;simp only[zj,b,i,e,l,g,j,lB,oS,oV,a.1,a.2,p,n5 a d k m 0,r];cases hm:vR eq m k with
 |true=>simp[t6,oo]
 |false=>simp[t6,oo,zjV hm]
theorem zsF{c:Call}(e:o.op=.call c)(q:c.callee=.builtin .len)(g:c.args=#[x])(a:c.argTypes=#[t])(l:P.underlying t=aa (.map kt et))
  (r:yy env x=aa (.map id)) (p:H.g7 id=aa (.q7 (m.map (zZ kv vv)) 0)):zj P o env H=.any λv b=>b=H/\v=.int .i64 m.length:=by
 obtain⟨j,i⟩:=zF r;simp[zj,e,q,g,a,j,i,uu,l,p]
theorem zsa{b:Bool}(e:aG ops o env=aa b)(g:b=true->zj P o env H=.any λv c=>c=H/\v=.int .i64 n)(hd:tX o.dst env (gv b (.int .i64 n))=aa env')(a:zx P ops Q rest env' H) :
  zx P ops Q (o::rest) env H:=by
 cases b with
 |true =>
  refine qk ?_;simp only[e,bn,g rfl,bm]
  rintro v c ⟨rfl,rfl⟩
  rw[pn]at hd;rw[yU hd];exact a
 |false=>rw[p7]at hd;exact uU e hd a
theorem zoG{β X Y ρ:Type}{g:α->List AV}{e:β->List AV}{vA:α->AV}{vB:β->AV}{HA:α->X->AH}{HB:β->Y->AH}{s:α->Option ρ}{w:β->Option ρ}{c:α ⊕ β}{r:ρ}
  (v:Sum.elim s w c=aa r) (D:aG ops o env=aa true) (F:zj P o env H=.call f args) (hs:Spec P f args H λq hh=>(∃a u,c=.inl a/\q=vA a/\hh=HA a u) \/ ∃b u,c=.inr b/\q=vB b/\hh=HB b u)
  (j:∀a,tX o.dst env (vA a)=aa (g a)) (p:∀b,tX o.dst env (vB b)=aa (e b)) (i:∀a u,s a=aa r->zx P ops Q rest (g a) (HA a u)) (l:∀b u,w b=aa r->zx P ops Q rest (e b) (HB b u)):zx P ops Q (o::rest) env H:=by
 refine pU D F hs λq hh E=>?_;rcases E with⟨a,u,rfl,rfl,rfl⟩|⟨b,u,rfl,rfl,rfl⟩
 ·rw[yU (j a)];exact i a u v
 ·rw[yU (p b)];exact l b u v
end
theorem zjE{P:Program}{Q:Exit->List AV->AH->Prop}{env E:List AV}{hd H:AH}{g:Operand}{j:Array Tmp}{assign:Code}{β:Type}{nb k:Nat}{first a:List AV}(h:β->AH)(A:β->List q6)(T:β->List Nat)(b0:β)(R:β->Prop){LA:List q6}{LT:List Nat}
  (I:wk hd env hd E (H.ext LA LT)) (u:∀b,(h b).zh.length=nb) (N:H=h b0) (G:LA=A b0) (F:LT=T b0) (J:∀b,(A b).length=k) (q:yo g=true) (w:yy E g=aa (.fn (.func f) first a)) (c:(pk assign&&pk body)=true)
  (hs:∀lp:LoopState->Option Code->q6,lp=(λst i=>.loop st i E j assign body)->Spec P f (first++[.ca (nb+k)]++a) (dU h A T lp (b0,ac)) λ_ hh=>∃b,R b/\hh=dU h A T lp (b,ac))
  (D:∀b H1,R b->H1=(h b).ext (A b++[.dead]) (T b)->Q .normal E H1):vi P (.rangeFunc g j assign body) Q env hd:=by
 subst N G F;obtain⟨_,v⟩:=zF w;simp only[tx]at c;refine⟨q,c.1,c.2,E,_,I,?_⟩;rw[v];have s:((h b0).ext (A b0) (T b0)).zh.length=nb+k:=by simp[AH.ext,u,J]
 have r:=hs _ rfl;rw[s,zdr];refine r.mono λ_ hh e=>?_;obtain⟨b,O,e⟩:=e;subst e;have p:(dU h A T (λst i=>.loop st i E j assign body) (b,ac)).g7 (nb+k)=aa (.loop (lst ac) (lpe ac) E j assign body):=by
  simp only[dU,AH.g7,AH.ext,<- u b]
  simp_all
 have l:(dU h A T (λst i=>.loop st i E j assign body) (b,ac)).put (nb+k) .dead=(h b).ext (A b++[.dead]) (T b):=by
  simp only[dU,<- u b,vU]
  simp_all
 refine⟨_,_,_,_,_,_,p,by simp[lst],?_⟩;rw[l];exact D b _ O rfl
theorem zjF{P:Program}{env:List AV}{h:AH}{Q:Exit->List AV->AH->Prop}{m:List α}(U:List (Nat×AV))(H:List Nat->List α->AH){E:List AV}(s:bi env U=E)(h0:wk h env h E (H [] []))
  (hs:∀seen q,q.length=seen.length->(q++sP m seen).Perm m->vi P body (sn (λenv' b=>∃i x,m[i]?=aa x/\i∉seen/\wk (H seen q) env' b E (H (seen++[i]) (q++[x]))) Q) E (H seen q)) :
  vi P (.loop body) Q env h:=by
 refine zgR (σ:=List Nat×List α) (λp=>E) (λp=>H p.1 p.2) (λp=>p.2.length=p.1.length/\(p.2++sP m p.1).Perm m) (λp=>(sP m p.1).length) ([],[]) h0 ⟨rfl,by rw[zhi];exact gh _⟩ ?_
 rintro⟨seen,q⟩ ⟨g,e⟩
 refine vJ ?_ _ _ _ (hs seen q g e);intro x env' b c;cases x with
 |normal =>
  obtain⟨i,x,r,j,l⟩:=c;have a:=pX r j;refine⟨(seen++[i],q++[x]),⟨by simp[g],?_⟩,?_,l⟩
  ·rw[lf];exact(List.Perm.append_left q a.symm).trans e
  ·have:=a.length_eq
   simp_all
 |_=>exact c
theorem zej{K W:Type}{kv:K->AV}{vv:W->AV}{P:Program}{ops:Array Oper}{o:Oper}{env u:List AV}{h:AH}{nb:Nat}{L:List q6}{M:List Nat}{x:Operand}{m:List (K×W)}{id j:Nat}(S:h.zh.length=nb)(F:aG ops o env=aa true)(J:o.op=.next x false)
  (N:yy env x=aa (.ptr (nb+j) 0)) (R:L[j]?=aa (.fF id m.length seen)) (E:(h.ext L M).g7 id=aa (.q7 (m.map (zZ kv vv)) 0)) (e:tX o.dst env (.fl [.bool false])=aa u)
  (g:∀i y,m[i]?=aa y->i∉seen->∃s,tX o.dst env (.fl [.bool true,kv y.1,vv y.2])=aa s/\zx P ops Q rest s (h.ext (L.set j (.fF id m.length (seen++[i]))) M))
  (w:sP m seen=[]->zx P ops Q rest u (h.ext L M)):zx P ops Q (o::rest) env (h.ext L M):=by
 subst S;obtain⟨G,D⟩:=zF N;have key:xN P o env (h.ext L M)=aa (rR (h.ext L M) (h.zh.length+j) id m.length seen (m.map (zZ kv vv))):=by
  simp[xN,J,G,D,zX,R,E]
 refine sI F ⟨_,key,λp a=>?_⟩;unfold rR at a;have b:(m.map (zZ kv vv)).zipIdx=m.zipIdx.map λq=>(zZ kv vv q.1,q.2):=by
  rw[List.zipIdx_map];rfl
 rw[b,gK]at a;split at a
 ·rename_i c;simp only[la]at a;subst a;have U:sP m seen=[]:=by
   unfold sP;rw[iv]at c ⊢;exact c
  show zx P ops Q rest (fw env o.dst (.fl [.bool false])) (h.ext L M);rw[yU e]
  simp_all
 ·rename_i q r c;rw[<- c,kY,lH]at a;obtain⟨⟨y,i⟩,v,rfl⟩:=a;rw[lQ]at v;have hi:=jy.1 v.1;have l:i∉seen:=by simp_all
  obtain⟨s,I,O⟩:=g i y hi l;show zx P ops Q rest (fw env o.dst (.fl [.bool true,kv y.1,vv y.2])) ((h.ext L M).put (h.zh.length+j) (.fF id m.length (seen++[i])));rw[yU I,vU];exact O
theorem zcY{K W:Type}{kv:K->AV}{vv:W->AV}{P:Program}{ops:Array Oper}{o:Oper}{env:List AV}{h:AH}{nb:Nat}{L:List q6}{M:List Nat}{x:Operand}{m:List (K×W)}{id j i:Nat}{y:K×W}(q:h.zh.length=nb)
  (b:aG ops o env=aa true) (e:o.op=.entry x) (l:yy env x=aa (.ptr (nb+j) 0)) (p:L[j]?=aa (.fF id m.length (seen++[i]))) (a:(h.ext L M).g7 id=aa (.q7 (m.map (zZ kv vv)) 0)) (g:m[i]?=aa y)
  (hd:tX o.dst env (.fl [kv y.1,vv y.2])=aa env') (c:zx P ops Q rest env' (h.ext L M)):zx P ops Q (o::rest) env (h.ext L M):=by
 subst q;exact mr b e l p a g hd c
theorem zcX{K W:Type}{kv:K->AV}{vv:W->AV}{P:Program}{ops:Array Oper}{o:Oper}{env:List AV}{h:AH}{nb:Nat}{L L':List q6}{M:List Nat}{t kt et:TypeId}{x:Operand}{id:Nat}{m:List (K×W)}(p:h.zh.length=nb)(c:aG ops o env=aa true)(i:o.op=.range t x)(a:P.underlying t=aa (.map kt et))
  (j:yy env x=aa (.map id)) (b:(h.ext L M).g7 id=aa (.q7 (m.map (zZ kv vv)) 0)) (l:L.length=n) (hd:tX o.dst env (.ptr (nb+n) 0)=aa env') (g:L++[.fF id m.length []]=L') (e:zx P ops Q rest env' (h.ext L' M)):zx P ops Q (o::rest) env (h.ext L M):=by
 subst p;exact mq c i a j b l hd g e
theorem zkg{h:AH}{K:AV->AH->Prop}{b:q6}{B:List q6}{T:List Nat}(g:b.low (h.zh.length+1) h.zs.length=true)(e:K (.map h.zh.length) (h.ext [b] [])):nQ h K (.map (h.zh.length+0)) (h.ext (b::B) T):=by
 have a:wk (h.ext [] []) [.map (h.zh.length+0)] (h.ext (b::B) T) [.map (h.zh.length+0)] (h.ext [b] []):=zqt (q:=1) (c:=0) (lV _) (ob _) (by simp[zB,AV.low]) rfl (by simp_all) rfl;rw[oL]at a;exact wv a e
theorem pz{P:Program}{ops:Array Oper}{o:Oper}{env:List AV}{h:AH}{B:List q6}{T:List Nat}{R:α->Prop}{vf:α->AV}{L:α->List q6}{M:α->List Nat}{env':α->List AV}{B':α->List q6}{T':α->List Nat}(b:aG ops o env=aa true)(g:zj P o env (h.ext B T)=.call f args)
  (hs:Spec P f args (h.ext B T) (λa hh=>∃p,R p/\a=vf p/\hh=(h.ext B T).ext (L p) (M p))) (i:∀p,B++L p=B' p) (c:∀p,T++M p=T' p) (hd:∀p,tX o.dst env (vf p)=aa (env' p)) (j:∀p,R p->zx P ops Q rest (env' p) (h.ext (B' p) (T' p))):zx P ops Q (o::rest) env (h.ext B T):=by
 refine pU b g hs λa hh e=>?_;obtain⟨p,l,rfl,rfl⟩:=e;rw[x5,yU (hd p),i,c]
 simp_all
theorem znM{h:AH}{i:Nat}{b:q6}(a:h.g7 i=aa b):i<h.zh.length:=yj a rfl
theorem zoi{P:Program}{o:Oper}{env:List AV}{h:AH}{t e:TypeId}{k k':Nat}{d:TypeDesc}{x i:Operand}{q:IntKind}{m:Int}{L:List α}{row:α->List AV}{y:α}{cs:List AV}(a:zR L m=aa y)
  (l:o.op=.index t x i) (b:Ty P t (.array n e) k) (u:Ty P e d k') (w:yd d=true) (p:yy env x=aa (.agg cs)) (hi:yy env i=aa (.int q m)) (I:cs=(L.map row).flatten) (D:∀z,z∈L->(row z).length=k') (E:L.length=n) :
  zj P o env h=.ok (.agg (row y)) h:=by
 obtain⟨h0,a⟩:=zsm a;have F:m.toNat<L.length:=(tu.1 a).1;have key:∀(L:List α)(j:Nat),(∀z,z∈L->(row z).length=k')->L[j]?=aa y->(((L.map row).flatten).drop (j*k')).take k'=row y:=by
  intro L
  induction L with
  |nil=>intro j _ h;simp at h
  |cons z r ih =>
   intro j g G;have c:=g z (by simp);cases j with
   |zero =>
    simp_all
   |succ j =>
    simp only[m4,lO];have s:(j+1)*k'=(row z).length+j*k':=by grind
    rw[s,jD,lW (by omega),m3,ll]
    simp_all
 refine zkS l b u p hi (v:=.agg (row y)) ?_ (zc rfl);simp only[nZ];rw[nK ⟨h0,by omega⟩,w];simp only[zje,oS]
 simp_all
section
variable{P:Program}{o:Oper}{env:List AV}{h:AH}{A A' L B:List q6}{T T' M C:List Nat}{nb nt:Nat}
theorem zqj{row:α->List AV}{X Y:List α}(R:h.zh.length=nb)(g:h.zs.length=nt){c:Call}{x y:Operand}{t u e D:TypeId}{k k' i j n:Nat}{a b q:AV}(F:o.op=.call c)(Z:c.callee=.builtin .append)(hs:c.args=#[x,y])(r:c.argTypes=#[t,u])(J:El P t e k)
  (l:El P u D k') (O:yy env x=aa a) (I:yy env y=aa b) (V:w5 P t a=.fo (nb+i) (nt+j) k n) (s:w5 P u b=q) (S:oU k q=aa (Y.map row)) (G:X.length+Y.length<=lim)
  (hi:A[i]?=aa (.row (nt+j) k (X.map row))) (p:X.length=n) (U:T[j]?=aa n) (E:A.set i (.row (nt+j) k ((X++Y).map row))=A') (w:T.set j (X++Y).length=T') :
  zj P o env (((h.ext A T).ext L M).ext B C)=.ok (.fo (nb+i) (nt+j) k (X++Y).length) (((h.ext A' T').ext L M).ext B C):=by
 subst R g E w;have N:=(tu.1 hi).1;have v:=(tu.1 U).1;have:=zeM (P:=P) (h:=h) (B:=A++L++B) (T:=T++M++C) (B':=(A.set i (.row (h.zs.length+j) k ((X++Y).map row)))++L++B) (T':=(T.set j (X++Y).length)++M++C) F Z hs r J l O I V s S G
  (by grind) p (by grind)
  (by simp_all) (by simp_all)
 simp only[x5];omega
end
end Go.Vv
namespace Go.Vv
open Go
variable{c:Operand}{A:Code}{fn:Func}{R1:List (List AV)}
class SC(q:Prop)(S:outParam Prop):Prop where
 o:q->S
class ck(l:List AV):Prop where
 o:l.all AV.one=true
section
variable{l r:List AV}{k:Nat}{es:List (List AV)}{q:Option Nat}
instance:ck []:=⟨rfl⟩
instance{k:IntKind}{n:Int}[i:ck r]:ck (.int k n::r):=⟨by simp[AV.one,i.o]⟩
instance{n:List UInt8}[i:ck r]:ck (.str n::r):=⟨by simp[AV.one,i.o]⟩
instance{n:Bool}[i:ck r]:ck (.bool n::r):=⟨by simp[AV.one,i.o]⟩
instance[i:ck r]:ck (.sl k es::r):=⟨by simp[AV.one,i.o]⟩
instance[i:ej l r][j:ck r]:LEV (.agg l) (.agg r):=⟨.agg i.o j.o⟩
end
section
variable{a x n:Nat}{l r s:List Nat}
class bU(l:List Nat)(n x:Nat)(s:outParam (List Nat)):Prop where
 out:l.set n x=s
instance:bU (a::l) 0 x (x::l):=⟨rfl⟩
instance[i:bU l n x s]:bU (a::l) (n+1) x (a::s):=⟨by rw[<- i.out];rfl⟩
class bf(l r:List Nat)(s:outParam (List Nat)):Prop where
 out:l++r=s
instance:bf [] r r:=⟨rfl⟩
instance[i:bf l r s]:bf (a::l) r (a::s):=⟨by rw[<- i.out];rfl⟩
class b7(l:List Nat)(s:outParam (List Nat)):Prop where
 out:l=s
instance:b7 [] []:=⟨rfl⟩
instance:b7 (a::l) (a::l):=⟨rfl⟩
instance{g:List Nat}[i:b7 l g][j:bf g r s]:b7 (l++r) s:=⟨by rw[i.out,j.out]⟩
instance{g:List Nat}[i:b7 l g][j:bU g n x s]:b7 (l.set n x) s:=⟨by rw[i.out,j.out]⟩
class bW(l:List Nat)(n:outParam Nat):Prop where
 out:l.length=n
instance:bW [] 0:=⟨rfl⟩
instance[i:bW l n]:bW (a::l) (n+1):=⟨by simp[i.out]⟩
end
instance(priority:=low){off i t k n p:Nat}:FA off (.fW i t k n p) (.fW i t k n (p+off)):=⟨rfl⟩
instance(priority:=high){l g m s:List q6}{n:Nat}{b:q6}[i:cn l g][C:ei m n][j:cK g n b s]:cn (l.set m.length b) s:=⟨by rw[C.out,i.out,j.out]⟩
theorem kr{p:Prop}(h:p:=by kernel_rfl):p:=h
class cQ(env:List AV)(r:List (Nat×Operand))(l:outParam (List (Nat×AV))):Prop where
 o:mO env r=aa l
class cO(P:Program)(d:TypeDesc)(l:List (Nat×AV))(r:outParam (List (Nat×AV))):Prop where
 o:Fp P d l r
class f9(env:List AV)(xs:List Operand)(ts:List TypeId)(l:outParam (List (TypeId×AV))):Prop where
 o:oz env xs ts=aa l
class fZ(P:Program)(l:List (TypeId×AV))(r:outParam (List AV)):Prop where
 o:Fx P l r
section
variable{P:Program}{env vs:List AV}{i:Nat}{x:Operand}{v v':AV}{d:TypeDesc}{r:List (Nat×Operand)}{l s:List (Nat×AV)}{xs:List Operand}{ts:List TypeId}{t:TypeId}{m:List (TypeId×AV)}
instance:cQ env [] []:=⟨zaP⟩
instance[a:GT x env v][b:cQ env r l]:cQ env ((i,x)::r) ((i,v)::l):=⟨zeh a.out b.o⟩
instance:cO P d [] []:=⟨.nil⟩
instance[a:cJ P (zjL d i) v v'][b:cO P d l s]:cO P d ((i,v)::l) ((i,v')::s):=⟨.cons a.out b.o⟩
instance:f9 env [] [] []:=⟨vK⟩
instance[a:GT x env v][b:f9 env xs ts m]:f9 env (x::xs) (t::ts) ((t,v)::m):=⟨xy a.out b.o⟩
instance:fZ P [] []:=⟨.nil⟩
instance[a:cJ P t v v'][b:fZ P m vs]:fZ P ((t,v)::m) (v'::vs):=⟨.cons a.out b.o⟩
end
theorem LE{p:Prop} (h:p:=by
 repeat' first
  |exact fc.nil
  |with_reducible apply fc.eq
  |with_reducible apply fc.drop
  |with_reducible apply fc.cons (g6.gW _ _ _)
  |refine fc.cons (g6.of_eq (oE (by omega) (by omega))) ?_
  |refine fc.cons (g6.of_eq rfl) ?_
  |refine fc.cons LEV.out ?_):p:=h
theorem LW{p:Prop}(h:p:=by simp[zB,AV.low]):p:=h
theorem LB{p:Prop}(h:p:=by simp[q6.low,zB,AV.low,zZ,AV.cV]):p:=h
theorem LWs{p:Prop}(h:p:=by simp[zB,AV.low, *];try omega):p:=h
theorem LBs{p:Prop}(h:p:=by simp[q6.low,zB,AV.low,zZ, *];try omega):p:=h
theorem LS{p:Prop}(h:p:=by simp):p:=h
theorem RE{p:Prop} (h:p:=by
 first
  |exact wk.le LE
  |exact wk.trans (wk.le LE) (yH LW rfl rfl LB)
  |exact yH LW rfl rfl LB
  |exact wk.trans (wk.le LE) (yH LWs rfl rfl LBs)
  |exact yH LWs rfl rfl LBs):p:=h
theorem LP{p:Prop} (h:p:=by
 first
  |exact⟨_,by assumption,by assumption,RE⟩
  |exact⟨_,by assumption,RE⟩):p:=h
theorem FX{p:Prop}(h:p:=by simp only[oa];try rfl):p:=h
theorem FK{p:Prop} (h:p:=by
 repeat' first
  |exact f0.nil
  |exact .inr (nG trivial)
  |exact .inr (nG ⟨rfl,trivial⟩)
  |exact .inr (nG ⟨rfl,rfl,trivial⟩)
  |exact .inl (by kernel_rfl)
  |apply f0.cons):p:=h
theorem UE{p:Prop}(h:p:=by simp only[bi,zo,kj,kJ];try rfl):p:=h
theorem LV{p:Prop} (h:p:=by
 repeat' first
  |exact fc.nil
  |exact g6.gW _ _ _
  |refine g6.agg ?_ rfl
  |apply g6.fl
  |with_reducible apply fc.eq
  |apply fc.cons
  |exact g6.refl _):p:=h
theorem FE{p:Prop} (h:p:=by
 first
  |exact fz rfl rfl
  |exact fe rfl rfl LEV.out
  |exact fe rfl rfl LV
  |exact fr rfl (zrO ⟨rfl,rfl⟩)
  |exact fr rfl (zph ⟨rfl,rfl⟩)
  |exact fr rfl (zeI ⟨rfl,rfl⟩)
  |exact fr rfl (zeI ⟨rfl,(),rfl⟩)
  |exact fr rfl (zeI ⟨rfl,_,rfl⟩)
  |exact fr rfl (wv (yH LW rfl rfl LB) ⟨rfl,(),rfl⟩)
  |exact fr rfl (wv (yH LW rfl rfl LB) ⟨rfl,rfl⟩)
  |exact fr rfl (sG (pm (j:=0) (i:=0) rfl LS) ⟨FX,FX⟩)
  |exact fr rfl (zpg ⟨rfl,rfl⟩)):p:=h
theorem Z{p:Prop}(h:p:=by cases a;exact FE):p:=h
theorem ZL{p:Prop}(h:p:=by cases a;exact LP):p:=h
section
variable{P:Program}{ops:Array Oper}{Q:List AV->AH->Prop}{QS:Exit->List AV->AH->Prop}{rest l:List Oper}{env env':List AV}{h h':AH}{d:Option Tmp}{op:Op}{t:TypeId}{p:String}{a:Array Edge}{v w:AV}{G G2:Prop}{Ns:List Nat}{F:Nat->AH->Prop}{i j n:Nat}{f:FuncId}{args:List AV}{want b:Bool}
theorem zO(g:zj P ⟨d,op,t,p,a,ac⟩ env h=.ok v h')[C:ST d env v env'][D:R (zx P ops Q rest env' h') G](E:G):zx P ops Q (⟨d,op,t,p,a,ac⟩::rest) env h:=zt rfl g C.out (D.r E)
theorem mX(g:xN P ⟨d,op,t,p,a,ac⟩ env h=aa [(v,h')])[C:ST d env v env'][D:R (zx P ops Q rest env' h') G](E:G):zx P ops Q (⟨d,op,t,p,a,ac⟩::rest) env h:=zvl rfl g C.out (D.r E)
theorem wl(D:zj P ⟨d,op,t,p,a,ac⟩ env h=.ok v h)[g:NC Ns i][E:ST d env v env'][H:R (zI P ops Ns F Q (i+1) rest env' h) G](C:G):zI P ops Ns F Q i (⟨d,op,t,p,a,ac⟩::rest) env h:=yq g.out rfl D E.out (H.r C)
theorem dL(D:zj P ⟨d,op,t,p,a,ac⟩ env h=.ok v h')[g:NC Ns i][E:ST d env v env'][H:R (zI P ops Ns F Q (i+1) rest env' h') G](C:G)(I:h'.zh=h.zh:=by rfl)(J:f0 ((Region.before ops).getD i 0) Ns F h':=by exact FK):zI P ops Ns F Q i (⟨d,op,t,p,a,ac⟩::rest) env h:=zpl g.out J I rfl D E.out (H.r C)
theorem qs(D:zj P ⟨d,op,t,p,a,ac⟩ env h=.ok v h')[g:NC Ns i][E:ST d env v env'][H:R (zI P ops Ns F Q (i+1) rest env' h') G](C:G)(I:zse ops Ns i=true:=by kernel_rfl)(J:f0 ((Region.before ops).getD i 0) Ns F h':=by exact FK):zI P ops Ns F Q i (⟨d,op,t,p,a,ac⟩::rest) env h:=uY g.out J I rfl D E.out (H.r C)
theorem e7(hs:Spec P f args h λr hh=>r=v/\hh=h'){xs:List Operand}{ts:List TypeId}[E:dQ P env true xs ts args][C:ST d env v env'][D:R (zx P ops Q rest env' h') G](g:G):zx P ops Q (⟨d,.call ⟨.value (.func f),List.toArray xs,List.toArray ts⟩,t,p,a,ac⟩::rest) env h:=zaQ rfl (sc rfl) hs C.out (D.r g)
theorem ay{xs:List Operand}{ts:List TypeId}(hs:∀g,F i g->Spec P f args g λr hh=>r=v/\hh=g)[I:dQ P env true xs ts args][D:ST d env v env'][E:R (zI P ops Ns F Q (i+1) rest env' h) G](C:G)(H:Ns.contains i=true:=by rfl):zI P ops Ns F Q i (⟨d,.call ⟨.value (.func f),List.toArray xs,List.toArray ts⟩,t,p,a,ac⟩::rest) env h:=yV H rfl (λ_=>sc rfl) hs D.out (E.r C)
variable{α ρ:Type}{o:Option α}{k:α->Option ρ}{r:ρ}
theorem cF{B:Code}{X Y:Option ρ}(I:(if b=true then X else Y)=aa r)[g:GT c env (.bool b)][E:R (vi P A QS env h) G][D:R (vi P B QS env h) G2](H:b=true->X=aa r->G)(C:b=false->Y=aa r->G2):vi P (.cond c A B) QS env h :=
 si g.out I (λx y=>E.r (H x y)) λx y=>D.r (C x y)
theorem c1{B:Code}[g:GT c env (.bool true)][C:R (vi P A QS env h) G](D:G):vi P (.cond c A B) QS env h:=oY g.out (λ_=>C.r D) λx=>by cases x
theorem c0{B:Code}[g:GT c env (.bool false)][C:R (vi P B QS env h) G](D:G):vi P (.cond c A B) QS env h:=oY g.out (λx=>by cases x) λ_=>C.r D
theorem xP{x:Operand}[D:GT x env v][H:LN P t v n][E:ST d env (.int .i64 n) env'][C:R (zx P ops Q rest env' h) G]{t':TypeId}(g:n<=9223372036854775807->G):zx P ops Q (⟨d,.call ⟨.builtin .len,List.toArray [x],List.toArray [t]⟩,t',p,a,ac⟩::rest) env h :=
 ln λe=>C.r (g (zwL e))
theorem dr{B:List q6}{T:List Nat}{id:Nat}(Ns:List Nat)[D:R (zI P ⟨l⟩ Ns (λn=>zlu h (lk [] n)) (QS .normal) 0 l env (h.ext B T)) G](C:G)(hd:pg ⟨l⟩ Ns=true:=by kernel_rfl)(g:P.follows .mixedOrders=true:=by exact mixed) :
  vi P (.region id ⟨l⟩ true) QS env (h.ext B T):=zik Ns [] trivial g hd (D.r C)
theorem xb{c : Code}(hf : P.funcs[f]? = aa fn)(m : Nat){K : AV→AH→Prop}[i2 : PAD m args env][i4 : R (vi P c (pi P fn h K) env (h.ext [] [])) G](hk : G)(hb : fn.body = aa c := by rfl)(hname : (fn.name == "runtime.NumGoroutine") = false := by kernel_rfl)(hm : fn.ntmps = m := by rfl) : Spec P f args h K :=
 zw hf hb hname (sL m hm) (i4.r hk)
variable{x y:Operand}{t0 u e e':TypeId}{m j':Nat}{a1 a2 b':AV}{gd:Option (Nat×Bool)}{B B' L1 Bn:List q6}{T T' M1 Tn:List Nat}{row:α->List AV}{L M:List α}{k1 k2:Nat}{z:Int}{kd:IntKind}{q id:Nat}
class NWS(k:Nat)(b:AV){α:Type}(row:α->List AV)(M:List α):Prop where
 o:oU k b=aa (M.map row)
instance:NWS k1 (.sl k1 (M.map row)) row M:=⟨zc2⟩
instance{q:Option Nat}:NWS k1 (.gW q k1 (M.map row)) row M:=⟨zfD⟩
instance{s:List UInt8}:NWS 1 (.str s) znI s:=⟨zoQ⟩
theorem eT(D:L.length+M.length<=lim)[g:El P t0 e k1][K:El P u e' k2][E:GT x env a1][I:GT y env a2][H:cJ P t0 a1 (.gW (aa (h.zs.length+j)) k1 (L.map row))][O:cJ P u a2 b'][J:NWS k1 b' row M][C:b7 T Tn][N:cR j Tn L.length][i9:bU Tn j (L++M).length T'] :
  zj P ⟨d,.call ⟨.builtin .append,List.toArray [x,y],List.toArray [t0,u]⟩,t,p,a,gd⟩ env (h.ext B T)=.ok (.gW (aa (h.zs.length+j)) k1 ((L++M).map row)) (h.ext B T'):=by rw[C.out];exact zuc rfl rfl rfl rfl g K E.out I.out H.out O.out J.o D N.out i9.out
theorem eN(D:L.length+M.length<=lim)[g:El P t0 e k1][K:El P u e' k2][E:GT x env a1][I:GT y env a2][H:cJ P t0 a1 (.gW ac k1 (L.map row))][O:cJ P u a2 b'][J:NWS k1 b' row M][C:b7 T Tn][N:bW Tn m][i9:bf Tn [(L++M).length] T'] :
  zj P ⟨d,.call ⟨.builtin .append,List.toArray [x,y],List.toArray [t0,u]⟩,t,p,a,gd⟩ env (h.ext B T)=.ok (.gW (aa (h.zs.length+m)) k1 ((L++M).map row)) (h.ext B T'):=by rw[C.out];exact zud rfl rfl rfl rfl g K E.out I.out H.out O.out J.o D N.out i9.out
theorem eR(O:L.length+M.length<=lim)[W:El P t0 e k1][E:El P u e' k2][R:GT x env a1][S:GT y env a2][I:cJ P t0 a1 (.fo (h.zh.length+i) (h.zs.length+j) k1 n)][V:cJ P u a2 b'][J:NWS k1 b' row M]{n2:Nat}[N:b7 T Tn][H:cR j Tn n2][i9:bU Tn j (L++M).length T']{g:List (List AV)}[X:cn B Bn][C:cR i Bn (.row (h.zs.length+j) k1 g)][Y:cK Bn i (.row (h.zs.length+j) k1 ((L++M).map row)) B'](K:L.length=n:=by rfl)(D:n2=n:=by rfl)(U:g=L.map row:=by rfl) :
  zj P ⟨d,.call ⟨.builtin .append,List.toArray [x,y],List.toArray [t0,u]⟩,t,p,a,gd⟩ env (h.ext B T)=.ok (.fo (h.zh.length+i) (h.zs.length+j) k1 (L++M).length) (h.ext B' T'):=by rw[N.out,X.out];exact zeM rfl rfl rfl rfl W E R.out S.out I.out V.out J.o O (by rw[C.out,U]) K (by rw[H.out,D]) Y.out i9.out
theorem iR(E:0<=z/\z<n)[g:El P t0 e k1][C:GT x env (.fo id q k1 n)][D:GT y env (.int kd z)]:zj P ⟨d,.indexAddr t0 x y,t,p,a,gd⟩ env h=.ok (.fW id q k1 n (z.toNat*k1+0)) h:=zub rfl g C.out D.out E
theorem rN(s:Spec P f args (h.ext B T) (zsq (h.ext B T) k1 m R1))[C:cn B Bn][g:b7 T Tn][D:ei Bn j][I:bW Tn i][E:APP Bn [.row (h.zs.length+i) k1 R1] B'][H:bf Tn [m] T'] :
  Spec P f args (h.ext B T) (λJ hh=>J=.fo (h.zh.length+j) (h.zs.length+i) k1 m/\hh=h.ext B' T'):=zqK s (by rw[C.out];exact D.out) (by rw[g.out];exact I.out) (by rw[C.out];exact E.out) (by rw[g.out];exact H.out)
theorem rV(s:Spec P f args (h.ext B T) (λg hh=>g=v/\hh=(h.ext B T).ext L1 M1))(E:v=w)[H:cn B Bn][C:b7 T Tn][D:APP Bn L1 B'][I:bf Tn M1 T']:Spec P f args (h.ext B T) (λg hh=>g=w/\hh=h.ext B' T'):=zon s E (by rw[H.out];exact D.out) (by rw[C.out];exact I.out)
theorem oX(s:Spec P f args (h.ext B T) (zsf (h.ext B T) k1 n R1))[g:b7 T Tn][C:bW Tn m][D:bf Tn [n] T']:Spec P f args (h.ext B T) (λE hh=>E=.gW (aa (h.zs.length+m)) k1 R1/\hh=h.ext B T'):=zq3 s (by rw[g.out];exact C.out) (by rw[g.out];exact D.out)
variable{fs:Array Field}{pl:List (Nat×Nat)}{z1 z2 cs cs' vs:List AV}{lv lw:List (Nat×AV)}{parts:List (Nat×Operand)}{off sz:Nat}{es:List (List AV)}
class bo(P:Program)(t:TypeId)(fs:outParam (Array Field))(pl:outParam (List (Nat×Nat))):Prop where
 o:P.underlying t=aa (.struct fs)/\zbm P fs=aa pl
class FIL(pl:List (Nat×Nat))(z:List AV)(l:List (Nat×AV))(cs:outParam (List AV)):Prop where
 o:qJ (λi=>pl[i]?) z l=aa cs
instance:FIL pl z1 [] z1:=⟨rfl⟩
instance[g:cR i pl (off,sz)][K:cy v vs][D:bA vs sz][E:SPL off vs z1 z2][C:FIL pl z2 lv cs]:FIL pl z1 ((i,v)::lv) cs:=⟨by
 have J:=g.out;have H:=K.out;have N:=D.out;have I:=E.out;simp only[qJ,J,H,N,iY];rw[nK (by omega),I.1];exact C.o⟩
theorem sb[g:bo P t0 fs pl][H:ZE P t0 z1][D:cQ env parts lv][E:cO P (.struct fs) lv lw][C:FIL pl z1 lw cs]:zj P ⟨d,.build t0 ⟨parts⟩,t,p,a,gd⟩ env h=.ok (.agg cs) h:=zl0 rfl g.o.1 H.out g.o.2 D.o E.o C.o rfl
theorem bs(es:List (List AV))[C:El P t0 e k1][K:ZE P e z1][H:cQ env parts lv][I:cO P (.slice e) lv lw](D:Nat.ble (n*k1) 65536=true:=by rfl)(g:z1.length=k1:=by rfl)(E:qJ (λi=>aa (i*k1,k1)) ((List.replicate n z1).flatten) lw=aa cs:=by rfl)(N:xO cs=aa cs':=by rfl)(J:rows k1 n cs'=es:=by rfl) :
  zj P ⟨d,.buildSlice t0 n ⟨parts⟩,t,p,a,gd⟩ env h=.ok (.gW ac k1 es) h:=xh rfl C K.out D g H.o I.o E N J
variable{σ:Type}{body:Code}{s0:σ}{rest2:σ->Option ρ}{o0:ρ}
theorem WL{p:Prop}(h:p:=by exact wk.le ej.o):p:=h
theorem qg{f:Nat->α->σ->Option (Out ρ σ)}(U:Nat->σ->List (Nat×AV))(H:σ->AH)(J:lp (zf f L 0 s0) rest2=aa o0){E:Nat->σ->List AV}{g:Nat->σ->Prop}
  [D:∀i s,R (vi P body (sn (λenv' h'=>∃C,i<L.length/\lp (zf f (L.drop (i+1)) (i+1) C) rest2=aa o0/\wk (H s) env' h' (E (i+1) C) (H C)) QS) (E i s) (H s)) (g i s)]
  (hs:∀i s,i<=L.length->lp (zf f (L.drop i) i s) rest2=aa o0->g i s) (I:∀i s,bi env (U i s)=E i s:=by intros;exact UE) (h0:wk h env h (E 0 s0) (H s0):=by exact WL):vi P (.loop body) QS env h :=
 zot U H J I h0 λi s x y=>(D i s).r (hs i s x y)
theorem cL{f:Nat->α->σ->Option (Out ρ σ)}{s:σ}{C:Code}(K:lp (zf f (L.drop i) i s) rest2=aa o0)[D:GT c env (.bool (decide ((i:Int)<(L.length:Int))))][I:R (vi P A QS env h) G][H:R (vi P C QS env h) G2]
  (J:∀x g,i<L.length->L[i]?=aa x->f i x s=aa g->zuH f L i rest2 g=aa o0->G) (E:rest2 s=aa o0->G2):vi P (.cond c A C) QS env h :=
 zqS D.out K (λx g a b c d=>I.r (J x g a b c d)) λx=>H.r (E x)
theorem cB(C:o.bind k=aa r){xs:List Operand}{ts:List TypeId}{V:α->AV}{E:α->List AV}{A:List AV}{g:α->Prop}(hs:∀x,o=aa x->Spec P f A h λH hh=>H=V x/\hh=h)[J:dQ P env true xs ts A][K:∀x,ST d env (V x) (E x)][I:∀x,R (zx P ops Q rest (E x) h) (g x)](D:∀x,k x=aa r->g x):zx P ops Q (⟨d,.call ⟨.value (.func f),List.toArray xs,List.toArray ts⟩,t,p,a,ac⟩::rest) env h :=
 zd C λx e C=>cp (hs x e) ((I x).r (D x C))
theorem cM(D:o.bind k=aa r){xs:List Operand}{ts:List TypeId}{V:α->AV}{E:α->List AV}{A:List AV}{g:α->Prop}(hs:∀x,o=aa x->∀C,Spec P f A C λI hh=>I=V x/\hh=C)[O:dQ P env true xs ts A][J:∀x,ST d env (V x) (E x)][K:∀x,R (zI P ops Ns F Q (i+1) rest (E x) h) (g x)](H:∀x,k x=aa r->g x)(N:Ns.contains i=true:=by rfl):zI P ops Ns F Q i (⟨d,.call ⟨.value (.func f),List.toArray xs,List.toArray ts⟩,t,p,a,ac⟩::rest) env h :=
 zd D λx e D=>yV N rfl (λ_=>sc rfl) (λC _=>hs x e C) (J x).out ((K x).r (H x D))
theorem cG{c:Bool}{D:Option α}{S:α}(C:(if c=true then D else aa S).bind k=aa r){xs:List Operand}{ts:List TypeId}{V:α->AV}{E:α->List AV}{A:List AV}{g:α->Prop}(hs:∀x,D=aa x->Spec P f A h λO hh=>O=V x/\hh=h)[H:aL l j n][N:GT (.tmp n) env w][I:GB w want c][X:dQ P env c xs ts A][U:∀x,ST d env (gv c (V x)) (E x)][W:∀x,R (zx P (List.toArray l) Q rest (E x) h) (g x)](K:∀x,k x=aa r->g x):zx P (List.toArray l) Q (⟨d,.call ⟨.value (.func f),List.toArray xs,List.toArray ts⟩,t,p,a,aa (j,want)⟩::rest) env h :=
 qQ C λx e C=>vr (I.out _ _ _ _ _ rfl (by simpa using H.out) N.out) sc (λJ=>hs x (e J)) (U x).out ((W x).r (K x C))
theorem cH{c:Bool}{D:Option α}{O:α}(C:(if c=true then D else aa O).bind k=aa r){xs:List Operand}{ts:List TypeId}{V:α->AV}{E:α->List AV}{A:List AV}{g:α->Prop}(hs:∀x,D=aa x->Spec P f A h λN hh=>N=V x/\hh=h)[W:NC Ns i][H:aL l j n][X:GT (.tmp n) env w][I:GB w want c][Y:dQ P env c xs ts A][S:∀x,ST d env (gv c (V x)) (E x)][U:∀x,R (zI P (List.toArray l) Ns F Q (i+1) rest (E x) h) (g x)](K:∀x,k x=aa r->g x):zI P (List.toArray l) Ns F Q i (⟨d,.call ⟨.value (.func f),List.toArray xs,List.toArray ts⟩,t,p,a,aa (j,want)⟩::rest) env h :=
 qQ C λx e C=>rp W.out (I.out _ _ _ _ _ rfl (by simpa using H.out) X.out) sc (λJ=>hs x (e J)) (S x).out ((U x).r (K x C))
class ARV(env:List AV)(xs:List Operand)(vs:outParam (List AV)):Prop where
 o:xs.mapM (yy env)=aa vs
instance:ARV env [] []:=⟨rfl⟩
instance{x:Operand}{xs:List Operand}{vs:List AV}[g:GT x env v][C:ARV env xs vs]:ARV env (x::xs) (v::vs):=⟨by simp[j4,g.out,C.o]⟩
theorem mF{f:Fn}{xs g:List Operand}{us vs:List AV}[C:ARV env xs us][D:ARV env g vs]:zj P ⟨d,.makeFunc f ⟨xs⟩ ⟨g⟩,t,p,a,ac⟩ env h=.ok (.fn f us vs) h:=zea rfl C.o D.o
variable{K1 W1:Type}{kv:K1->AV}{vv:W1->AV}{eq:K1->K1->Bool}{kt et:TypeId}{mm:List (K1×W1)}{dd vw:W1}{kk:K1}{Ln:List q6}{a3:AV}{x3:Operand}
theorem mL(J:P.underlying t0=aa (.map kt et))(D:KQ P kt kv eq)(K:ut P et=aa (vv dd))[g:GT x env (.map (h.zh.length+j))][I:cn B Ln][E:cR j Ln (.q7 (mm.map (zZ kv vv)) 0)][H:GT y env a2](C:a2=kv kk:=by rfl):zj P ⟨d,.lookup t0 x y false,t,p,a,gd⟩ env (h.ext B T)=.ok (vv (zG eq dd mm kk)) (h.ext B T):=by
 rw[I.out];exact zgb rfl J D K g.out E.out (by rw[H.out,C])
theorem mP(N:P.underlying t0=aa (.map kt et))(D:KQ P kt kv eq)[g:GT x env (.map (h.zh.length+j))][K:cn B Ln][H:cR j Ln (.q7 (mm.map (zZ kv vv)) 0)][J:GT y env a2][I:GT x3 env a3][O:cK Ln j (.q7 ((wM eq mm kk vw).map (zZ kv vv)) 0) B'](C:a2=kv kk:=by rfl)(E:a3.cV=vv vw:=by rfl):zj P ⟨d,.mapUpdate t0 x y x3,t,p,a,gd⟩ env (h.ext B T)=.ok wb (h.ext B' T):=by
 rw[K.out];exact zga rfl N D g.out H.out (by rw[J.out,C]) I.out E O.out
theorem KA{p:Prop}(h:p:=by repeat' first|exact trivial|exact rfl|constructor):p:=h
theorem dk{B:List q6}{T:List Nat}{id:Nat}(Ns:List Nat)(g:List (Nat×List (Nat×q6)))[E:R (zI P ⟨l⟩ Ns (λn=>zlu h (lk g n)) (QS .normal) 0 l env (h.ext B T)) G](C:G)(H:zo2 g B:=by exact KA)(hd:pg ⟨l⟩ Ns=true:=by kernel_rfl)(D:P.follows .mixedOrders=true:=by exact mixed) :
  vi P (.region id ⟨l⟩ true) QS env (h.ext B T):=zik Ns g H D hd (E.r C)
theorem df{c : Code}(hf : P.funcs[f]? = aa fn)(m : Nat){K : AV→AH→Prop}[i2 : PAD m args env][i4 : R (vi P c (pi P fn h K) env h) G](hk : G)(hb : fn.body = aa c := by rfl)(hname : (fn.name == "runtime.NumGoroutine") = false := by kernel_rfl)(hm : fn.ntmps = m := by rfl) : Spec P f args h K :=
 ua hf hb hname (sL m hm) (i4.r hk)
theorem ZO{p:Prop}(h:p:=by obtain rfl:=oi a;exact FE):p:=h
end
end Go.Vv
