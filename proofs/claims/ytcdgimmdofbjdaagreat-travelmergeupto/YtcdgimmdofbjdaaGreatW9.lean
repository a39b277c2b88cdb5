/- Each function that the law reaches computes what its reading says; printed by a program. -/
import Derived.Test.YtcdgimmdofbjdaaGreatW8
set_option linter.all false
open Option renaming some→aa
open List renaming length→ak
namespace Go.Vv
open Go Go.Proofs
set_option maxRecDepth 100000
set_option synthInstance.maxSize 100000
set_option synthInstance.maxHeartbeats 1000000
set_option maxHeartbeats 1000000
variable{mm pg0 mg0commits:Nat}{h:AH}{m:List (GA×GI)}{res:Bool}{ss0:(List GI)}{f1:(GI->Option Bool)}{ff1:FuncId}{af1 kf1:List AV}{vv1:(List GA)}{d1:GA}{l0:(List GF)}
theorem zvr{n:Nat}(a:ak h.zh=n)(b:mm<(ak h.zh)):Sp 62 [.map mm] h (yb (.fn (.func 119) [] [.ptr n 0]) (h.ext [.cells [.map mm]] [])):=by
 subst a;refine xb Tryz.func62 4 ?_;refine zO mF ?_;refine fr rfl (zni (bs:=[.cells [.map mm]]) (by simp[AV.low,zB]) rfl (by simp[q6.low,zB,AV.low];omega) ?_);exact⟨rfl,rfl⟩
theorem zsO{S:Type}{Hy:S->AH}{nb nt:Nat}{y:S->GI->Option (Bool×S)}{c v:Nat}{st:List (GA×GI)->S}(a:∀s,(Hy s).zh.length=nb)(d:∀s,(Hy s).zs.length=nt)(F:∀s,(Hy s).closed nb nt)(j:c<nb)(N:∀s x b D L M,y s x=aa (b,D)->ez Tryz.prog c [zq x] ((Hy s).ext L M) (yb (.bool b) ((Hy D).ext L M)))(u:∀s,(Hy s).g7 v=aa (.cells [.map mm]))(w:∀s,(Hy s).g7 mm=aa (.q7 (m.map (zZ (λx=>zn x) (λx=>zq x))) 0))(A:∀q x,(ak q)<(ak m)->y (st q) x.2=aa (true,st (q++[x]))):Sp 119 [.ca c,.ptr v 0] (Hy (st [])) (λJ hh=>J=.fl []/\∃p,p.Perm m/\hh=Hy (st p)):=by
 refine zw Tryz.func119 rfl kr (sL 15 rfl) ?_;have f:∀k,c<nb+k:=λk=>o4 j (nv _ _);have t:=yj (u (st [])) (a _);have g:∀k,v<nb+k:=λk=>o4 t (nv _ _);have l:=yj (w (st [])) (a _);have e:∀k,mm<nb+k:=λk=>o4 l (nv _ _);apply R.r;refine zO (xk rfl zfa gg (u _) (zA rfl) (zc rfl)) ?_;refine zcX (kv:=(λx=>zn x)) (vv:=(λx=>zq x)) (a _) rfl rfl Tryz.underlying115 gg (zz (w _)) rfl ss rfl (R.r ?_);refine zjF (m:=m) [(2,.any),(3,.any),(4,.any),(5,.any),(7,.any),(8,.any),(9,.any),(10,.any),(11,.any),(12,.any),(13,.any),(14,.any)] (λseen q=>(Hy (st q)).ext [.fF mm (ak m) seen] []) (E:=[.ca c,.ptr v 0,.any,.any,.any,.any,.ptr (nb+0) 0,.any,.any,.any,.any,.any,.any,.any,.any]) (by simp only[bi,kj,kJ];try rfl) (wk.le ej.o) ?_;intro seen q O B;apply R.r;refine zej (kv:=(λx=>zn x)) (vv:=(λx=>zq x)) (a _) rfl rfl gg rfl (zz (w _)) ss (λi z C hs=>⟨_,ss,?_⟩) (λK=>?_)
 ·have H:(ak q)<(ak m):=by
   have I:=B.length_eq;have G:=(pX C hs).length_eq;simp only[oA,nr]at I G;omega
  apply R.r;refine c1 ?_;refine zcY (kv:=(λx=>zn x)) (vv:=(λx=>zq x)) (a _) rfl rfl gg rfl (zz (w _)) C ss ?_;refine zt rfl (xI rfl gg rfl (zc rfl)) ss ?_;refine zt rfl (zfF (a _) (n:=1) rfl zuO rfl) ss ?_;refine zO (zfE (a _) (cs':=(GI.row z.2)) rfl dB.choose_spec.1 gg gg (zc rfl) rfl rfl rfl rfl rfl) ?_;refine zO (zjQ (a _) rfl dB.choose_spec.1 gg rfl (z7 (cs':=(GI.row z.2)) dB.choose_spec.2 rfl rfl) (zc rfl)) ?_;refine zgW rfl (zlY rfl rfl gg f9.o fZ.o) (N _ _ _ _ _ _ (A q z H)) ss (R.r ?_);refine c0 ?_;exact⟨i,z,C,hs,wk.trans (wk.le ej.o) (ze8 (a _) (d _) (a _) (d _) (F _) (by simp[zB,AV.low,j,f,t,g,l,e]) rfl rfl (by simp[q6.low,j,f,t,g,l,e]))⟩
 ·apply R.r;refine c0 ?_;refine fr rfl (zkh (a _) (d _) (a _) (d _) (F _) (g6.refl _) rfl ?_);exact⟨rfl,q,by rw[K,ko]at B;exact B,rfl⟩
theorem zs4{b F v:Nat}(u:ak h.zh=F)(w:ak h.zs=v)(E:h.g7 b=aa (.cells [.map mm]))(K:h.g7 mm=aa (.q7 (m.map (zZ (λx=>zn x) (λx=>zq x))) 0))(H:ak m<=lim):Sp 167 [.gW none 11 [],.fn (.func 119) [] [.ptr b 0]] h (λJ hh=>∃p:List (GA×GI),p.Perm m/\J=.fo F v 11 (ak (p.map (λx=>x.2)))/\hh=h.ext [.row v 11 ((p.map (λx=>x.2)).map GI.row)] [ak (p.map (λx=>x.2))]):=by
 subst u w;refine zy Tryz.func167 rfl kr (sL 13 rfl) (λC D=>?_);have l:=yj E rfl;have f:∀k,b<(ak h.zh)+k:=λk=>o4 l (nv _ _);refine wr (yF ?_);refine vS (q9 (gx 0) rfl rfl (sx 0) rfl rfl) (R.r ?_);refine zjE (k:=2) (λ(c:(List GI))=>h) (λ(c:(List GI))=>[yr h 0 11 (c.map GI.row),.cells [zU h 0 0 11 (ak c)]]) (λ(c:(List GI))=>[ak c]) ([]:List GI) (λs=>∃p:List (GA×GI),p.Perm m/\s=p.map (λx=>x.2)) (wk.le (by exact(.drop (.drop (.eq (.drop (.drop (.drop (.eq (.d4 (.drop (.drop fc.nil)))))))))))) (λ_=>rfl) rfl rfl rfl (λ_=>rfl) rfl (gx 6) rfl (λg o=>?_) (λc H1 L B=>?_)
 ·have d:∀G I,(g G I).low (ak h.zh+3) (ak h.zs+1)=true:=by intro G I;rw[o];simp[q6.low,zB,AV.low,l,f]
  refine Spec.mono (zsO (Hy:=(dU (λ(c:(List GI))=>h) (λ(c:(List GI))=>[yr h 0 11 (c.map GI.row),.cells [zU h 0 0 11 (ak c)]]) (λ(c:(List GI))=>[ak c]) g)) (nb:=(ak h.zh+3)) (nt:=(ak h.zs+1)) (y:=stp (λ(s:List GI)(x:GI)=>zN (ak s+ak ([x]:List GI)<=lim) (aa (true,(s++([x]:List GI),none))))) (st:=λq=>(q.map (λx=>x.2),none)) (λ_=>by simp only[dU];rw[ziS rfl];rfl) (λ_=>by simp only[dU];rw[zf4 rfl];rfl) (λ_=>zeT D (nv _ _) (nv _ _) (by simp only[jM,l7,gI,k9,nr,lC,Nat.reduceAdd,l8,d]<;>simp[q6.low,zB,AV.low,l,f])) (jE _) (zpO o (xs:=λ(x:GI)=>[zq x]) (λ_=>rfl) (λ_=>rfl) rfl (λ_=>rfl) (λ_=>by simp only[zof,kj,kJ];try rfl) (λc t N L1 M1 H1 B a=>?_)) (λ_=>by simp only[dU];exact zz E) (λ_=>by simp only[dU];exact zz K) (λq x M=>by simp only[stp,zN,oa,nr,lC,lZ,m4,l9];rw[nK (by omega)])) (λ_ _ h=>by obtain⟨_,p,A,e⟩:=h;exact⟨p.map (λx=>x.2),⟨p,A,rfl⟩,e⟩);obtain rfl:H1=((h.ext ([yr h 0 11 (c.map GI.row),.cells [zU h 0 0 11 (ak c)]]++[g .ready none]) [ak c]).ext L1 M1).ext [] []:=B;refine yF ?_;refine zt rfl (zfF (rZ rfl rfl) (n:=0) rfl zuO rfl) ss ?_;refine zO (zfE (rZ rfl rfl) (cs':=(GI.row t)) rfl dB.choose_spec.1 gg gg (zc rfl) rfl rfl rfl rfl rfl) ?_;refine zjH rfl rfl (R.r ?_);refine zt rfl (zqi rfl rfl zn5 gg rfl (zA rfl) (zc rfl)) ss ?_;refine zO (zjQ (rZ rfl rfl) rfl dB.choose_spec.1 gg rfl (z7 (cs':=(GI.row t)) dB.choose_spec.2 rfl rfl) (zc rfl)) ?_;refine zO (bs (([t]:List GI).map GI.row)) ?_;refine zJ a (λz a=>zO (zqj (i:=0) (j:=0) (A':=[yr h 0 11 ((c++([t]:List GI)).map GI.row),.cells [zU h 0 0 11 (ak c)]]++[g .busy none]) (T':=[ak ((c++([t]:List GI)))]) rfl rfl rfl rfl rfl rfl zqh zqh gg gg rfl (zc rfl) zfD z rfl rfl rfl rfl rfl) ?_);refine zO (znC (A':=[yr h 0 11 ((c++([t]:List GI)).map GI.row),.cells [zU h 0 0 11 (ak ((c++([t]:List GI))))]]++[g .busy none]) (cs':=[zU h 0 0 11 (ak ((c++([t]:List GI))))]) rfl rfl zn5 gg gg (zc rfl) rfl rfl rfl rfl rfl rfl) ?_;cases a;exact zjG D rfl rfl rfl rfl rfl rfl rfl rfl rfl rfl rfl (by simp only[jM,l7,gI,k9,nr,lC,Nat.reduceAdd,l8,d]<;>simp[q6.low,zB,AV.low,l,f])
 ·obtain⟨p,A,rfl⟩:=L;obtain rfl:H1=h.ext [yr h 0 11 ((p.map (λx=>x.2)).map GI.row),.cells [zU h 0 0 11 (ak ((p.map (λx=>x.2))))],.dead] [ak ((p.map (λx=>x.2)))]:=B;apply R.r;refine fr rfl (sG (pm (j:=0) (i:=0) rfl (by simp)) ?_);exact⟨p,A,by simp only[oa];try rfl,by simp only[oa];try rfl⟩
theorem zs5{b g d:Nat}(c:ak h.zh=g)(e:ak h.zs=d)(n:h.g7 b=aa (.cells [.map mm]))(l:h.g7 mm=aa (.q7 (m.map (zZ (λx=>zn x) (λx=>zq x))) 0))(a:ak m<=lim):Sp 117 [.fn (.func 119) [] [.ptr b 0]] h (λo hh=>∃p:List (GA×GI),p.Perm m/\o=.fo g d 11 (ak (p.map (λx=>x.2)))/\hh=h.ext [.row d 11 ((p.map (λx=>x.2)).map GI.row)] [ak (p.map (λx=>x.2))]):=by
 subst c e;refine zy Tryz.func117 rfl kr (sL 5 rfl) (λf q=>R.r ?_);refine pz (α:=List (GA×GI)) (R:=λp=>p.Perm m) (vf:=λp=>zU h 0 0 11 (ak (p.map (λx=>x.2)))) (L:=λp=>[yr h 0 11 ((p.map (λx=>x.2)).map GI.row)]) (M:=λp=>[ak (p.map (λx=>x.2))]) rfl (sc rfl) (zs4 (by rw[xn];rfl) (by rw[rn];rfl) (zz n) (zz l) a) (λ_=>rfl) (λ_=>rfl) (λ_=>ss) (λp k=>R.r ?_);refine fr rfl (sG (pm (j:=0) (i:=0) rfl (by simp)) ?_);exact⟨p,k,by simp only[oa];try rfl,by simp only[oa];try rfl⟩
theorem zxE{g0:GP}{res:(List GI)}(l:h.g7 pg0=aa (.cells [.int .u64 g0.base.num,zb g0.base.f,zb g0.base.fb,.int .u64 g0.base.time,za g0.base.tree,.map mg0commits,zb g0.vv]))(b:h.g7 mg0commits=aa (.q7 (g0.g9.map (zZ (λx=>zn x) (λx=>zq x))) 0))(a:wB g0=aa res):Sp 21 [.ptr pg0 0] h (yb (yM res) h):=by
 unfold wB at a;refine zw Tryz.func21 rfl kr (sL 36 rfl) ?_;have c:=yj b rfl;have d:∀k,mg0commits<(ak h.zh)+k:=λk=>o4 c (nv _ _);have g:=yj l rfl;have n:∀k,pg0<(ak h.zh)+k:=λk=>o4 g (nv _ _);apply R.r;refine cB a (λ_=>zp3 (zz l) (zz b)) λV a=>?_;refine qr rfl (λH=>xk rfl zfa (zM gg H) l (zA rfl) (zc rfl)) ss ?_;refine zsa rfl (λH=>zsF (m:=g0.g9) (kv:=(λx=>zn x)) (vv:=(λx=>zq x)) rfl rfl rfl rfl Tryz.underlying115 (zM gg H) (zz b)) ss (R.r ?_);refine cF a (λN a=>?_) (λN a=>?_)
 ·exact Z
 ·refine zt rfl (xk rfl zfa (gx 18) l (zA rfl) (zc rfl)) (sx 19) ?_;refine e7 (rV (w:=.fn (.func 119) [] [.ptr (ak h.zh+0) 0]) (zvr (by first|rfl|(rw[xn];rfl)) (znM (zz b))) rfl) ?_;refine zd a (λv5 I a=>yP (X:=Unit) (v:=zU h 1 0 11 (ak v5)) (H':=λ_=>h.ext [.cells [.map mg0commits],yr h 0 11 (v5.map GI.row)] [ak v5]) rfl (ye rfl rfl rfl f9.o fZ.o) ?_ ss (λ_=>?_))
  ·replace a:=I;refine df Tryz.func61 12 ?_;refine zJ a (λC a=>pz (α:=List (GA×GI)) (R:=λp=>p.Perm g0.g9) (vf:=λe=>zU h 1 0 11 (ak (e.map (λx=>x.2)))) (L:=λe=>[yr h 0 11 ((e.map (λx=>x.2)).map GI.row)]) (M:=λe=>[ak (e.map (λx=>x.2))]) (B':=λe=>[.cells [.map mg0commits],yr h 0 11 ((e.map (λx=>x.2)).map GI.row)]) (T':=λe=>[ak (e.map (λx=>x.2))]) rfl (sc rfl) (zs5 (by first|rfl|(rw[xn];rfl)) (by first|rfl|(rw[rn];rfl)) (yJ rfl rfl) (zz b) C) (λ_=>rfl) (λ_=>rfl) (λ_=>ss) (λe F=>?_));replace a:=zdM a e F;apply R.r;refine zd a (λG t a=>e7 (pL zcH Tryz.isAgg70 Tryz.sizeOf70 (λ_=>rfl) (λ_=>rfl) (nR Tryz.func63 rfl kr) (λ_ _ _ h=>zyX h) t (i:=1) (B':=[.cells [.map mg0commits],yr h 0 11 (G.map GI.row)]) rfl rfl) ?_);cases a;refine fr rfl (zeI ?_);refine⟨by first|rfl|simp only[qK t],(),?_⟩;first|rfl|simp only[qK t]
  ·apply R.r;refine ln λO=>R.r ?_;refine zJ a (λU a=>qg (λ(B:Nat)(A:(List GI))=>zo 0 3 (zo 4 18 (zo 25 11 [(24,.int .i64 (B:Int))]))) (λA=>h.ext [.cells [.map mg0commits],yr h 0 11 (A.map GI.row)] [ak v5]) a (λB A P a=>?_));refine zbj gg a (λY W J S T a K=>?_) (λa=>?_)
   ·refine zJ a (λs a=>R.r ?_);refine zd a (λE u a=>zO (iR (y8 u s)) ?_);refine zO (vH (off:=0) (i:=1) (q:=ak h.zs+0) (z:=(B:Int).toNat) (row:=GI.row) (λ_=>rfl) rfl dB.choose_spec.1 (by decide) gg rfl s (wN u).2.2 (z7 (cs':=(GI.row E)) dB.choose_spec.2 rfl rfl) (zc rfl)) ?_;refine zd a (λv22 D a=>cp (zuB D) ?_);refine zd a (λQ y a=>zO (iR (y8 y s)) ?_);refine zO (qF (off:=0) (i:=1) (q:=ak h.zs+0) (z:=(B:Int).toNat) (row:=GI.row) (y':=v22) (us:=(GI.row v22)) (B':=[.cells [.map mg0commits],yr h 0 11 ((A.set (B:Int).toNat v22).map GI.row),.cells (GI.row E)]) (λ_=>rfl) rfl dB.choose_spec.1 gg gg (zc rfl) rfl rfl rfl rfl s (wN y).2.2 (by decide) rfl rfl) ?_;cases a;exact⟨(A.set (B:Int).toNat v22),J,K,wk.trans (wk.le (by exact(.drop (.drop (.drop (.eq (.d16 (.drop (.drop (.eq (.eq (.cons (g6.of_eq (oE (by omega) (by omega))) (.d4 (.d4 (.drop (.drop (.drop fc.nil))))))))))))))))) (yH (by simp[zB,AV.low,c,d,g,n]) rfl rfl (by simp[q6.low,zB,AV.low,c,d,g,n]))⟩
   ·refine zJ a (λs a=>R.r ?_);obtain rfl:=oi a;refine fr rfl (xX ((yc (j:=1) (m:=0) (B':=[.cells [.map mg0commits],.dead]) (T':=[ak (A.map GI.row)+1]) rfl (by exact(.cons (.fD _ _ (by rw[oa];exact kO (s))) (.refl _))) rfl rfl).wk) ?_);refine wm (g6.refl _) rfl ?_;exact⟨rfl,rfl⟩
theorem zv9{g0:GP}{res:GL}(d:h.g7 pg0=aa (.cells [.int .u64 g0.base.num,zb g0.base.f,zb g0.base.fb,.int .u64 g0.base.time,za g0.base.tree,.map mg0commits,zb g0.vv]))(b:h.g7 mg0commits=aa (.q7 (g0.g9.map (zZ (λx=>zn x) (λx=>zq x))) 0))(a:wZ g0=aa res):Sp 23 [.ptr pg0 0] h (yb (nV res) h):=by
 unfold wZ at a;refine zw Tryz.func23 rfl kr (sL 11 rfl) ?_;have c:=yj b rfl;have e:∀k,mg0commits<(ak h.zh)+k:=λk=>o4 c (nv _ _);have g:=yj d rfl;have i:∀k,pg0<(ak h.zh)+k:=λk=>o4 g (nv _ _);apply R.r;refine cB a (λ_=>zp3 (zz d) (zz b)) λl a=>cF a (λj a=>?_) (λj a=>?_)
 ·refine zO sb ?_;exact Z
 ·refine zO (xk rfl zzG.choose_spec.1 gg d (z7 (cs':=(GL.row g0.base)) zzG.choose_spec.2 rfl rfl) (zc rfl)) ?_;refine cB a (λ_=>zvz) λv3 a=>?_;exact Z
theorem zxB{g0:GP}(e:h.g7 pg0=aa (.cells [.int .u64 g0.base.num,zb g0.base.f,zb g0.base.fb,.int .u64 g0.base.time,za g0.base.tree,.map mg0commits,zb g0.vv]))(b:h.g7 mg0commits=aa (.q7 (g0.g9.map (zZ (λx=>zn x) (λx=>zq x))) 0))(a:rF g0=aa res):Sp 41 [.ptr pg0 0] h (yb (.bool res) h):=by
 unfold rF at a;refine zw Tryz.func41 rfl kr (sL 7 rfl) ?_;have c:=yj b rfl;have d:∀k,mg0commits<(ak h.zh)+k:=λk=>o4 c (nv _ _);have g:=yj e rfl;have i:∀k,pg0<(ak h.zh)+k:=λk=>o4 g (nv _ _);apply R.r;refine zO sb ?_;refine zd a (λq l a=>yP (X:=Unit) (v:=.int .i64 q) (H':=λ_=>h.ext [] []) rfl (ye rfl rfl rfl f9.o fZ.o) ?_ ss (λ_=>?_))
 ·replace a:=l;refine df Tryz.func30 87 ?_;refine cB a (λ_=>zp3 (zz e) (zz b)) λs a=>cF a (λn a=>?_) (λn a=>?_)
  ·exact ZO
  ·refine zd a (λt p a=>cp ((zvu p).le (.cons (g6.agg (.eq (.eq (.eq (.cons (g6.gW _ _ _) (.cons (g6.gW _ _ _) (.eq (.eq (.cons (g6.gW _ _ _) (.eq (.eq (.cons (g6.gW _ _ _) fc.nil))))))))))) rfl) fc.nil)) (R.r ?_));refine si gg a (λj a=>?_) (λj a=>?_)
   ·apply R.r;exact ZO
   ·cases a
 ·apply R.r;exact Z
theorem zy1{g0:GP}{res:(List GA)}(d:h.g7 pg0=aa (.cells [.int .u64 g0.base.num,zb g0.base.f,zb g0.base.fb,.int .u64 g0.base.time,za g0.base.tree,.map mg0commits,zb g0.vv]))(b:h.g7 mg0commits=aa (.q7 (g0.g9.map (zZ (λx=>zn x) (λx=>zq x))) 0))(a:sC g0=aa res):Sp 48 [.ptr pg0 0] h (yb (zb res) h):=by
 unfold sC at a;refine zw Tryz.func48 rfl kr (sL 10 rfl) ?_;have c:=yj b rfl;have e:∀k,mg0commits<(ak h.zh)+k:=λk=>o4 c (nv _ _);have g:=yj d rfl;have i:∀k,pg0<(ak h.zh)+k:=λk=>o4 g (nv _ _);apply R.r;refine cB a (λ_=>zp3 (zz d) (zz b)) λl a=>cF a (λj a=>?_) (λj a=>?_)
 ·exact Z
 ·refine zt rfl (xk rfl bF (gx 7) d (zA rfl) (zc rfl)) (sx 8) ?_;refine cB a (λ_=>zri) λv3 a=>?_;exact Z
theorem zy0{d:GI}{c0:(List GA)}{e:Nat}(b:h.g7 e=aa (.cells [zb c0]))(a:tG d c0=aa res):Sp 49 [zq d,.ptr e 0] h (yb (.bool res) h):=by
 unfold tG at a;refine zw Tryz.func49 rfl kr (sL 15 rfl) ?_;have c:=yj b rfl;have f:∀k,e<(ak h.zh)+k:=λk=>o4 c (nv _ _);apply R.r;refine zO (xk rfl bF gg b (zA rfl) (zc rfl)) ?_;refine cB a (λ_=>zp4) λi a=>?_;refine qr rfl (λj=>xk rfl bF gg b (zA rfl) (zc rfl)) ss ?_;refine cG a (λ_=>zrb) λg a=>?_;exact Z
theorem zwF{res:Int}(k:∀o v (L:List q6) (M:List Nat),f1 o=aa v->Sp ff1 (af1++[zq o]++kf1) (h.ext L M) (yb (.bool v) (h.ext L M)))(a:ve ss0 f1=aa res):Sp 112 [yM ss0,.fn (.func ff1) af1 kf1] h (yb (.int .i64 res) h):=by
 unfold ve at a;refine zy Tryz.func112 rfl kr (sL 19 rfl) (λb w=>?_);simp only[zB,AV.low,tx,lq,kA]at b;have g:∀n m,ak h.zh<=n->ak h.zs<=m->zB n m af1=true:=λn m e c=>zT e c _ (by simp[b]);have d:∀n m,ak h.zh<=n->ak h.zs<=m->zB n m kf1=true:=λn m e c=>zT e c _ (by simp[b]);apply R.r;refine xP λt=>qg (λ(q:Nat)(p:Unit)=>zo 2 5 (zo 9 10 [(8,.int .i64 (q:Int))])) (λp=>h.ext [] []) a (λq p s a=>cL a (λz y u f a l=>?_) (λa=>?_))
 ·refine ix (zu f) (R.r ?_);refine zd a (λx j a=>yf rfl (cg rfl) (k _ _ _ _ j) ss (R.r ?_));refine cF a (λi a=>?_) (λi a=>?_)
  ·cases a;replace a:=l;apply R.r;exact Z
  ·exact ZL
 ·exact Z
theorem zyZ(e:∀c v (L:List q6) (M:List Nat),f1 c=aa v->Sp ff1 (af1++[zq c]++kf1) (h.ext L M) (yb (.bool v) (h.ext L M)))(a:xA ss0 f1=aa res):Sp 50 [yM ss0,.fn (.func ff1) af1 kf1] h (yb (.bool res) h):=by
 unfold xA at a;refine zy Tryz.func50 rfl kr (sL 9 rfl) (λb k=>?_);simp only[zB,AV.low,tx,lq,kA]at b;have d:∀n m,ak h.zh<=n->ak h.zs<=m->zB n m af1=true:=λn m i f=>zT i f _ (by simp[b]);have g:∀n m,ak h.zh<=n->ak h.zs<=m->zB n m kf1=true:=λn m i f=>zT i f _ (by simp[b]);apply R.r;refine cB a (λ_=>zwF (λc v L M j=>by rw[x5];exact e c v _ _ j)) λl a=>?_;exact Z
theorem zxG{g0:GP}{res:Int}(d:h.g7 pg0=aa (.cells [.int .u64 g0.base.num,zb g0.base.f,zb g0.base.fb,.int .u64 g0.base.time,za g0.base.tree,.map mg0commits,zb g0.vv]))(b:h.g7 mg0commits=aa (.q7 (g0.g9.map (zZ (λx=>zn x) (λx=>zq x))) 0))(a:vX g0 vv1=aa res):Sp 13 [.ptr pg0 0,zb vv1] h (yb (.int .i64 res) h):=by
 unfold vX at a;refine zw Tryz.func13 rfl kr (sL 33 rfl) ?_;have c:=yj b rfl;have g:∀k,mg0commits<(ak h.zh)+k:=λk=>o4 c (nv _ _);have i:=yj d rfl;have o:∀k,pg0<(ak h.zh)+k:=λk=>o4 i (nv _ _);apply R.r;refine cB a (λ_=>zxB (zz d) (zz b)) λD a=>cF a (λt a=>?_) (λt a=>?_)
 ·exact Z
 ·refine dr [1,3] ?_;refine cM a (λ_ e _=>zvB e) λv3 a=>cM a (λ_ e _=>zvC e) λv4 a=>cF a (λq a=>?_) (λq a=>?_)
  ·exact Z
  ·refine dr [1,4] ?_;refine zd a (λC w a=>yV rfl rfl (λ_=>sc rfl) (by rintro _ ⟨B2,T2,rfl,p⟩;exact zv9 (zz d) (zz b) w) ss ?_);refine wl (zcL rfl zqc bF gg rfl (zc rfl)) ?_;refine cM a (λ_ e _=>zrb e) λE a=>cF a (λu a=>?_) (λu a=>?_)
   ·exact Z
   ·refine dr [2,3] ?_;refine zd a (λv9 s a=>yV rfl rfl (λ_=>sc rfl) (by rintro _ ⟨B2,T2,rfl,p⟩;exact zy1 (zz d) (zz b) s) ss ?_);refine cM a (λ_ e _=>zrb e) λz a=>cF a (λn a=>?_) (λn a=>?_)
    ·exact Z
    ·refine zO mF ?_;refine cB a (λ_=>zxE (zz d) (zz b)) λA a=>cB a (λ_=>zyZ (λ_ v L M B=>zy0 (vI (j:=0) rfl) B)) λy a=>cF a (λl a=>?_) (λl a=>?_)
     ·exact Z
     ·exact Z
theorem ok7{g0:GP}{res:((List GC)×Int)}(i:h.g7 pg0=aa (.cells [.int .u64 g0.base.num,zb g0.base.f,zb g0.base.fb,.int .u64 g0.base.time,za g0.base.tree,.map mg0commits,zb g0.vv]))(d:h.g7 mg0commits=aa (.q7 (g0.g9.map (zZ (λx=>zn x) (λx=>zq x))) 0))(a:x6 g0 vv1=aa res):Sp 7 [.ptr pg0 0,zb vv1] h (yb (.fl [za res.1,.int .i64 res.2]) h):=by
 unfold x6 at a;refine zw Tryz.func7 rfl kr (sL 40 rfl) ?_;have b:=yj d rfl;have c:∀k,mg0commits<(ak h.zh)+k:=λk=>o4 b (nv _ _);have g:=yj i rfl;have e:∀k,pg0<(ak h.zh)+k:=λk=>o4 g (nv _ _);apply R.r;refine cB a (λ_=>zxG (zz i) (zz d)) λF a=>cF a (λy a=>?_) (λy a=>?_)
 ·exact Z
 ·refine zd a (λv3 w a=>cp (zxE (zz i) (zz d) w) ?_);refine xP λA=>qg (h0:=wk.trans (tZ rfl rfl (sx 7) rfl) (wk.le (by exact(.eq (.eq (.d4 (.drop (.cons (g6.of_eq rfl) (.d4 (.d4 (.drop (.eq (.eq (.cons (g6.of_eq rfl) (.d16 (.d4 fc.nil)))))))))))))))) (λ(z:Nat)(j:(List GJ))=>zo 2 5 (zo 8 9 (zo 20 20 [(7,cP h 0 9 (j.map GJ.row)),(19,.int .i64 (z:Int))]))) (λj=>h.ext [] [ak j]) a (λz j B a=>cL a (λH G t v a u=>?_) (λa=>?_))
  ·refine ix (zu v) (R.r ?_);refine cB a (λ_=>zp4) λC a=>cF a (λp a=>?_) (λp a=>?_)
   ·refine zd a (λl q a=>cp (zxC q) ?_);refine zO (bs (([l]:List GJ).map GJ.row)) ?_;refine zJ a (λo a=>zO (eT o) ?_);cases a;exact⟨(j++([l]:List GJ)),t,u,wk.trans (wk.le (by exact(.eq (.eq (.d4 (.drop (.cons (g6.of_eq rfl) (.d4 (.d4 (.drop (.eq (.eq (.cons (g6.of_eq (oE (by omega) (by omega))) (.d16 (.d4 fc.nil))))))))))))))) (yH (by simp[zB,AV.low,b,c,g,e]) rfl rfl (by simp[q6.low,zB,AV.low,b,c,g,e]))⟩
   ·cases a;exact⟨j,t,u,wk.trans (wk.le (by exact(.eq (.eq (.d4 (.drop (.cons (g6.of_eq rfl) (.d4 (.d4 (.drop (.eq (.eq (.cons (g6.of_eq (oE (by omega) (by omega))) (.d16 (.d4 fc.nil))))))))))))))) (yH (by simp[zB,AV.low,b,c,g,e]) rfl rfl (by simp[q6.low,zB,AV.low,b,c,g,e]))⟩
  ·refine zd a (λD s a=>cp (zv9 (zz i) (zz d) s) ?_);refine zO (zcL rfl zt5 zsB gg rfl (zc rfl)) ?_;refine zd a (λE n a=>cp ((zy3 n).le (.eq (.cons (g6.gW _ _ _) fc.nil))) (R.r ?_));exact Z
theorem ok6{res:Bool}{h:AH}(a:wu  = aa res):Sp 6 [] h (yb (.bool res) h):=by
 unfold wu at a;refine xb Tryz.func6 83 ?_;refine zO sb ?_;refine zd a (λg hv1 a=>yP (X:=Unit) (v:=.fl [.ptr (ak h.zh+2) 0,.int .i64 (0:Int)]) (H':=λ_=>h.ext [.dead,.q7 (g.1.map (zZ (λx=>zn x) (λx=>zq x))) 0,.cells [.int .u64 g.2.1,zb g.2.2.1,zb g.2.2.2.1,.int .u64 g.2.2.2.2.1,za g.2.2.2.2.2.1,.map (ak h.zh+1),zb g.2.2.2.2.2.2]] []) rfl (ye rfl rfl rfl f9.o fZ.o) ?_ ss (λ_=>?_))
 ·replace a:=hv1;refine df Tryz.func29 15 ?_;refine zd a (λv5 hv5 a=>cp ((zxz hv5).le (.cons (g6.agg (.eq (.cons (g6.gW _ _ _) (.cons (g6.gW _ _ _) (.eq (.cons (g6.gW _ _ _) fc.nil))))) rfl) fc.nil)) (R.r ?_));refine si gg a (λhc6 a=>?_) (λhc6 a=>?_)
  ·cases a
  ·apply R.r;refine zd a (λv7 hv7 a=>cp ((zvz hv7).le (.cons (g6.agg (.eq (.cons (g6.gW _ _ _) (.cons (g6.gW _ _ _) (.eq (.cons (g6.gW _ _ _) fc.nil))))) rfl) fc.nil)) (R.r ?_));refine zO (tS (n:=1) rfl rfl) ?_;refine zO sb ?_;obtain rfl:=oi a;refine fr rfl (wv ((qy (by exact(.dead (.g8 (.g8 .nil))))).wk) ?_);exact⟨rfl,(),rfl⟩
 ·apply R.r;refine zO (wp rfl gg rfl (zcx zuu rfl)) ?_;refine cF a (λhc8 a=>?_) (λhc8 a=>?_)
  ·exact Z
  ·refine zd a (λv9 hv9 a=>yf rfl (ye rfl rfl gg f9.o fZ.o) (aO hv9) ss ?_);refine zO (bs (([v9]:List GA).map GA.row)) ?_;refine zd a (λc W a=>cp ((zvF W).le (.eq (.eq (.eq (.cons (g6.gW _ _ _) (.cons (g6.gW _ _ _) fc.nil)))))) (R.r ?_));refine zd a (λv11 Y a=>yf rfl (ye rfl rfl gg f9.o fZ.o) (aO Y) ss (R.r ?_));refine zd a (λv12 hv12 a=>yf rfl (ye rfl rfl gg f9.o fZ.o) (aO hv12) ss ?_);refine zO (bs (([v11,v12]:List GA).map GA.row)) ?_;refine zd a (λv13 hv13 a=>yf rfl (ye rfl rfl gg f9.o fZ.o) (aO hv13) ss ?_);refine zO (bs (([v13]:List GA).map GA.row)) ?_;refine zd a (λd hv14 a=>cp ((zvF hv14).le (.eq (.eq (.eq (.cons (g6.gW _ _ _) (.cons (g6.gW _ _ _) fc.nil)))))) (R.r ?_));refine zd a (λv15 Q a=>yf rfl (ye rfl rfl gg f9.o fZ.o) (aO Q) ss (R.r ?_));refine zd a (λv16 P a=>yf rfl (ye rfl rfl gg f9.o fZ.o) (aO P) ss ?_);refine zO (bs (([v15,v16]:List GA).map GA.row)) ?_;refine zd a (λv17 S a=>yf rfl (ye rfl rfl gg f9.o fZ.o) (aO S) ss ?_);refine zO (bs (([v17]:List GA).map GA.row)) ?_;refine zd a (λf V a=>cp ((zvF V).le (.eq (.eq (.eq (.cons (g6.gW _ _ _) (.cons (g6.gW _ _ _) fc.nil)))))) ?_);refine zO (zbe (cs':=[.int .u8 c.z6.zi.fk,.int .u32 c.z6.zi.inc,.int .u64 c.z6.seq,zb c.xo,zb c.vV,.int .u64 c.time,.int .u8 c.op.kind,yD c.op.path,.int .i64 c.op.n,.str c.op.text,zb c.op.gZ,.int .u8 d.z6.zi.fk,.int .u32 d.z6.zi.inc,.int .u64 d.z6.seq,zb d.xo,zb d.vV,.int .u64 d.time,.int .u8 d.op.kind,yD d.op.path,.int .i64 d.op.n,.str d.op.text,zb d.op.gZ,.int .u8 f.z6.zi.fk,.int .u32 f.z6.zi.inc,.int .u64 f.z6.seq,zb f.xo,zb f.vV,.int .u64 f.time,.int .u8 f.op.kind,yD f.op.path,.int .i64 f.op.n,.str f.op.text,zb f.op.gZ]) rfl zzL.u zxm dB.choose_spec.1 cQ.o cO.o rfl rfl) ?_;refine zJ a (λhR1 a=>qg (λ(n1:Nat)(B:List (GA×GI)×(List GA))=>zo 4 39 (zo 45 38 [(0,.any),(2,.any),(44,.int .i64 (n1:Int))])) (λB=>h.ext [.dead,.q7 (B.1.map (zZ (λx=>zn x) (λx=>zq x))) 0,.cells [.int .u64 g.2.1,zb g.2.2.1,zb g.2.2.2.1,.int .u64 g.2.2.2.2.1,za g.2.2.2.2.2.1,.map (ak h.zh+1),zb B.2]] []) a (λn1 B hi1 a=>?_));refine zbj gg a (λx1 o1 hl1 hm1 hx1 a hK1=>?_) (λa=>?_)
   ·apply R.r;refine zd a (λb q a=>zO (zoi (row:=λb=>(GI.row b)) q rfl zzL dB.choose_spec.1 dB.choose_spec.2 gg gg rfl (λ_ _=>rfl) rfl) ?_);refine zd a (λi y a=>yP (X:=Unit) (v:=.int .i64 i.1) (H':=λ_=>h.ext [.dead,.q7 (i.2.1.map (zZ (λx=>zn x) (λx=>zq x))) 0,.cells [.int .u64 g.2.1,zb g.2.2.1,zb g.2.2.2.1,.int .u64 g.2.2.2.2.1,za g.2.2.2.2.2.1,.map (ak h.zh+1),zb i.2.2],.cells (GI.row b)] []) rfl (ye rfl rfl rfl f9.o fZ.o) ?_ ss (λ_=>?_))
    ·replace a:=y;refine df Tryz.func30 87 ?_;refine cB a (λ_=>zp3 (yJ rfl rfl) (yJ rfl rfl)) λv162 a=>cF a (λG a=>?_) (λG a=>?_)
     ·exact ZO
     ·refine cB a (λ_=>zvu) λv164 a=>cF a (λA a=>?_) (λA a=>?_)
      ·exact ZO
      ·refine cB a (λ_=>zvt (yJ rfl rfl) (yJ rfl rfl)) λv166 a=>cF a (λD a=>?_) (λD a=>?_)
       ·exact ZO
       ·refine cB a (λ_=>zxy (yJ rfl rfl) (yJ rfl rfl)) λv168 a=>zt rfl mF ss ?_;refine zt rfl (xJ rfl gg (zc rfl)) ss ?_;refine yB (wt (wr (mo ?_)));refine zee (λ(s2:Bool)=>zo 0 2 (zo 7 23 (zo 31 56 [(4,.any),(30,.bool s2)]))) (λs2=>h.ext [.dead,.q7 (B.1.map (zZ (λx=>zn x) (λx=>zq x))) 0,.cells [.int .u64 g.2.1,zb g.2.2.1,zb g.2.2.2.1,.int .u64 g.2.2.2.2.1,za g.2.2.2.2.2.1,.map (ak h.zh+1),zb B.2],.cells (GI.row b),.cells [.ptr (ak h.zh+2) 0],.cells (GI.row b),.cells [.int .u8 b.z6.zi.fk,.int .u32 b.z6.zi.inc,.int .u64 (IntKind.wrap .u64 (b.z6.seq-(1:Int)))]] []) a (λ_=>UE) (λo2 a hK2=>?_) (λs2 a=>?_)
        ·apply R.r;refine cB a (λ_=>zuy (λ_ v L M hv=>zuz (vI (j:=2) rfl) (vI (j:=1) rfl) (vI (j:=4) rfl) hv)) λv191 a=>cF a (λl a=>?_) (λl a=>?_)
         ·refine sj ?_;exact ZL
         ·refine qQ a (λv193 w a=>?_);refine vr rfl cg (λk=>zuz (yJ rfl rfl) (yJ rfl rfl) (yJ rfl rfl) (w k)) ss (R.r ?_);refine cF a (λJ a=>?_) (λJ a=>?_)
          ·refine sj ?_;exact ZL
          ·refine cB a (λ_=>zrb) λv195 a=>sj ?_;exact ZL
        ·refine cF a (λs a=>?_) (λs a=>?_)
         ·exact ZO
         ·refine cB a (λ_=>zrb) λv197 a=>cG a (λ_=>zxx (yJ rfl rfl) (yJ rfl rfl)) λv198 a=>cF a (λF a=>?_) (λF a=>?_)
          ·exact ZO
          ·refine zcj (m:=B.1) (j:=1) (kv:=(λx=>zn x)) (vv:=(λx=>zq x)) rfl rfl rfl rfl rfl Tryz.underlying115 gg rfl ss (R.r ?_);refine cF a (λI a=>?_) (λI a=>?_)
           ·exact ZO
           ·refine dr [7] ?_;refine zd a (λv202 z a=>yV rfl rfl (λ_=>sc rfl) (by rintro _ ⟨B2,T2,rfl,hk2⟩;exact zuB z) ss ?_);refine qs (mP Tryz.underlying115 bP) ?_;refine dr [7] ?_;refine cM a (λ_ e _=>zs7 e) λv203 a=>qs fN.out ?_;exact ZO
    ·apply R.r;refine cF a (λH a=>?_) (λH a=>?_)
     ·cases a;replace a:=hK1;apply R.r;exact Z
     ·exact ZL
   ·apply R.r;refine zd a (λO K a=>yf rfl (ye rfl rfl gg f9.o fZ.o) (aO K) ss (R.r ?_));refine zd a (λT t a=>yf rfl (ye rfl rfl gg f9.o fZ.o) (aO t) ss ?_);refine zO (bs (([O,T]:List GA).map GA.row)) ?_;refine zd a (λv207 N a=>cp ((ok7 (yJ rfl rfl) (yJ rfl rfl) N).le (.eq (.cons (g6.gW _ _ _) fc.nil))) (R.r ?_));refine zO (bs (([([97]:zp)]:List zp).map yl)) ?_;refine zd a (λv208 E a=>cp ((zuD E).le (.eq (.cons (g6.gW _ _ _) (.eq fc.nil)))) (R.r ?_));refine qQ a (λU C a=>?_);refine vr rfl (λk=>ye rfl rfl (zM gg k) f9.o fZ.o) (λk=>aO (C k)) ss ?_;refine qr rfl (λk=>xh (es:=([U]:List GA).map GA.row) rfl zt9 zsg rfl rfl (zeh (zM gg k) zaP) cO.o rfl rfl rfl) ss ?_;refine qQ a (λv210 p a=>?_);refine vr rfl sc (λk=>(zxG (yJ rfl rfl) (yJ rfl rfl) (p k)).le (.eq (.cons (g6.gW _ _ _) fc.nil))) ss (R.r ?_);exact Z
theorem zy2{g0:GP}{res:(GI×Bool)}(e:h.g7 pg0=aa (.cells [.int .u64 g0.base.num,zb g0.base.f,zb g0.base.fb,.int .u64 g0.base.time,za g0.base.tree,.map mg0commits,zb g0.vv]))(b:h.g7 mg0commits=aa (.q7 (g0.g9.map (zZ (λx=>zn x) (λx=>zq x))) 0))(a:rD g0 d1=aa res):Sp 42 [.ptr pg0 0,zn d1] h (yb (.fl [zq res.1,.bool res.2]) h):=by
 unfold rD at a;refine zw Tryz.func42 rfl kr (sL 23 rfl) ?_;have c:=yj b rfl;have g:∀k,mg0commits<(ak h.zh)+k:=λk=>o4 c (nv _ _);have j:=yj e rfl;have l:∀k,pg0<(ak h.zh)+k:=λk=>o4 j (nv _ _);apply R.r;refine cB a (λ_=>zp3 (zz e) (zz b)) λo a=>cF a (λn a=>?_) (λn a=>?_)
 ·refine zO sb ?_;exact Z
 ·refine dk [3,4,5] [(4,[(0,.cells (GA.row d1))])] ?_;refine yg rfl rfl (by rintro _ ⟨B2,T2,rfl,i⟩;exact xk rfl zfa (gx 14) e (zA rfl) (zc rfl)) (sx 15) ?_;refine yg rfl rfl (by rintro _ ⟨B2,T2,rfl,i⟩;exact yT rfl fO.choose_spec.1 gg (wH i) (z7 (cs':=(GA.row d1)) fO.choose_spec.2 rfl rfl) (zc rfl)) ss ?_;refine yg rfl rfl (by rintro _ ⟨B2,T2,rfl,i⟩;exact zbH (m:=g0.g9) (k:=d1) (d:=(GI.mk (GA.mk (GH.mk (0:Int) (0:Int)) (0:Int)) ([]:List GA) ([]:List GA) (0:Int) (GN.mk (0:Int) ([]:List zp) (0:Int) ([]:zp) ([]:List GA)))) (kv:=(λx=>zn x)) (vv:=(λx=>zq x)) rfl Tryz.underlying115 bP zuL gg (zz b) rfl) ss (R.r ?_);refine qs fN.out ?_;refine qs fN.out ?_;refine cB a (λ_=>zuB) λv3 a=>?_;exact Z
theorem zxH{g0:GP}{res:((List GA)×Int)}(d:h.g7 pg0=aa (.cells [.int .u64 g0.base.num,zb g0.base.f,zb g0.base.fb,.int .u64 g0.base.time,za g0.base.tree,.map mg0commits,zb g0.vv]))(b:h.g7 mg0commits=aa (.q7 (g0.g9.map (zZ (λx=>zn x) (λx=>zq x))) 0))(a:qh g0 d1=aa res):Sp 11 [.ptr pg0 0,zn d1] h (yb (.fl [zb res.1,.int .i64 res.2]) h):=by
 unfold qh at a;refine zw Tryz.func11 rfl kr (sL 24 rfl) ?_;have c:=yj b rfl;have g:∀k,mg0commits<(ak h.zh)+k:=λk=>o4 c (nv _ _);have i:=yj d rfl;have j:∀k,pg0<(ak h.zh)+k:=λk=>o4 i (nv _ _);apply R.r;refine cB a (λ_=>zxB (zz d) (zz b)) λs a=>cF a (λn a=>?_) (λn a=>?_)
 ·exact Z
 ·refine cB a (λ_=>zy2 (zz d) (zz b)) λv3 a=>cF a (λl a=>?_) (λl a=>?_)
  ·exact Z
  ·refine dr [1,5] ?_;refine zd a (λv5 o a=>yV rfl rfl (λ_=>sc rfl) (by rintro _ ⟨B2,T2,rfl,p⟩;exact zv9 (zz d) (zz b) o) ss ?_);refine wl (zcL rfl zqc bF gg rfl (zc rfl)) ?_;refine cM a (λ_ e _=>zs7 e) λq a=>?_;exact Z
theorem zyY{a0:GE}{f:GE}(a:nw a0 f=aa res):Sp 55 [zD a0,zD f] h (yb (.bool res) h):=by
 unfold nw at a;refine xb Tryz.func55 94 ?_;refine qr rfl (λn=>wp rfl (zM gg n) (zM gg n) (ow oZ rfl)) ss (R.r ?_);refine dE λv=>R.r ?_;refine dE λA=>R.r ?_;refine dE λz=>R.r ?_;refine dE λt=>R.r ?_;refine cF a (λi a=>?_) (λi a=>?_)
 ·exact Z
 ·refine qg (λ(s:Nat)(p:Unit)=>zo 0 2 (zo 6 88 [(4,.any),(5,.int .i64 (s:Int))])) (λp=>h.ext [.cells (GE.row a0),.cells (GE.row f)] []) a (λs p u a=>xP λq=>cL a (λG E B k a l=>?_) (λa=>?_))
  ·refine dr [] ?_;refine mS (zu k) (R.r ?_);refine zd a (λw b a=>mS b (R.r ?_));refine wl (wp rfl gg gg (ow zsJ rfl)) ?_;refine cF a (λd a=>?_) (λd a=>?_)
   ·cases a;replace a:=l;apply R.r;exact Z
   ·exact ZL
  ·refine qg (λ(n2:Nat)(s2:Unit)=>zo 0 2 (zo 4 2 (zo 7 87 [(6,.int .i64 (n2:Int))]))) (λs2=>h.ext [.cells (GE.row a0),.cells (GE.row f)] []) a (λn2 s2 y a=>xP λo=>cL a (λF D x g a j=>?_) (λa=>?_))
   ·refine dr [] ?_;refine mS (zu g) (R.r ?_);refine zd a (λC e a=>mS e (R.r ?_));refine wl (wp rfl gg gg (ow oZ rfl)) ?_;refine cF a (λc a=>?_) (λc a=>?_)
    ·cases a;replace a:=j;apply R.r;exact Z
    ·exact ZL
   ·exact Z
theorem zwm(n:Nat):∀{a0:(List GC)} {t:(List GC)} {res:Bool} {h:AH} , tj n a0 t=aa res->Sp 15 [za a0,za t] h (yb (.bool res) h):=by
 induction n with
 |zero=>intro a0 t res h  a;simp[tj]at a
 |succ n ih =>
  intro a0 t res h  a;unfold tj at a;refine xb Tryz.func15 86 ?_;refine xP λC=>xP λH=>cF a (λw a=>?_) (λw a=>?_)
  ·exact Z
  ·refine qg (λ(A:Nat)(z:Unit)=>zo 2 3 (zo 6 80 [(5,.int .i64 (A:Int))])) (λz=>h.ext [] []) a (λA z B a=>xP λx=>cL a (λP N J c a s=>?_) (λa=>?_))
   ·refine dr [] ?_;refine wl (yu rfl wd gg gg oF (zu c) (GC.q8 _)) ?_;refine zd a (λK p a=>wl (yu rfl wd gg gg oF p (GC.q8 _)) ?_);refine zJ a (λk a=>?_);refine vh rfl rfl (λb=>qn default rfl wd (zM gg b) (zM gg b) oF (k b) (GC.q8 _)) ss (R.r ?_);refine uK rfl rfl (λb=>wj rfl rfl rfl rfl al (zM gg b) vO) ss (R.r ?_);refine zJ a (λq a=>?_);refine vh rfl rfl (λb=>qn default rfl wd (zM gg b) (zM gg b) oF (q b) (GC.q8 _)) ss (R.r ?_);refine uK rfl rfl (λb=>wj rfl rfl rfl rfl al (zM gg b) vO) ss (R.r ?_);refine zJ a (λo a=>?_);refine vh rfl rfl (λb=>qn default rfl wd (zM gg b) (zM gg b) oF (o b) (GC.q8 _)) ss (R.r ?_);refine zJ a (λl a=>?_);refine vh rfl rfl (λb=>qn default rfl wd (zM gg b) (zM gg b) oF (l b) (GC.q8 _)) ss (R.r ?_);refine qQ a (λF d a=>?_);refine rp rfl rfl sc (λb=>ih (d b)) ss (R.r ?_);refine cF a (λj a=>?_) (λj a=>?_)
    ·cases a;replace a:=s;apply R.r;exact Z
    ·refine qg (λ(n2:Nat)(s2:Unit)=>zo 2 3 (zo 7 79 [(6,.int .i64 (n2:Int))])) (λs2=>h.ext [] []) a (λn2 s2 E a=>zO (yu rfl wd gg gg oF (zu c) (GC.q8 _)) ?_);refine xP λy=>cL a (λO M D u a v=>?_) (λa=>?_)
     ·refine dr [16] ?_;refine wl (yu rfl wd gg gg oF (zu c) (GC.q8 _)) ?_;refine mS (zu u) (R.r ?_);refine zd a (λL i a=>wl (yu rfl wd gg gg oF i (GC.q8 _)) ?_);refine zd a (λI f a=>mS f (R.r ?_));refine cM a (λ_ e _=>zyY e) λG a=>cF a (λg a=>?_) (λg a=>?_)
      ·cases a;replace a:=v;apply R.r;cases a;replace a:=s;apply R.r;exact Z
      ·exact ZL
     ·exact ZL
   ·exact Z
theorem zy7{a0:(List GC)}{b:(List GC)}(a:sY a0 b=aa res):Sp 15 [za a0,za b] h (yb (.bool res) h):=by
 obtain⟨n,c⟩:=rE a;exact zwm n c
theorem zvx(n:Nat):∀{t0:(List GC)} {b:(List zp)} {res:(List GO)} {h:AH} , uf n t0 b=aa res->Sp 71 [za t0,yD b] h (zsf h 10 (ak res) (res.map GO.row)):=by
 induction n with
 |zero=>intro t0 b res h  a;simp[uf]at a
 |succ n ih =>
  intro t0 b res h  a;unfold uf at a;refine xb Tryz.func71 58 ?_;refine qg (h0:=wk.trans (tZ rfl rfl (sx 5) rfl) (wk.le (by exact(.eq (.eq (.drop (.drop (.drop (.cons (g6.of_eq rfl) (.cons (g6.of_eq rfl) (.d16 (.d16 (.d16 (.drop (.drop (.drop fc.nil)))))))))))))))) (λ(w:Nat)(j:(List GO))=>zo 2 3 (zo 7 51 [(5,cP h 0 10 (j.map GO.row)),(6,.int .i64 (w:Int))])) (λj=>h.ext [] [ak j]) a (λw j x a=>xP λt=>cL a (λk A q c a s=>?_) (λa=>?_))
  ·refine zkn kr ?_;refine wl (bs (([]:List zp).map yl)) ?_;refine zJ a (λe a=>dL (eN e) ?_);refine wl (yu rfl wd gg gg oF (zu c) (GC.q8 _)) ?_;refine wl (bs (([k.name]:List zp).map yl)) ?_;refine zJ a (λi a=>dL (eT i) ?_);refine qg (λ(n2:Nat)(s2:(List GO))=>zo 2 3 (zo 9 49 [(5,cP h 0 10 (s2.map GO.row)),(8,.int .i64 (n2:Int))])) (λs2=>h.ext [] [ak s2,ak (((([]:List zp)++b)++([k.name]:List zp)))]) a (λn2 s2 y a=>zO (yu rfl wd gg gg oF (zu c) (GC.q8 _)) ?_);refine xP λv=>cL a (λu z o l a p=>?_) (λa=>?_)
   ·refine zO (yu rfl wd gg gg oF (zu c) (GC.q8 _)) ?_;refine ix (zu l) (R.r ?_);refine zO sb ?_;refine zO (bs (([(GO.mk ((([]:List zp)++b)++([k.name]:List zp)) u)]:List GO).map GO.row)) ?_;refine zJ a (λf a=>zO (eT f) ?_);cases a;exact⟨(s2++([(GO.mk ((([]:List zp)++b)++([k.name]:List zp)) u)]:List GO)),o,p,wk.le (by exact(.eq (.eq (.drop (.drop (.drop (.cons (g6.of_eq rfl) (.eq (.eq (.cons (g6.of_eq (oE (by omega) (by omega))) (.d16 (.d16 (.d16 (.drop fc.nil))))))))))))))⟩
   ·refine zO (yu rfl wd gg gg oF (zu c) (GC.q8 _)) ?_;refine zd a (λv44 d a=>e7 (oX ((ih d).le (.eq (.cons (g6.gW _ _ _) fc.nil)))) ?_);refine zJ a (λg a=>zO (eT g) ?_);cases a;exact⟨(s2++v44),q,s,wk.trans (wk.le (by exact(.eq (.eq (.drop (.drop (.drop (.cons (g6.of_eq rfl) (.cons (g6.of_eq (oE (by omega) (by omega))) (.d16 (.d16 (.d16 (.drop (.drop (.drop fc.nil))))))))))))))) (yH (by simp[zB,AV.low]) rfl rfl (by simp[q6.low,zB,AV.low]))⟩
  ·exact Z
theorem zvy{t0:(List GC)}{b:(List zp)}{res:(List GO)}(a:ns t0 b=aa res):Sp 71 [za t0,yD b] h (zsf h 10 (ak res) (res.map GO.row)):=by
 obtain⟨n,c⟩:=rE a;exact zvx n c
theorem ztB{l0:(List GA)}{res:(List GA)}(a:qL l0 d1=aa res):Sp 128 [zb l0,zn d1] h (yb (zb res) h):=by
 unfold qL at a;refine xb Tryz.func128 40 ?_;refine cB a (λ_=>zrf) λq a=>cF a (λl a=>?_) (λl a=>?_)
 ·exact Z
 ·refine xl (λ(e:(List GA)×Int)=>zo 1 2 (zo 7 33 [(4,.any),(5,cP h 0 3 (e.1.map GA.row)),(6,.int .i64 e.2)])) (λe=>h.ext [.cells (GA.row d1)] [ak (e.1)]) a (λ_=>UE) (wk.trans (tZ rfl rfl (sx 5) rfl) (wk.le (by exact(.eq (.drop (.drop (.eq (.drop (.cons (g6.of_eq rfl) (.cons (g6.of_eq rfl) (.d16 (.d16 (.drop fc.nil))))))))))))) ?_;intro t e s a n;apply R.r;refine dr [] ?_;refine qG rfl rfl (wj rfl rfl rfl rfl o7 gg vO) ss (R.r ?_);refine zJ a (λi a=>qd i (R.r ?_));refine cH a (λ_=>zp1) λo a=>cF a (λd a=>?_) (λd a=>?_)
  ·refine zd a (λk g a=>ix g (R.r ?_));refine zO (bs (([k]:List GA).map GA.row)) ?_;refine zJ a (λj a=>zO (eT j) ?_);exact ZL
  ·cases a;replace a:=n;apply R.r;refine dr [] ?_;refine wl (bs (([d1]:List GA).map GA.row)) ?_;refine zJ a (λb a=>dL (eT b) ?_);refine zd a (λp c a=>wl (qU rfl o7 gg (.inl rfl) (.some gg) .none c) ?_);refine zJ a (λf a=>dL (eT f) ?_);exact Z
theorem zwC{b:GF}{res:(List GF)}(a:sf l0 b=aa res):Sp 129 [yE l0,va b] h (yb (yE res) h):=by
 unfold sf at a;refine xb Tryz.func129 53 ?_;refine cB a (λ_=>ztp) λu a=>cF a (λp a=>?_) (λp a=>?_)
 ·refine zO (bs (([]:List GF).map GF.row)) ?_;refine zJ a (λn a=>zO (eN n) ?_);exact Z
 ·refine xl (λ(g:(List GF)×Int)=>zo 1 2 (zo 7 46 [(4,.any),(5,cP h 0 5 (g.1.map GF.row)),(6,.int .i64 g.2)])) (λg=>h.ext [.cells (GF.row b)] [ak (g.1)]) a (λ_=>UE) (wk.trans (tZ rfl rfl (sx 5) rfl) (wk.le (by exact(.eq (.drop (.drop (.eq (.drop (.cons (g6.of_eq rfl) (.cons (g6.of_eq rfl) (.d16 (.d16 (.d4 (.d4 (.d4 (.drop (.drop fc.nil))))))))))))))))) ?_;intro w g v a q;apply R.r;refine dr [] ?_;refine qG rfl rfl (wj rfl rfl rfl rfl bD gg vO) ss (R.r ?_);refine zJ a (λi a=>qd i (R.r ?_));refine zJ a (λl a=>qd l (R.r ?_));refine cH a (λ_=>zrh) λs a=>cF a (λe a=>?_) (λe a=>?_)
  ·refine zd a (λo k a=>ix k (R.r ?_));refine zO (bs (([o]:List GF).map GF.row)) ?_;refine zJ a (λd a=>zO (eT d) ?_);exact ZL
  ·cases a;replace a:=q;apply R.r;refine dr [] ?_;refine wl (bs (([b]:List GF).map GF.row)) ?_;refine zJ a (λj a=>dL (eT j) ?_);refine zd a (λt c a=>wl (qU rfl bD gg (.inl rfl) (.some gg) .none c) ?_);refine zJ a (λf a=>dL (eT f) ?_);exact Z
theorem zwB{b:(List GA)}{res:(List GF)}(a:s6 l0 b=aa res):Sp 130 [yE l0,zb b] h (yb (yE res) h):=by
 unfold s6 at a;refine xb Tryz.func130 29 ?_;refine qg (h0:=wk.trans (tZ rfl rfl (sx 5) rfl) (wk.le (by exact(.eq (.eq (.drop (.drop (.drop (.cons (g6.of_eq rfl) (.cons (g6.of_eq rfl) (.d16 (.d4 (.drop (.drop fc.nil)))))))))))))) (λ(g:Nat)(f:(List GF))=>zo 2 3 (zo 7 22 [(5,cP h 0 5 (f.map GF.row)),(6,.int .i64 (g:Int))])) (λf=>h.ext [] [ak f]) a (λg f j a=>xP λi=>cL a (λn p k e a o=>?_) (λa=>?_))
 ·refine ix (zu e) (R.r ?_);refine cB a (λ_=>zrf) λl a=>cF a (λc a=>?_) (λc a=>?_)
  ·refine ix (zu e) (R.r ?_);refine zO (bs (([n]:List GF).map GF.row)) ?_;refine zJ a (λd a=>zO (eT d) ?_);exact ZL
  ·exact ZL
 ·exact Z
end Go.Vv
