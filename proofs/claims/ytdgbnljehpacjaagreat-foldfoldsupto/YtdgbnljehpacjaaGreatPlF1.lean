/- Heaps on lists: what goes up, what goes down. -/
import Derived.Test.YtdgbnljehpacjaaGreatPlX1
set_option linter.all false
namespace Go.Vv
open Go
variable {a b c:GI} {h g A:List GI} {i j n k m:Nat} {s2:List GH×List GI} {x:GA} {out l left:List GH} {e:GH} {α:Type} {T:List GE} {t:List GA}
section
def eltB (a b:GI):Bool:=if a.e.time=b.e.time/\a.e.dot=b.e.dot then decide (a.att < b.att) else if a.e.time ≠ b.e.time then decide (a.e.time < b.e.time) else ye a.e.dot b.e.dot
theorem elt_irr (a:GI):eltB a a=false:=by simp [eltB]
theorem elt_tr (q:eltB a b=true) (o:eltB b c=true):eltB a c=true:=by
 have u:=@dlt_tr a.e.dot b.e.dot c.e.dot;have p:=dlt_irr a.e.dot;have s:=dlt_tot a.e.dot b.e.dot;have d:=@dlt_tr b.e.dot a.e.dot b.e.dot;have r:=dlt_irr b.e.dot;have f:=dlt_irr c.e.dot;unfold eltB at *
 grind
theorem elt_tot (d:eltB a b=false) (o:eltB b a=false):a.e.time=b.e.time/\a.e.dot=b.e.dot/\a.att=b.att:=by
 have f:=dlt_tot a.e.dot b.e.dot;unfold eltB at *
 grind
theorem elt_asym (h:eltB a b=true):eltB b a=false:=by
 cases e:eltB b a with
 | false=>rfl
 | true=>have:=elt_tr h e;rw [elt_irr] at this;cases this
theorem elt_nt (o:eltB b a=false) (d:eltB c b=false):eltB c a=false:=by
 cases e:eltB c a with
 | false=>rfl
 | true =>
  cases e2:eltB a b with
  | true=>have:=elt_tr e e2;rw [d] at this;cases this
  | false =>
   obtain ⟨f,q,p⟩:=elt_tot e2 o;have:eltB c b=true:=by
    unfold eltB at e ⊢;rw [<- f,<- q,<- p];exact e
   rw [d] at this;cases this
def swp (h:List GI) (i j:Nat):List GI:=(h.set i (h.getD j default)).set j (h.getD i default)
def Hup (h:List GI) (n j:Nat):Prop:=(∀c,c < n->0 < c->c ≠ j->eltB (h.getD c default) (h.getD ((c - 1) / 2) default)=false)/\∀c,c < n->0 < c->(c - 1) / 2=j->0 < j->eltB (h.getD c default) (h.getD ((j - 1) / 2) default)=false
def Hdn (h:List GI) (n i:Nat):Prop:=(∀c,c < n->0 < c->(c - 1) / 2 ≠ i->eltB (h.getD c default) (h.getD ((c - 1) / 2) default)=false)/\∀c,c < n->0 < c->(c - 1) / 2=i->0 < i->eltB (h.getD c default) (h.getD ((i - 1) / 2) default)=false
def Hp (h:List GI) (n:Nat):Prop:=∀c,c < n->0 < c->eltB (h.getD c default) (h.getD ((c - 1) / 2) default)=false
theorem swp_len (h:List GI) (i j:Nat):(swp h i j).length=h.length:=by simp [swp]
theorem swp_at (hi:i < h.length) (d:j < h.length) (c:Nat):(swp h i j).getD c default=if c=j then h.getD i default else if c=i then h.getD j default else h.getD c default:=by
 unfold swp;simp only [uA,pw]
 grind
theorem swp_perm (hi:i < h.length) (d:j < h.length):(swp h i j).Perm h:=by
 unfold swp;have o:h.getD i default=h[i]:=by simp [uA,ue hi]
 have f:h.getD j default=h[j]:=by simp [uA,ue d]
 rw [o,f];exact List.set_set_perm hi d
theorem up_step (y:n<=h.length) (w:j < n) (h0:0 < j) (r:eltB (h.getD j default) (h.getD ((j - 1) / 2) default)=true) (H:Hup h n j):Hup (swp h ((j - 1) / 2) j) n ((j - 1) / 2):=by
 obtain ⟨p,v⟩:=H;have d:=swp_at (h:=h) (i:=(j - 1) / 2) (j:=j) (by omega) (by omega)
 refine ⟨λc o f q=>?_,λc o f q u=>?_⟩
 ·rw [d,d];by_cases e:c=j
  ·subst e;rw [uv rfl,uC (by omega),uv rfl];exact elt_asym r
  ·rw [uC e,uC (by omega)];by_cases e2:(c - 1) / 2=j
   ·rw [uv e2];exact v c o f e2 h0
   ·rw [uC e2];by_cases e3:(c - 1) / 2=(j - 1) / 2
    ·rw [uv e3];have:=p c o f e;rw [e3] at this;exact elt_nt (elt_asym r) this
    ·rw [uC e3];exact p c o f e
 ·rw [d,d];have s:=p ((j - 1) / 2) (by omega) u (by omega);by_cases e:c=j
  ·subst e;rw [uv rfl,uC (by omega),uC (by omega)];exact s
  ·rw [uC e,uC (by omega),uC (by omega),uC (by omega)];have:=p c o f e;rw [q] at this;exact elt_nt s this
theorem up_stop (H:Hup h n j) (hs:j=0 \/ eltB (h.getD j default) (h.getD ((j - 1) / 2) default)=false):Hp h n:=λc f d=>by
 by_cases e:c=j
 ·subst e;rcases hs with h | h
  ·omega
  ·exact h
 ·exact H.1 c f d e
theorem dn_step (z:n<=h.length) (u:j < n) (h0:0 < j) (q:(j - 1) / 2=i) (v:eltB (h.getD j default) (h.getD i default)=true) (s:∀c,c < n->0 < c->(c - 1) / 2=i->eltB (h.getD c default) (h.getD j default)=false) (H:Hdn h n i):Hdn (swp h i j) n j:=by
 obtain ⟨r,w⟩:=H;have d:=swp_at (h:=h) (i:=i) (j:=j) (by omega) (by omega)
 refine ⟨λc o f p=>?_,λc o f p _=>?_⟩
 ·rw [d,d];by_cases e:c=j
  ·subst e;rw [uv rfl,uC (by omega),uv (by omega)];exact elt_asym v
  ·rw [uC e,uC p];by_cases e2:(c - 1) / 2=i
   ·rw [uC (by omega),uv e2];exact s c o f e2
   ·rw [uC e2];by_cases e3:c=i
    ·subst e3;rw [uv rfl];exact w j u h0 q (by omega)
    ·rw [uC e3];exact r c o f e2
 ·rw [d,d,q];have y:(i=j)=False:=by simp;omega
  rw [uC (by omega),uC (by omega),uC (by omega),uv rfl];have:=r c o f (by omega);rw [p] at this;exact this
theorem dn_stop (H:Hdn h n i) (hs:∀c,c < n->0 < c->(c - 1) / 2=i->eltB (h.getD c default) (h.getD i default)=false):Hp h n:=λc f d=>by
 by_cases e:(c - 1) / 2=i
 ·rw [e];exact hs c f d e
 ·exact H.1 c f d e
theorem hp_root (H:Hp h n):∀c,c < n->eltB (h.getD c default) (h.getD 0 default)=false:=by
 intro c
 induction c using Nat.strongRecOn with
 | _ c ih =>
  intro d;rcases sy c with rfl | h0
  ·exact elt_irr _
  ·exact elt_nt (ih ((c - 1) / 2) (by omega) (by omega)) (H c d h0)
end
section
noncomputable def upF (v235:List GI):Int×List GI->Option (Out (List GI) (Int×List GI)):=(λ(s2:Int×(List GI))=>((yl ((s2.2).length=(v235).length) (((if (((IntKind.wrap .i64 (Int.tdiv (IntKind.wrap .i64 (s2.1 - (1:Int))) (2:Int)))==s2.1)==false)=true then yF s2.2 s2.1 (IntKind.wrap .i64 (Int.tdiv (IntKind.wrap .i64 (s2.1 - (1:Int))) (2:Int))) else some default).bind λv298=>(if (((IntKind.wrap .i64 (Int.tdiv (IntKind.wrap .i64 (s2.1 - (1:Int))) (2:Int)))==s2.1) || (!v298))=true then some (.brk (s2.1,s2.2)) else ((((zQ s2.2 s2.1).bind λy305=>((zQ s2.2 (IntKind.wrap .i64 (Int.tdiv (IntKind.wrap .i64 (s2.1 - (1:Int))) (2:Int)))).bind λy306=>((zQ s2.2 (IntKind.wrap .i64 (Int.tdiv (IntKind.wrap .i64 (s2.1 - (1:Int))) (2:Int)))).bind λy307=>((zQ (s2.2.set (IntKind.wrap .i64 (Int.tdiv (IntKind.wrap .i64 (s2.1 - (1:Int))) (2:Int))).toNat y305) s2.1).bind λy308=>some ((s2.2.set (IntKind.wrap .i64 (Int.tdiv (IntKind.wrap .i64 (s2.1 - (1:Int))) (2:Int))).toNat y305).set s2.1.toNat y306))))):Option (List GI)).bind λv300=>(yl ((v300).length=(v235).length) (some (.nxt ((IntKind.wrap .i64 (Int.tdiv (IntKind.wrap .i64 (s2.1 - (1:Int))) (2:Int))),v300))))))))):Option (Out _ (Int×(List GI)))))
noncomputable def downF (s2:List GH×List GI) (v1220:Int):Int×List GI->Option (Out (Bool×List GI) (Int×List GI)):=(λ(s3:Int×(List GI))=>((yl ((s3.2).length=(s2.2).length) ((if ((decide ((IntKind.wrap .i64 ((IntKind.wrap .i64 ((2:Int) * s3.1))+(1:Int))) >= (IntKind.wrap .i64 (v1220 - (1:Int))))) || (decide ((IntKind.wrap .i64 ((IntKind.wrap .i64 ((2:Int) * s3.1))+(1:Int))) < (0:Int))))=true then some (.brk (s3.1,s3.2)) else ((if ((decide ((IntKind.wrap .i64 ((IntKind.wrap .i64 ((IntKind.wrap .i64 ((2:Int) * s3.1))+(1:Int)))+(1:Int))) < (IntKind.wrap .i64 (v1220 - (1:Int)))))==true)=true then yF s3.2 (IntKind.wrap .i64 ((IntKind.wrap .i64 ((IntKind.wrap .i64 ((2:Int) * s3.1))+(1:Int)))+(1:Int))) (IntKind.wrap .i64 ((IntKind.wrap .i64 ((2:Int) * s3.1))+(1:Int))) else some default).bind λv1314=>(if ((decide ((IntKind.wrap .i64 ((IntKind.wrap .i64 ((IntKind.wrap .i64 ((2:Int) * s3.1))+(1:Int)))+(1:Int))) < (IntKind.wrap .i64 (v1220 - (1:Int)))))&&v1314)=true then ((yF s3.2 (IntKind.wrap .i64 ((IntKind.wrap .i64 ((IntKind.wrap .i64 ((2:Int) * s3.1))+(1:Int)))+(1:Int))) s3.1).bind λv1316=>(if (!v1316)=true then some (.brk (s3.1,s3.2)) else ((((zQ s3.2 (IntKind.wrap .i64 ((IntKind.wrap .i64 ((IntKind.wrap .i64 ((2:Int) * s3.1))+(1:Int)))+(1:Int)))).bind λy1323=>((zQ s3.2 s3.1).bind λy1324=>((zQ s3.2 s3.1).bind λy1325=>((zQ (s3.2.set s3.1.toNat y1323) (IntKind.wrap .i64 ((IntKind.wrap .i64 ((IntKind.wrap .i64 ((2:Int) * s3.1))+(1:Int)))+(1:Int)))).bind λy1326=>some ((s3.2.set s3.1.toNat y1323).set (IntKind.wrap .i64 ((IntKind.wrap .i64 ((IntKind.wrap .i64 ((2:Int) * s3.1))+(1:Int)))+(1:Int))).toNat y1324))))):Option (List GI)).bind λv1318=>(yl ((v1318).length=(s2.2).length) (some (.nxt ((IntKind.wrap .i64 ((IntKind.wrap .i64 ((IntKind.wrap .i64 ((2:Int) * s3.1))+(1:Int)))+(1:Int))),v1318))))))) else ((yF s3.2 (IntKind.wrap .i64 ((IntKind.wrap .i64 ((2:Int) * s3.1))+(1:Int))) s3.1).bind λv1327=>(if (!v1327)=true then some (.brk (s3.1,s3.2)) else ((((zQ s3.2 (IntKind.wrap .i64 ((IntKind.wrap .i64 ((2:Int) * s3.1))+(1:Int)))).bind λy1334=>((zQ s3.2 s3.1).bind λy1335=>((zQ s3.2 s3.1).bind λy1336=>((zQ (s3.2.set s3.1.toNat y1334) (IntKind.wrap .i64 ((IntKind.wrap .i64 ((2:Int) * s3.1))+(1:Int)))).bind λy1337=>some ((s3.2.set s3.1.toNat y1334).set (IntKind.wrap .i64 ((IntKind.wrap .i64 ((2:Int) * s3.1))+(1:Int))).toNat y1335))))):Option (List GI)).bind λv1329=>(yl ((v1329).length=(s2.2).length) (some (.nxt ((IntKind.wrap .i64 ((IntKind.wrap .i64 ((2:Int) * s3.1))+(1:Int))),v1329)))))))))))):Option (Out _ (Int×(List GI)))))
noncomputable def popF:List GH×List GI->Option (Out (List GH×List GI) (List GH×List GI)):=(λ(s2:(List GH)×(List GI))=>(((some (((s2.2).length:Nat):Int):Option Int).bind λv1089=>(if (decide (v1089 > (0:Int)))=true then ((((some (((s2.2).length:Nat):Int):Option Int).bind λv1220=>((((zQ s2.2 (IntKind.wrap .i64 (v1220 - (1:Int)))).bind λy1228=>((zQ s2.2 (0:Int)).bind λy1229=>((zQ s2.2 (0:Int)).bind λy1230=>((zQ (s2.2.set (0:Int).toNat y1228) (IntKind.wrap .i64 (v1220 - (1:Int)))).bind λy1231=>some ((s2.2.set (0:Int).toNat y1228).set (IntKind.wrap .i64 (v1220 - (1:Int))).toNat y1229))))):Option (List GI)).bind λv1223=>(yl ((v1223).length=(s2.2).length) (((lp (zZ (downF s2 v1220) ((0:Int),v1223)) λ(s3:Int×(List GI))=>some ((decide (s3.1 > (0:Int))),s3.2)):Option (Bool×(List GI))).bind λv1232=>(yl ((v1232.2).length=(s2.2).length) ((((zQ v1232.2 (IntKind.wrap .i64 ((((s2.2).length:Nat):Int) - (1:Int)))).bind λy1343=>((slc v1232.2 (0:Int) (IntKind.wrap .i64 ((((s2.2).length:Nat):Int) - (1:Int)))).bind λm1344=>some (y1343,m1344))):Option (GI×(List GI))).bind λv1338=>some (v1338.1,v1338.2))))))):Option (GI×(List GI))).bind λv1093=>(yl ((s2.1).length+(([v1093.1.e]:List GH)).length<=lim) (some (.nxt ((s2.1++([v1093.1.e]:List GH)),v1093.2))))) else some (.brk (s2.1,s2.2)))):Option (Out _ ((List GH)×(List GI)))))
noncomputable def pushF:Nat->GH->List GI->Option (Out (List GH) (List GI)):=(λ(n1:Nat) (x1:GH) (s1:(List GI))=>(((foldXown x1).bind λv158=>(((((yl ((s1).length+(([(GI.mk v158 (n1:Int))]:List GI)).length<=lim) (some (s1++([(GI.mk v158 (n1:Int))]:List GI)))):Option (List GI)).bind λv235=>((some (((v235).length:Nat):Int):Option Int).bind λv238=>(((lp (zZ (upF v235) ((IntKind.wrap .i64 (v238 - (1:Int))),v235)) λ(s2:Int×(List GI))=>some s2.2):Option (List GI)).bind λv241=>(yl ((v241).length=(v235).length) (some v241))))):Option (List GI)).bind λv159=>some (.nxt v159))):Option (Out _ (List GI))))
theorem order_eq (f:List GH):xH f=(lp (zp pushF f 0 ([]:List GI)) λ(o:(List GI))=>(((lp (zZ popF (([]:List GH),o)) λ(s2:(List GH)×(List GI))=>some (s2.1,s2.2)):Option ((List GH)×(List GI))).bind λd=>some d.1)):=rfl

theorem less_is (hi:i < h.length) (d:k < h.length):yF h (i:Int) (k:Int)=some (eltB (h.getD i default) (h.getD k default)):=by
 have f:h.getD i default=h[i]:=by simp [uA,ue hi]
 have o:h.getD k default=h[k]:=by simp [uA,ue d]
 unfold yF;rw [qM hi,qM d,ua,ua,f,o,vG,ua];unfold eltB;have:((h[i].e.time==h[k].e.time)&&(h[i].e.dot.actor.rep==h[k].e.dot.actor.rep&&(h[i].e.dot.actor.inc==h[k].e.dot.actor.inc&&(h[i].e.dot.seq==h[k].e.dot.seq&&true))))=decide (h[i].e.time=h[k].e.time/\h[i].e.dot=h[k].e.dot):=by
  rw [tv];rcases h[i].e.dot with ⟨⟨a,b⟩,c⟩
  rcases h[k].e.dot with ⟨⟨q,r⟩,p⟩
  simp [sI]
 rw [this];by_cases h1:h[i].e.time=h[k].e.time/\h[i].e.dot=h[k].e.dot
 ·simp [h1]
 ·rw [uC (by simpa using h1),uC h1]
theorem par_is (j:Nat) (d:j<=16777216):IntKind.wrap .i64 (Int.tdiv (IntKind.wrap .i64 ((j:Int) - 1)) 2)=(((j - 1) / 2:Nat):Int):=by
 rw [x9 (n:=(j:Int) - 1) (by omega)];cases j with
 | zero=>rfl
 | succ j =>
  have:((j+1:Nat):Int) - 1=(j:Int):=by omega
  rw [this,show Int.tdiv (j:Int) 2=((j / 2:Nat):Int) from rfl,x9 (by omega)];simp
theorem upF_run {v:List GI} (C:h.length=v.length) (D:v.length<=16777216) {j:Nat} (w:j < v.length) (H:Hup h v.length j):∃p,zZ (upF v) ((j:Int),h)=some (.inr p)/\p.2.Perm h/\Hp p.2 v.length:=by
 refine wE (f:=upF v) (λs=>∃j:Nat,s.1=(j:Int)/\j < v.length/\s.2.Perm h/\Hup s.2 v.length j) (λs=>s.2.Perm h/\Hp s.2 v.length) (λs=>s.1.toNat) ?_ _ _ rfl ⟨j,rfl,w,.refl _,H⟩
 rintro ⟨q,g⟩ ⟨j,rfl,w,d,H⟩
 dsimp only at d H ⊢;have o:g.length=v.length:=d.length_eq.trans C;unfold upF;dsimp only;rw [zj o,par_is j (by omega)];rcases sy j with rfl | h0
 ·left;exact ⟨(((0:Nat):Int),g),by simp,d,up_stop H (.inl rfl)⟩
 ·have r:((((j - 1) / 2:Nat):Int)==(j:Int))=false:=by
   rw [sH];omega
  rw [r,uP,uv rfl,less_is (by omega) (by omega),ua,tj];cases hb:eltB (g.getD j default) (g.getD ((j - 1) / 2) default) with
  | false=>left;exact ⟨((j:Int),g),by simp,d,up_stop H (.inr hb)⟩
  | true =>
   right;have B:zQ g (j:Int)=some (g.getD j default):=by rw [qM (by omega)];simp [uA,ue (show j < g.length by omega)]
   have z:zQ g (((j - 1) / 2:Nat):Int)=some (g.getD ((j - 1) / 2) default):=by rw [qM (by omega)];simp [uA,ue (show (j - 1) / 2 < g.length by omega)]
   have u:∃y,zQ (g.set ((j - 1) / 2) (g.getD j default)) (j:Int)=some y:=⟨_,qM (by rw [uI];omega)⟩
   obtain ⟨y,u⟩:=u;have hs:((g.set ((j - 1) / 2) (g.getD j default)).set j (g.getD ((j - 1) / 2) default))=swp g ((j - 1) / 2) j:=rfl;refine ⟨((((j - 1) / 2:Nat):Int),swp g ((j - 1) / 2) j),?_,⟨(j - 1) / 2,rfl,by omega,(swp_perm (by omega) (by omega)).trans d,up_step (by omega) w h0 hb H⟩,by simp only [ut];omega⟩;simp only [tn,uk,uH,B,z,ua,ut,u,hs];rw [zj (by rw [swp_len];exact o)]
theorem two_is (i:Nat) (hi:i<=16777216):IntKind.wrap .i64 ((IntKind.wrap .i64 ((2:Int) * (i:Int)))+1)=((2 * i+1:Nat):Int):=by
 rw [x9 (n:=(2:Int) * (i:Int)) (by omega),x9 (by omega)];omega
theorem three_is (i:Nat) (hi:i<=16777216):IntKind.wrap .i64 (((2 * i+1:Nat):Int)+1)=((2 * i+2:Nat):Int):=by
 rw [x9 (by omega)];omega
theorem at_idx (h:j < g.length):zQ g (j:Int)=some (g.getD j default):=by
 rw [qM h];simp [uA,ue h]
theorem swap_idx (hi:i < g.length) (f:j < g.length):((zQ g (j:Int)).bind λd=>(zQ g (i:Int)).bind λp=>(zQ g (i:Int)).bind λ_=>(zQ (g.set (i:Int).toNat d) (j:Int)).bind λ_=>some ((g.set (i:Int).toNat d).set (j:Int).toNat p))=some (swp g i j):=by
 obtain ⟨y,o⟩:∃y,zQ (g.set i (g.getD j default)) (j:Int)=some y:=⟨_,qM (by rw [uI];omega)⟩
 simp only [at_idx hi,at_idx f,ua,ut,o];rfl
def kid (g:List GI) (m i:Nat):Nat:=if 2 * i+2 < m/\eltB (g.getD (2 * i+2) default) (g.getD (2 * i+1) default)=true then 2 * i+2 else 2 * i+1
theorem downF_step (d:g.length=s2.2.length) (q:s2.2.length=m+1) (r:m<=8388600) (hi:i<=m) :
  downF s2 ((m+1:Nat):Int) ((i:Int),g)=if m<=2 * i+1 then some (.brk ((i:Int),g)) else if eltB (g.getD (kid g m i) default) (g.getD i default)=true then some (.nxt (((kid g m i:Nat):Int),swp g i (kid g m i))) else some (.brk ((i:Int),g)):=by
 unfold downF;dsimp only;rw [zj d];have p:IntKind.wrap .i64 (((m+1:Nat):Int) - 1)=(m:Int):=by rw [x9 (by omega)];omega
 simp only [two_is i (by omega),three_is i (by omega),p];by_cases hc:m<=2 * i+1
 ·rw [uv (by simp;omega),uv hc]
 ·rw [uC (by simp;omega),uC hc];unfold kid;by_cases h2:2 * i+2 < m
  ·have f:decide (((2 * i+2:Nat):Int) < (m:Int))=true:=by simp;omega
   simp only [f,uP,ur,less_is (show 2 * i+2 < g.length by omega) (show 2 * i+1 < g.length by omega),ua,uU];cases hb:eltB (g.getD (2 * i+2) default) (g.getD (2 * i+1) default) with
   | true =>
    simp only [h2,rX,ur,less_is (show 2 * i+2 < g.length by omega) (show i < g.length by omega),ua,swap_idx (show i < g.length by omega) (show 2 * i+2 < g.length by omega)];rw [zj (by rw [swp_len];exact d)];cases eltB (g.getD (2 * i+2) default) (g.getD i default) <;> rfl
   | false =>
    simp only [h2,and_false,uk,uH,less_is (show 2 * i+1 < g.length by omega) (show i < g.length by omega),ua,swap_idx (show i < g.length by omega) (show 2 * i+1 < g.length by omega)];rw [zj (by rw [swp_len];exact d)];cases eltB (g.getD (2 * i+1) default) (g.getD i default) <;> rfl
  ·have f:decide (((2 * i+2:Nat):Int) < (m:Int))=false:=by simp;omega
   have o:¬ (2 * i+2 < m/\eltB (g.getD (2 * i+2) default) (g.getD (2 * i+1) default)=true):=by omega
   simp only [f,o,rk,uk,(show (false==true)=false from rfl),uH,ua,less_is (show 2 * i+1 < g.length by omega) (show i < g.length by omega),swap_idx (show i < g.length by omega) (show 2 * i+1 < g.length by omega)];rw [zj (by rw [swp_len];exact d)];cases eltB (g.getD (2 * i+1) default) (g.getD i default) <;> rfl
theorem downF_run (B:g.length=s2.2.length) (C:s2.2.length=m+1) (E:m<=8388600) (H:Hdn g m 0) :
  ∃r,zZ (downF s2 ((m+1:Nat):Int)) ((0:Int),g)=some (.inr r)/\r.2.Perm g/\Hp r.2 m/\r.2.getD m default=g.getD m default:=by
 refine wE (f:=downF s2 ((m+1:Nat):Int)) (λs=>∃i:Nat,s.1=(i:Int)/\i<=m/\s.2.Perm g/\Hdn s.2 m i/\s.2.getD m default=g.getD m default) (λs=>s.2.Perm g/\Hp s.2 m/\s.2.getD m default=g.getD m default) (λs=>m - s.1.toNat) ?_ _ _ rfl ⟨0,rfl,tz _,.refl _,H,rfl⟩
 rintro ⟨q,u⟩ ⟨i,rfl,hi,p,H,d⟩
 dsimp only at p H d ⊢;have D:u.length=m+1:=by rw [p.length_eq,B,C]
 rw [downF_step (p.length_eq.trans B) C E hi];by_cases hc:m<=2 * i+1
 ·left;exact ⟨((i:Int),u),by rw [uv hc],p,dn_stop H λc v w z=>by omega,d⟩
 ·rw [uC hc];have y:kid u m i < m/\0 < kid u m i/\(kid u m i - 1) / 2=i/\i < kid u m i:=by
   unfold kid;split <;> omega
  have o:∀c,c < m->0 < c->(c - 1) / 2=i->eltB (u.getD c default) (u.getD (kid u m i) default)=false:=by
   intro c v w z;have:c=2 * i+1 \/ c=2 * i+2:=by omega
   unfold kid;split
   ·rename_i hh;rcases this with rfl | rfl
    ·exact elt_asym hh.2
    ·exact elt_irr _
   ·rename_i hh;rcases this with rfl | rfl
    ·exact elt_irr _
    ·cases e:eltB (u.getD (2 * i+2) default) (u.getD (2 * i+1) default) with
     | false=>rfl
     | true=>exact absurd ⟨v,e⟩ hh
  cases hb:eltB (u.getD (kid u m i) default) (u.getD i default) with
  | true =>
   right;refine ⟨(((kid u m i:Nat):Int),swp u i (kid u m i)),by rw [uv rfl],⟨kid u m i,rfl,by omega,(swp_perm (by omega) (by omega)).trans p,dn_step (by omega) y.1 y.2.1 y.2.2.1 hb o H,?_⟩,by simp only [ut];omega⟩;rw [swp_at (by omega) (by omega),uC (by omega),uC (by omega)];exact d
  | false =>
   left;refine ⟨((i:Int),u),by rw [uC (by simp)],p,dn_stop H λc v w z=>elt_nt hb (o c v w z),d⟩
theorem getD_mem {x:GI} (h:x ∈ g):∃c,c < g.length/\x=g.getD c default:=by
 obtain ⟨c,d,rfl⟩:=tL h;exact ⟨c,d,by simp [uA,ue d]⟩
theorem take_last (h:g.length=m+1):g=g.take m++[g.getD m default]:=by
 have e:g.getD m default=g[m]:=by simp [uA,ue (show m < g.length by omega)]
 rw [e];have:=se m g;rw [su (by omega),tp (by omega)] at this;exact this.symm
theorem getD_take (g:List GI) {m c:Nat} (h:c < m):(g.take m).getD c default=g.getD c default:=by
 simp [uA,h]
theorem getD_app (g:List GI) (x:GI) {c:Nat} (h:c < g.length):(g++[x]).getD c default=g.getD c default:=by
 simp [uA,un h]
theorem popF_step (s:g.length=m+1) (B:m<=8388600) (G:out.length<=8388600) (H:Hp g (m+1)) :
  ∃g',popF (out,g)=some (.nxt (out++[(g.getD 0 default).e],g'))/\g'.length=m/\Hp g' m/\(g'++[g.getD 0 default]).Perm g:=by
 have o:=swp_len g 0 m;have f:=swp_at (h:=g) (i:=0) (j:=m) (by omega) (by omega)
 have hd:Hdn (swp g 0 m) m 0:=⟨λc v u C=>by
  rw [f,f,uC (by omega),uC (by omega),uC (by omega),uC C];exact H c (by omega) u,λc _ _ _ h=>by omega⟩
 obtain ⟨p,D,y,E,F⟩:=downF_run (s2:=(out,g)) (g:=swp g 0 m) (m:=m) o s B hd;have d:p.2.getD m default=g.getD 0 default:=by rw [F,f,uv rfl]
 have q:p.2.length=m+1:=by rw [y.length_eq,o,s]
 have z:IntKind.wrap .i64 (((m+1:Nat):Int) - 1)=(m:Int):=by rw [x9 (by omega)];omega
 have r:=swap_idx (g:=g) (i:=0) (j:=m) (by omega) (by omega);simp only [ut,rx,pt] at r;refine ⟨p.2.take m,?_,by rw [th];omega,λc v u=>by rw [getD_take _ v,getD_take _ (by omega)];exact E c v u,?_⟩
 ·unfold popF;simp only [ua,s,z];rw [uv (uT (by omega))];simp only [pt,ut,r,ua];rw [zj (by rw [o,s]),D,yB,ua,zj q];dsimp only;have w:slc p.2 (0:Int) (m:Int)=some (p.2.take m):=by
   unfold slc;rw [uv (by omega)];simp
  rw [at_idx (by omega),ua,w,ua,ua,ua];dsimp only;rw [zj (by simp [lim];omega),d]
 ·rw [<- d,<- take_last q];exact y.trans (swp_perm (by omega) (by omega))
theorem popF_run {E:List GI} (I:E.length<=8388600) {h:List GI} (G:h.Perm E) (H:Hp h h.length) :
  ∃P:List GI,(∃u,zZ popF (([]:List GH),h)=some (.inr (P.map (·.e),u)))/\P.Perm E/\P.Pairwise λa b=>eltB b a=false:=by
 have w:∀s:List GH×List GI,(∃P:List GI,s.1=P.map (·.e)/\(P++s.2).Perm E/\Hp s.2 s.2.length/\P.Pairwise (λa b=>eltB b a=false)/\∀a ∈ P,∀b ∈ s.2,eltB b a=false) ->
   (∃d,popF s=some (.brk d)/\∃(P:List GI) (u:List GI),d=(P.map (·.e),u)/\P.Perm E/\P.Pairwise λa b=>eltB b a=false) \/
   ∃d,popF s=some (.nxt d)/\(∃P:List GI,d.1=P.map (·.e)/\(P++d.2).Perm E/\Hp d.2 d.2.length/\P.Pairwise (λa b=>eltB b a=false)/\∀a ∈ P,∀b ∈ d.2,eltB b a=false)/\d.2.length < s.2.length:=by
  rintro ⟨out,g⟩ ⟨P,rfl,v,r,C,z⟩
  dsimp only at v r z ⊢;have y:=v.length_eq;rw [uo] at y;cases hg:g.length with
  | zero =>
   left;have:g=[]:=uF hg;subst this;exact ⟨_,rfl,P,[],rfl,by simpa using v,C⟩
  | succ m =>
   right;rw [hg] at r;obtain ⟨g',D,k2,F,B⟩:=popF_step (out:=P.map (·.e)) hg (by omega) (by simp;omega) r;have p:∀b ∈ g',b ∈ g:=λb q=>B.mem_iff.1 (by simp [q]);have h0:g.getD 0 default ∈ g:=B.mem_iff.1 (by simp);refine ⟨_,D,⟨P++[g.getD 0 default],by simp,?_,by rw [k2];exact F,?_,?_⟩,by simp only [k2];omega⟩
   ·rw [uB];exact (List.Perm.append_left P (List.perm_append_comm.trans B)).trans v
   ·rw [u9];exact ⟨C,by simp,λa o b q=>by rw [ux] at q;subst q;exact z a o _ h0⟩
   ·intro a o b q;rcases uD.1 o with o | o
    ·exact z a o b (p b q)
    ·rw [ux] at o;subst o;obtain ⟨c,J,rfl⟩:=getD_mem (p b q);exact hp_root r c (by omega)
 obtain ⟨d,e,P,u,rfl,v,r⟩:=wE (f:=popF) _ _ (λs=>s.2.length) w _ (([]:List GH),h) rfl ⟨[],rfl,by simpa using G,H,by simp,by simp⟩;exact ⟨P,⟨u,e⟩,v,r⟩
end
section
noncomputable def minF (s1:List GH×List GH):Int×Int->Option (Out (Out (List GH) (List GH×List GH)) (Int×Int)):=(λ(s2:Int×Int)=>((if (decide (s2.2 < ((s1.1).length:Int)))=true then ((zQ s1.1 s2.2).bind λy51=>((zQ s1.1 s2.2).bind λy52=>((zQ s1.1 s2.1).bind λy53=>((zQ s1.1 s2.1).bind λy54=>((wi y51.time y52.dot y53.time y54.dot).bind λv55=>(if v55=true then some (.nxt (s2.2,(IntKind.wrap .i64 (s2.2+(1:Int))))) else some (.nxt (s2.1,(IntKind.wrap .i64 (s2.2+(1:Int))))))))))) else some (.brk (s2.1,s2.2))):Option (Out _ (Int×Int))))
noncomputable def selF:List GH×List GH->Option (Out (List GH) (List GH×List GH)):=(λ(s1:(List GH)×(List GH))=>((if (decide (((s1.1).length:Int) > (0:Int)))=true then (lp (zZ (minF s1) ((0:Int),(1:Int))) λ(s2:Int×Int)=>((zQ s1.1 s2.1).bind λy57=>(yl ((s1.2).length+(([y57]:List GH)).length<=lim) (((slc s1.1 (0:Int) s2.1).bind λm59=>(yl ((([]:List GH)).length+(m59).length<=lim) (((slc s1.1 (IntKind.wrap .i64 (s2.1+(1:Int))) ((s1.1).length:Int)).bind λm61=>(yl (((([]:List GH)++m59)).length+(m61).length<=lim) (some (.nxt (((([]:List GH)++m59)++m61),(s1.2++([y57]:List GH)))))))))))))) else some (.brk (s1.1,s1.2))):Option (Out _ ((List GH)×(List GH)))))
theorem ref10_eq (d:List GH):vn d=(yl ((([]:List GH)).length+(d).length<=lim) ((lp (zZ selF ((([]:List GH)++d),([]:List GH))) λ(f:(List GH)×(List GH))=>some f.2))):=rfl

def entL:Nat->List GH->List GI
 | _,[]=>[]
 | n,e::r=>⟨e,(n:Int)⟩::entL (n+1) r
theorem entL_e:∀(n:Nat) (l:List GH),(entL n l).map (·.e)=l
 | _,[]=>rfl
 | n,e::r=>by simp only [entL,uz,entL_e (n+1) r]
theorem entL_len (n:Nat) (l:List GH):(entL n l).length=l.length:=by
 have:=congrArg List.length (entL_e n l);simpa using this
theorem entL_ge:∀(n:Nat) (l:List GH) (x:GI),x ∈ entL n l->(n:Int)<=x.att
 | _,[],x,h=>by simp [entL] at h
 | n,e::r,x,h=>by
  rcases uQ.1 h with rfl | h
  ·exact tR _
  ·have:=entL_ge (n+1) r x h;omega
theorem entL_pw:∀(n:Nat) (l:List GH),(entL n l).Pairwise λa b=>a.att < b.att
 | _,[]=>by simp [entL]
 | n,e::r=>by
  simp only [entL,uL];exact ⟨λx d=>by have:=entL_ge (n+1) r x d;show (n:Int) < _;omega,entL_pw (n+1) r⟩
theorem ev_own (d:e.op.path.length<=lim) (f:e.op.dots.length<=lim):foldXown e=some e:=by
 unfold foldXown;rw [cloneString_is d,qr f];rfl
theorem pushF_step (C:g.length<=8388600) (y:e.op.path.length<=lim) (u:e.op.dots.length<=lim) (H:Hp g g.length) :
  ∃g',pushF n e g=some (.nxt g')/\g'.Perm (g++[⟨e,(n:Int)⟩])/\Hp g' g'.length:=by
 have f:(g++[(⟨e,(n:Int)⟩:GI)]).length=g.length+1:=by simp
 have d:Hup (g++[(⟨e,(n:Int)⟩:GI)]) (g++[(⟨e,(n:Int)⟩:GI)]).length g.length:=by
  rw [f];exact ⟨λc w o z=>by rw [getD_app g _ (by omega),getD_app g _ (by omega)];exact H c (by omega) o,λc w o z B=>by omega⟩
 obtain ⟨r,p,k2,s⟩:=upF_run (v:=g++[⟨e,(n:Int)⟩]) rfl (by omega) (j:=g.length) (by omega) d;have q:IntKind.wrap .i64 (((g.length+1:Nat):Int) - 1)=(g.length:Int):=by rw [x9 (by omega)];omega
 refine ⟨r.2,?_,k2,by rw [k2.length_eq];exact s⟩;unfold pushF;simp only [ev_own y u,ua];rw [zj (by simp [lim];omega),ua,f,q,p,yB,ua,zj (by rw [k2.length_eq,f]),ua]
theorem pushF_run:∀(r:List GH) (g:List GI),(∀e ∈ r,e.op.path.length<=lim/\e.op.dots.length<=lim)->g.length+r.length<=8388600->Hp g g.length ->
  ∃h,zp pushF r g.length g=some (.inr h)/\h.Perm (g++entL g.length r)/\Hp h h.length
 | [],g,_,_,H=>⟨g,rfl,by simp [entL],H⟩
 | e::r,g,he,hl,H=>by
  simp only [uu] at hl;obtain ⟨g',o,k2,p⟩:=pushF_step (n:=g.length) (by omega) (he e (by simp)).1 (he e (by simp)).2 H;have d:g'.length=g.length+1:=by rw [k2.length_eq];simp
  obtain ⟨h,f,s,q⟩:=pushF_run r g' (λx u=>he x (by simp [u])) (by omega) p;refine ⟨h,?_,?_,q⟩
  ·simp only [zp,o];rw [d] at f;exact f
  ·refine s.trans ?_;rw [d];simp only [entL];have:=List.Perm.append_right (entL (g.length+1) r) k2;simpa using this
theorem foldOrder_is (f:l.length<=8388600) (p:∀e ∈ l,e.op.path.length<=lim/\e.op.dots.length<=lim) :
  ∃P:List GI,xH l=some (P.map (·.e))/\P.Perm (entL 0 l)/\P.Pairwise λa b=>eltB b a=false:=by
 obtain ⟨h,d,v,s⟩:=pushF_run l [] p (by simpa using f) (λc r w=>by simp at r);obtain ⟨P,⟨u,e⟩,o,q⟩:=popF_run (E:=entL 0 l) (by rw [entL_len];exact f) (h:=h) (by simpa using v) s;refine ⟨P,?_,o,q⟩;rw [order_eq];have d:zp pushF l 0 []=some (.inr h):=d;rw [d,yB,e,yB];rfl
theorem aheadE (f:A.map (·.e)=left) (w:A.Pairwise λa b=>a.att < b.att) {k i:Nat} (s:k < i) (hi:i < A.length) :
  ((zQ left (i:Int)).bind λo=>((zQ left (i:Int)).bind λp=>((zQ left (k:Int)).bind λd=>((zQ left (k:Int)).bind λq=>wi o.time p.dot d.time q.dot))))=some (eltB (A.getD i default) (A.getD k default)):=by
 have C:A.length=left.length:=by rw [<- f];simp
 have z:A.getD i default=A[i]:=by simp [uA,ue hi]
 have v:A.getD k default=A[k]:=by simp [uA,ue (show k < A.length by omega)]
 have u:left[i]'(by omega)=A[i].e:=by subst f;simp
 have y:left[k]'(by omega)=A[k].e:=by subst f;simp
 have r:=uZ.1 w k i (by omega) hi s;rw [qM (show i < left.length by omega),qM (show k < left.length by omega)];simp only [ua,ref05Ahead_is,u,y,z,v];unfold eltB;have B:=dlt_irr A[k].e.dot
 grind
theorem minF_step (f:A.map (·.e)=left) (o:A.Pairwise λa b=>a.att < b.att) (r:A.length<=8388600) {k i:Nat} (p:k < i) (hi:i<=A.length) :
  minF (left,out) ((k:Int),(i:Int))=if i < A.length then (if eltB (A.getD i default) (A.getD k default)=true then some (.nxt ((i:Int),((i+1:Nat):Int))) else some (.nxt ((k:Int),((i+1:Nat):Int)))) else some (.brk ((k:Int),(i:Int))):=by
 have q:left.length=A.length:=by rw [<- f];simp
 unfold minF;dsimp only;by_cases h:i < A.length
 ·have d:=aheadE f o p h;rw [uv (uT (by omega)),uv h,xL (by omega)];rw [qM (show i < left.length by omega),qM (show k < left.length by omega)] at d ⊢;simp only [ua] at d ⊢;rw [d,ua]
 ·rw [uC (by simp;omega),uC h]
theorem minF_run (C:A.map (·.e)=left) (v:A.Pairwise λa b=>a.att < b.att) (E:A.length<=8388600) (h0:0 < A.length) :
  ∃k:Nat,k < A.length/\(∃u,zZ (minF (left,out)) ((0:Int),(1:Int))=some (.inr ((k:Int),u)))/\∀c,c < A.length->c ≠ k->eltB (A.getD k default) (A.getD c default)=true:=by
 have p:∀s:Int×Int,(∃k i:Nat,s=((k:Int),(i:Int))/\k < i/\i<=A.length/\∀c,c < i->c ≠ k->eltB (A.getD k default) (A.getD c default)=true) ->
   (∃d,minF (left,out) s=some (.brk d)/\∃k:Nat,∃u,d=((k:Int),u)/\k < A.length/\∀c,c < A.length->c ≠ k->eltB (A.getD k default) (A.getD c default)=true) \/
   ∃d,minF (left,out) s=some (.nxt d)/\(∃k i:Nat,d=((k:Int),(i:Int))/\k < i/\i<=A.length/\∀c,c < i->c ≠ k->eltB (A.getD k default) (A.getD c default)=true)/\A.length - d.2.toNat < A.length - s.2.toNat:=by
  rintro _ ⟨k,i,rfl,q,hi,r⟩
  rw [minF_step C v E q hi];by_cases h:i < A.length
  ·right;rw [uv h];cases hb:eltB (A.getD i default) (A.getD k default) with
   | true =>
    refine ⟨((i:Int),((i+1:Nat):Int)),by rw [uv rfl],⟨i,i+1,rfl,by omega,by omega,λc w o=>?_⟩,by simp only [ut];omega⟩;by_cases e:c=k
    ·subst e;exact hb
    ·exact elt_tr hb (r c (by omega) e)
   | false =>
    refine ⟨((k:Int),((i+1:Nat):Int)),by rw [uC (by simp)],⟨k,i+1,rfl,by omega,by omega,λc w o=>?_⟩,by simp only [ut];omega⟩;by_cases e:c=i
    ·subst e;cases hb2:eltB (A.getD k default) (A.getD c default) with
     | true=>rfl
     | false =>
      obtain ⟨_,_,F⟩:=elt_tot hb hb2;have z:=uZ.1 v k c (by omega) h q;have G:A.getD c default=A[c]:=by simp [uA,ue h]
      have D:A.getD k default=A[k]:=by simp [uA,ue (show k < A.length by omega)]
      rw [G,D] at F;omega
    ·exact r c (by omega) o
  ·left;rw [uC h];have:i=A.length:=by omega
   subst this;exact ⟨_,rfl,k,_,rfl,q,r⟩
 obtain ⟨d,e,k,u,rfl,B,y⟩:=wE (f:=minF (left,out)) _ _ (λs=>A.length - s.2.toNat) p _ ((0:Int),(1:Int)) rfl ⟨0,1,rfl,by omega,by omega,λc w o=>by omega⟩;exact ⟨k,B,⟨u,e⟩,y⟩
theorem slc_lo (L:List α) {k:Nat} (h:k<=L.length):slc L (0:Int) (k:Int)=some (L.take k):=by
 unfold slc;rw [uv (by omega)];simp
theorem slc_hi (L:List α) {k:Nat} (h:k<=L.length):slc L (k:Int) (L.length:Int)=some (L.drop k):=by
 unfold slc;rw [uv (by omega)];simp
theorem selF_step (r:A.Pairwise λa b=>a.att < b.att) (v:A.length<=8388600) (w:out.length<=8388600) (h0:0 < A.length) :
  ∃k:Nat,∃o:k < A.length,selF (A.map (·.e),out)=some (.nxt ((A.take k++A.drop (k+1)).map (·.e),out++[A[k].e]))/\∀b ∈ A.take k++A.drop (k+1),eltB A[k] b=true:=by
 obtain ⟨k,o,⟨u,e⟩,s⟩:=minF_run (left:=A.map (·.e)) (out:=out) rfl r v h0;refine ⟨k,o,?_,λb f=>?_⟩
 ·unfold selF;dsimp only;rw [uv (by simp;omega),e,yB];dsimp only;rw [qM (by simpa using o),ua,zj (by simp [lim];omega),slc_lo _ (by simp;omega),ua,zj (by simp [lim];omega),xL (by omega),slc_hi _ (by simp;omega),ua,zj (by simp [lim];omega)];simp
 ·have q:A.getD k default=A[k]:=by simp [uA,ue o]
  have key:∀c,(d:c < A.length)->c ≠ k->eltB A[k] A[c]=true:=λc d p=>by
   have:=s c d p;rw [q] at this;simpa [uA,ue d] using this
  rcases uD.1 f with f | f
  ·obtain ⟨c,d,rfl⟩:=tL f;rw [List.getElem_take];rw [th] at d;exact key c (by omega) (by omega)
  ·obtain ⟨c,d,rfl⟩:=tL f;rw [List.getElem_drop];rw [sZ] at d;exact key _ (by omega) (by omega)
theorem rm_perm (A:List α) {k:Nat} (d:k < A.length):(A[k]::(A.take k++A.drop (k+1))).Perm A:=by
 have e:=se k A;rw [su d] at e;have h:=(List.perm_middle (a:=A[k]) (l₁:=A.take k) (l₂:=A.drop (k+1))).symm
 rwa [e] at h
theorem ref10_is (H:l.length<=8388600):∃P:List GI,vn l=some (P.map (·.e))/\P.Perm (entL 0 l)/\P.Pairwise λa b=>eltB b a=false:=by
 have v:∀s:List GH×List GH,(∃A O:List GI,s=(A.map (·.e),O.map (·.e))/\(A.Pairwise λa b=>a.att < b.att)/\(O++A).Perm (entL 0 l)/\(O.Pairwise λa b=>eltB b a=false)/\∀a ∈ O,∀b ∈ A,eltB b a=false) ->
   (∃p,selF s=some (.brk p)/\∃O:List GI,∃u,p=(u,O.map (·.e))/\O.Perm (entL 0 l)/\O.Pairwise λa b=>eltB b a=false) \/
   ∃p,selF s=some (.nxt p)/\(∃A O:List GI,p=(A.map (·.e),O.map (·.e))/\(A.Pairwise λa b=>a.att < b.att)/\(O++A).Perm (entL 0 l)/\(O.Pairwise λa b=>eltB b a=false)/\∀a ∈ O,∀b ∈ A,eltB b a=false)/\p.1.length < s.1.length:=by
  rintro _ ⟨A,O,rfl,w,r,F,D⟩
  have y:=r.length_eq;rw [uo,entL_len] at y;rcases sy A.length with h0 | h0
  ·left;have:A=[]:=uF h0;subst this;exact ⟨_,rfl,O,[],rfl,by simpa using r,F⟩
  ·right;obtain ⟨k,B,e,G⟩:=selF_step (out:=O.map (·.e)) w (by omega) (by simp;omega) h0;have q:=rm_perm A B;have z:∀b,b ∈ A.take k++A.drop (k+1)->b ∈ A:=λb o=>q.mem_iff.1 (by simp [o]);refine ⟨_,e,⟨A.take k++A.drop (k+1),O++[A[k]],by simp,?_,?_,?_,?_⟩,?_⟩
   ·have E:=se k A;rw [su B] at E;rw [<- E] at w;have C:=u9.1 w;exact u9.2 ⟨C.1,(uL.1 C.2.1).2,λa d b o=>C.2.2 a d b (tF _ o)⟩
   ·rw [uB];exact (List.Perm.append_left O q).trans r
   ·exact u9.2 ⟨F,by simp,λa d b o=>by rw [ux] at o;subst o;exact D a d _ (sJ B)⟩
   ·intro a d b o;rcases uD.1 d with d | d
    ·exact D a d b (z b o)
    ·rw [ux] at d;subst d;exact elt_asym (G b o)
   ·have:=q.length_eq;simp only [ul,uu] at this ⊢;omega
 obtain ⟨p,e,O,u,rfl,w,r⟩:=wE (f:=selF) _ _ (λs=>s.1.length) v _ (([]:List GH)++l,([]:List GH)) rfl ⟨entL 0 l,[],by simp [entL_e],entL_pw 0 l,by simp,by simp,by simp⟩;refine ⟨O,?_,w,r⟩;rw [ref10_eq,zj (by simp [lim];omega),e,yB]
theorem ord_uniq {P M:List GI} (o:P.Perm (entL 0 l)) (w:M.Perm (entL 0 l)) (v:P.Pairwise λa b=>eltB b a=false) (z:M.Pairwise λa b=>eltB b a=false):P=M:=by
 refine sorted_one (cf:=λa b=>if eltB a b=true then -1 else 1) (o.trans w.symm) (v.imp λ{a b} h=>by simp [h]) (z.imp λ{a b} h=>by simp [h]) λx y s r p f=>?_;have p:eltB x y=false:=by
  cases e:eltB x y with
  | false=>rfl
  | true=>simp [e] at p
 have f:eltB y x=false:=by
  cases e:eltB y x with
  | false=>rfl
  | true=>simp [e] at f
 obtain ⟨_,_,q⟩:=elt_tot p f;have s:=o.mem_iff.1 s;have r:=o.mem_iff.1 r;obtain ⟨i,hi,rfl⟩:=tL s;obtain ⟨j,u,rfl⟩:=tL r;have d:=uZ.1 (entL_pw 0 l);rcases pz i j with h | h | h
 ·have:=d i j hi u h;omega
 ·subst h;rfl
 ·have:=d j i u hi h;omega
theorem order_same (d:l.length<=8388600) (q:∀e ∈ l,e.op.path.length<=lim/\e.op.dots.length<=lim):∃L:List GH,xH l=some L/\vn l=some L/\L.Perm l:=by
 obtain ⟨P,p,f,o⟩:=foldOrder_is d q;obtain ⟨M,u,r,s⟩:=ref10_is d;have e:P=M:=ord_uniq f r o s;subst e;refine ⟨_,p,u,?_⟩;have:=f.map (·.e)
 rwa [entL_e] at this
end
section
theorem mget_put (m:List (GE×Int)) (k d:GE) (v:Int):yC GE.eqb 0 (vj GE.eqb m k v) d=if d=k then v else yC GE.eqb 0 m d:=by
 induction m with
 | nil=>simp only [vj,yC,eqb_iff,uj]
 | cons e r ih =>
  simp only [vj,eqb_iff];by_cases h:k=e.1
  ·subst h;by_cases h2:d=e.1 <;> simp [yC,eqb_iff,h2]
  ·by_cases h2:d=e.1
   ·subst h2;simp [yC,eqb_iff,h,Ne.symm h]
   ·simp [yC,eqb_iff,h,h2,ih]
theorem concatDot_is {A B:List GE} (h:A.length+B.length<=16777216):wV [A,B]=some (A++B):=by
 have f:IntKind.wrap .i64 (0+(A.length:Int))=(A.length:Int):=by rw [x9 (by omega)];omega
 have q:IntKind.wrap .i64 ((A.length:Int)+(B.length:Int))=((A.length+B.length:Nat):Int):=by rw [x9 (by omega)];omega
 have p:vR [] ((A.length+B.length:Nat):Int)=some []:=by
  unfold vR;have d:IntKind.wrap .i64 ((0:Int) - ((0:Nat):Int))=0:=rfl;have o:IntKind.wrap .i64 (((A.length+B.length:Nat):Int) - 0)=((A.length+B.length:Nat):Int):=by rw [x9 (by omega)];omega
  rw [d,o,uC (by simp;omega)];by_cases h0:A.length+B.length=0
  ·rw [uC (by simp;omega)]
  ·rw [uv (by simp;omega),zj (by simp [lim];omega)];unfold slc;rw [uv ⟨by omega,by omega,by omega⟩];simp
 unfold wV;simp only [zp,f];rw [uC (by simp)];simp only [q];rw [uC (by simp;omega)];simp only [yB,p,ua];rw [zj (by simp [lim];omega)];simp only [uR];rw [zj (by simp [lim];omega)];simp only [yB]
theorem concatItem_is {A B:List GF} (h:A.length+B.length<=16777216):wc [A,B]=some (A++B):=by
 have f:IntKind.wrap .i64 (0+(A.length:Int))=(A.length:Int):=by rw [x9 (by omega)];omega
 have q:IntKind.wrap .i64 ((A.length:Int)+(B.length:Int))=((A.length+B.length:Nat):Int):=by rw [x9 (by omega)];omega
 have p:vl [] ((A.length+B.length:Nat):Int)=some []:=by
  unfold vl;have d:IntKind.wrap .i64 ((0:Int) - ((0:Nat):Int))=0:=rfl;have o:IntKind.wrap .i64 (((A.length+B.length:Nat):Int) - 0)=((A.length+B.length:Nat):Int):=by rw [x9 (by omega)];omega
  rw [d,o,uC (by simp;omega)];by_cases h0:A.length+B.length=0
  ·rw [uC (by simp;omega)]
  ·rw [uv (by simp;omega),zj (by simp [lim];omega)];unfold slc;rw [uv ⟨by omega,by omega,by omega⟩];simp
 unfold wc;simp only [zp,f];rw [uC (by simp)];simp only [q];rw [uC (by simp;omega)];simp only [yB,p,ua];rw [zj (by simp [lim];omega)];simp only [uR];rw [zj (by simp [lim];omega)];simp only [yB]
def qN (T:List GE):List GF->List GF->List GF
 | _,[]=>[]
 | pre,x::r=>(if x.dot ∈ pre.map (·.dot) \/ x.dot ∈ T then [] else [x])++qN T (pre++[x]) r
theorem firsts_app (T:List GE):∀(A B pre:List GF),qN T pre (A++B)=qN T pre A++qN T (pre++A) B
 | [],B,pre=>by simp [qN]
 | x::A,B,pre=>by
  simp only [tP,qN,firsts_app T A B (pre++[x]),uB,uR]
theorem firsts_new (T:List GE):∀(A pre:List GF),(∀x ∈ A,x.dot ∉ pre.map (·.dot)/\x.dot ∉ T)->(A.map (·.dot)).Nodup->qN T pre A=A
 | [],_,_,_=>rfl
 | x::A,pre,h,hn=>by
  have f:=h x (by simp);simp only [uz,r8] at hn;simp only [qN];rw [uC (by simp only [not_or];exact f),firsts_new T A (pre++[x]) (λy d=>⟨by
   have:=(h y (by simp [d])).1;simp only [tE,uz,tr,uD,ux,not_or];refine ⟨this,λe=>hn.1 ?_⟩;rw [<- e];exact List.mem_map_of_mem d,(h y (by simp [d])).2⟩) hn.2]
  rfl
theorem firsts_old (T:List GE):∀(B pre:List GF),(∀x ∈ B,x.dot ∈ pre.map (·.dot))->qN T pre B=[]
 | [],_,_=>rfl
 | x::B,pre,h=>by
  simp only [qN];rw [uv (.inl (h x (by simp))),firsts_old T B (pre++[x]) (λy d=>by
   have:=h y (by simp [d]);simp only [tE,uD];exact .inl this)]
  rfl
noncomputable def bothF (v1:List GF) (tombs2:List GE):Nat->Nat->List (GE×Int)×List GF->Option (Out (List GF) (List (GE×Int)×List GF)):=(λ(n1:Nat) (_:Nat) (s1:List (GE×Int)×(List GF))=>(((zQ v1 (n1:Int)).bind λy17=>((((if (((yC GE.eqb (0:Int) (vj GE.eqb s1.1 y17.dot (IntKind.wrap .i64 ((yC GE.eqb (0:Int) s1.1 y17.dot)+(1:Int)))) y17.dot)==(1:Int))==true)=true then y8 tombs2 y17.dot else some default).bind λv22=>(if (((yC GE.eqb (0:Int) (vj GE.eqb s1.1 y17.dot (IntKind.wrap .i64 ((yC GE.eqb (0:Int) s1.1 y17.dot)+(1:Int)))) y17.dot)==(1:Int))&&(!v22))=true then (yl ((s1.2).length+(([y17]:List GF)).length<=lim) (some ((vj GE.eqb s1.1 y17.dot (IntKind.wrap .i64 ((yC GE.eqb (0:Int) s1.1 y17.dot)+(1:Int)))),(s1.2++([y17]:List GF))))) else some ((vj GE.eqb s1.1 y17.dot (IntKind.wrap .i64 ((yC GE.eqb (0:Int) s1.1 y17.dot)+(1:Int)))),s1.2))):Option (List (GE×Int)×(List GF))).bind λv18=>some (.nxt (v18.1,v18.2)))):Option (Out _ (List (GE×Int)×(List GF)))))
theorem both_eq (a0 o:List GF) (d:List GE):fuseXboth a0 o d=((wc ([a0,o]:List (List GF))).bind λf=>(yl ((((f).length:Nat):Int)<=9223372036854775807) (lp (zp (bothF f d) (List.range (((((f).length:Nat):Int)).toNat)) 0 (([]:List (GE×Int)),([]:List GF))) λ(p:List (GE×Int)×(List GF))=>((qY (λx y=>qq x y) p.2).bind λv25=>some v25)))):=rfl
theorem bothF_run {V:List GF} {T:List GE} (v:V.length<=16777216):∀(R:List Nat) (pre rest:List GF) (m:List (GE×Int)) (acc:List GF),V=pre++rest->R.length=rest.length->(∀d,yC GE.eqb 0 m d=(((pre.map (·.dot)).count d:Nat):Int))->acc.length<=pre.length ->
  ∃r,zp (bothF V T) R pre.length (m,acc)=some (.inr (r,acc++qN T pre rest))
 | [],pre,rest,m,acc,h,hr,_,_=>by
  have:rest=[]:=uF hr.symm;subst this;exact ⟨m,by simp [zp,qN]⟩
 | z::R,pre,[],m,acc,h,hr,_,_=>by simp at hr
 | z::R,pre,x::rest,m,acc,h,hr,hm,ha=>by
  simp only [uu] at hr;have u:V.length=pre.length+(rest.length+1):=by rw [h];simp
  have hi:zQ V (pre.length:Int)=some x:=by
   rw [qM (by omega)];subst h;simp
  have D:(pre.map (·.dot)).count x.dot<=pre.length:=by
   have:=List.count_le_length (a:=x.dot) (l:=pre.map (·.dot));simpa using this
  have w:IntKind.wrap .i64 ((((pre.map (·.dot)).count x.dot:Nat):Int)+1)=(((pre.map (·.dot)).count x.dot+1:Nat):Int):=xL (by omega);have q:∀d,yC GE.eqb 0 (vj GE.eqb m x.dot (((pre.map (·.dot)).count x.dot+1:Nat):Int)) d=((((pre++[x]).map (·.dot)).count d:Nat):Int):=λd=>by
   rw [mget_put];simp only [tE,uz,tr,List.count_append,List.count_singleton];by_cases e:d=x.dot
   ·subst e;simp
   ·rw [uC e,hm d];have:(x.dot==d)=false:=by rw [sH];exact λh=>e h.symm
    simp [this]
  have f:(pre++[x]).length=pre.length+1:=by simp
  have o:bothF V T pre.length z (m,acc)=some (.nxt (vj GE.eqb m x.dot (((pre.map (·.dot)).count x.dot+1:Nat):Int),acc++(if x.dot ∈ pre.map (·.dot) \/ x.dot ∈ T then [] else [x]))):=by
   unfold bothF;simp only [hi,ua,hm,w,mget_put,ur];by_cases h0:x.dot ∈ pre.map (·.dot)
   ·have:0 < (pre.map (·.dot)).count x.dot:=List.count_pos_iff.2 h0;have p:((((pre.map (·.dot)).count x.dot+1:Nat):Int)==(1:Int))=false:=by rw [sH];omega
    rw [p,uC (by simp),ua,uC (by simp),uv (.inl h0)];simp
   ·have:(pre.map (·.dot)).count x.dot=0:=List.count_eq_zero.2 h0;rw [this];have C:(((0+1:Nat):Int)==(1:Int))=true:=rfl;rw [C,uP,uv rfl,containsDot_is,ua,uU];by_cases hT:x.dot ∈ T
    ·have:(T.any λy=>decide (y=x.dot))=true:=by simpa using hT
     rw [this,uC (by simp),uv (.inr hT)];simp
    ·have:(T.any λy=>decide (y=x.dot))=false:=by
      rw [t6];intro y B;simp only [uj]
      rintro rfl
      exact hT B
     rw [this,uv (by simp),zj (by simp [lim];omega),uC (by simp only [not_or];exact ⟨h0,hT⟩)];simp
  obtain ⟨r,s⟩:=bothF_run v R (pre++[x]) rest _ (acc++(if x.dot ∈ pre.map (·.dot) \/ x.dot ∈ T then [] else [x])) (by rw [h];simp) (by omega) q (by rw [f,uo];split <;> simp <;> omega);refine ⟨r,?_⟩;simp only [zp,o,qN];rw [f] at s;rw [s,uB]
theorem leSwo {x y:GF}:qq x y=some (if yc x y=true then -1 else 1):=by
 unfold qq;rw [vG,ua];show (if yc x y=true then some (-1:Int) else some 1)=_;split <;> rfl
theorem both_self {L:List GF} (B:L.length<=8388608) (w:L.Pairwise λa b=>yc a b=true) (r:(L.map (·.dot)).Nodup) (u:∀x ∈ L,x.dot ∉ T):fuseXboth L L T=some L:=by
 rw [both_eq,concatItem_is (by omega),ua,zj (by simp;omega)];obtain ⟨z,e⟩:=bothF_run (V:=L++L) (T:=T) (by simp;omega) (List.range ((((L++L).length:Nat):Int)).toNat) [] (L++L) [] [] rfl (by simp;omega) (λd=>rfl) (by simp);have v:qN T [] (L++L)=L:=by
  rw [firsts_app,firsts_new T L [] (λx f=>⟨by simp,u x f⟩) r,firsts_old T L ([]++L) (λx f=>List.mem_map_of_mem f),sq]
 rw [v,uR] at e;have e:zp (bothF (L++L) T) (List.range ((((L++L).length:Nat):Int)).toNat) 0 ([],[])=some (.inr (z,L)):=e;rw [e,yB];dsimp only;have o:∀{x y:GF},x ∈ L->y ∈ L->x.dot=y.dot->x=y:=λ{x y} f p e=>by
  obtain ⟨i,hi,rfl⟩:=tL f;obtain ⟨j,s,rfl⟩:=tL p;have q:=uZ.1 r;rcases pz i j with h | h | h
  ·exact absurd (by rw [ru,ru];exact e) (q i j (by simpa using hi) (by simpa using s) h)
  ·subst h;rfl
  ·exact absurd (by rw [ru,ru];exact e.symm) (q j i (by simpa using s) (by simpa using hi) h)
 rw [sortO_lt (cf:=λx y=>if yc x y=true then -1 else 1) (lt:=λx y=>yc x y=true) (L:=L) (R:=L) (λx _ y _=>leSwo) (λx y=>by split <;> simp_all) (λx h=>by rw [ilt_irr] at h;cases h) (λ_ _ _=>ilt_tr) (λx f y p=>?_) (.refl _) w (by simp [lim];omega)]
 ·rfl
 ·by_cases e:x.dot=y.dot
  ·exact .inl (o f p e)
  ·exact .inr (ilt_tot e)
theorem dd_self (h:T.Pairwise λa b=>ye a b=true):dd (srt (T++T))=T:=by
 refine strict_ext (lt:=λa b=>ye a b=true) (λa h=>by rw [dlt_irr] at h;cases h) (λ_ _ _=>dlt_tr) _ _ (dd_strict (lt:=λa b=>ye a b=true) (λa b h=>?_) (λ_ _ _=>dlt_tr) _ (srt_pw _)) h λx=>?_
 ·rcases dlt_tot a b with d | d | d
  ·exact .inl d
  ·exact .inr d
  ·exact absurd d h
 ·rw [dd_mem,(srt_perm _).mem_iff];simp
theorem fuse_self {l:GC} (h:leafB l=true) (D:GC.wf l) (hi:l.items.length<=8388608) (v:l.tombs.length<=8388608):vI l l l=some (l,0):=by
 have q:qI l=some true:=by rw [leafMay_is (uJ hi (by decide)) (uJ v (by decide)),h]
 unfold vI;rw [q];simp only [ua,tn,uP,ur,rO,uk,uH,sR];have K:=h;unfold leafB at h;split at h
 ·rename_i d;simp only [ud,uj] at h;rw [d];have:vH l l l=some l:=by
   unfold vH;have G:IntKind.wrap .i64 (l.n - l.n)=0:=by rw [Int.sub_self];rfl
   have C:IntKind.wrap .i64 (l.n+0)=l.n:=by
    rw [Int.add_zero,x9];obtain ⟨_,s,_⟩:=D;exact ⟨s.1,s.2⟩
   rw [G,C]
  rw [show zQ ([0,1,2,3,4]:List Nat) (1:Int)=some 1 from rfl,ua];show ((vH l l l).bind _)=_;rw [this];rfl
 split at h
 ·rename_i d f;rw [f];have:va l l l=some l:=by
   unfold va;simp only [vG];by_cases e:l.time=0
   ·simp [e]
   ·have H:(l.time==0)=false:=by rw [sH];exact e
    have I:(l.time != 0)=true:=by simp [e]
    simp [H,I]
  rw [show zQ ([0,1,2,3,4]:List Nat) (2:Int)=some 2 from rfl,ua];show ((va l l l).bind _)=_;rw [this];rfl
 split at h
 ·rename_i d f r;simp only [ud,uj,zeroB,tombsB,onceB] at h;obtain ⟨⟨⟨B,⟨w,z3⟩,z4⟩,⟨F,o⟩,p⟩,⟨J,u⟩,t3⟩:=h;rw [r];have hd:=dd_self (rising_pw u);have z:∀x ∈ l.items,x.dot ∉ l.tombs:=λx E q=>by
   rw [uq] at t3;have:=t3 _ q;simp only [tH,t6,uj] at this;exact this x E rfl
  have:fuseXset l l l=some l:=by
   unfold fuseXset;rw [concatDot_is (by omega),ua,sortDots_is (by simp [lim];omega),ua,compact_is (by rw [(srt_perm _).length_eq];simp;omega),ua,hd,both_self hi (rise_pw o) p z,ua];cases l
   simp_all [dot0]
  rw [show zQ ([0,1,2,3,4]:List Nat) (3:Int)=some 3 from rfl,ua];show ((fuseXset l l l).bind _)=_;rw [this];rfl
 split at h
 ·rename_i d f r y;simp only [ud,uj,zeroB,onceB] at h;obtain ⟨⟨⟨B,⟨w,z3⟩,z4⟩,z5⟩,⟨F,o⟩,p⟩:=h;rw [y];have:fuseXlog l l l=some l:=by
   unfold fuseXlog;rw [both_self hi (rise_pw o) p (λ_ _=>by simp),ua];cases l
   simp_all [dot0]
  rw [show zQ ([0,1,2,3,4]:List Nat) (4:Int)=some 4 from rfl,ua];show ((fuseXlog l l l).bind _)=_;rw [this];rfl
 ·cases h
end
section
noncomputable def threeF (l0 a1 b2:GA):List GC×Int->Option (Out (List GC) (List GC×Int)):=(λ(s1:(List GC)×Int)=>((if (decide (s1.2<=(4:Int)))=true then ((xM l0 s1.2).bind λv20=>((xM a1 s1.2).bind λv21=>((xM b2 s1.2).bind λv22=>(if ((v20.2 || v21.2) || v22.2)=true then ((vI v20.1 v21.1 v22.1).bind λv24=>(yl ((s1.1).length+(([v24.1]:List GC)).length<=lim) (some (.nxt ((s1.1++([v24.1]:List GC)),(IntKind.wrap .u8 (s1.2+(1:Int)))))))) else some (.nxt (s1.1,(IntKind.wrap .u8 (s1.2+(1:Int))))))))) else some (.brk (s1.1,s1.2))):Option (Out _ ((List GC)×Int))))
theorem three_eq (o d f:GA):treeXthree o d f=(lp (zZ (threeF o d f) (([]:List GC),(1:Int))) λ(p:(List GC)×Int)=>some p.1):=rfl
theorem names0 (d:upB t=true) (f:t.length<=16777216):treeNames t []=some (t.map (·.name)):=by
 unfold treeNames;rw [lin_walk];simp only [yB,subsAt];rw [app_loop (λx:GA=>x.name) _ 0 [] (by simpa using f)];simp only [yB,uR];rw [sortS_is (by simp [lim];omega),srtQ_up,ua];exact py.2 ((qw _).1 d)
theorem names_self (d:upB t=true) (o:t.length<=5592405):treeXnames [t,t,t]=some (t.map (·.name)):=by
 have f:(t.map (·.name)).Pairwise λa b=>Op.bytesLess a b=true:=py.2 ((qw _).1 d);unfold treeXnames;simp only [zp,names0 d (by omega),ua];rw [zj (by simp [lim];omega)];simp only [uR];rw [zj (by simp [lim];omega)];simp only [];rw [zj (by simp [lim];omega)];simp only [yB];rw [sortS_is (by simp [lim];omega),ua,compact_isQ (by rw [(srtQ_perm _).length_eq];simp;omega),ua,onces_eq];congr 1;refine strict_ext (lt:=λa b=>Op.bytesLess a b=true) (λa h=>by rw [vq] at h;cases h) (λ_ _ _=>xG) _ _ (oncesQ_pw _ (by simp)) f λx=>?_;rw [oncesQ_mem];simp
theorem node_self (h:upB t=true) {x:GA} (o:x ∈ t):nodeOf t x.name=some x:=by
 have d:=uZ.1 ((qw t).1 h);cases e:nodeOf t x.name with
 | none =>
  have:=sA.1 e x o;simp at this
 | some y =>
  have q:=sx e;have p:y.name=x.name:=by simpa using List.find?_some e
  obtain ⟨i,hi,rfl⟩:=tL o;obtain ⟨j,f,rfl⟩:=tL q;rcases pz i j with h | h | h
  ·have:=d i j hi f h;rw [p,vq] at this;cases this
  ·subst h;rfl
  ·have:=d j i f hi h;rw [p,vq] at this;cases this
def pick (ls:List GC) (k:Int):List GC:=(ls.find? λl=>l.typ==k).toList
theorem mem_pick {ls:List GC} (h:ls.Pairwise λx y=>x.typ < y.typ) {k:Int} {x:GC}:x ∈ pick ls k ↔ x ∈ ls/\x.typ=k:=by
 unfold pick;cases e:ls.find? λl=>l.typ==k with
 | none =>
  have:=sA.1 e;simp only [Option.toList_none,List.not_mem_nil,false_iff,not_and];intro f d;exact this x f (by simpa using d)
 | some y =>
  have o:=sx e;have d:y.typ=k:=by simpa using List.find?_some e
  simp only [Option.toList_some,ux];exact ⟨λh=>by subst h;exact ⟨o,d⟩,λf=>ups_inj h f.1 o (f.2.trans d.symm)⟩
theorem pick_pw (ls:List GC) (k:Int):(pick ls k).Pairwise λx y=>x.typ < y.typ:=by
 unfold pick;cases ls.find? λl=>l.typ==k <;> simp
theorem picks {ls:List GC} (h:ls.Pairwise λx y=>x.typ < y.typ) (o:∀l ∈ ls,1<=l.typ/\l.typ<=4):pick ls 1++pick ls 2++pick ls 3++pick ls 4=ls:=by
 refine strict_ext (lt:=λx y:GC=>x.typ < y.typ) (λa h=>by omega) (λa b c r q=>by omega) _ _ ?_ h λx=>?_
 ·have m:=λk=>@mem_pick ls h k;simp only [u9,pick_pw,true_and,uD,m];refine ⟨⟨?_,?_⟩,?_⟩
  ·rintro a ⟨_,d⟩ b ⟨_,f⟩;omega
  ·rintro a (⟨_,d⟩ | ⟨_,d⟩) b ⟨_,f⟩ <;> omega
  ·rintro a ((⟨_,d⟩ | ⟨_,d⟩) | ⟨_,d⟩) b ⟨_,f⟩ <;> omega
 ·simp only [uD,mem_pick h];constructor
  ·rintro (((h | h) | h) | h) <;> exact h.1
  ·intro p;have:=o x p;have:x.typ=1 \/ x.typ=2 \/ x.typ=3 \/ x.typ=4:=by omega
   grind
theorem leaf_at (F:∀l ∈ x.leaves,LeafOk l) {k:Int} (u:1<=k/\k<=4):xM x k=some (match x.leaves.find? (λl=>l.typ==k) with | some l=>(l,true) | none=>(vV k,false)):=by
 have p:=tl_walk [x.name] 0 [x] (decide ((([x.name]:List zu).length:Int) > 0),([]:zu),([]:List GC),([]:List GA)) (by simp);have G:wC [x] [x.name]=some x:=by simp [wC,nodeOf]
 rw [G] at p;simp only at p;unfold xM;rw [tl_eq,p];simp only [yB];unfold tlR yu;rcases first_is (q:=λy:GC=>y.typ==k) (del:=λv=>treeLeafC1 v k) x.leaves 0 (λx _=>rfl) with ⟨s,o⟩ | ⟨A,y,B,d,o,w,s⟩
 ·have:x.leaves.find? (λl=>l.typ==k)=none:=sA.2 λy r=>by rw [o y r];simp
  rw [this];simp only [s,yB,ua,leafNew_is u];simp
 ·have r:y ∈ x.leaves:=by rw [d];simp
  have E:x.leaves.find? (λl=>l.typ==k)=some y:=by
   rw [d,List.find?_append];have:A.find? (λl=>l.typ==k)=none:=sA.2 λz D=>by rw [w z D];simp
   rw [this,Option.none_or,pc,o]
  rw [E];have f:=F y r;have C:((!true) || (decide (((A.length:Nat):Int) < (0:Int))))=false:=by simp
  have H:y.typ=k:=by simpa using o
  simp only [s,lp,ua,tA,C,uP,ur,leafNew_is u,tj];rw [uC (by simp [vV];omega),d,zB (x:=y) (by simp),ua,qS (yV (sS f.items)),ua,qr (yV (sS f.tombs)),ua];rfl
theorem three_step (q:∀l ∈ x.leaves,LeafOk l) (f:∀l ∈ x.leaves,vI l l l=some (l,0)) {k k':Int} (o:1<=k/\k<=4) (p:k+1=k') {acc:List GC} (r:acc.length<=10):threeF x x x (acc,k)=some (.nxt (acc++pick x.leaves k,k')):=by
 have d:IntKind.wrap .u8 (k+1)=k':=by
  rw [IntKind.wrap_u8];omega
 unfold threeF pick;simp only [leaf_at q o,d];rw [uv (by simp;omega)];cases e:x.leaves.find? (λl=>l.typ==k) with
 | none=>simp
 | some l =>
  simp only [ua,rO,ur,f l (sx e)];rw [zj (by simp [lim];omega)];rfl
theorem pick_len (ls:List GC) (k:Int):(pick ls k).length<=1:=by
 unfold pick;cases ls.find? λl=>l.typ==k <;> simp
theorem three_self (o:∀l ∈ x.leaves,LeafOk l) (f:∀l ∈ x.leaves,vI l l l=some (l,0)) (r:x.leaves.Pairwise λa b=>a.typ < b.typ) (v:∀l ∈ x.leaves,1<=l.typ/\l.typ<=4):treeXthree x x x=some x.leaves:=by
 have s:=pick_len x.leaves 1;have u:=pick_len x.leaves 2;have y:=pick_len x.leaves 3;have d:=picks r v;have w:∀A,threeF x x x (A,5)=some (.brk (A,5)):=λA=>rfl;generalize h1:pick x.leaves 1=P1 at s d;generalize h2:pick x.leaves 2=P2 at u d;generalize h3:pick x.leaves 3=P3 at y d;generalize h4:pick x.leaves 4=P4 at d;have q:=three_step o f (k:=1) (k':=2) (by omega) (by omega) (acc:=[]) (by simp);have s2:=three_step o f (k:=2) (k':=3) (by omega) (by omega) (acc:=[]++P1) (by simp;omega);have p:=three_step o f (k:=3) (k':=4) (by omega) (by omega) (acc:=[]++P1++P2) (by simp;omega);have s4:=three_step o f (k:=4) (k':=5) (by omega) (by omega) (acc:=[]++P1++P2++P3) (by simp;omega);rw [h1] at q;rw [h2] at s2;rw [h3] at p;rw [h4] at s4;rw [three_eq,yI,q];simp only [];rw [yI,s2];simp only [];rw [yI,p];simp only [];rw [yI,s4];simp only [];rw [yI,w];simp only [yB,uR];rw [d]
theorem loop_names {ρ:Type} {f:Nat->zu->List GA->Option (Out ρ (List GA))}:∀(t:List GA) (i:Nat) (s:List GA),s.length+t.length<=lim->(∀x ∈ t,∀(i:Nat) (s:List GA),s.length+1<=lim->f i x.name s=some (.nxt (s++[x])))->zp f (t.map (·.name)) i s=some (.inr (s++t))
 | [],i,s,_,_=>by simp [zp]
 | x::t,i,s,hl,h=>by
  simp only [uu] at hl;simp only [uz,zp,h x (by simp) i s (by omega)];rw [loop_names t (i+1) (s++[x]) (by simp;omega) λy d=>h y (by simp [d])];simp
theorem mergedN_self:∀(n:Nat) (t:List GA) (d:Nat),GA.deps t < n->Small t->GA.bks t<=5592405->treeB d t=true->x4 n t t t=some t
 | 0,_,_,h,_,_,_=>by omega
 | n+1,t,d,h,hs,hb,ht=>by
  obtain ⟨r,z⟩:=zP ht;have o:t.length<=5592405:=uJ (len_bks t) hb;unfold x4;rw [names_self r o,ua,loop_names t 0 [] (by simp [lim];omega)]
  ·simp
  ·intro x p i s y;have B:=z x p;rw [nodeB_eq] at B;simp only [ud] at B;obtain ⟨⟨⟨_,_⟩,v⟩,C⟩:=B;have E:=qR p;have F:=wt x;have G:=bk_mem p;have L:=bk_node x;obtain ⟨q,u⟩:=ql C;have K:((x.leaves.map GC.bk).sum)<=GA.bks t:=by omega
   have D:∀l ∈ x.leaves,l.bk<=5592405:=λl o=>by
    have:=sum_mem (f:=GC.bk) o;omega
   have H:∀l ∈ x.leaves,LeafOk l:=λl o=>hs.leaf p o;have w:∀l ∈ x.leaves,GC.wf l:=λl o=>by
    have:=(GA.wfs_iff t).1 hs.1 x p;cases x;simp only [GA.wf] at this;exact this.2.1.2 l o
   have J:∀l ∈ x.leaves,vI l l l=some (l,0):=λl o=>by
    have N:=leaf_lens l;have M:=D l o;exact fuse_self (u l o) (w l o) (by omega) (by omega)
   have I:∀l ∈ x.leaves,1<=l.typ/\l.typ<=4:=λl o=>by
    have:=u l o;unfold leafB at this
    grind
   rw [linear_is,node_self r p];simp only [ua];rw [three_self H J q I,ua,mergedN_self n x.subs (d+1) (by omega) (hs.subs p) (by omega) v,ua,zj (by simpa using y)];cases x;rfl
theorem merge_self (hs:Small t) (o:GA.bks t<=5592405) (d:treeB 0 t=true):treeMerge t t t=some (t,0):=by
 have f:qx t=some true:=by rw [treeMay_is hs,d]
 unfold treeMerge treeXmerged;rw [f];simp only [ua,tn,uP,ur,rO,uk,uH];rw [qT (GA.deps t+1) λn p=>mergedN_self n t 0 (by omega) hs o d];rfl
end
section
noncomputable def appP:Nat->GH->List GA->Option (Out ((List GA)×Int) (List GA)):=(λ(n2:Nat) (x2:GH) (s2:(List GA))=>(((treeApply s2 x2).bind λv22=>(if (v22.2 != (0:Int))=true then some (.ret (([]:List GA),v22.2)) else some (.nxt v22.1))):Option (Out _ (List GA))))
theorem fold_eq (t0:List GA) (d:List GH):foldFold t0 d=((qx t0).bind λq=>((if ((!q)==false)=true then yR d (λs=>foldFoldC1 s) else some default).bind λu=>(if ((!q) || u)=true then some (([]:List GA),(2:Int)) else (lp (zp (λ(v:Nat) (r:GH) (f:List (GE×Int))=>(some (.nxt (vj GE.eqb f r.dot (IntKind.wrap .i64 ((yC GE.eqb (0:Int) f r.dot)+(1:Int))))):Option (Out _ (List (GE×Int))))) d 0 ([]:List (GE×Int))) λ(f:List (GE×Int))=>(if (decide (((f).length:Int) < ((d).length:Int)))=true then some (([]:List GA),(8:Int)) else ((treeMerge t0 t0 t0).bind λp=>((xH d).bind λo=>(lp (zp appP o 0 p.1) λ(s2:(List GA))=>some (s2,(0:Int)))))))))):=rfl
noncomputable def mayF:Nat->GH->Unit->Option (Out ((List GA)×Int) Unit):=(λ(n1:Nat) (x1:GH) (s1:Unit)=>(((x7 x1).bind λv11=>(if (!v11)=true then some (.ret (([]:List GA),(2:Int))) else some (.nxt ()))):Option (Out _ Unit)))
noncomputable def dupI (l1:List GH) (x2:GH):Nat->Nat->Unit->Option (Out (Out ((List GA)×Int) Unit) Unit):=(λ(n3:Nat) (x3:Nat) (s3:Unit)=>(((zQ l1 (n3:Int)).bind λy32=>(if (y32.dot.actor.rep==x2.dot.actor.rep&&(y32.dot.actor.inc==x2.dot.actor.inc&&(y32.dot.seq==x2.dot.seq&&true)))=true then some (.ret (.ret (([]:List GA),(8:Int)))) else some (.nxt ()))):Option (Out _ Unit)))
noncomputable def dupO (l1:List GH):Nat->GH->Unit->Option (Out ((List GA)×Int) Unit):=(λ(n2:Nat) (x2:GH) (s2:Unit)=>((yl ((n2:Int)<=9223372036854775807) (lp (zp (dupI l1 x2) (List.range (((n2:Int)).toNat)) 0 ()) λ(s3:Unit)=>some (.nxt ()))):Option (Out _ Unit)))
noncomputable def appF:Nat->GH->List GA->Option (Out ((List GA)×Int) (List GA)):=(λ(n3:Nat) (x3:GH) (s3:(List GA))=>(((qc s3 x3).bind λv44=>(if (v44.2 != (0:Int))=true then some (.ret (([]:List GA),v44.2)) else some (.nxt v44.1))):Option (Out _ (List GA))))
theorem rfold_eq (t0:List GA) (d:List GH):ref10Fold t0 d=((ref07May t0).bind λp=>(if (!p)=true then some (([]:List GA),(2:Int)) else (lp (zp mayF d 0 ()) λ(q:Unit)=>(lp (zp (dupO d) d 0 ()) λ(s2:Unit)=>((vn d).bind λf=>(lp (zp appF f 0 t0) λ(o:(List GA))=>some (o,(0:Int)))))))):=rfl
theorem containsEvent_is {f:GH->Option Bool} {q:GH->Bool} (p:List GH) (d:∀x ∈ p,f x=some (q x)):yR p f=some (p.any q):=by
 unfold yR wr;rw [first_loop p d,ua,firstI_any]
structure FineK (k:Nat) (t:List GA):Prop where
 small:Small t
 tree:treeB 0 t=true
 ws:wS 0 (zx [] t)<=300000+200000 * k
 leaf:∀r ∈ zx [] t,r.leaf.bk<=150000+1000 * k
theorem FineK.fine (h:FineK k t) (f:k<=40):Fine t:=⟨h.small,h.tree,by have:=h.ws;omega,λr d=>by have:=h.leaf r d;omega⟩
theorem bd_up {x:Nat} (h:x<=150000+1000 * k):x<=150000+1000 * (k+1):=by omega
theorem bd_one {x:Nat} (h:x<=150000+1000 * k):x+1000<=150000+1000 * (k+1):=by omega
theorem bd_lim (h:k < 40):300000+200000 * (k+1)<=16777216:=by omega
theorem bd_ws {w b p:Nat} (f:k < 40) (h:w<=300000+200000 * k) (o:b<=150000+1000 * (k+1)) (d:p<=3):w+(b+17 * (p - 0)+0)<=300000+200000 * (k+1):=by omega
theorem app_both (h:FineK k t) (E:k < 40) (s:eventB e=true) (H:GH.wf e):∃u,treeApply t e=some (u,0)/\qc t e=some (u,0)/\FineK (k+1) u:=by
 have z:=h.fine (by omega);have d:=evOk s;obtain ⟨P,K,U⟩:=qk d.path;obtain ⟨u,l,b,L,J,Q,F,N,Z,_,Y,R⟩:=apply_is z s H;obtain ⟨l',V,B,_,g3,X,g5,I,_,O⟩:=leaf_both z P (type_range d.kind);rw [N] at B;simp only [ui,t7] at B;obtain ⟨rfl,rfl⟩:=B;have C:l.bk<=150000+1000 * k:=by
  rcases O with ⟨_,f⟩ | ⟨_,f,_⟩
  ·exact h.leaf _ f
  ·subst f;simp only [vV,GC.bk,GE.bk,GJ.bk,tr,List.sum_nil,uV];omega
 have q:l.bk+1000<=150000+1000 * (k+1):=bd_one C;have p:=applyP_bk (l:=l) s;have w:=leaf_lens l;have y:=applyP_wf I s H (by omega) (by omega);have v:=h.ws;have G:=z.len;have o:∀r ∈ zx [] u,r ∈ zx [] t++[(⟨e.op.path,xf l e⟩:GL)]:=λr f=>by
  rcases (R r).1 f with f | f
  ·simp [f.1]
  ·simp [f]
 have D:wS 0 (zx [] t++[(⟨e.op.path,xf l e⟩:GL)])<=300000+200000 * (k+1):=by
  rw [wS_app];simp only [wS];exact bd_ws E v (uJ p q) K
 obtain ⟨W,S⟩:=rows_small (M:=zx [] t++[(⟨e.op.path,xf l e⟩:GL)]) F (uJ D (bd_lim E)) (by simp;omega) (λr f=>by
  rcases uD.1 f with f | f
  ·exact rows_wf t [] h.small.1 r f
  ·rw [ux] at f;subst f;exact y) o
 refine ⟨u,L,J,Q,F,uJ S D,λr f=>?_⟩;rcases uD.1 (o r f) with f | f
 ·exact bd_up (h.leaf r f)
 ·rw [ux] at f;subst f;exact uJ p q
theorem app_run:∀(L:List GH) (i k:Nat) (t:List GA),FineK k t->k+L.length<=40->(∀e ∈ L,eventB e=true/\GH.wf e)->∃u,zp appP L i t=some (.inr u)/\zp appF L i t=some (.inr u)/\Small u
 | [],i,k,t,h,_,_=>⟨t,rfl,rfl,h.small⟩
 | e::L,i,k,t,h,hk,he=>by
  simp only [uu] at hk;obtain ⟨u,o,f,q⟩:=app_both h (by omega) (he e (by simp)).1 (he e (by simp)).2;obtain ⟨w,p,s,r⟩:=app_run L (i+1) (k+1) u q (by omega) λx y=>he x (by simp [y]);have d:appP i e t=some (.nxt u):=by unfold appP;simp [o]
  have v:appF i e t=some (.nxt u):=by unfold appF;simp [f]
  exact ⟨w,by simp only [zp,d,p],by simp only [zp,v,s],r⟩
theorem seen_is (l:List GH):∃m:List (GE×Int),zp (λ(o:Nat) (d:GH) (f:List (GE×Int))=>(some (.nxt (vj GE.eqb f d.dot (IntKind.wrap .i64 ((yC GE.eqb (0:Int) f d.dot)+(1:Int))))):Option (Out ((List GA)×Int) (List (GE×Int))))) l 0 ([]:List (GE×Int))=some (.inr m)/\m.length<=l.length/\(m.length=l.length ↔ (l.map (·.dot)).Nodup):=by
 refine ⟨_,loopL_fold (λs x=>vj GE.eqb s x.dot (IntKind.wrap .i64 ((yC GE.eqb 0 s x.dot)+1))) l 0 [] (λ_ _ _ _=>rfl),?_⟩;have h:=twice_fold (l.map λe=>(⟨0,e.dot,[]⟩:GF)) [] (by simp [qJ]);simp only [uV,tA,qJ,tr,uR,List.foldl_map,s6,ul] at h;exact h
theorem dupI_run {l:List GH} {x:GH}:∀(R:List Nat) (k:Nat),k+R.length<=l.length->zp (dupI l x) R k ()=if (((l.drop k).take R.length).any λy=>decide (y.dot=x.dot))=true then some (.inl (.ret (([]:List GA),(8:Int)))) else some (.inr ())
 | [],k,_=>by simp [zp]
 | z::R,k,h=>by
  simp only [uu] at h;have e:dupI l x k z ()=if l[k].dot=x.dot then some (.ret (.ret (([]:List GA),(8:Int)))) else some (.nxt ()):=by
   unfold dupI;simp only [qM (show k < l.length by omega),ua];rcases l[k].dot with ⟨⟨a,b⟩,c⟩
   rcases x.dot with ⟨⟨f,o⟩,d⟩
   simp [sI]
  have hd:(l.drop k).take (R.length+1)=l[k]::(l.drop (k+1)).take R.length:=by
   rw [su (by omega),sF]
  simp only [zp,e,uu,hd,rU];by_cases h0:l[k].dot=x.dot
  ·simp [h0]
  ·simp only [h0,uH,s9,tj];exact dupI_run R (k+1) (by omega)
theorem dupO_step {x:GH} (o:n<=l.length) (f:l.length<=1000000):dupO l n x ()=if x.dot ∈ (l.take n).map (·.dot) then some (.ret (([]:List GA),(8:Int))) else some (.nxt ()):=by
 unfold dupO;rw [zj (by omega),dupI_run _ 0 (by simp;omega)];simp only [sf,List.length_range,ut];by_cases h:x.dot ∈ (l.take n).map (·.dot)
 ·have:((l.take n).any λy=>decide (y.dot=x.dot))=true:=by
   obtain ⟨y,d,e⟩:=tZ.1 h;exact ry.2 ⟨y,d,by simpa using e⟩
  rw [uv this,uv h];rfl
 ·have:((l.take n).any λy=>decide (y.dot=x.dot))=false:=by
   rw [t6];intro y d;simp only [uj];intro e;exact h (tZ.2 ⟨y,d,e⟩)
  rw [uC (by rw [this];simp),uC h];rfl
theorem dupO_run {l:List GH} (f:l.length<=1000000):∀(rest pre:List GH),l=pre++rest->(pre.map (·.dot)).Nodup->zp (dupO l) rest pre.length ()=if (l.map (·.dot)).Nodup then some (.inr ()) else some (.inl (([]:List GA),(8:Int)))
 | [],pre,h,hp=>by
  rw [sq] at h;subst h;rw [uv hp];rfl
 | x::rest,pre,h,hp=>by
  have e:=dupO_step (l:=l) (n:=pre.length) (x:=x) (by rw [h];simp) f;have d:l.take pre.length=pre:=by rw [h];simp
  rw [d] at e;simp only [zp,e];by_cases hx:x.dot ∈ pre.map (·.dot)
  ·rw [uv hx,uC];intro p;rw [h,tE,uz] at p;have:=(List.nodup_append.1 p).2.2 _ hx x.dot (by simp);exact this rfl
  ·rw [uC hx];have:=dupO_run f rest (pre++[x]) (by rw [h];simp) (by
    rw [tE,List.nodup_append];refine ⟨hp,by simp,?_⟩;intro a q b o;simp only [uz,tr,ux] at o;subst o
    rintro rfl
    exact hx q)
   simpa using this
theorem mayF_run:∀(l:List GH) (i:Nat),zp mayF l i ()=if (l.any λe=>!eventB e)=true then some (.inl (([]:List GA),(2:Int))) else some (.inr ())
 | [],i=>rfl
 | e::l,i=>by
  have h:mayF i e ()=if eventB e=true then some (.nxt ()) else some (.ret (([]:List GA),(2:Int))):=by
   unfold mayF;rw [ref04MayEvent_is,ua];cases eventB e <;> simp
  simp only [zp,h,rU];by_cases he:eventB e=true
  ·simp only [he,ur,tn,tj];exact mayF_run l (i+1)
  ·simp [he]
theorem fold_same (hs:Small t) (F:GA.bks t<=1048576) (y:treeB 0 t=true->FineK 0 t) (G:l.length<=40) (w:∀e ∈ l,GH.wf e) (B:∀e ∈ l,e.op.path.length<=lim/\e.op.dots.length<=lim):∃u x,foldFold t l=some (u,x)/\ref10Fold t l=some (u,x)/\Small u:=by
 rw [fold_eq,rfold_eq,treeMay_is hs,ref07May_is hs];simp only [ua];cases ht:treeB 0 t with
 | false=>exact ⟨[],2,by simp,by simp,small_nil⟩
 | true =>
  have p:=y ht;rw [containsEvent_is (q:=λe=>!eventB e) l (λe _=>by unfold foldFoldC1;rw [opMayEvent_is];rfl),mayF_run];simp only [tn,uP,ur,ua,tj,uk,uH];cases hm:l.any λe=>!eventB e with
  | true=>exact ⟨[],2,by simp,by simp [lp],small_nil⟩
  | false =>
   have f:∀e ∈ l,eventB e=true:=λe h=>by
    have:=t6.1 hm e h;simpa using this
   obtain ⟨m,z,E,r⟩:=seen_is l;have d:zp (dupO l) l 0 ()=if (l.map (·.dot)).Nodup then some (.inr ()) else some (.inl (([]:List GA),(8:Int))):=dupO_run (by omega) l [] rfl (by simp)
   rw [z,d];simp only [uk,uH,yB];by_cases hn:(l.map (·.dot)).Nodup
   ·have:m.length=l.length:=r.2 hn;obtain ⟨L,v,s,o⟩:=order_same (by omega) B;obtain ⟨u,C,D,a3⟩:=app_run L 0 0 t p (by rw [o.length_eq];omega) λe h=>⟨f e (o.mem_iff.1 h),w e (o.mem_iff.1 h)⟩
    refine ⟨u,0,?_,?_,a3⟩
    ·rw [uC (by simp;omega),merge_self hs (by omega) ht,ua,v,ua,C,yB]
    ·rw [uv hn];simp only [yB,s,ua,D]
   ·have:m.length ≠ l.length:=λh=>hn (r.1 h);refine ⟨[],8,?_,?_,small_nil⟩
    ·rw [uv (by simp;omega)]
    ·rw [uC hn];rfl
end
section
theorem leaf_lw {l:GC} (h:leafB l=true):l.bk<=100 * lw l:=by
 have hi:∀L:List GF,(∀x ∈ L,x.text.length<=40)->(L.map GF.bk).sum<=48 * L.length:=by
  intro L
  induction L with
  | nil=>intro _;simp
  | cons x r ih =>
   intro h;have f:=h x (by simp);have d:=ih λy q=>h y (by simp [q]);simp only [uz,si,uu,GF.bk,GE.bk,GJ.bk];omega
 have p:∀b,l.items.all (vL b)=true->∀x ∈ l.items,x.text.length<=40:=λb s x u=>by
  have:=uq.1 s x u;simp only [vL,ud,uj] at this;exact this.1.2
 have key:l.text.length<=40/\∀x ∈ l.items,x.text.length<=40:=by
  unfold leafB at h;split at h
  ·simp only [ud,uj,zeroB] at h;obtain ⟨⟨⟨_,f⟩,d⟩,_⟩:=h;simp [f,d]
  split at h
  ·simp only [ud,uj] at h;obtain ⟨⟨⟨_,d⟩,_⟩,o⟩:=h;refine ⟨?_,by simp [d]⟩;split at o
   ·simp only [ud,uj] at o;simp [o.2]
   ·simp only [ud,uj] at o;exact o.2
  split at h
  ·simp only [ud,uj,zeroB] at h;obtain ⟨⟨⟨_,_,f⟩,⟨d,_⟩,_⟩,_⟩:=h;exact ⟨by simp [f],p _ d⟩
  split at h
  ·simp only [ud,uj,zeroB] at h;obtain ⟨⟨⟨_,_,f⟩,_⟩,⟨d,_⟩,_⟩:=h;exact ⟨by simp [f],p _ d⟩
  ·cases h
 have f:=hi _ key.2;have d:=dots_bk l.tombs;have o:=key.1;simp only [GC.bk,GE.bk,GJ.bk,lw] at d ⊢;omega
theorem lS_lw:∀L:List GL,(∀r ∈ L,leafB r.leaf=true)->lS L<=100 * (L.map λr=>lw r.leaf).sum/\L.length<=(L.map λr=>lw r.leaf).sum
 | [],_=>by simp [lS]
 | r::L,h=>by
  have p:=leaf_lw (h r (by simp));obtain ⟨f,q⟩:=lS_lw L λx d=>h x (by simp [d]);have o:1<=lw r.leaf:=by unfold lw;omega
  simp only [lS,uz,si,uu];omega
theorem bd_great {a b c:Nat} (o:a<=b+51 * n) (d:b<=100 * c) (p:n<=c) (f:c<=1500):a<=300000+200000 * 0:=by omega
theorem fineK_of (hs:Small t) (p:treeB 0 t=true) (q:qb t=some false):FineK 0 t:=by
 have hd:=deps_le t 0 (by omega) (by unfold treeB at p;simp only [ud] at p;exact p.2);obtain ⟨v,e,C,_⟩:=size_ge (GA.deps t+1) t 0 (by omega) hs (by omega) (by omega);have w:ref07Xsize t 0=some v:=qT (GA.deps t+1) λn E=>by
  rw [size_fuel n (GA.deps t+1) t 0 (by omega) (by omega)];exact e
 unfold qb at q;rw [w,ua] at q;have s:¬ v > 1500:=by simpa using q
 have d:=rows_ok t 0 [] hs p rfl rfl;obtain ⟨u,z⟩:=lS_lw (zx [] t) λr o=>(d r o).leaf;have B:(zx [] t).map (λr=>lw r.leaf)=(zx [] t).map λr=>lw r.leaf:=rfl;have y:((zx [] t).map λr=>lw r.leaf).sum<=1500:=by
  have:((zx [] t).map λr=>lw r.leaf).sum=rowsW t:=rfl;omega
 refine ⟨hs,p,bd_great (wS_le (zx [] t) λr o=>(qk (d r o).path).2.1) u z y,λr o=>?_⟩;have D:=leaf_lw (d r o).leaf;have F:lw r.leaf<=((zx [] t).map λr=>lw r.leaf).sum:=sum_mem (f:=λr:GL=>lw r.leaf) o;omega
theorem refl_loop {α ρ:Type} [Inhabited α] {L:List α} {q:α->α->Bool} (f:∀x,q x x=true) {r:ρ}:∀(rest pre:List α),L=pre++rest->zp (λ(o:Nat) (p:α) (_:Unit)=>(((zQ L (o:Int)).bind λd=>(if (!(q p d))=true then some (.ret r) else some (.nxt ()))):Option (Out ρ Unit))) rest pre.length ()=some (.inr ())
 | [],_,_=>rfl
 | x::rest,pre,h=>by
  have e:zQ L (pre.length:Int)=some x:=by
   rw [qM (by rw [h];simp)];subst h;simp
  simp only [zp,e,ua,f,tn,uk,uH];have:=refl_loop (L:=L) f (r:=r) rest (pre++[x]) (by rw [h];simp);simpa using this
theorem sameOp_refl (o:GK):ref04Same o o=some true:=by
 unfold ref04Same;rw [uC (by simp)];have p:=refl_loop (L:=o.path) (q:=λx y=>x==y) (λx=>by simp) (r:=false) o.path [] rfl;have s:=refl_loop (L:=o.dots) (q:=λf d=>(f.actor.rep==d.actor.rep&&(f.actor.inc==d.actor.inc&&(f.seq==d.seq&&true)))) (λx=>by simp) (r:=false) o.dots [] rfl;have p:=congrArg (λz=>lp z λ(_:Unit)=>lp (zp (λ(n2:Nat) (f:GE) (_:Unit)=>(((zQ o.dots (n2:Int)).bind λd=>(if (!(f.actor.rep==d.actor.rep&&(f.actor.inc==d.actor.inc&&(f.seq==d.seq&&true))))=true then some (.ret false) else some (.nxt ()))):Option (Out Bool Unit))) o.dots 0 ()) λ(_:Unit)=>some true) p;refine p.trans ?_;rw [yB];exact congrArg (λz=>lp z λ(_:Unit)=>some true) s
theorem sameEv_refl (e:GH):wj e e=some true:=by
 unfold wj;rw [uv (by simp),sameOp_refl];simp
theorem sameEv_loop {L:List GH}:∀(rest pre:List GH),L=pre++rest->zp (λ(o:Nat) (p:GH) (_:Unit)=>(((zQ L (o:Int)).bind λf=>((wj p f).bind λd=>(if (!d)=true then some (.ret false) else some (.nxt ())))):Option (Out Bool Unit))) rest pre.length ()=some (.inr ())
 | [],_,_=>rfl
 | x::rest,pre,h=>by
  have e:zQ L (pre.length:Int)=some x:=by
   rw [qM (by rw [h];simp)];subst h;simp
  simp only [zp,e,ua,sameEv_refl,tn,uk,uH];have:=sameEv_loop (L:=L) rest (pre++[x]) (by rw [h];simp);simpa using this
theorem ord_of (p:l.length<=8388600) (o:∀e ∈ l,e.op.path.length<=lim/\e.op.dots.length<=lim) {R:List GI} (s:R.Perm (entL 0 l)) (q:R.Pairwise λa b=>eltB b a=false):xH l=some (R.map (·.e)):=by
 obtain ⟨P,f,r,d⟩:=foldOrder_is p o;rw [f,ord_uniq r s d q]
def evK (r t:Int):GH:=GH.mk (GE.mk (GJ.mk r 1) 1) t (GK.mk 0 [] 0 [] [])
theorem known10:qp=some true:=by
 have d:xH [evK 0 2,evK 1 1]=some [evK 1 1,evK 0 2]:=ord_of (R:=[⟨evK 1 1,1⟩,⟨evK 0 2,0⟩]) (by simp) (by simp [evK,lim]) (List.Perm.swap _ _ _) (by simp [eltB,evK]);have f:xH [evK 1 1,evK 0 1]=some [evK 0 1,evK 1 1]:=ord_of (R:=[⟨evK 0 1,1⟩,⟨evK 1 1,0⟩]) (by simp) (by simp [evK,lim]) (List.Perm.swap _ _ _) (by simp [eltB,evK,ye]);unfold qp wu;simp only [ua];show ((xH [evK 0 2,evK 1 1]).bind _)=_;rw [d,ua];show ((xH [evK 1 1,evK 0 1]).bind _)=_;rw [f,ua];rw [zj (by simp),zj (by simp)];rfl
theorem loopL_retP {α ρ σ:Type} {f:Nat->α->σ->Option (Out ρ σ)} {Q:ρ->Prop} (d:∀i x s r,f i x s=some (.ret r)->Q r):∀(L:List α) (i:Nat) (s:σ) (r:ρ),zp f L i s=some (.inl r)->Q r
 | [],_,_,_,h=>by simp [zp] at h
 | x::L,i,s,r,h=>by
  simp only [zp] at h;split at h
  ·cases h
  ·rename_i o e;simp only [ui,Sum.inl.injEq] at h;subst h;exact d _ _ _ _ e
  ·simp at h
  ·exact loopL_retP d L _ _ r h
noncomputable def greatF:Nat->GH->Unit->Option (Out Bool Unit):=λ(n1:Nat) (x1:GH) (s1:Unit)=>((lp (zp (λ(n2:Nat) (x2:zu) (s2:Int)=>(some (.nxt (IntKind.wrap .i64 (s2+((x2).length:Int)))):Option (Out _ Int))) x1.op.path 0 ((x1.op.text).length:Int)) λ(s2:Int)=>(if (((decide (((x1.op.path).length:Int) > (20:Int))) || (decide (((x1.op.dots).length:Int) > (100:Int)))) || (decide (s2 > (1000:Int))))=true then some (.ret true) else some (.nxt ()))):Option (Out Bool Unit))
theorem greatF_is (i:Nat) (x:GH) (s:Unit):greatF i x s=some (.ret true) \/ greatF i x s=some (.nxt ()):=by
 unfold greatF;have:∀(L:List zu) (i:Nat) (s:Int),∃v,zp (λ(n2:Nat) (d:zu) (s2:Int)=>(some (.nxt (IntKind.wrap .i64 (s2+((d).length:Int)))):Option (Out (Out Bool Unit) Int))) L i s=some (.inr v):=by
  intro L
  induction L with
  | nil=>intro i s;exact ⟨s,rfl⟩
  | cons y L ih=>intro i s;simp only [zp];exact ih _ _
 obtain ⟨v,e⟩:=this x.op.path 0 ((x.op.text).length:Int);rw [e,yB];split
 ·exact .inl rfl
 ·exact .inr rfl
theorem great10 (l:List GH):∃b,law10Xgreat l=some b/\(b=false->l.length<=40):=by
 have eq:law10Xgreat l=lp (zp greatF l 0 ()) λ(_:Unit)=>some (decide (((l).length:Int) > (40:Int))):=rfl;obtain ⟨v,d⟩:=loopL_tot (f:=greatF) l 0 () (λi x s _=>by rcases greatF_is i x s with h | h <;> exact ⟨_,h⟩);rw [eq,d];cases v with
 | inl r =>
  have o:r=true:=loopL_retP (Q:=λr=>r=true) (λi x s r e=>by rcases greatF_is i x s with h | h <;> rw [h] at e <;> simp at e;exact e) l 0 () r d;subst o;exact ⟨true,rfl,λh=>by cases h⟩
 | inr s=>exact ⟨_,rfl,λh=>by simp at h;omega⟩
theorem wr_loop (n:Nat):∀(R:List Nat) (i:Nat) (s:List GA),s.length=n->i+R.length<=n->∃f,zp (λ(n2:Nat) (q:Nat) (s2:(List GA))=>((yl ((s2).length=n) (((zQ s2 (n2:Int)).bind λd=>some (.nxt (s2.set (n2:Int).toNat (GA.mk ([33]:zu) d.leaves d.subs)))))):Option (Out Bool (List GA)))) R i s=some (.inr f)
 | [],i,s,_,_=>⟨s,rfl⟩
 | x::R,i,s,hs,h=>by
  simp only [uu] at h;have e:zQ s (i:Int)=some (s[i]'(by omega)):=qM (by omega);obtain ⟨f,o⟩:=wr_loop n R (i+1) (s.set i (GA.mk [33] (s[i]'(by omega)).leaves (s[i]'(by omega)).subs)) (by simpa using hs) (by omega);refine ⟨f,?_⟩;have p:((yl ((s).length=n) (((zQ s (i:Int)).bind λd=>some (.nxt (s.set (i:Int).toNat (GA.mk ([33]:zu) d.leaves d.subs)))))):Option (Out Bool (List GA)))=some (.nxt (s.set i (GA.mk [33] (s[i]'(by omega)).leaves (s[i]'(by omega)).subs))):=by
   rw [zj hs,e];simp
  simp only [zp,p];exact o
theorem law10FoldFolds_is (hs:Small t) (y:GA.bks t<=1048576) (E:∀e ∈ l,GH.wf e) (v:∀e ∈ l,e.op.path.length<=lim/\e.op.dots.length<=lim):vr t l=some true:=by
 obtain ⟨g,s⟩:=ref07Great_tot hs;obtain ⟨F,p,q⟩:=great10 l;unfold vr;rw [s,ua];cases g with
 | true=>simp [known10]
 | false =>
  simp only [uP,ur,p,ua,tj];cases F with
  | true=>simp [known10]
  | false =>
   have G:=q rfl;obtain ⟨L,D,C,_⟩:=order_same (by omega) v;obtain ⟨u,x,B,H,I⟩:=fold_same hs y (λw=>fineK_of hs w s) G E v;have f:zp (λ(J:Nat) (K:GH) (_:Unit)=>(((zQ L (J:Int)).bind λo=>((wj K o).bind λr=>(if (!r)=true then some (.ret false) else some (.nxt ())))):Option (Out Bool Unit))) L 0 ()=some (.inr ()):=sameEv_loop L [] rfl;have z:=I.len;obtain ⟨M,d⟩:=wr_loop u.length (List.range ((((u.length:Nat):Int)).toNat)) 0 u rfl (by simp);simp only [uk,uH,own7_same hs,D,C,ua,sR,f,yB,B,H,uP,ur,ref07Same_refl,tn,rO,known10];rw [zj (by omega),d];simp
theorem law10FoldFolds_top (t:List GA) (l:List GH) (q:t.length<=maxLen/\∀y ∈ t,GA.wf y) (d:l.length<=maxLen/\∀y ∈ l,GH.wf y) (z:((t.map GA.bk).sum+1)+((l.map GH.bk).sum+1)<=1048576):vr t l=some true:=by
 refine law10FoldFolds_is (small_of q (by omega)) (by rw [GA.bks_eq];omega) d.2 λe h=>?_;have u:e.bk<=(l.map GH.bk).sum:=sum_mem (f:=GH.bk) h;have o:∀p:List zu,p.length<=(p.map (λs=>s.length+1)).sum:=λp=>by
  induction p with
  | nil=>simp
  | cons a r ih=>simp only [uz,si,uu];omega
 have w:=o e.op.path;have v:=dots_bk e.op.dots;simp only [GH.bk,GK.bk] at u;unfold lim;omega
end
end Go.Vv
