/- Rules for code, and for the ends of functions. -/
import Derived.Test.YtcociipjgndnaaaGreatVvS
namespace Go.Vv
open Go

def seqQ (P:Program) (h0:AH) (b:Code) (Q:Exit->List AV->AH->Prop):Exit->List AV->AH->Prop:=λx env' h'=>match x with
 | .normal=>∃env2 h2,wk h0 env' h' env2 h2/\qb P b Q env2 h2
 | x=>Q x env' h'
def blockQ (id:Nat) (Q:Exit->List AV->AH->Prop):Exit->List AV->AH->Prop:=λx env h=>match x with
 | .exit id'=>if id'=id then Q .normal env h else Q (.exit id') env h
 | x=>Q x env h
def loopQ (N:List AV->AH->Prop) (Q:Exit->List AV->AH->Prop):Exit->List AV->AH->Prop:=λx env' h'=>match x with
 | .normal=>N env' h'
 | x=>Q x env' h'

def xQ (env:List AV):List (Nat×AV)->List AV
 | []=>env
 | (i,v)::r=>xQ (env.set i v) r
def zn:Nat->Nat->List (Nat×AV)->List (Nat×AV)
 | _,0,m=>m
 | i,n+1,m=>(i,.any)::zn (i+1) n m

section
variable {P:Program} {Q:Exit->List AV->AH->Prop} {env:List AV} {h:AH}
theorem r_skip (a:Q .normal env h):qb P .skip Q env h:=a
theorem r_label {id:Nat} (a:Q .normal env h):qb P (.label id) Q env h:=a
theorem r_ret (a:Q .ret env h):qb P .ret Q env h:=a
theorem r_exit {id:Nat} (a:Q (.exit id) env h):qb P (.exit id) Q env h:=a
theorem vl {id:Nat} {l:List Oper} (a:zH P ⟨l⟩ (Q .normal) l env h):qb P (.region id ⟨l⟩ false) Q env h:=a
theorem r_seq {a b:Code} (c:qb P a (seqQ P h b Q) env h):qb P (.seq a b) Q env h:=c
theorem r_block {id:Nat} {a:Code} (b:qb P a (blockQ id Q) env h):qb P (.block id a) Q env h:=b
theorem r_cond {c:Operand} {t e:Code} {b:Bool} (g:yF env c=some (.bool b)) (f:b=true->qb P t Q env h) (a:b=false->qb P e Q env h):qb P (.cond c t e) Q env h:=by
 obtain ⟨i,d⟩:=zO g;refine ⟨i,?_⟩;rw [d];cases b with
 | true=>exact f rfl
 | false=>exact a rfl
theorem q_seq {h0:AH} {b:Code} (a:qb P b Q env h):seqQ P h0 b Q .normal env h:=⟨env,h,wk.refl _ _ _,a⟩
theorem q_seqw {h0:AH} {b:Code} {a:List AV} {c:AH} (e:wk h0 env h a c) (d:qb P b Q a c):seqQ P h0 b Q .normal env h:=⟨a,c,e,d⟩
theorem q_seq_exit {h0:AH} {b:Code} {id:Nat} (a:Q (.exit id) env h):seqQ P h0 b Q (.exit id) env h:=a
theorem q_seq_ret {h0:AH} {b:Code} (a:Q .ret env h):seqQ P h0 b Q .ret env h:=a
theorem q_block {id:Nat} (a:Q .normal env h):blockQ id Q .normal env h:=a
theorem q_block_ret {id:Nat} (a:Q .ret env h):blockQ id Q .ret env h:=a
theorem q_block_hit {id:Nat} (a:Q .normal env h):blockQ id Q (.exit id) env h:=by simp only [blockQ,ut];exact a
theorem q_block_miss {id j:Nat} (a:j ≠ id) (b:Q (.exit j) env h):blockQ id Q (.exit j) env h:=by simp only [blockQ,uu a];exact b
theorem q_loop {N:List AV->AH->Prop} (a:N env h):loopQ N Q .normal env h:=a
theorem q_loop_exit {N:List AV->AH->Prop} {id:Nat} (a:Q (.exit id) env h):loopQ N Q (.exit id) env h:=a
theorem q_loop_ret {N:List AV->AH->Prop} (a:Q .ret env h):loopQ N Q .ret env h:=a
theorem r_loop {body:Code} {σ:Type} (E:σ->List AV) (H:σ->AH) (c:σ->Prop) (f:σ->Nat) (i:σ) (h0:wk h env h (E i) (H i)) (hi:c i)
  (hs:∀s,c s->qb P body (loopQ (λa g=>∃b,c b/\f b < f s/\wk (H s) a g (E b) (H b)) Q) (E s) (H s)):qb P (.loop body) Q env h:=by
 refine ⟨λn env h=>∃s,f s=n/\c s/\env=E s/\h=H s,⟨_,_,_,h0,i,rfl,hi,rfl,rfl⟩,?_⟩
 rintro n _ _ ⟨s,p,hi,rfl,rfl⟩
 subst p;have:=hs s hi;have e:(loopQ (λa g=>∃b,c b/\f b < f s/\wk (H s) a g (E b) (H b)) Q) =
   (loopQ (λa g=>∃m d o,m < f s/\wk (H s) a g d o/\(∃b,f b=m/\c b/\d=E b/\o=H b)) Q):=by
  funext x a g;cases x with
  | normal =>
   simp only [loopQ];refine propext ⟨λ⟨b,k,j,l⟩=>⟨_,_,_,j,l,b,rfl,k,rfl,rfl⟩,?_⟩
   rintro ⟨m,_,_,k,j,b,rfl,l,rfl,rfl⟩
   exact ⟨b,l,k,j⟩
  | _=>rfl
 rw [e] at this;exact this

theorem fin_cut {h0:AH} {K:AV->AH->Prop} {v v':AV} (b:leV v v') (a:v'.low h0.blks.length h0.toks.length=true)
  (c:∀(i:Nat) (k:Blk),i < h0.blks.length->h.blks[i]?=some k->h0.blks[i]?=some k \/ k.low h0.blks.length h0.toks.length=true) (d:K v' (h.cut h0.blks.length h0.toks.length)):finK h0 K v h :=
 ⟨v',_,(wk.le (leL.cons b leL.nil)).trans (wk.cut (by simp [zB,a]) c),d⟩
theorem vz {h0 a:AH} {K:AV->AH->Prop} {v v':AV} (c:wk h0 [v] h [v'] a) (b:K v' a):finK h0 K v h:=⟨v',a,c,b⟩
theorem q_end {fn:Func} {K:AV->AH->Prop} {h0:AH} (a:bodyQ P fn h0 K .ret env h):bodyQ P fn h0 K .normal env h:=a
end
theorem leV.of_eq {a b:AV} (h:a=b):leV a b:=h ▸ leV.refl a
theorem rwp_mono {P:Program} {h:AH} {r:Res} {K K':AV->AH->Prop} (c:∀v a,K v a->K' v a) (b:rwp P h r K):rwp P h r K':=by
 cases r with
 | ok v a=>exact c _ _ b
 | len n v a=>exact λd=>c _ _ (b d)
 | call f args=>exact Spec.mono b c
 | round id args=>exact SpecY.mono b c
 | any S=>exact λv a e=>c _ _ (b v a e)
 | fail=>exact b
theorem awpOps_mono {P:Program} {a:Array Oper} {Q Q':List AV->AH->Prop} (c:∀e h,Q e h->Q' e h):∀(rest:List Oper) (env:List AV) (h:AH),zH P a Q rest env h->zH P a Q' rest env h
 | [],_,_,hk=>c _ _ hk
 | o::rest,_,_,⟨env,h,hs,hk⟩=>by
  refine ⟨env,h,hs,?_⟩;cases hb:aG a o env with
  | none=>rw [hb] at hk;exact hk
  | some b =>
   rw [hb] at hk;cases b with
   | true=>exact hk.imp (rwp_mono λv d=>awpOps_mono c rest _ _) (bwp_mono λv d=>awpOps_mono c rest _ _)
   | false=>exact awpOps_mono c rest _ _ hk
theorem awpDraw_mono {P:Program} {a:Array Oper} {Ns:List Nat} {F:Nat->AH->Prop} {Q Q':List AV->AH->Prop} (b:∀e h,Q e h->Q' e h):∀(rest:List Oper) (i:Nat) (env:List AV) (h:AH),zY P a Ns F Q i rest env h->zY P a Ns F Q' i rest env h
 | [],_,_,_,hk=>b _ _ hk
 | _::rest,i,_,_,⟨v,h',h1,h2,h4,h3⟩=>⟨v,h',h1,h2,h4,awpDraw_mono b rest (i+1) _ _ h3⟩
theorem awpAny_mono {P:Program} {d:Array Oper} {Q Q':List AV->AH->Prop} (f:∀e h,Q e h->Q' e h):∀(m:Nat) (a:Array Bool) (env:List AV) (h:AH),awpAny P d Q m a env h->awpAny P d Q' m a env h
 | 0,_,_,_,c=>⟨c.1,f _ _ c.2⟩
 | m+1,a,env,h,c=>by
  refine ⟨λe=>f _ _ (c.1 e),λi hi o g=>?_⟩;have c:=c.2 i hi o g;cases hb:aG d o env with
  | none=>rw [hb] at c;exact c
  | some b =>
   rw [hb] at c;cases b with
   | true=>exact c.imp (rwp_mono λv j=>awpAny_mono f m _ _ _) (bwp_mono λv j=>awpAny_mono f m _ _ _)
   | false=>exact awpAny_mono f m _ _ _ c
theorem awp_mono {P:Program}:∀{Q Q':Exit->List AV->AH->Prop} (_:∀x e h,Q x e h->Q' x e h) (c:Code) (env:List AV) (h:AH),qb P c Q env h->qb P c Q' env h
 | _,_,hq,.skip,_,_,hk=>hq _ _ _ hk
 | _,_,hq,.label _,_,_,hk=>hq _ _ _ hk
 | _,_,hq,.exit _,_,_,hk=>hq _ _ _ hk
 | _,_,hq,.ret,_,_,hk=>hq _ _ _ hk
 | _,_,hq,.region _ _ true,_,_,.inl ⟨Ns,F,d,k,i⟩=>.inl ⟨Ns,F,d,k,awpDraw_mono (hq .normal) _ _ _ _ i⟩
 | _,_,hq,.region _ _ true,_,_,.inr ⟨d,i⟩=>.inr ⟨d,awpAny_mono (hq .normal) _ _ _ _ i⟩
 | _,_,hq,.region _ _ false,_,_,hk=>awpOps_mono (hq .normal) _ _ _ hk
 | _,_,hq,.seq a b,_,_,hk=>awp_mono (λx j o d=>by
   cases x with
   | normal=>obtain ⟨w,i,k,l⟩:=d;exact ⟨w,i,k,awp_mono hq b _ _ l⟩
   | _=>exact hq _ _ _ d) a _ _ hk
 | _,_,hq,.cond c t e,env,_,⟨d,i⟩=>by
  refine ⟨d,?_⟩;cases hc:ev env c with
  | bool b =>
   rw [hc] at i;cases b with
   | true=>exact awp_mono hq t _ _ i
   | false=>exact awp_mono hq e _ _ i
  | _=>rw [hc] at i;exact i
 | _,_,hq,.block id body,_,_,hk=>awp_mono (λx j o d=>by
   cases x with
   | exit id' =>
    by_cases hid:id'=id
    ·simp only [hid,ut] at d ⊢;exact hq _ _ _ d
    ·simp only [hid,uG] at d ⊢;exact hq _ _ _ d
   | _=>exact hq _ _ _ d) body _ _ hk
 | _,_,hq,.loop body,_,_,⟨I,d,i⟩=>⟨I,d,λn env h y=>awp_mono (λx j o k=>by
   cases x with
   | normal=>exact k
   | _=>exact hq _ _ _ k) body _ _ (i n env h y)⟩
 | _,_,hq,.rangeFunc f ps assign body,env,h,⟨d,i,k,env2,h5,hwk,l⟩=>by
  refine ⟨d,i,k,env2,h5,hwk,?_⟩;split at l
  ·rename_i g first caps B
   refine l.mono λr o ⟨q,u,j,s,A,z,v,p,m⟩=>⟨q,u,j,s,A,z,v,p,?_⟩
   split at m
   ·exact hq _ _ _ m
   ·exact hq _ _ _ m
   ·exact hq _ _ _ m
   ·exact m
  ·exact l
 | _,_,_,.scope _,_,_,hk=>hk.elim
 | _,_,_,.goto _,_,_,hk=>hk.elim
 | _,_,_,.refuse _,_,_,hk=>hk.elim
end Go.Vv
