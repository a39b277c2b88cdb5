/- Rules for code, and for the ends of functions. -/
import Derived.Test.YtdkfnnpdeenhnaaGreatVvS
namespace Go.Vv
open Go

def seqQ (P:Program) (h0:AH) (b:Code) (Q:Exit->List AV->AH->Prop):Exit->List AV->AH->Prop:=λx env' h'=>match x with
 | .normal=>∃env2 h2,wk h0 env' h' env2 h2/\wP P b Q env2 h2
 | x=>Q x env' h'
def qE (id:Nat) (Q:Exit->List AV->AH->Prop):Exit->List AV->AH->Prop:=λx env h=>match x with
 | .exit id'=>if id'=id then Q .normal env h else Q (.exit id') env h
 | x=>Q x env h
def qM (N:List AV->AH->Prop) (Q:Exit->List AV->AH->Prop):Exit->List AV->AH->Prop:=λx env' h'=>match x with
 | .normal=>N env' h'
 | x=>Q x env' h'

def wQ (env:List AV):List (Nat×AV)->List AV
 | []=>env
 | (i,v)::r=>wQ (env.set i v) r
def zz:List Nat->List (Nat×AV)->List (Nat×AV)
 | [],m=>m
 | i::l,m=>(i,.any)::zz l m

section
variable {P:Program} {Q:Exit->List AV->AH->Prop} {env:List AV} {h:AH}
theorem r_skip (a:Q .normal env h):wP P .skip Q env h:=a
theorem r_label {id:Nat} (a:Q .normal env h):wP P (.label id) Q env h:=a
theorem r_ret (a:Q .ret env h):wP P .ret Q env h:=a
theorem r_exit {id:Nat} (a:Q (.exit id) env h):wP P (.exit id) Q env h:=a
theorem yf {id:Nat} {l:List Oper} (a:zp P ⟨l⟩ (Q .normal) l env h):wP P (.region id ⟨l⟩ false) Q env h:=a
theorem xe {a b:Code} (c:wP P a (seqQ P h b Q) env h):wP P (.seq a b) Q env h:=c
theorem r_block {id:Nat} {a:Code} (b:wP P a (qE id Q) env h):wP P (.block id a) Q env h:=b
theorem r_cond {c:Operand} {t e:Code} {b:Bool} (g:zU env c=some (.bool b)) (a:b=true->wP P t Q env h) (i:b=false->wP P e Q env h):wP P (.cond c t e) Q env h:=by
 obtain ⟨d,f⟩:=zw g;refine ⟨d,?_⟩;rw [f];cases b with
 | true=>exact a rfl
 | false=>exact i rfl
theorem yG {h0:AH} {b:Code} (a:wP P b Q env h):seqQ P h0 b Q .normal env h:=⟨env,h,wk.refl _ _ _,a⟩
theorem q_seq_exit {h0:AH} {b:Code} {id:Nat} (a:Q (.exit id) env h):seqQ P h0 b Q (.exit id) env h:=a
theorem vf {h0:AH} {b:Code} (a:Q .ret env h):seqQ P h0 b Q .ret env h:=a
theorem q_block {id:Nat} (a:Q .normal env h):qE id Q .normal env h:=a
theorem q_block_ret {id:Nat} (a:Q .ret env h):qE id Q .ret env h:=a
theorem q_block_hit {id:Nat} (a:Q .normal env h):qE id Q (.exit id) env h:=by simp only [qE,if_true];exact a
theorem q_block_miss {id j:Nat} (a:j ≠ id) (b:Q (.exit j) env h):qE id Q (.exit j) env h:=by simp only [qE,if_neg a];exact b
theorem q_loop {N:List AV->AH->Prop} (a:N env h):qM N Q .normal env h:=a
theorem q_loop_exit {N:List AV->AH->Prop} {id:Nat} (a:Q (.exit id) env h):qM N Q (.exit id) env h:=a
theorem q_loop_ret {N:List AV->AH->Prop} (a:Q .ret env h):qM N Q .ret env h:=a
theorem r_loop {body:Code} {σ:Type} (E:σ->List AV) (H:σ->AH) (c:σ->Prop) (f:σ->Nat) (i:σ) (h0:wk h env h (E i) (H i)) (hi:c i)
  (hs:∀s,c s->wP P body (qM (λa g=>∃b,c b/\f b < f s/\wk (H s) a g (E b) (H b)) Q) (E s) (H s)):wP P (.loop body) Q env h:=by
 refine ⟨λn env h=>∃s,f s=n/\c s/\env=E s/\h=H s,⟨_,_,_,h0,i,rfl,hi,rfl,rfl⟩,?_⟩
 rintro n _ _ ⟨s,p,hi,rfl,rfl⟩
 subst p;have:=hs s hi;have e:(qM (λa g=>∃b,c b/\f b < f s/\wk (H s) a g (E b) (H b)) Q) =
   (qM (λa g=>∃m d o,m < f s/\wk (H s) a g d o/\(∃b,f b=m/\c b/\d=E b/\o=H b)) Q):=by
  funext x a g;cases x with
  | normal =>
   simp only [qM];refine propext ⟨λ⟨b,j,l,k⟩=>⟨_,_,_,l,k,b,rfl,j,rfl,rfl⟩,?_⟩
   rintro ⟨m,_,_,j,l,b,rfl,k,rfl,rfl⟩
   exact ⟨b,k,j,l⟩
  | _=>rfl
 rw [e] at this;exact this

theorem fin_cut {h0:AH} {K:AV->AH->Prop} {v v':AV} (a:leV v v') (b:v'.low h0.blks.length h0.toks.length=true)
  (d:∀(i:Nat) (k:Blk),i < h0.blks.length->h.blks[i]?=some k->h0.blks[i]?=some k \/ k.low h0.blks.length h0.toks.length=true) (c:K v' (h.cut h0.blks.length h0.toks.length)):finK h0 K v h :=
 ⟨v',_,(wk.le (leL.cons a leL.nil)).trans (wk.cut (by simp [zJ,b]) d),c⟩
theorem fin_wk {h0 a:AH} {K:AV->AH->Prop} {v v':AV} (c:wk h0 [v] h [v'] a) (b:K v' a):finK h0 K v h:=⟨v',a,c,b⟩
theorem q_end {fn:Func} {K:AV->AH->Prop} {h0:AH} (a:qY P fn h0 K .ret env h):qY P fn h0 K .normal env h:=a
end
theorem leV.of_eq {a b:AV} (h:a=b):leV a b:=h ▸ leV.refl a
theorem rwp_mono {P:Program} {h:AH} {r:Res} {K K':AV->AH->Prop} (c:∀v a,K v a->K' v a) (b:rwp P h r K):rwp P h r K':=by
 cases r with
 | ok v a=>exact c _ _ b
 | len n v a=>exact λd=>c _ _ (b d)
 | call f args=>exact Spec.mono b c
 | round id args=>exact SpecY.mono b c
 | any S=>exact λv a e=>c _ _ (b v a e)
 | fail=>exact b
theorem qZ {P:Program} {a:Array Oper} {Q Q':List AV->AH->Prop} (c:∀e h,Q e h->Q' e h):∀(rest:List Oper) (env:List AV) (h:AH),zp P a Q rest env h->zp P a Q' rest env h
 | [],_,_,hk=>c _ _ hk
 | o::rest,_,_,⟨env,h,hs,hk⟩=>by
  refine ⟨env,h,hs,?_⟩;cases hb:aG a o env with
  | none=>rw [hb] at hk;exact hk
  | some b =>
   rw [hb] at hk;cases b with
   | true=>exact hk.imp (rwp_mono λv g=>qZ c rest _ _) λ⟨l,d,f⟩=>⟨l,d,λp hi=>qZ c rest _ _ (f p hi)⟩
   | false=>exact qZ c rest _ _ hk
theorem awpDraw_mono {P:Program} {a:Array Oper} {Ns:List Nat} {F:Nat->AH->Prop} {Q Q':List AV->AH->Prop} (b:∀e h,Q e h->Q' e h):∀(rest:List Oper) (i:Nat) (env:List AV) (h:AH),zA P a Ns F Q i rest env h->zA P a Ns F Q' i rest env h
 | [],_,_,_,hk=>b _ _ hk
 | _::rest,i,_,_,⟨v,h',h1,h2,h4,h3⟩=>⟨v,h',h1,h2,h4,awpDraw_mono b rest (i+1) _ _ h3⟩
theorem q9 {P:Program} {d:Array Oper} {Q Q':List AV->AH->Prop} (f:∀e h,Q e h->Q' e h):∀(m:Nat) (a:Array Bool) (env:List AV) (h:AH),awpAny P d Q m a env h->awpAny P d Q' m a env h
 | 0,_,_,_,c=>⟨c.1,f _ _ c.2⟩
 | m+1,a,env,h,c=>by
  refine ⟨λe=>f _ _ (c.1 e),λi hi o j=>?_⟩;have c:=c.2 i hi o j;cases hb:aG d o env with
  | none=>rw [hb] at c;exact c
  | some b =>
   rw [hb] at c;cases b with
   | true=>exact c.imp (rwp_mono λv n=>q9 f m _ _ _) λ⟨l,g,k⟩=>⟨l,g,λp hi=>q9 f m _ _ _ (k p hi)⟩
   | false=>exact q9 f m _ _ _ c
theorem w5 {P:Program}:∀{Q Q':Exit->List AV->AH->Prop} (_:∀x e h,Q x e h->Q' x e h) (c:Code) (env:List AV) (h:AH),wP P c Q env h->wP P c Q' env h
 | _,_,hq,.skip,_,_,hk=>hq _ _ _ hk
 | _,_,hq,.label _,_,_,hk=>hq _ _ _ hk
 | _,_,hq,.exit _,_,_,hk=>hq _ _ _ hk
 | _,_,hq,.ret,_,_,hk=>hq _ _ _ hk
 | _,_,hq,.region _ _ true,_,_,.inl ⟨Ns,F,d,k,i⟩=>.inl ⟨Ns,F,d,k,awpDraw_mono (hq .normal) _ _ _ _ i⟩
 | _,_,hq,.region _ _ true,_,_,.inr ⟨d,i⟩=>.inr ⟨d,q9 (hq .normal) _ _ _ _ i⟩
 | _,_,hq,.region _ _ false,_,_,hk=>qZ (hq .normal) _ _ _ hk
 | _,_,hq,.seq a b,_,_,hk=>w5 (λx j o d=>by
   cases x with
   | normal=>obtain ⟨w,i,k,l⟩:=d;exact ⟨w,i,k,w5 hq b _ _ l⟩
   | _=>exact hq _ _ _ d) a _ _ hk
 | _,_,hq,.cond c t e,env,_,⟨d,i⟩=>by
  refine ⟨d,?_⟩;cases hc:ev env c with
  | bool b =>
   rw [hc] at i;cases b with
   | true=>exact w5 hq t _ _ i
   | false=>exact w5 hq e _ _ i
  | _=>rw [hc] at i;exact i
 | _,_,hq,.block id body,_,_,hk=>w5 (λx j o d=>by
   cases x with
   | exit id' =>
    by_cases hid:id'=id
    ·simp only [hid,if_true] at d ⊢;exact hq _ _ _ d
    ·simp only [hid,if_false] at d ⊢;exact hq _ _ _ d
   | _=>exact hq _ _ _ d) body _ _ hk
 | _,_,hq,.loop body,_,_,⟨I,d,i⟩=>⟨I,d,λn env h u=>w5 (λx j o k=>by
   cases x with
   | normal=>exact k
   | _=>exact hq _ _ _ k) body _ _ (i n env h u)⟩
 | _,_,hq,.rangeFunc f ps assign body,env,h,⟨d,i,k,env2,h5,hwk,l⟩=>by
  refine ⟨d,i,k,env2,h5,hwk,?_⟩;split at l
  ·rename_i g first p C
   refine l.mono λr o ⟨B,v,j,z,A,s,q,y,m⟩=>⟨B,v,j,z,A,s,q,y,?_⟩
   split at m
   ·exact hq _ _ _ m
   ·exact hq _ _ _ m
   ·exact hq _ _ _ m
   ·exact m
  ·exact l
 | _,_,_,.scope _,_,_,hk=>hk.elim
 | _,_,_,.goto _,_,_,hk=>hk.elim
 | _,_,_,.refuse _,_,_,hk=>hk.elim
end Go.Vv
