/- Plain laws, as far as they are leaned on. -/
import Derived.Test.YtppafalkommbdaaGreatPlV7
namespace Go.Vv
set_option linter.unusedVariables false
set_option linter.unusedSimpArgs false
open Go
theorem pathAll {p:List zR} {f:zR→Option Bool} (hf:∀ x,f x=some (nameB x)):(lp (ya (fun (_:Nat) (x1:zR) (_:Unit)=>(((f x1).bind fun v9=>(if (!v9)=true then some (.ret false) else some (.nxt ()))):Option (Out _ Unit))) p 0 ()) fun (_:Unit)=>some ((decide (((p).length:Int) ≥ (1:Int)))&&(decide (((p).length:Int)≤(3:Int)))))=some (pathB p):=by
 rw [loopL_all nameB false _ _ (fun i x _=>by rw [hf];cases nameB x <;> rfl),bnd1,bnd3]
 unfold pathB
 cases h:p.all nameB <;> simp
theorem ref04MayPath_is (p:List zR):ref04MayPath p=some (pathB p):=pathAll ref04IsName_is
def typeB (k:Int):Int:=if k=1 then 1 else if k=2 then 2 else if k=3 ∨ k=4 then 3 else if k=5 then 4 else 0
theorem ref04Type_is (k:Int):ref04Type k=some (typeB k):=by unfold ref04Type typeB;grind
theorem ref04May_is (o:GOp):ref04May o=some (opB o):=by
 unfold ref04May opB
 rw [ref04Type_is]
 simp only [Option.bind_some,ref04MayPath_is]
 have hl:=nil_rises (ds:=o.dots)
 by_cases h:o.kind < 1 ∨ 5 < o.kind
 ·have h2:(decide (1≤o.kind)&&decide (o.kind≤5))=false:=by rw [Bool.and_eq_false_iff];simp;omega
  have h3:typeB o.kind=0:=by unfold typeB;grind
  simp [h2,h3]
 ·have h3:(typeB o.kind==0)=false:=by unfold typeB;grind
  have h4:(decide (1≤o.kind)&&decide (o.kind≤5))=true:=by simp;omega
  by_cases hb:40 < o.text.length ∨ 64 < o.dots.length
  ·have e1:(decide ((o.text.length:Int) > 40) || decide ((o.dots.length:Int) > 64))=true:=by simp;omega
   have e2:(decide (o.text.length≤40)&&decide (o.dots.length≤64))=false:=by rw [Bool.and_eq_false_iff];simp;omega
   rw [h3,h4]
   cases hp:pathB o.path <;> simp at e1 e2 ⊢ <;> grind
  ·rw [rising_loop]
   ·have e1:decide ((o.text.length:Int) > 40)=false:=decide_eq_false (by omega)
    have e2:decide ((o.dots.length:Int) > 64)=false:=decide_eq_false (by omega)
    have e3:decide (o.text.length≤40)=true:=decide_eq_true (by omega)
    have e4:decide (o.dots.length≤64)=true:=decide_eq_true (by omega)
    have e5:decide ((o.dots.length:Int) > 0)=!decide (o.dots.length=0):=by
     by_cases hd:o.dots.length=0
     ·rw [decide_eq_true hd,decide_eq_false (by omega)];rfl
     ·rw [decide_eq_false hd,decide_eq_true (by omega)];rfl
    rw [h3,h4,e1,e2,e3,e4,e5,lenB]
    generalize (o.dots.all qu&&rising o.dots)=R at hl ⊢
    cases hp:pathB o.path
    ·simp
    ·by_cases k1:o.kind=1
     ·simp [k1]
     ·by_cases n0:o.n=0 <;> by_cases k4:o.kind=4 <;> by_cases d0:o.dots.length=0 <;> simp [k1,n0,k4,d0]
   ·intro i x hx
    have hi:i < o.dots.length:=(List.getElem?_eq_some_iff.1 hx).1
    simp only [ref03May_is,Option.bind_some]
    by_cases h0:i=0
    ·subst h0
     cases hd:qu x <;> simp [x5,vj]
    ·have h1:decide ((i:Int) > 0)=true:=by simp;omega
     have hw:=wrap_pred (i:=i) (by omega) (by omega)
     rw [hw,Int.toNat_natCast,Int.toNat_natCast]
     have ha:vj o.dots i x=dotLt (o.dots.getD (i - 1) default) x:=by unfold vj;rw [decide_eq_false h0];rfl
     have hx':o.dots.getD i default=x:=by rw [List.getD_eq_getElem?_getD,hx];rfl
     rw [zW (by intro _;omega),zW (by intro _;omega),h1,ha,hx']
     generalize o.dots.getD (i - 1) default=y
     cases hd:qu x
     ·simp
     ·simp only [ref03Less_is,Bool.not_true,Bool.false_or,Bool.true_and,BEq.rfl,if_true,Option.bind_some]
      cases dotLt y x <;> rfl
abbrev spot (s:zR):Bool:=s==[42] || nameB s
theorem name_no {s:zR} {c:UInt8} (h:nameB s=true) (hc:alnum c=false):c ∉ s:=by
 intro hm
 unfold nameB at h
 simp only [Bool.and_eq_true,List.all_eq_true] at h
 rw [h.2 c hm] at hc;exact absurd hc (by simp)
theorem vc {s:zR} (h:spot s=true):(s==([42,42]:zR))=false:=by
 rcases Bool.or_eq_true_iff.1 h with h | h
 ·rw [beq_iff_eq.1 h];decide
 ·have:=name_no (c:=42) h (by decide)
  rw [beq_eq_false_iff_ne];rintro rfl;exact this (by simp)
theorem ends_app {p:List zR} (h:endsB p=true):p=p.dropLast++[[42,42]]:=by
 unfold endsB at h
 have h:=beq_iff_eq.1 h
 rw [List.getLast?_eq_some_iff] at h
 obtain ⟨t,rfl⟩:=h;simp
theorem spot_step (s:zR):(((if ((!(s==([42]:zR)))==true)=true then vO s else some default).bind fun v=>(if ((!(s==([42]:zR)))&&(!v))=true then some (Out.ret false) else some (.nxt ()))):Option (Out Bool Unit))=if spot s=true then some (.nxt ()) else some (.ret false):=by
 rw [ref04IsName_is];unfold spot
 cases h:(s==([42]:zR)) <;> cases nameB s <;> simp
theorem range_all {p:List zR} {n:Nat} (h:n≤p.length) (q:zR→Bool):(List.range n).all (fun j=>q (p.getD j default))=(p.take n).all q:=by
 rw [Bool.eq_iff_iff,List.all_eq_true,List.all_eq_true]
 constructor
 ·intro H x hx
  obtain ⟨i,hi,rfl⟩:=List.getElem_of_mem hx
  simp only [List.length_take] at hi
  have:=H i (by simp;omega)
  rw [List.getD_eq_getElem?_getD,List.getElem?_eq_getElem (by omega)] at this
  simpa using this
 ·intro H j hj
  have hj:j < n:=by simpa using hj
  have:p[j] ∈ p.take n:=by rw [List.mem_take_iff_getElem];exact ⟨j,by omega,rfl⟩
  have:=H _ this
  rw [List.getD_eq_getElem?_getD,List.getElem?_eq_getElem (by omega)]
  simpa using this
theorem ref30MayPattern_is {p:List zR} (h:p.length≤maxLen):vm p=some (patB p):=by
 unfold vm
 by_cases h0:0 < p.length
 ·rw [wrapLen h0 h,zW (by intro _;omega)]
  have e:decide ((p.length:Int) > 0)=true:=by simpa using h0
  rw [e,Int.toNat_natCast,last_getD h0]
  cases he:endsB p
  ·rw [if_neg (by simp)]
   have ep:patB p=(decide (p.length≤3)&&p.all spot):=by
    unfold patB yU;rw [he];simp [h0]
   rw [ep]
   have e1:decide ((p.length:Int) < 1)=false:=by simp;omega
   have e2:decide ((p.length:Int) > 3)=!decide (p.length≤3):=by rw [Bool.eq_iff_iff];simp;omega
   rw [e1,e2]
   cases decide (p.length≤3)
   ·simp
   ·rw [if_neg (by simp),lp_all0 (r:=false) spot]
    ·cases p.all spot <;> simp
    ·intro i x hx
     rw [zW (by intro _;have:=(List.getElem?_eq_some_iff.1 hx).1;omega)]
     have eg:p.getD ((i:Int)).toNat default=x:=by rw [Int.toNat_natCast,List.getD_eq_getElem?_getD,hx];rfl
     rw [eg];exact spot_step x
  ·rw [if_pos (by simp)]
   have el:(yU p)=p.take (p.length - 1):=by unfold yU;rw [he,if_pos rfl,List.dropLast_eq_take]
   have ep:patB p=(decide (p.length - 1≤3)&&(p.take (p.length - 1)).all spot):=by
    unfold patB;rw [he,el];simp
   rw [ep]
   have e0:((((p.length - 1:Nat):Int))==0)=decide (p.length - 1=0):=by rw [Bool.eq_iff_iff];simp
   rw [e0]
   by_cases hn:p.length - 1=0
   ·simp [hn]
   ·rw [if_neg (by simpa using hn)]
    have e1:decide (((p.length - 1:Nat):Int) < 1)=false:=by simp;omega
    have e2:decide (((p.length - 1:Nat):Int) > 3)=!decide (p.length - 1≤3):=by rw [Bool.eq_iff_iff];simp;omega
    rw [e1,e2]
    cases decide (p.length - 1≤3)
    ·simp
    ·rw [if_neg (by simp),zW (by simp only [maxLen] at h;omega),lp_all0 (r:=false) (fun j=>spot (p.getD j default)),range_all (by omega)]
     ·cases (p.take (p.length - 1)).all spot <;> simp
     ·intro i x hx
      obtain ⟨hl,hv⟩:=List.getElem?_eq_some_iff.1 hx
      simp at hl hv;subst hv
      have hi:i < p.length:=by omega
      rw [idx_at hi]
      simp only [Option.bind_some]
      rw [zW (by intro _;omega)]
      have eg:p.getD ((i:Int)).toNat default=p[i]:=by rw [Int.toNat_natCast,List.getD_eq_getElem?_getD,List.getElem?_eq_getElem hi];rfl
      have eg2:p.getD i default=p[i]:=by rw [List.getD_eq_getElem?_getD,List.getElem?_eq_getElem hi];rfl
      rw [eg,eg2];exact spot_step _
 ·have:p=[]:=List.eq_nil_of_length_eq_zero (by omega)
  subst this;rfl
def ve:List zR→List zR→Bool
 | [],path=>path.length==0
 | x::t,path=>x==[42,42] || (match path with | []=>false | y::r=>(x==[42] || x==y)&&ve t r)
theorem refMatchN_is:∀ (p path:List zR) (n:Nat),p.length < n→vg n p path=some (ve p path)
 | [],path,n,h=>by
  cases n with
  | zero=>omega
  | succ n=>simp [vg,ve];rw [Bool.eq_iff_iff];simp
 | x::t,path,n,h=>by
  cases n with
  | zero=>omega
  | succ n =>
   have e0:((((x::t).length:Nat):Int)==0)=false:=by rw [beq_eq_false_iff_ne];simp;omega
   have ei:vH (x::t) (0:Int)=some x:=yA (i:=0) rfl
   rw [vg,e0,ei]
   simp only [Option.bind_some]
   cases hx:(x==([42,42]:zR))
   ·cases path with
    | nil=>simp [x5,ve,hx]
    | cons y r =>
     have ih:=refMatchN_is t r n (by simpa using h)
     have e1:decide ((((y::r).length:Nat):Int) > 0)=true:=decide_eq_true (by simp only [List.length_cons];omega)
     have t1:(List.take (((x::t).length:Nat):Int).toNat (x::t)).drop (1:Int).toNat=t:=by rw [Int.toNat_natCast,List.take_length];rfl
     have t2:(List.take (((y::r).length:Nat):Int).toNat (y::r)).drop (1:Int).toNat=r:=by rw [Int.toNat_natCast,List.take_length];rfl
     have g1:(x::t).getD (0:Int).toNat default=x:=rfl
     have g2:(y::r).getD (0:Int).toNat default=y:=rfl
     rw [zW (by intro _;simp only [List.length_cons];omega),zW (by intro _;simp only [List.length_cons];omega),zW (by intro _;simp only [List.length_cons];omega),zW (by intro _;simp only [List.length_cons];omega),zW (by intro _;simp only [List.length_cons];omega),e1,t1,t2,g1,g2,ih]
     simp only [ve,hx]
     cases (x==([42]:zR)) <;> cases (x==y) <;> simp
   ·simp [ve,hx]
theorem refMatch_is (p path:List zR):ref30Xmatches p path=some (ve p path):=anyN_of (p.length+1) (fun n hn=>refMatchN_is p path n (by omega))
theorem refMatch_all:∀ (p path:List zR),(∀ x ∈ p,spot x=true)→ve p path=(decide (p.length≤path.length)&&decide (path.length≤p.length)&&agreeB p path)
 | [],path,_=>by cases path <;> simp [ve,agreeB]
 | x::t,[],h=>by simp [ve,vc (h x (by simp))]
 | x::t,y::r,h=>by
  rw [ve,vc (h x (by simp)),refMatch_all t r (fun z hz=>h z (by simp [hz])),agreeB]
  have a1:decide ((x::t).length≤(y::r).length)=decide (t.length≤r.length):=by simp
  have a2:decide ((y::r).length≤(x::t).length)=decide (r.length≤t.length):=by simp
  rw [a1,a2]
  cases (x==[42] || x==y) <;> simp
theorem refMatch_ends:∀ (p path:List zR),(∀ x ∈ p,spot x=true)→ve (p++[[42,42]]) path=(decide (p.length≤path.length)&&agreeB p path)
 | [],path,_=>by simp [ve,agreeB]
 | x::t,[],h=>by simp [ve,vc (h x (by simp))]
 | x::t,y::r,h=>by
  rw [List.cons_append,ve,vc (h x (by simp)),refMatch_ends t r (fun z hz=>h z (by simp [hz])),agreeB]
  have a1:decide ((x::t).length≤(y::r).length)=decide (t.length≤r.length):=by simp
  rw [a1]
  cases (x==[42] || x==y) <;> simp
theorem ref30Match_is {p path:List zR} (h:p.length≤maxLen):qU p path=some (matchB p path):=by
 unfold qU matchB
 rw [ref30MayPattern_is h]
 cases hp:patB p
 ·simp
 ·simp only [Option.bind_some,ref04MayPath_is,Bool.true_and]
  cases pathB path
  ·simp
  ·simp only [Bool.true_and,beq_self_eq_true,if_true,refMatch_is,Option.bind_some]
   congr 1
   have hs:∀ x ∈ yU p,spot x=true:=by
    unfold patB at hp;simp only [Bool.and_eq_true,List.all_eq_true] at hp;exact hp.2
   cases he:endsB p
   ·have e:yU p=p:=by unfold yU;rw [he];rfl
    rw [e] at hs ⊢
    rw [refMatch_all p path hs];simp
   ·have e:yU p=p.dropLast:=by unfold yU;rw [he];rfl
    rw [e] at hs ⊢
    rw [ends_app he,refMatch_ends _ path hs];simp
theorem rightsXparts_is {p:List zR} (h0:0 < p.length) (h:p.length≤maxLen):rightsXparts p=some (yU p,endsB p):=by
 unfold rightsXparts yU
 rw [wrapLen h0 h,idx_at (by omega),slc_init h0]
 have:=last_getD h0
 rw [List.getD_eq_getElem?_getD,List.getElem?_eq_getElem (by omega),Option.getD_some] at this
 simp only [Option.bind_some,this]
 cases endsB p <;> rfl
theorem rightsXwider_is {p q:List zR} (hp:0 < p.length) (hq:0 < q.length) (h1:p.length≤maxLen) (h2:q.length≤maxLen):rightsXwider p q=some (widerB p q):=by
 unfold rightsXwider widerB
 rw [rightsXparts_is hp h1,rightsXparts_is hq h2]
 simp only [Option.bind_some]
 by_cases hl:(yU p).length≤(yU q).length
 ·have e1:decide (((yU p).length:Int) > ((yU q).length:Int))=false:=decide_eq_false (by omega)
  have e2:decide (((yU p).length:Int) < ((yU q).length:Int))=!decide ((yU q).length≤(yU p).length):=by rw [Bool.eq_iff_iff];simp
  rw [e1,e2,agree_loop (yU q) (fun i x hi=>by rw [zW (by intro _;omega),Int.toNat_natCast]) _ 0 (by omega)]
  simp only [List.drop_zero,decide_eq_true hl]
  cases endsB p <;> cases endsB q <;> cases decide ((yU q).length≤(yU p).length) <;> cases agreeB (yU p) (yU q) <;> simp
 ·have e1:decide (((yU p).length:Int) > ((yU q).length:Int))=true:=decide_eq_true (by omega)
  rw [e1,decide_eq_false hl];simp
theorem patB_pos {p:List zR} (h:patB p=true):0 < p.length:=by
 refine List.length_pos_iff.2 ?_
 rintro rfl
 revert h;decide
theorem rightsIdleC1_is {x y:GRule} (hx:wB x) (hy:wB y) (px:patB x.path=true) (py:patB y.path=true):qo y x=some (coverB x y):=by
 unfold qo coverB lessB
 rw [rightsXwider_is (patB_pos py) (patB_pos px) hy hx]
 cases ((y.rep==255 || y.rep==x.rep)&&(IntKind.wrap .u8 (((BitVec.ofInt (IntKind.bits .u8) x.kinds &&& ~~~(BitVec.ofInt (IntKind.bits .u8) y.kinds)).toNat:Int))==0)&&(y.read || !x.read)) <;> simp
def idleAt:Nat→List GRule→List Int
 | _,[]=>[]
 | i,x::t=>if t.any (coverB x)=true then (i:Int)::idleAt (i+1) t else idleAt (i+1) t
theorem idle_loop (l:List GRule) (hlen:∀ x ∈ l,wB x) (hpat:∀ x ∈ l,patB x.path=true) (hl:l.length≤64) {f:Nat→GRule→List Int→Option (Out (List Int) (List Int))}
  (hf:∀ i x s,f i x s=((slc l (IntKind.wrap .i64 ((i:Int)+1)) (l.length:Int)).bind fun m12=>((xJ m12 (fun x0=>qo x0 x)).bind fun v13=>(if v13=true then (x5 (s.length+([(i:Int)]:List Int).length≤vy) (some (.nxt (s++[(i:Int)])))) else some (.nxt s))))) :
  ∀ (L:List GRule) (i:Nat) (s:List Int),L=l.drop i→s.length≤i→i≤l.length→ya f L i s=some (.inr (s++idleAt i L))
 | [],_,s,_,_,_=>by simp [ya,idleAt]
 | x::t,i,s,hL,hs,hi=>by
  have hil:i < l.length:=by
   refine Decidable.byContradiction fun hn=>?_
   rw [List.drop_of_length_le (by omega)] at hL;cases hL
  have e:=(List.getElem_cons_drop hil).symm
  rw [e] at hL
  injection hL with hx ht
  have hxm:x ∈ l:=by rw [hx];exact List.getElem_mem hil
  have ew:IntKind.wrap .i64 ((i:Int)+1)=((i+1:Nat):Int):=by rw [w64n (by omega)];omega
  have hsub:∀ y ∈ t,y ∈ l:=fun y hy=>by rw [ht] at hy;exact List.mem_of_mem_drop hy
  have hc:xJ t (fun x0=>qo x0 x)=some (t.any (coverB x)):=containsRule_is t fun y hy=>rightsIdleC1_is (hlen x hxm) (hlen y (hsub y hy)) (hpat x hxm) (hpat y (hsub y hy))
  have es:slc l ((i+1:Nat):Int) (l.length:Int)=some t:=by rw [slc_at (by omega),ht];simp
  simp only [ya,hf,ew,es,Option.bind_some,hc,idleAt]
  cases hcv:t.any (coverB x)
  ·simp only [Bool.false_eq_true,if_false]
   exact idle_loop l hlen hpat hl hf t (i+1) s ht (by omega) (by omega)
  ·simp only [if_true]
   rw [zW (by simp only [vy,List.length_cons,List.length_nil];omega)]
   simp only
   rw [idle_loop l hlen hpat hl hf t (i+1) (s++[(i:Int)]) ht (by simp;omega) (by omega)]
   simp
theorem rightsIdle_is {l:List GRule} (hlen:∀ x ∈ l,wB x) (h:rulesB l=true):rightsIdle l=some (idleAt 0 l):=by
 unfold rightsIdle
 rw [vf hlen,h]
 have h64:l.length≤64:=by unfold rulesB at h;simp at h;exact h.1
 have hpat:∀ x ∈ l,patB x.path=true:=by
  unfold rulesB at h;simp at h
  intro x hx
  have:=h.2 x hx
  unfold ruleB at this;simp at this;exact this.1.2
 simp only [Option.bind_some,Bool.not_true,Bool.false_eq_true,if_false]
 rw [idle_loop l hlen hpat h64 (fun i x s=>rfl) l 0 [] (by simp) (by simp) (by omega)]
 rfl
end Go.Vv
