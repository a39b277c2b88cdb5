/- Rules for what is new: appends whose block is nobody's; rows below a round. -/
import Derived.Test.YtoebhbekbkkkeaaVvCu
import Derived.Test.YtoebhbekbkkkeaaVvIt
import Derived.Test.YtoebhbekbkkkeaaVvR1
namespace Go.Vv
open Go Go.RowKit
section
variable {P:Program} {o:Oper} {env env':List AV} {h:AH} {ops:Array Oper} {Q:List AV→AH→Prop} {rest:List Oper}
theorem s_anew {c:Call} {x y:Operand} {t u e e':TypeId} {k k':Nat} {a b b':AV} {ys:List (List AV)} (ho:o.op=.call c) (hc:c.callee=.builtin .append) (hs:c.args=#[x,y]) (ht:c.argTypes=#[t,u]) (hu:El P t e k)
  (hu':El P u e' k') (hx:yX env x=some a) (hy:yX env y=some b) (ha:tyfix P t a=.osl none k []) (hb:tyfix P u b=b') (hn:qO k b'=some ys) (hl:ys.length≤w9):anew P o env=some (k,ys):=by
 obtain ⟨h1,h2⟩:=yB hx
 obtain ⟨h3,h4⟩:=yB hy
 obtain ⟨i,h5,h6,h7,h8,h9⟩:=hu.i
 subst h6
 simp [anew,ho,hs,ht,hc,h1,h3,hu.u,hu'.u,h2,h4,h5,h7,h8,h9,ha,hb,hn,hl]
theorem ops_new {k:Nat} {ys:List (List AV)} (hg:aG ops o env=some true) (hn:anew P o env=some (k,ys)) (hd:vp o.dst env (.nsl k ys)=some env') (hk:yq P ops Q rest env' h):yq P ops Q (o::rest) env h:=by
 refine awpOps_consN hg hn ?_
 rw [wi hd];exact hk
end
theorem leV.nil_nsl {k:Nat}:leV (.osl none k []) (.nsl k []):=fun g v hv=>by
 simp only [V] at hv ⊢
 obtain ⟨a,c,e,h1,h2,_⟩:=hv
 exact ⟨a,c,e,h1,h2,.inl trivial⟩
section
variable {P:Program} {o:Oper} {env:List AV} {h:AH} {A A' L B:List Blk} {T T' M C:List Nat} {nb nt:Nat}
theorem d_appR {α:Type} {row:α→List AV} {X Y:List α} (hN:h.blks.length=nb) (hNt:h.toks.length=nt) {c:Call} {x y:Operand} {t u e e':TypeId} {k k' i j n:Nat} {a b b':AV} (ho:o.op=.call c) (hc:c.callee=.builtin .append) (hs:c.args=#[x,y]) (ht:c.argTypes=#[t,u]) (hu:El P t e k)
  (hu':El P u e' k') (hx:yX env x=some a) (hy:yX env y=some b) (ha:tyfix P t a=.rsl (nb+i) (nt+j) k n) (hb:tyfix P u b=b') (hn:qO k b'=some (Y.map row)) (hl:X.length+Y.length≤w9)
  (hi:A[i]?=some (.row (nt+j) k (X.map row))) (hLn:X.length=n) (hm:T[j]?=some n) (hA:A.set i (.row (nt+j) k ((X++Y).map row))=A') (hT:T.set j (X++Y).length=T') :
  zT P o env (((h.ext A T).ext L M).ext B C)=.ok (.rsl (nb+i) (nt+j) k (X++Y).length) (((h.ext A' T').ext L M).ext B C):=by
 subst hN hNt hA hT
 have hil:=(List.getElem?_eq_some_iff.1 hi).1
 have hjl:=(List.getElem?_eq_some_iff.1 hm).1
 have:=e_appR (P:=P) (h:=h) (B:=A++L++B) (T:=T++M++C) (B':=(A.set i (.row (h.toks.length+j) k ((X++Y).map row)))++L++B) (T':=(T.set j (X++Y).length)++M++C) ho hc hs ht hu hu' hx hy ha hb hn hl
  (by rw [List.append_assoc,List.getElem?_append_left hil];exact hi) hLn (by rw [List.append_assoc,List.getElem?_append_left hjl];exact hm)
  (by rw [List.append_assoc,List.append_assoc,List.set_append_left _ _ hil]) (by rw [List.append_assoc,List.append_assoc,List.set_append_left _ _ hjl])
 simp only [wG]
 exact this
end
def seqC (P:Program) (T:Exit→List AV→AH→Prop) (n:Nat) (h0:AH) (b:Code):Exit→List AV→AH→Prop:=fun x env' h'=>match x with
 | .normal=>∃ env2 h2,wk h0 env' h' env2 h2∧awpC P T n b env2 h2
 | x=>T x env' h'
section
variable {P:Program} {T:Exit→List AV→AH→Prop} {n:Nat} {env env2:List AV} {h h0:AH} {a b c:Code}
theorem c_seq (hk:qK P a (seqC P T n h b) env h):awpC P T (n+1) (.seq a b) env h:=hk
theorem cq_seq (hk:awpC P T n b env h):seqC P T n h0 b .normal env h:=⟨env,h,wk.refl _ _ _,hk⟩
theorem cq_ret (hk:T .ret env h):seqC P T n h0 b .ret env h:=hk
theorem c_cut (hh:h=Vv.h0) {B B':List Blk} {T':List Nat} (hl:ctL env env2) (hb:ctB B B') (hk:qK P c T env2 (h.ext B' T')):awpC P T 0 c env (h.ext B T'):=by
 subst hh
 have e:∀ B:List Blk,(Vv.h0.ext B T')=⟨B,T'⟩:=fun B=>by simp [AH.ext,Vv.h0]
 rw [e] at hk ⊢
 cases c <;> exact ⟨env2,B',hl,hb,hk⟩
variable {fn:Func} {K:AV→Prop} {rs:List ResultVar} {v:AV}
theorem t_retL1 (hr:fn.results=⟨rs⟩) (hl:qJ P env h rs=some [v]) (hk:K v):bodyT P fn K .ret env h:=by
 simp only [bodyT,aRes,hr,hl];exact hk
end
theorem specT_of_body_ext {P:Program} {f:FuncId} {fn:Func} {c:Code} (hf:P.funcs[f]?=some fn) (hb:fn.body=some c) (n:Nat) {args:List AV} {h:AH} {K:AV→Prop} {env:List AV}
  (he:args++List.replicate (fn.ntmps - args.length) za=env) (hw:awpC P (bodyT P fn K) n c env (h.ext [] [])):SpecT P f args h K:=by
 rw [ext_nil] at hw
 exact specT_of_body hf hb n (by rw [he];exact hw)
theorem s_storeG {P:Program} {o:Oper} {env:List AV} {h:AH} {t:TypeId} {d:TypeDesc} {k m:Nat} {x y:Operand} {b b':AV} {vs:List AV} (ho:o.op=.store t x y) (ht:Ty P t d k) (hx:yX env x=some (.gptr m)) (hy:yX env y=some b)
  (hf:tyfix P t b=b') (hc:b'.cells?=some vs) (hl:vs.length=k) (hm:Nat.ble k m=true):zT P o env h=.ok za h:=by
 refine s_store ho ht hx hy hf ?_
 simp only [aStore,hc]
 rw [if_pos ⟨hl,Nat.le_of_ble_eq_true hm⟩]
theorem s_idxG {P:Program} {o:Oper} {env:List AV} {h:AH} {α:Type} {L:List α} {y:α} {t e:TypeId} {k:Nat} {kd:IntKind} {n:Int} {x i:Operand} (ho:o.op=.indexAddr t x i) (ht:El P t e k) (hx:yX env x=some (.gsl k L.length)) (hi:yX env i=some (.int kd n)) (hy:idx L n=some y) :
  zT P o env h=.ok (.gptr k) h:=by
 obtain ⟨h1,h2,_⟩:=idxR hy
 refine s_indexAddr ho ht hx hi ?_
 simp only [qk,true_and]
 rw [if_pos ⟨h1,by omega⟩]
end Go.Vv
