/- Layer 42's document: rows, bits, rules, what is told and shown. -/
import Derived.Test.YtppafalkommbdaaGreatPlT0
namespace Go.Vv
set_option linter.unusedVariables false
set_option linter.unusedSimpArgs false
open Go
noncomputable def mayF:Nat→GRule→Unit→Option (Out Bool Unit):=(fun (n1:Nat) (x1:GRule) (s1:Unit)=>(((if (((decide (x1.rep > (15:Int)))&&(x1.rep != (255:Int)))==false)=true then vm x1.path else some default).bind fun v14=>((if ((((decide (x1.rep > (15:Int)))&&(x1.rep != (255:Int))) || (!v14))==false)=true then wg x1.kinds (0:Int) else some default).bind fun v15=>((if (((((decide (x1.rep > (15:Int)))&&(x1.rep != (255:Int))) || (!v14)) || v15)==false)=true then wg x1.kinds (6:Int) else some default).bind fun v16=>((if ((((((decide (x1.rep > (15:Int)))&&(x1.rep != (255:Int))) || (!v14)) || v15) || v16)==false)=true then wg x1.kinds (7:Int) else some default).bind fun v17=>(if ((((((decide (x1.rep > (15:Int)))&&(x1.rep != (255:Int))) || (!v14)) || v15) || v16) || v17)=true then some (.ret false) else some (.nxt ())))))):Option (Out _ Unit)))
theorem may42Xeq (l0:List GRule):qc l0=(if (decide (((l0).length:Int) > (64:Int)))=true then some false else (lp (ya mayF l0 0 ()) fun (s1:Unit)=>some true)):=rfl
noncomputable def whyF (rep1:Int) (o2:GOp):Nat→GRule→Int→Option (Out Int Int):=(fun (n1:Nat) (x1:GRule) (s1:Int)=>(((if (((x1.rep==(255:Int)) || (x1.rep==rep1))==true)=true then qU x1.path o2.path else some default).bind fun v19=>((if ((((x1.rep==(255:Int)) || (x1.rep==rep1))&&v19)==true)=true then wg x1.kinds o2.kind else some default).bind fun v20=>(if ((((x1.rep==(255:Int)) || (x1.rep==rep1))&&v19)&&v20)=true then some (.nxt (n1:Int)) else some (.nxt s1)))):Option (Out _ Int)))
theorem why42Xeq (l0:List GRule) (rep1:Int) (o2:GOp):ref42Why l0 rep1 o2=((qc l0).bind fun v1=>((if ((!v1)==false)=true then ref04May o2 else some default).bind fun v2=>(if ((!v1) || (!v2))=true then some (-1:Int) else (lp (ya (whyF rep1 o2) l0 0 (-1:Int)) fun (s1:Int)=>some s1)))):=rfl
noncomputable def shF (rep1:Int) (path2:List zR):Nat→GRule→Bool→Option (Out Bool Bool):=(fun (n1:Nat) (x1:GRule) (s1:Bool)=>(((if (((x1.rep==(255:Int)) || (x1.rep==rep1))==true)=true then qU x1.path path2 else some default).bind fun v12=>(if ((((x1.rep==(255:Int)) || (x1.rep==rep1))&&v12)&&x1.read)=true then some (.nxt x1.allow) else some (.nxt s1))):Option (Out _ Bool)))
theorem sh42Xeq (l0:List GRule) (rep1:Int) (path2:List zR):ref42Shows l0 rep1 path2=((qc l0).bind fun v1=>(if (!v1)=true then some false else (lp (ya (shF rep1 path2) l0 0 false) fun (s1:Bool)=>some s1))):=rfl
noncomputable def viF (l0:List GRule) (rep1:Int):Nat→GRow→List GRow→Option (Out (List GNode×Int) (List GRow)):=(fun (n1:Nat) (x1:GRow) (s1:(List GRow))=>(((ref42Shows l0 rep1 x1.path).bind fun v16=>(if v16=true then (x5 ((s1).length+(([x1]:List GRow)).length≤vy) (some (.nxt (s1++([x1]:List GRow))))) else some (.nxt s1))):Option (Out _ (List GRow))))
theorem vi42Xeq (l0:List GRule) (rep1:Int) (t2:List GNode):ref42View l0 rep1 t2=((qc l0).bind fun v1=>((if ((!v1)==false)=true then ref07May t2 else some default).bind fun v2=>(if ((!v1) || (!v2))=true then some (([]:List GNode),(2:Int)) else ((ref30Rows t2).bind fun v4=>(lp (ya (viF l0 rep1) v4 0 ([]:List GRow)) fun (s1:(List GRow))=>((ref30Made s1).bind fun v19=>some (v19,(0:Int)))))))):=rfl
noncomputable def roF:Nat→GVarveref07Row→List GRow→Option (Out (List GRow) (List GRow)):=(fun (n1:Nat) (x1:GVarveref07Row) (s1:(List GRow))=>((x5 ((s1).length+(([(GRow.mk x1.path x1.l)]:List GRow)).length≤vy) (some (.nxt (s1++([(GRow.mk x1.path x1.l)]:List GRow))))):Option (Out _ (List GRow))))
theorem roT_eq (t0:List GNode):ref30Rows t0=((ref07May t0).bind fun v1=>(if (!v1)=true then some ([]:List GRow) else ((ref07Rows t0 ([]:List zR)).bind fun v3=>(lp (ya roF v3 0 ([]:List GRow)) fun (s1:(List GRow))=>some s1)))):=rfl
theorem filt_all {α:Type} (L:List α):L.filter (fun _=>true)=L:=List.filter_eq_self.2 fun _ _=>rfl
theorem r7F_is {n:Nat} {a:List zR} {x:GNode} {s:List GVarveref07Row} (ha:a.length≤1048576) (h:qq n x.subs (a++[x.name])=some ((xt (a++[x.name]) x.subs).map vR)) (hs:s.length+(rowsN a x).length≤1048576) (i:Nat):r7F n a i x s=some (.nxt (s++(rowsN a x).map vR)):=by
 rw [vD] at hs ⊢
 simp only [List.length_append,List.length_map] at hs
 unfold r7F
 simp only [List.nil_append]
 rw [zW (wp (by simp;omega)),zW (wp (by simp;omega))]
 rw [loop_keep (fun _:GLeaf=>true) (fun l=>(⟨a++[x.name],l⟩:GVarveref07Row)) x.leaves 0 s (wp (by omega)) (fun i y s' _ hl=>by rw [zW (by simpa using hl),if_pos rfl]),wc]
 rw [filt_all]
 rw [h,Option.bind_some,zW (wp (by simp;omega))]
 simp [vR,Function.comp_def]
theorem rows7_is:∀ (n:Nat) (t:List GNode) (a:List zR),GNode.deps t < n→Small t→a.length+GNode.deps t≤1048576→qq n t a=some ((xt a t).map vR)
 | 0,_,_,h,_,_=>by omega
 | n+1,t,a,h,hs,ha=>by
  rw [rows7_eq]
  have key:∀ (u:List GNode) (i:Nat) (s:List GVarveref07Row),(∀ x ∈ u,x ∈ t)→s.length+(xt a u).length≤1048576→ya (r7F n a) u i s=some (.inr (s++(xt a u).map vR)):=by
   intro u
   induction u with
   | nil=>intro i s _ _;simp [ya,xt]
   | cons x r ih =>
    intro i s hm hl
    have e:xt a (x::r)=rowsN a x++xt a r:=by rw [xP,List.flatMap_cons,← xP]
    rw [e] at hl ⊢
    simp only [List.length_append] at hl
    have hx:=hm x (by simp)
    have h1:x.dep≤GNode.deps t:=dep_mem hx
    have h2:=vr x
    have hr:=rows7_is n x.subs (a++[x.name]) (by omega) (hs.subs hx) (by simp;omega)
    have hf:=r7F_is (s:=s) (by omega) hr (by omega) i
    simp only [ya,hf]
    rw [ih (i+1) (s++(rowsN a x).map vR) (fun y hy=>hm y (by simp [hy])) (by simp;omega)]
    simp
  rw [key t 0 [] (fun x h=>h) (by simpa using Nat.le_trans (rows_len _ t a (Nat.le_refl _)) hs.2),wc,List.nil_append]
theorem refRows_is {t:List GNode} (h:Small t):ref30Rows t=some (if treeB 0 t=true then xt [] t else []):=by
 rw [roT_eq,ref07May_is h,Option.bind_some]
 cases treeB 0 t with
 | false=>rfl
 | true =>
  have hr:ref07Rows t []=some ((xt [] t).map vR):=anyN_of (GNode.deps t+1) fun n hn=>rows7_is n t [] (by omega) h (by simpa using h.dep)
  have hl:(xt [] t).length≤1048576:=Nat.le_trans (rows_len _ t [] (Nat.le_refl _)) h.2
  rw [if_neg (by decide),hr,Option.bind_some,loop_keep (fun _:GVarveref07Row=>true) (fun x=>(⟨x.path,x.l⟩:GRow)) _ 0 [] (wp (by simp;omega)) (fun i y s' _ hl'=>by unfold roF;rw [zW (by simpa using hl'),if_pos rfl]),wc]
  have e:(((xt [] t).map vR).filter fun _=>true).map (fun x=>(⟨x.path,x.l⟩:GRow))=xt [] t:=by
   rw [filt_all,List.map_map]
   exact List.map_id' _
  rw [e]
  rfl
theorem fold_half:∀ (L:List Nat) (n:Nat),n < 256→L.foldl (fun (s:Int) _=>IntKind.wrap .u8 (Int.tdiv s 2)) (n:Int)=((n / 2 ^ L.length:Nat):Int)
 | [],n,_=>by simp
 | x::L,n,h=>by
  have e:IntKind.wrap .u8 (Int.tdiv (n:Int) 2)=((n / 2:Nat):Int):=by
   have:Int.tdiv (n:Int) 2=((n / 2:Nat):Int):=by rw [Int.tdiv_eq_ediv_of_nonneg (Int.natCast_nonneg _)];rfl
   rw [this,wrap8 (by omega)]
  rw [List.foldl_cons,e,fold_half L (n / 2) (by omega),List.length_cons,Nat.pow_succ,Nat.div_div_eq_div_mul,Nat.mul_comm 2]
theorem xbit_is {n k:Nat} (hn:n < 256) (hk:k < 256):wg (n:Int) (k:Int)=some (n.testBit k):=by
 unfold wg
 rw [zW (by omega),loopL_fold (fun (s:Int) _=>IntKind.wrap .u8 (Int.tdiv s 2)) _ _ _ (fun _ _ _ _=>rfl),wc,fold_half _ _ hn,Int.toNat_natCast,List.length_range]
 have e:Int.tmod ((n / 2 ^ k:Nat):Int) 2=((n / 2 ^ k % 2:Nat):Int):=by rw [Int.tmod_eq_emod_of_nonneg (Int.natCast_nonneg _)];rfl
 rw [e,Nat.testBit_eq_decide_div_mod_eq]
 congr 1
 rw [Bool.eq_iff_iff]
 simp only [beq_iff_eq,decide_eq_true_eq]
 omega
theorem bitB_is {z:GRule} {a j:Nat} (hz:z.kinds=a) (ha:a < 256) (hj8:j < 8):bitB j z=a.testBit j:=by
 unfold bitB
 have e1:min (Int.toNat (j:Int)) (IntKind.bits .u8)=j:=by simp only [IntKind.bits,Int.toNat_natCast];omega
 have e3:((2:Int) ^ j)=((2 ^ j:Nat):Int):=by simp
 have e2:Int.fdiv (a:Int) (2 ^ j)=((a / 2 ^ j:Nat):Int):=by
  rw [e3,Int.fdiv_eq_ediv_of_nonneg _ (Int.natCast_nonneg _)];rfl
 rw [hz,e1,e2]
 have e4:(BitVec.ofInt (IntKind.bits .u8) ((a / 2 ^ j:Nat):Int) &&& BitVec.ofInt (IntKind.bits .u8) 1).toNat=a / 2 ^ j % 2:=by
  have e5:(1:Int)=((1:Nat):Int):=rfl
  rw [e5,BitVec.ofInt_natCast,BitVec.ofInt_natCast,BitVec.toNat_and,BitVec.toNat_ofNat,BitVec.toNat_ofNat]
  simp only [IntKind.bits]
  rw [show 1 % 2 ^ 8=1 from rfl,Nat.and_one_is_mod]
  omega
 rw [e4,wrap8 (by omega),Nat.testBit_eq_decide_div_mod_eq,Bool.eq_iff_iff]
 simp only [beq_iff_eq,decide_eq_true_eq]
 omega
theorem mask_fin:∀ n:Fin 256,(IntKind.wrap .u8 (((BitVec.ofInt (IntKind.bits .u8) ((n.1:Nat):Int) &&& ~~~(BitVec.ofInt (IntKind.bits .u8) 62)).toNat:Int))==0)=(!n.1.testBit 0&&(!n.1.testBit 6&&!n.1.testBit 7)):=by decide +kernel
theorem mask_is {n:Nat} (h:n < 256):(IntKind.wrap .u8 (((BitVec.ofInt (IntKind.bits .u8) (n:Int) &&& ~~~(BitVec.ofInt (IntKind.bits .u8) 62)).toNat:Int))==0)=(!n.testBit 0&&(!n.testBit 6&&!n.testBit 7)):=mask_fin ⟨n,h⟩
def Byte (x:GRule):Prop:=0≤x.kinds∧x.kinds < 256
theorem may42Xis {l:List GRule} (h:∀ x ∈ l,wB x) (hb:∀ x ∈ l,Byte x):qc l=some (rulesB l):=by
 rw [may42Xeq]
 unfold rulesB
 by_cases hl:l.length≤64
 ·rw [if_neg (by simp;omega),decide_eq_true hl,Bool.true_and]
  rw [lp_all0 (r:=false) ruleB (fun i x hx=>?_)]
  ·cases l.all ruleB <;> rfl
  ·have hm:=List.mem_of_getElem? hx
   obtain ⟨h0,h1⟩:=hb x hm
   obtain ⟨n,hn⟩:∃ n:Nat,x.kinds=n:=⟨x.kinds.toNat,by omega⟩
   have hn':n < 256:=by omega
   have x0:=xbit_is hn' (show 0 < 256 by decide)
   have x6:=xbit_is hn' (show 6 < 256 by decide)
   have x7:=xbit_is hn' (show 7 < 256 by decide)
   have hr:ruleB x=((decide (x.rep < 16) || x.rep==255)&&patB x.path&&(!n.testBit 0&&(!n.testBit 6&&!n.testBit 7))):=by
    unfold ruleB;rw [hn,mask_is hn']
   have hc:(decide (x.rep > 15)&&(x.rep != 255))=!(decide (x.rep < 16) || x.rep==255):=by
    have e:decide (x.rep > 15)=!decide (x.rep < 16):=by by_cases h1:x.rep < 16 <;> simp [h1] <;> omega
    show (decide (x.rep > 15)&&!(x.rep==255))=_
    rw [e]
    cases decide (x.rep < 16) <;> cases (x.rep==255) <;> rfl
   unfold mayF
   rw [hr,hc,ref30MayPattern_is (h x hm),hn]
   have x0':wg (n:Int) 0=some (n.testBit 0):=x0
   have x6':wg (n:Int) 6=some (n.testBit 6):=x6
   have x7':wg (n:Int) 7=some (n.testBit 7):=x7
   rw [x0',x6',x7']
   cases (decide (x.rep < 16) || x.rep==255) <;> cases patB x.path <;> cases n.testBit 0 <;> cases n.testBit 6 <;> cases n.testBit 7 <;> rfl
 ·rw [if_pos (by simp;omega),decide_eq_false hl,Bool.false_and]
theorem last_fold (q:GRule→Bool) {f:Nat→GRule→Int→Option (Out Int Int)} (L:List GRule):∀ (t:List GRule) (u:List GRule),u++t=L→(∀ i x s,x ∈ L→f i x s=if q x=true then some (.nxt (i:Int)) else some (.nxt s))→ya f t u.length (qD q L u.length)=some (.inr (qD q L L.length))
 | [],u,e,_=>by rw [List.append_nil] at e;subst e;rfl
 | x::t,u,e,h=>by
  have hx:L[u.length]?=some x:=by rw [← e];simp
  have e2:(u++[x])++t=L:=by rw [← e];simp
  have:=last_fold q L t (u++[x]) e2 h
  rw [List.length_append,List.length_singleton] at this
  simp only [ya,h _ x _ (List.mem_of_getElem? hx)]
  simp only [qD,hx] at this
  cases hq:q x with
  | true=>simp only [hq,if_true] at this ⊢;exact this
  | false=>simp only [hq,Bool.false_eq_true,if_false] at this ⊢;exact this
theorem let_fold (q:GRule→Bool) {f:Nat→GRule→Bool→Option (Out Bool Bool)} (L:List GRule):∀ (t:List GRule) (u:List GRule) (i:Nat),u++t=L→(∀ i x s,x ∈ L→f i x s=if q x=true then some (.nxt x.allow) else some (.nxt s))→ya f t i (letB q u)=some (.inr (letB q L))
 | [],u,i,e,_=>by rw [List.append_nil] at e;subst e;rfl
 | x::t,u,i,e,h=>by
  have e2:(u++[x])++t=L:=by rw [← e];simp
  have hx:x ∈ L:=by rw [← e];simp
  have:=let_fold q L t (u++[x]) (i+1) e2 h
  have hl:letB q (u++[x])=if q x=true then x.allow else letB q u:=by
   unfold letB
   rw [List.reverse_append,List.reverse_singleton,List.singleton_append,List.find?_cons]
   cases q x <;> rfl
  rw [hl] at this
  simp only [ya,h i x _ hx]
  cases hq:q x with
  | true=>simp only [hq,if_true] at this ⊢;exact this
  | false=>simp only [hq,Bool.false_eq_true,if_false] at this ⊢;exact this
theorem why42Xis {l:List GRule} (h:∀ x ∈ l,wB x) (hb:∀ x ∈ l,Byte x) (rep:Int) (o:GOp):ref42Why l rep o=some (if (rulesB l&&opB o)=true then qD (vQ rep o.path (bitB o.kind)) l l.length else -1):=by
 rw [why42Xeq,may42Xis h hb,ref04May_is,Option.bind_some]
 cases rulesB l with
 | false=>rfl
 | true =>
  cases ho:opB o with
  | false=>rfl
  | true =>
   have hk:1≤o.kind∧o.kind≤5:=by unfold opB at ho;simp at ho;omega
   obtain ⟨j,hj⟩:∃ j:Nat,o.kind=j:=⟨o.kind.toNat,by omega⟩
   rw [if_pos (by rfl),Option.bind_some,if_neg (by decide)]
   have:=last_fold (vQ rep o.path (bitB o.kind)) (f:=whyF rep o) l l [] rfl (fun i x s hx=>by
    obtain ⟨h0,h1⟩:=hb x hx
    obtain ⟨n,hn⟩:∃ n:Nat,x.kinds=n:=⟨x.kinds.toNat,by omega⟩
    unfold whyF vQ
    rw [ref30Match_is (h x hx),hn,hj,xbit_is (by omega) (by omega),bitB_is hn (by omega) (by omega),Bool.or_comm (x.rep==255)]
    cases (x.rep==rep || x.rep==255) <;> cases matchB x.path o.path <;> cases n.testBit j <;> rfl)
   rw [show (-1:Int)=qD (vQ rep o.path (bitB o.kind)) l ([]:List GRule).length from rfl]
   rw [show ya (whyF rep o) l 0=ya (whyF rep o) l ([]:List GRule).length from rfl,this,wc]
   rfl
theorem sh42Xis {l:List GRule} (h:∀ x ∈ l,wB x) (hb:∀ x ∈ l,Byte x) (rep:Int) (path:List zR):ref42Shows l rep path=some (rulesB l&&showB l rep path):=by
 rw [sh42Xeq,may42Xis h hb,Option.bind_some]
 cases rulesB l with
 | false=>rfl
 | true =>
  rw [if_neg (by decide)]
  have:=let_fold (vQ rep path (fun y=>y.read)) (f:=shF rep path) l l [] 0 rfl (fun i x s hx=>by
   unfold shF vQ
   rw [ref30Match_is (h x hx),Bool.or_comm (x.rep==255)]
   cases (x.rep==rep || x.rep==255) <;> cases matchB x.path path <;> cases hq:x.read <;> simp [hq])
  rw [show false=letB (vQ rep path (fun y=>y.read)) [] from rfl,this,wc]
  rfl
theorem view42Xis {l:List GRule} (h:∀ x ∈ l,wB x) (hb:∀ x ∈ l,Byte x) (rep:Int) {t:List GNode} (hs:Small t):ref42View l rep t=some (if (rulesB l&&treeB 0 t)=true then (vE (showB l rep) [] t,0) else ([],2)):=by
 rw [vi42Xeq,may42Xis h hb,ref07May_is hs,Option.bind_some]
 cases hr:rulesB l with
 | false=>rfl
 | true =>
  cases ht:treeB 0 t with
  | false=>rfl
  | true =>
   rw [if_pos (by rfl),Option.bind_some,if_neg (by decide),refRows_is hs,if_pos ht,Option.bind_some]
   have hlen:(xt [] t).length≤1048576:=Nat.le_trans (rows_len _ t [] (Nat.le_refl _)) hs.2
   rw [loop_keep (fun r:GRow=>showB l rep r.path) (fun r=>r) (xt [] t) 0 [] (wp (by simp;omega)) (fun i x s _ hsl=>by
    unfold viF
    rw [sh42Xis h hb,hr,Bool.true_and,Option.bind_some]
    cases showB l rep x.path with
    | false=>rfl
    | true=>rw [if_pos rfl,if_pos rfl,zW (by simpa using hsl)]),wc]
   have hk:=keep_rows (showB l rep) t []
   rw [List.nil_append,List.map_id',← hk,made_is (hs.keep (is:=showB l rep) []) (keep_may (showB l rep) t 0 [] ht),Option.bind_some]
   rfl
end Go.Vv
