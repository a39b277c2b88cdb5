/- Layer 42's document: idle rules; the law of what is told. -/
import Derived.Test.YtppafalkommbdaaGreatPlV8
namespace Go.Vv
set_option linter.unusedVariables false
set_option linter.unusedSimpArgs false
open Go
noncomputable def allF (kx ky:Int):Bool×Int→Option (Out (Out (Out (List Int) (List Int)) (Bool×Int)) (Bool×Int)):=(fun (s3:Bool×Int)=>((if (decide (s3.2 < (6:Int)))=true then ((if (s3.1==true)=true then wg kx s3.2 else some default).bind fun v111=>((if ((s3.1==true)&&((!v111)==false))=true then wg ky s3.2 else some default).bind fun v112=>some (.nxt ((s3.1&&((!v111) || v112)),(IntKind.wrap .u8 (s3.2+(1:Int))))))) else some (.brk (s3.1,s3.2))):Option (Out _ (Bool×Int))))
noncomputable def midF (l0:List GRule) (x1:GRule):Bool×Int→Option (Out (Out (List Int) (List Int)) (Bool×Int)):=(fun (s2:Bool×Int)=>((if (decide (s2.2 < ((l0).length:Int)))=true then ((vH l0 s2.2).bind fun y94=>(lp (wE (allF x1.kinds y94.kinds) (true,(1:Int))) fun (s3:Bool×Int)=>((if ((s2.1==false)&&(((s3.1&&((y94.rep==(255:Int)) || (y94.rep==x1.rep)))&&(y94.read || (!x1.read)))==true))=true then ref42Xwider y94.path x1.path else some default).bind fun v113=>some (.nxt ((s2.1 || (((s3.1&&((y94.rep==(255:Int)) || (y94.rep==x1.rep)))&&(y94.read || (!x1.read)))&&v113)),(IntKind.wrap .i64 (s2.2+(1:Int)))))))) else some (.brk (s2.1,s2.2))):Option (Out _ (Bool×Int))))
noncomputable def outF (l0:List GRule):Nat→GRule→List Int→Option (Out (List Int) (List Int)):=(fun (n1:Nat) (x1:GRule) (s1:(List Int))=>((lp (wE (midF l0 x1) (false,(IntKind.wrap .i64 ((n1:Int)+(1:Int))))) fun (s2:Bool×Int)=>(if s2.1=true then (x5 ((s1).length+(([(n1:Int)]:List Int)).length≤vy) (some (.nxt (s1++([(n1:Int)]:List Int))))) else some (.nxt s1))):Option (Out _ (List Int))))
theorem idle42Xeq (l0:List GRule):ref42Idle l0=((qc l0).bind fun v1=>(if (!v1)=true then some ([]:List Int) else (lp (ya (outF l0) l0 0 ([]:List Int)) fun (s1:(List Int))=>some s1))):=rfl
def widR:List zR→List zR→Bool
 | [],q=>q.isEmpty
 | x::t,q=>x==[42,42] || (match q with | []=>false | y::r=>(!(y==[42,42])&&(x==[42] || x==y))&&widR t r)
theorem widN_is:∀ (p q:List zR) (n:Nat),p.length < n→vN n p q=some (widR p q)
 | [],q,n,h=>by
  cases n with
  | zero=>omega
  | succ n=>cases q <;> simp [vN,widR,x5] <;> omega
 | x::t,q,n,h=>by
  cases n with
  | zero=>omega
  | succ n =>
   have e0:decide ((((x::t).length:Nat):Int) > 0)=true:=decide_eq_true (by simp only [List.length_cons];omega)
   have g1:(x::t).getD (0:Int).toNat default=x:=rfl
   rw [vN,e0,zW (by intro _;simp only [List.length_cons];omega),g1,Bool.true_and]
   cases hx:(x==([42,42]:zR)) with
   | true=>simp [widR,hx]
   | false =>
    have e1:((((x::t).length:Nat):Int)==0)=false:=by rw [beq_eq_false_iff_ne];simp only [List.length_cons];omega
    rw [if_neg (by decide),e1,Bool.false_or]
    cases q with
    | nil =>
     have e2:((([]:List zR).length:Int)==0)=true:=rfl
     rw [e2,if_pos rfl]
     simp [widR,hx]
     omega
    | cons y r =>
     have e2:(((y::r).length:Int)==0)=false:=by rw [beq_eq_false_iff_ne];simp only [List.length_cons];omega
     have ei:vH (y::r) (0:Int)=some y:=rfl
     have t1:(List.take (((x::t).length:Nat):Int).toNat (x::t)).drop (1:Int).toNat=t:=by rw [Int.toNat_natCast,List.take_length];rfl
     have t2:(List.take (((y::r).length:Nat):Int).toNat (y::r)).drop (1:Int).toNat=r:=by rw [Int.toNat_natCast,List.take_length];rfl
     have g2:(y::r).getD (0:Int).toNat default=y:=rfl
     have ih:=widN_is t r n (by simpa using h)
     rw [e2,if_neg (by decide),ei,Option.bind_some]
     rw [zW (by intro _;simp only [List.length_cons];omega),zW (by intro _;simp only [List.length_cons];omega),zW (by intro _;simp only [List.length_cons];omega),zW (by intro _;simp only [List.length_cons];omega),zW (by intro _;simp only [List.length_cons];omega),t1,t2,g2,ih]
     simp only [widR,hx,Bool.false_or]
     cases (y==([42,42]:zR)) <;> cases (x==([42]:zR)) <;> cases (x==y) <;> simp
theorem wid_is (p q:List zR):ref42Xwider p q=some (widR p q):=anyN_of (p.length+1) fun n hn=>widN_is p q n (by omega)
theorem wid_aa:∀ (a b:List zR),(∀ x ∈ a,spot x=true)→(∀ x ∈ b,spot x=true)→widR a b=(decide (a.length≤b.length)&&decide (b.length≤a.length)&&agreeB a b)
 | [],b,_,_=>by cases b <;> simp [widR,agreeB]
 | x::t,[],h,_=>by simp [widR,vc (h x (by simp))]
 | x::t,y::r,h,k=>by
  rw [widR,vc (h x (by simp)),vc (k y (by simp)),wid_aa t r (fun z hz=>h z (by simp [hz])) (fun z hz=>k z (by simp [hz])),agreeB]
  have a1:decide ((x::t).length≤(y::r).length)=decide (t.length≤r.length):=by simp
  have a2:decide ((y::r).length≤(x::t).length)=decide (r.length≤t.length):=by simp
  rw [a1,a2]
  cases (x==[42] || x==y) <;> simp
theorem wid_ae:∀ (a b:List zR),(∀ x ∈ a,spot x=true)→(∀ x ∈ b,spot x=true)→widR a (b++[[42,42]])=false
 | [],b,_,_=>by cases b <;> simp [widR]
 | x::t,[],h,_=>by simp [widR,vc (h x (by simp))]
 | x::t,y::r,h,k=>by
  rw [List.cons_append,widR,wid_ae t r (fun z hz=>h z (by simp [hz])) (fun z hz=>k z (by simp [hz])),vc (h x (by simp)),Bool.and_false,Bool.false_or]
theorem wid_ea:∀ (a b:List zR),(∀ x ∈ a,spot x=true)→(∀ x ∈ b,spot x=true)→widR (a++[[42,42]]) b=(decide (a.length≤b.length)&&agreeB a b)
 | [],b,_,_=>by simp [widR,agreeB]
 | x::t,[],h,_=>by simp [widR,vc (h x (by simp))]
 | x::t,y::r,h,k=>by
  rw [List.cons_append,widR,vc (h x (by simp)),vc (k y (by simp)),wid_ea t r (fun z hz=>h z (by simp [hz])) (fun z hz=>k z (by simp [hz])),agreeB]
  have a1:decide ((x::t).length≤(y::r).length)=decide (t.length≤r.length):=by simp
  rw [a1]
  cases (x==[42] || x==y) <;> simp
theorem wid_ee:∀ (a b:List zR),(∀ x ∈ a,spot x=true)→(∀ x ∈ b,spot x=true)→widR (a++[[42,42]]) (b++[[42,42]])=(decide (a.length≤b.length)&&agreeB a b)
 | [],b,_,_=>by simp [widR,agreeB]
 | x::t,[],h,_=>by simp [widR,vc (h x (by simp))]
 | x::t,y::r,h,k=>by
  rw [List.cons_append,List.cons_append,widR,vc (h x (by simp)),vc (k y (by simp)),wid_ee t r (fun z hz=>h z (by simp [hz])) (fun z hz=>k z (by simp [hz])),agreeB]
  have a1:decide ((x::t).length≤(y::r).length)=decide (t.length≤r.length):=by simp
  rw [a1]
  cases (x==[42] || x==y) <;> simp
theorem pat_spots {p:List zR} (h:patB p=true):∀ x ∈ yU p,spot x=true:=by
 unfold patB at h;simp only [Bool.and_eq_true,List.all_eq_true] at h;exact h.2
theorem parts_ends {p:List zR} (h:endsB p=true):p=yU p++[[42,42]]:=by
 unfold yU
 rw [if_pos h]
 unfold endsB at h
 have h':p.getLast?=some [42,42]:=by simpa using h
 obtain ⟨ys,rfl⟩:=List.getLast?_eq_some_iff.1 h'
 rw [List.dropLast_concat]
theorem parts_not {p:List zR} (h:endsB p=false):p=yU p:=by
 unfold yU;rw [h];rfl
theorem wider_is {p q:List zR} (hp:patB p=true) (hq:patB q=true):ref42Xwider p q=some (widerB p q):=by
 rw [wid_is]
 congr 1
 unfold widerB
 have s1:=pat_spots hp;have s2:=pat_spots hq
 cases e1:endsB p <;> cases e2:endsB q
 ·conv=>lhs;rw [parts_not e1,parts_not e2]
  rw [wid_aa _ _ s1 s2];simp
 ·conv=>lhs;rw [parts_not e1,parts_ends e2]
  rw [wid_ae _ _ s1 s2];simp
 ·conv=>lhs;rw [parts_ends e1,parts_not e2]
  rw [wid_ea _ _ s1 s2];simp
 ·conv=>lhs;rw [parts_ends e1,parts_ends e2]
  rw [wid_ee _ _ s1 s2];simp
def all5 (n m:Nat):Bool:=(((((!n.testBit 1 || m.testBit 1)&&(!n.testBit 2 || m.testBit 2))&&(!n.testBit 3 || m.testBit 3))&&(!n.testBit 4 || m.testBit 4))&&(!n.testBit 5 || m.testBit 5))
theorem all_step {n m b:Nat} (hn:n < 256) (hm:m < 256) (hb:b≤5) (a:Bool):wE (allF (n:Int) (m:Int)) (a,(b:Int))=wE (allF (n:Int) (m:Int)) (a&&(!n.testBit b || m.testBit b),((b+1:Nat):Int)):=by
 conv=>lhs;rw [va]
 have:allF (n:Int) (m:Int) (a,(b:Int))=some (.nxt (a&&(!n.testBit b || m.testBit b),((b+1:Nat):Int))):=by
  unfold allF
  have e:IntKind.wrap .u8 ((b:Int)+1)=((b+1:Nat):Int):=by
   have:((b:Int)+1)=((b+1:Nat):Int):=by omega
   rw [this,wrap8 (by omega)]
  simp only
  rw [decide_eq_true (by omega:(b:Int) < 6),if_pos rfl,xbit_is hn (by omega),xbit_is hm (by omega),e]
  cases a <;> cases n.testBit b <;> cases m.testBit b <;> rfl
 rw [this]
theorem all_is {n m:Nat} (hn:n < 256) (hm:m < 256):wE (allF (n:Int) (m:Int)) (true,(1:Int))=some (.inr (all5 n m,(6:Int))):=by
 rw [show (1:Int)=((1:Nat):Int) from rfl,all_step hn hm (by decide),all_step hn hm (by decide),all_step hn hm (by decide),all_step hn hm (by decide),all_step hn hm (by decide),va]
 rfl
theorem low_fin:∀ n:Fin 256,(!n.1.testBit 0&&(!n.1.testBit 6&&!n.1.testBit 7))=true→n.1 % 2=0∧n.1 < 64:=by decide +kernel
theorem less_fin:∀ a:Fin 32,∀ m:Fin 256,(IntKind.wrap .u8 (((BitVec.ofInt (IntKind.bits .u8) ((2 * a.1:Nat):Int) &&& ~~~(BitVec.ofInt (IntKind.bits .u8) ((m.1:Nat):Int))).toNat:Int))==0)=all5 (2 * a.1) m.1:=by decide +kernel
theorem rule_bits {x:GRule} {n:Nat} (hn:x.kinds=n) (h:n < 256) (hr:ruleB x=true):n % 2=0∧n < 64:=by
 unfold ruleB at hr
 rw [hn,mask_is h,Bool.and_eq_true] at hr
 exact low_fin ⟨n,h⟩ hr.2
theorem less_is {x y:GRule} {n m:Nat} (hx:x.kinds=n) (hy:y.kinds=m) (hn:n < 256) (hm:m < 256) (hr:ruleB x=true):lessB x y=all5 n m:=by
 obtain ⟨h1,h2⟩:=rule_bits hx hn hr
 obtain ⟨a,rfl⟩:∃ a,n=2 * a:=⟨n / 2,by omega⟩
 unfold lessB
 rw [hx,hy]
 exact less_fin ⟨a,by omega⟩ ⟨m,hm⟩
theorem mid_is {l:List GRule} {x:GRule} (hl:l.length≤64) (hx:x ∈ l) (hb:∀ x ∈ l,Byte x) (hr:∀ x ∈ l,ruleB x=true) (hp:∀ x ∈ l,patB x.path=true) :
  ∀ (m k:Nat) (b:Bool),l.length - k≤m→k≤l.length→wE (midF l x) (b,(k:Int))=some (.inr (b || (l.drop k).any (coverB x),(l.length:Int)))
 | 0,k,b,hm,hk=>by
  obtain rfl:k=l.length:=by omega
  rw [va]
  have:midF l x (b,(l.length:Int))=some (.brk (b,(l.length:Int))):=by
   unfold midF
   simp only
   rw [decide_eq_false (by omega)]
   rfl
  rw [this]
  simp
 | m+1,k,b,hm,hk=>by
  rcases Nat.lt_or_eq_of_le hk with h | rfl
  ·rw [va]
   have hy:l[k]?=some l[k]:=List.getElem?_eq_getElem h
   have hym:l[k] ∈ l:=List.getElem_mem h
   obtain ⟨n,hn⟩:∃ n:Nat,x.kinds=n:=⟨x.kinds.toNat,by have:=(hb x hx).1;omega⟩
   obtain ⟨j,hj⟩:∃ j:Nat,(l[k]).kinds=j:=⟨(l[k]).kinds.toNat,by have:=(hb _ hym).1;omega⟩
   have hn':n < 256:=by have:=(hb x hx).2;omega
   have hj':j < 256:=by have:=(hb _ hym).2;omega
   have hls:=less_is hn hj hn' hj' (hr x hx)
   have hw:=wider_is (hp _ hym) (hp x hx)
   have e:IntKind.wrap .i64 ((k:Int)+1)=((k+1:Nat):Int):=by rw [w64n (by omega)];omega
   have:midF l x (b,(k:Int))=some (.nxt (b || coverB x l[k],((k+1:Nat):Int))):=by
    unfold midF
    simp only
    rw [decide_eq_true (by omega:(k:Int) < (l.length:Int)),if_pos rfl,yA hy,Option.bind_some,hn,hj,all_is hn' hj',wc,e,hw]
    unfold coverB
    rw [hls]
    cases b <;> cases all5 n j <;> cases ((l[k]).rep==255 || (l[k]).rep==x.rep) <;> cases ((l[k]).read || !x.read) <;> cases widerB (l[k]).path x.path <;> rfl
   rw [this]
   simp only
   rw [mid_is hl hx hb hr hp m (k+1) _ (by omega) h,List.drop_eq_getElem_cons h,List.any_cons,Bool.or_assoc]
  ·exact mid_is hl hx hb hr hp m l.length b (by omega) (Nat.le_refl _)
theorem out_is {l:List GRule} (hl:l.length≤64) (hb:∀ x ∈ l,Byte x) (hr:∀ x ∈ l,ruleB x=true) (hp:∀ x ∈ l,patB x.path=true) :
  ∀ (t u:List GRule) (s:List Int),u++t=l→s.length≤u.length→ya (outF l) t u.length s=some (.inr (s++idleAt u.length t))
 | [],u,s,_,_=>by simp [ya,idleAt]
 | x::t,u,s,e,hs=>by
  have hlen:l.length=u.length+(t.length+1):=by rw [← e];simp
  have hx:x ∈ l:=by rw [← e];simp
  have hd:l.drop (u.length+1)=t:=by rw [← e];simp
  have hm:=mid_is hl hx hb hr hp l.length (u.length+1) false (by omega) (by omega)
  rw [hd,Bool.false_or] at hm
  have e3:IntKind.wrap .i64 ((u.length:Int)+1)=((u.length+1:Nat):Int):=by rw [w64n (by omega)];omega
  have:outF l u.length x s=some (.nxt (if t.any (coverB x)=true then s++[(u.length:Int)] else s)):=by
   unfold outF
   rw [e3,hm,wc]
   cases t.any (coverB x) with
   | false=>rfl
   | true=>simp only [if_true];rw [zW (wp (by simp;omega))]
  have ih:=fun s' hs'=>out_is hl hb hr hp t (u++[x]) s' (by rw [← e];simp) hs'
  simp only [List.length_append,List.length_cons,List.length_nil,Nat.zero_add] at ih
  simp only [ya,this,idleAt]
  cases t.any (coverB x) with
  | false=>simp only [Bool.false_eq_true,if_false];exact ih s (by omega)
  | true =>
   simp only [if_true]
   rw [ih (s++[(u.length:Int)]) (by simp;omega)]
   simp
theorem rules_of {l:List GRule} (h:rulesB l=true):l.length≤64∧(∀ x ∈ l,ruleB x=true)∧∀ x ∈ l,patB x.path=true:=by
 unfold rulesB at h
 simp only [Bool.and_eq_true,decide_eq_true_eq,List.all_eq_true] at h
 refine ⟨h.1,h.2,fun x hx=>?_⟩
 have:=h.2 x hx
 unfold ruleB at this
 simp only [Bool.and_eq_true] at this
 exact this.1.2
theorem idle42Xis {l:List GRule} (h:∀ x ∈ l,wB x) (hb:∀ x ∈ l,Byte x):ref42Idle l=some (if rulesB l=true then idleAt 0 l else []):=by
 rw [idle42Xeq,may42Xis h hb,Option.bind_some]
 cases hr:rulesB l with
 | false=>rfl
 | true =>
  obtain ⟨h1,h2,h3⟩:=rules_of hr
  have:=out_is h1 hb h2 h3 l [] [] rfl (by simp)
  rw [if_neg (by decide),show ya (outF l) l 0 []=ya (outF l) l ([]:List GRule).length [] from rfl,this,wc]
  rfl
theorem idle_is {l:List GRule} (h:∀ x ∈ l,wB x):rightsIdle l=some (if rulesB l=true then idleAt 0 l else []):=by
 cases hr:rulesB l with
 | true=>rw [rightsIdle_is h hr];rfl
 | false =>
  unfold rightsIdle
  rw [vf h,hr]
  rfl
theorem equalInt_self (L:List Int):qQ L L=some true:=by
 unfold qQ
 rw [bne_self_eq_false,if_neg (by decide),lp_all (r:=false) (fun _ _=>true) (fun i x hx=>by rw [yA hx,Option.bind_some,bne_self_eq_false];rfl)]
 rw [if_pos (allI_iff.2 fun _ _ _=>rfl)]
theorem why_is {l:List GRule} (hl:l.length≤maxLen) (h:∀ x ∈ l,wB x) (rep:Int) (o:GOp):rightsWhy l rep o=some (if (rulesB l&&opB o)=true then qD (vQ rep o.path (bitB o.kind)) l l.length else -1):=by
 unfold rightsWhy
 rw [vf h,opMay_is]
 simp only [Option.bind_some]
 cases h1:rulesB l
 ·simp
 ·cases h2:opB o
  ·simp
  ·have hk:¬ o.kind < 0:=by
    unfold opB at h2
    simp at h2;omega
   simp only [Bool.not_true,BEq.rfl,if_true,Option.bind_some,Bool.or_self,Bool.false_eq_true,if_false,Bool.and_self]
   rw [rightsXlast_is hl h rep o.path (is:=bitB o.kind) (fun x _=>by unfold qT;rw [zW hk];rfl)]
   rfl
theorem viewAny_is {l:List GRule} (hl:l.length≤maxLen) (h:∀ x ∈ l,wB x) (rep:Int) {t:List GNode} (hs:Small t):qn l rep t=some (if (rulesB l&&treeB 0 t)=true then (vE (showB l rep) [] t,0) else ([],2)):=by
 cases hr:rulesB l with
 | false=>rw [view_eq,vf h,hr];rfl
 | true =>
  cases ht:treeB 0 t with
  | false =>
   rw [view_eq,vf h,hr,Option.bind_some,if_pos (by rfl),treeMay_is hs,ht]
   rfl
  | true=>exact view_is hl h hr rep hs ht
theorem law42RightsTell_is {l:List GRule} (hl:l.length≤maxLen) (h:∀ x ∈ l,wB x) (hb:∀ x ∈ l,Byte x) (rep:Int) (o:GOp) (path:List zR) {t:List GNode} (hs:Small t):qC l rep o path t=some true:=by
 unfold qC
 obtain ⟨b1,h1⟩:=law42Xgreat_is l o
 obtain ⟨b2,h2⟩:=ref07Great_tot hs
 rw [h1,Option.bind_some,h2]
 have hk:=law42Xknown_is
 cases hg:(b1 || decide ((path.length:Int) > 10)) with
 | true=>simp [hk]
 | false =>
 rw [if_pos (by rfl),Option.bind_some]
 cases b2 with
 | true=>simp [hk]
 | false =>
 rw [if_neg (by decide),viewAny_is hl h rep hs,Option.bind_some,view42Xis h hb rep hs,Option.bind_some,why42Xis h hb,Option.bind_some,vf h,Option.bind_some,may42Xis h hb,Option.bind_some]
 rw [why_is hl h,rightsAllows_is hl h,sh42Xis h hb,rightsShows_is hl h,idle_is h,idle42Xis h hb]
 have hf:=lastI_find (vQ rep o.path (bitB o.kind)) l l.length (Nat.le_refl _)
 rw [List.take_length] at hf
 have key:∀ w:Int,w=(if (rulesB l&&opB o)=true then qD (vQ rep o.path (bitB o.kind)) l l.length else -1)→(0≤w→w < (l.length:Int))∧((rulesB l&&opB o&&letB (vQ rep o.path (bitB o.kind)) l)==((decide (w ≥ (0:Int)))&&((l).getD w.toNat default).allow))=true:=by
  rintro w rfl
  cases hc:(rulesB l&&opB o) with
  | false=>simp
  | true =>
   rw [if_pos rfl,Bool.true_and]
   unfold letB
   cases hfd:l.reverse.find? (vQ rep o.path (bitB o.kind)) with
   | none=>rw [hfd] at hf;simp only at hf;rw [hf];simp
   | some x =>
    rw [hfd] at hf
    obtain ⟨f1,f2,f3⟩:=hf
    refine ⟨fun _=>f2,?_⟩
    rw [List.getD_eq_getElem?_getD,f3,decide_eq_true f1]
    simp
 generalize (if (rulesB l&&opB o)=true then qD (vQ rep o.path (bitB o.kind)) l l.length else -1)=w at key ⊢
 obtain ⟨k1,k2⟩:=key w rfl
 generalize (rulesB l&&opB o&&letB (vQ rep o.path (bitB o.kind)) l)=al at k2 ⊢
 generalize (if (rulesB l&&treeB 0 t)=true then ((vE (showB l rep) [] t,0):List GNode×Int) else ([],2))=vw
 generalize (if rulesB l=true then idleAt 0 l else [])=il
 have k3:(rulesB l&&letB (vQ rep path (fun y=>y.read)) l)=(rulesB l&&showB l rep path):=rfl
 rw [k3]
 simp only [beq_self_eq_true,if_true,Option.bind_some,Bool.and_self,Bool.true_and,k2,ref07Same_refl,equalInt_self,hk]
 rw [zW (by intro hh;simp at hh;exact ⟨hh,k1 hh⟩)]
theorem GRule.byte {x:GRule} (h:GRule.wf x):0≤x.kinds∧x.kinds < 256:=by
 unfold GRule.wf at h
 have:=h.2.2.1
 simp [InK,IntKind.min,IntKind.max,IntKind.signed,IntKind.bits] at this
 omega
theorem law42RightsTell_top (l:List GRule) (rep:Int) (o:GOp) (path:List zR) (t:List GNode) (h1:l.length≤maxLen∧∀ y ∈ l,GRule.wf y) (h2:InK .u8 rep) (h3:GOp.wf o) (h4:path.length≤maxLen∧∀ y ∈ path,y.length≤maxLen) (h5:t.length≤maxLen∧∀ y ∈ t,GNode.wf y)
  (hbk:((l.map GRule.bk).sum+1)+1+GOp.bk o+((path.map (fun s=>s.length+1)).sum+1)+((t.map GNode.bk).sum+1)≤1048576):qC l rep o path t=some true :=
 law42RightsTell_is h1.1 (fun x hx=>GRule.len (h1.2 x hx)) (fun x hx=>GRule.byte (h1.2 x hx)) rep o path (small_of h5 (by omega))
end Go.Vv
