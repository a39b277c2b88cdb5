/- Plain laws, as far as they are leaned on. -/
import Derived.Test.YtoebhbekbkkkeaaD
import Derived.Test.YtoebhbekbkkkeaaVvQ
namespace Go.Vv
open Go
def alnum (b:UInt8):Bool:=(decide (97≤b.toNat)&&decide (b.toNat≤122)) || (decide (65≤b.toNat)&&decide (b.toNat≤90)) || (decide (48≤b.toNat)&&decide (b.toNat≤57))
def other (r:Int):Bool:=!((decide (97≤r)&&decide (r≤122)) || (decide (65≤r)&&decide (r≤90)) || (decide (48≤r)&&decide (r≤57)))
def runeIdx (q:Int→Bool) (s:List UInt8) (i:Nat):Int :=
 if h:i < s.length then (if q (dec s i).1 then i else if (dec s i).2=0 then -1 else runeIdx q s (i+(dec s i).2)) else -1
termination_by s.length - i
decreasing_by omega
theorem dec_width (s:List UInt8) (i:Nat) (h:i < s.length):1≤(dec s i).2:=by
 have hs:i < (⟨s.toArray⟩:ByteArray).size:=by simpa [ByteArray.size] using h
 by_cases ha:((⟨s.toArray⟩:ByteArray)[i]'hs).toNat < 128
 ·unfold dec;rw [decode_ascii _ i hs ha];exact Nat.le_refl _
 ·exact (decode_high _ i hs (by omega)).2
theorem dec_low {s:List UInt8} {i:Nat} {b:UInt8} (hb:s[i]?=some b) (h:b.toNat < 128):dec s i=(b.toNat,1):=by
 have hl:i < s.length:=(List.getElem?_eq_some_iff.1 hb).1
 have hs:i < (⟨s.toArray⟩:ByteArray).size:=by simpa [ByteArray.size] using hl
 have e:((⟨s.toArray⟩:ByteArray)[i]'hs)=b:=by
  have h1:((⟨s.toArray⟩:ByteArray)[i]'hs)=s[i]:=rfl
  rw [h1];rw [List.getElem?_eq_getElem hl] at hb;injection hb
 unfold dec
 rw [decode_ascii _ i hs (by rw [e];exact h),e]
theorem dec_hi {s:List UInt8} {i:Nat} {b:UInt8} (hb:s[i]?=some b) (h:128≤b.toNat):128≤(dec s i).1:=by
 have hl:i < s.length:=(List.getElem?_eq_some_iff.1 hb).1
 have hs:i < (⟨s.toArray⟩:ByteArray).size:=by simpa [ByteArray.size] using hl
 have e:((⟨s.toArray⟩:ByteArray)[i]'hs)=b:=by
  have h1:((⟨s.toArray⟩:ByteArray)[i]'hs)=s[i]:=rfl
  rw [h1];rw [List.getElem?_eq_getElem hl] at hb;injection hb
 exact (decode_high _ i hs (by rw [e];exact h)).1
theorem other_alnum {b:UInt8}:other (b.toNat:Int)=!alnum b:=by
 unfold other alnum
 congr 1
 rw [Bool.eq_iff_iff]
 simp
 omega
theorem rune_all {s:List UInt8} (h:s.all alnum=true):∀ (n i:Nat),s.length - i=n→runeIdx other s i=-1
 | n,i,hn=>by
  rw [runeIdx.eq_def]
  by_cases hi:i < s.length
  ·rw [dif_pos hi]
   have hb:s[i]?=some s[i]:=List.getElem?_eq_getElem hi
   have ha:alnum s[i]=true:=by rw [List.all_eq_true] at h;exact h _ (List.getElem_mem hi)
   have hlow:s[i].toNat < 128:=by
    unfold alnum at ha
    simp only [Bool.or_eq_true,Bool.and_eq_true,decide_eq_true_eq] at ha
    omega
   rw [dec_low hb hlow]
   simp only [other_alnum,ha,Bool.not_true,Bool.false_eq_true,if_false,Nat.one_ne_zero]
   exact rune_all h (s.length - (i+1)) (i+1) rfl
  ·rw [dif_neg hi]
 termination_by n=>n
 decreasing_by omega
theorem rune_some {s:List UInt8} {k:Nat} {b:UInt8} (hk:s[k]?=some b) (hb:alnum b=false):∀ (n i:Nat),k - i=n→i≤k→0≤runeIdx other s i
 | n,i,hn,hik=>by
  have hl:k < s.length:=(List.getElem?_eq_some_iff.1 hk).1
  have hi:i < s.length:=by omega
  rw [runeIdx.eq_def,dif_pos hi]
  by_cases ho:other ((dec s i).1:Nat)=true
  ·rw [if_pos ho];omega
  ·rw [if_neg ho]
   have hc:s[i]?=some s[i]:=List.getElem?_eq_getElem hi
   have hlow:s[i].toNat < 128:=by
    refine Decidable.byContradiction fun hh=>ho ?_
    have:=dec_hi hc (by omega)
    unfold other
    simp
    omega
   rw [dec_low hc hlow] at ho ⊢
   rw [other_alnum] at ho
   have hne:i ≠ k:=by
    rintro rfl
    rw [hc] at hk;injection hk with hk;subst hk
    rw [hb] at ho;exact ho rfl
   simp only [Nat.one_ne_zero,if_false]
   exact rune_some hk hb (k - (i+1)) (i+1) rfl (by omega)
 termination_by n=>n
 decreasing_by omega

def nameB (s:zR):Bool:=decide (1≤s.length)&&decide (s.length≤12)&&s.all alnum
def pathB (p:List zR):Bool:=decide (1≤p.length)&&decide (p.length≤3)&&p.all nameB
theorem bnd1 (n:Nat):decide ((n:Int) ≥ 1)=decide (1≤n):=decide_eq_decide.2 (by omega)
theorem bnd12 (n:Nat):decide ((n:Int)≤12)=decide (n≤12):=decide_eq_decide.2 (by omega)
theorem bnd3 (n:Nat):decide ((n:Int)≤3)=decide (n≤3):=decide_eq_decide.2 (by omega)
theorem ref04IsName_is (s:zR):wE s=some (nameB s):=by
 unfold wE nameB
 rw [loopL_all alnum false]
 ·split
  ·rename_i h
   simp only [Bool.or_eq_true,decide_eq_true_eq] at h
   congr 1
   rw [eq_comm,Bool.and_eq_false_iff,Bool.and_eq_false_iff]
   left
   rcases h with h | h
   ·exact .inl (decide_eq_false (by omega))
   ·exact .inr (decide_eq_false (by omega))
  ·rename_i h
   simp only [Bool.or_eq_true,decide_eq_true_eq] at h
   have h1:1≤s.length:=by omega
   have h2:s.length≤12:=by omega
   cases ha:s.all alnum <;> simp [h1,h2]
 ·intro i x _
  unfold alnum
  have e:(((decide ((x.toNat:Int) ≥ 97))&&(decide ((x.toNat:Int)≤122)) || (decide ((x.toNat:Int) ≥ 65))&&(decide ((x.toNat:Int)≤90))) || (decide ((x.toNat:Int) ≥ 48))&&(decide ((x.toNat:Int)≤57))) =
    (decide (97≤x.toNat)&&decide (x.toNat≤122) || decide (65≤x.toNat)&&decide (x.toNat≤90) || decide (48≤x.toNat)&&decide (x.toNat≤57)):=by
   rw [Bool.eq_iff_iff];simp;omega
  rw [e]
  generalize (decide (97≤x.toNat)&&decide (x.toNat≤122) || decide (65≤x.toNat)&&decide (x.toNat≤90) || decide (48≤x.toNat)&&decide (x.toNat≤57))=b
  cases b <;> rfl
theorem rune_loop (q:Int→Bool) (s:zR) {f:Nat→Option (Out Int Nat)} (hf:∀ i,f i=if i < s.length then (if q (dec s i).1=true then some (.ret (i:Int)) else some (.nxt (i+(dec s i).2))) else some (.brk i)) :
  ∀ (k i:Nat),s.length - i=k→lp (vW f i) (fun _=>some (-1:Int))=some (runeIdx q s i)
 | k,i,hk=>by
  rw [loopW_eq,runeIdx.eq_def,hf]
  by_cases h:i < s.length
  ·have hw:=dec_width s i h
   rw [if_pos h,dif_pos h]
   by_cases hq:q (dec s i).1=true
   ·simp [hq]
   ·have h0:¬ (dec s i).2=0:=by omega
    simp only [if_neg hq,if_neg h0]
    exact rune_loop q s hf (s.length - (i+(dec s i).2)) _ rfl
  ·rw [if_neg h,dif_neg h];rfl
 termination_by k=>k
 decreasing_by omega
theorem stringsContains_other (s:zR):wa s (fun x=>qS x)=some (!s.all alnum):=by
 have e:(fun x=>qS x)=fun x=>some (other x):=by
  funext x
  unfold qS other
  congr 1
  rw [Bool.eq_iff_iff];simp
 unfold wa vU vH
 rw [e,rune_loop other s (fun i=>by simp) _ 0 rfl]
 simp only [Option.bind_some]
 congr 1
 cases h:s.all alnum with
 | true=>rw [rune_all h _ 0 rfl];rfl
 | false =>
  rw [List.all_eq_false] at h
  obtain ⟨b,hb,hn⟩:=h
  obtain ⟨k,hk,rfl⟩:=List.getElem_of_mem hb
  have:=rune_some (List.getElem?_eq_getElem hk) (by simpa using hn) _ 0 rfl (Nat.zero_le _)
  simp [this]
theorem opIsName_is (s:zR):opIsName s=some (nameB s):=by
 unfold opIsName nameB
 rw [stringsContains_other,bnd1,bnd12]
 cases h1:decide (1≤s.length) <;> cases h2:decide (s.length≤12) <;> simp
theorem pathAll {p:List zR} {f:zR→Option Bool} (hf:∀ x,f x=some (nameB x)):(lp (yf (fun (_:Nat) (x1:zR) (_:Unit)=>(((f x1).bind fun v9=>(if (!v9)=true then some (.ret false) else some (.nxt ()))):Option (Out _ Unit))) p 0 ()) fun (_:Unit)=>some ((decide (((p).length:Int) ≥ (1:Int)))&&(decide (((p).length:Int)≤(3:Int)))))=some (pathB p):=by
 rw [loopL_all nameB false _ _ (fun i x _=>by rw [hf];cases nameB x <;> rfl),bnd1,bnd3]
 unfold pathB
 cases h:p.all nameB <;> simp
theorem ref04MayPath_is (p:List zR):ref04MayPath p=some (pathB p):=pathAll ref04IsName_is
theorem contains_is {f:zR→Option Bool} {q:zR→Bool} (p:List zR) (hf:∀ x ∈ p,f x=some (q x)):y5 p f=some (p.any q):=by
 unfold y5 wr
 rw [first_loop p hf];simp only [Option.bind_some,firstI_any]
theorem opMayPath_is (p:List zR):opMayPath p=some (pathB p):=by
 unfold opMayPath pathB
 rw [contains_is (q:=fun s=>!nameB s) p (fun x _=>by unfold opMayPathC1;rw [opIsName_is];rfl),bnd1,bnd3]
 have e:p.any (fun s=>!nameB s)=!p.all nameB:=by rw [Bool.eq_iff_iff];simp
 rw [e]
 cases h1:decide (1≤p.length) <;> cases h2:decide (p.length≤3) <;> simp
def actorB (a:GActor):Bool:=decide (a.rep < 16)&&decide (a.inc ≥ 1)&&decide (a.inc≤4)
def qw (d:GDot):Bool:=actorB d.actor&&decide (d.seq ≥ 1)&&decide (d.seq≤1048576)
theorem dotMay_is (d:GDot):dotMay d=some (qw d):=rfl
theorem ref03MayActor_is (a:GActor):qd a=some (actorB a):=by
 unfold qd actorB
 have:decide (a.rep≤15)=decide (a.rep < 16):=decide_eq_decide.2 (by omega)
 rw [this]
theorem ref03May_is (d:GDot):ref03May d=some (qw d):=by unfold ref03May;rw [ref03MayActor_is];rfl
def qF (a b:GDot):Bool:=if a.actor.rep ≠ b.actor.rep then decide (a.actor.rep < b.actor.rep) else if a.actor.inc ≠ b.actor.inc then decide (a.actor.inc < b.actor.inc) else decide (a.seq < b.seq)
theorem ref03Less_is (a b:GDot):ref03Less a b=some (qF a b):=by
 unfold ref03Less qF
 by_cases h1:a.actor.rep=b.actor.rep <;> by_cases h2:a.actor.inc=b.actor.inc <;> simp [h1,h2]
def cmpI (a b:Int):Int:=if a < b then -1 else if b < a then 1 else 0
theorem cmpU8is (a b:Int):vD a b=some (cmpI a b):=by
 unfold vD vS cmpI;simp only [bne_self_eq_false,Option.bind_some,Bool.false_eq_true,if_false,decide_eq_true_eq,gt_iff_lt]
 split <;> (try split) <;> rfl
theorem cmpU32is (a b:Int):wV a b=some (cmpI a b):=by
 unfold wV vC cmpI;simp only [bne_self_eq_false,Option.bind_some,Bool.false_eq_true,if_false,decide_eq_true_eq,gt_iff_lt]
 split <;> (try split) <;> rfl
theorem cmpU64is (a b:Int):wm a b=some (cmpI a b):=by
 unfold wm vB cmpI;simp only [bne_self_eq_false,Option.bind_some,Bool.false_eq_true,if_false,decide_eq_true_eq,gt_iff_lt]
 split <;> (try split) <;> rfl
def or2 (a b:Int):Int:=if a ≠ 0 then a else b
theorem cmpOr2_is (a b:Int):cmpOrInt [a,b]=some (or2 a b):=by
 unfold cmpOrInt or2
 by_cases h1:a=0 <;> by_cases h2:b=0 <;> simp [yf,h1,h2]
def actorCmp (a b:GActor):Int:=or2 (cmpI a.rep b.rep) (cmpI a.inc b.inc)
def dotCmp (a b:GDot):Int:=or2 (actorCmp a.actor b.actor) (cmpI a.seq b.seq)
theorem dotXcompare_is (a b:GActor):dotXcompare a b=some (actorCmp a b):=by
 unfold dotXcompare;rw [cmpU8is,cmpU32is];simp only [Option.bind_some];rw [cmpOr2_is];rfl
theorem dotCompare_is (a b:GDot):qZ a b=some (dotCmp a b):=by
 unfold qZ;rw [dotXcompare_is,cmpU64is];simp only [Option.bind_some];rw [cmpOr2_is];rfl
theorem dotCmp_lt (a b:GDot):decide (dotCmp a b ≥ 0)=!qF a b:=by
 unfold dotCmp actorCmp qF cmpI or2
 grind

def rising:List GDot→Bool
 | a::b::r=>qF a b&&rising (b::r)
 | _=>true
def wY (ds:List GDot) (i:Nat) (x:GDot):Bool:=decide (i=0) || qF (ds.getD (i - 1) default) x
theorem rising_loop (ds:List GDot) {g:Nat→GDot→Unit→Option (Out Bool Unit)}
  (hg:∀ i x,ds[i]?=some x→g i x ()=if (qw x&&wY ds i x)=true then some (.nxt ()) else some (.ret false)) :
  lp (yf g ds 0 ()) (fun _=>some true)=some (ds.all qw&&rising ds):=by
 have key:∀ (L pre:List GDot),ds=pre++L→lp (yf g L pre.length ()) (fun _=>some true)=some (L.all qw&&rising (match pre.getLast? with | some y=>y::L | none=>L)):=by
  intro L
  induction L with
  | nil=>intro pre h;cases hp:pre.getLast? <;> simp [yf,rising]
  | cons x t ih =>
   intro pre h
   have hx:ds[pre.length]?=some x:=by rw [h];simp
   have ih':=ih (pre++[x]) (by rw [h];simp)
   simp only [List.length_append,List.length_cons,List.length_nil,Nat.zero_add,List.getLast?_append,List.getLast?_singleton,Option.some_or] at ih'
   simp only [yf,hg _ _ hx]
   cases hp:pre.getLast? with
   | none =>
    have hpre:pre=[]:=List.getLast?_eq_none_iff.1 hp
    subst hpre
    simp only [List.length_nil,Nat.zero_add] at ih' ⊢
    cases hd:qw x <;> simp [wY,hd,ih']
   | some y =>
    have hne:pre ≠ []:=by rintro rfl;simp at hp
    have h0:0 < pre.length:=List.length_pos_iff.2 hne
    have hy:ds.getD (pre.length - 1) default=y:=by
     rw [List.getD_eq_getElem?_getD,h,List.getElem?_append_left (by omega)]
     rw [List.getLast?_eq_getElem?] at hp;rw [hp];rfl
    have ha:wY ds pre.length x=qF y x:=by
     unfold wY;rw [hy]
     have:decide (pre.length=0)=false:=decide_eq_false (by omega)
     rw [this];rfl
    rw [ha]
    cases hd:qw x <;> cases hlt:qF y x <;> simp [hd,hlt,ih',rising]
 have:=key ds [] rfl
 simpa using this
theorem same_loop {α:Type} [DecidableEq α] (M:List α) {eq:α→α→Bool} (he:∀ a b,eq a b=decide (a=b)) {f:Nat→α→Unit→Option (Out Bool Unit)} :
  ∀ (L:List α) (i:Nat),L.length+i=M.length→(∀ j x,L[j]?=some x→f (i+j) x ()=(idx M ((i+j:Nat):Int)).bind fun y=>if (!eq x y)=true then some (.ret false) else some (.nxt ())) →
  yf f L i ()=if L=M.drop i then some (.inr ()) else some (.inl false)
 | [],i,hl,_=>by
  rw [List.drop_of_length_le (by simp at hl;omega)];rfl
 | x::t,i,hl,h=>by
  simp only [List.length_cons] at hl
  have hi:i < M.length:=by omega
  have h0:=h 0 x rfl
  simp only [Nat.add_zero] at h0
  rw [qV hi] at h0
  have ih:=same_loop M he (f:=f) t (i+1) (by omega) (fun j y hj=>by have:=h (j+1) y hj;rw [show i+1+j=i+(j+1) by omega];exact this)
  have e:M.drop i=M[i]::M.drop (i+1):=(List.getElem_cons_drop hi).symm
  simp only [yf,h0,Option.bind_some,he,e]
  by_cases hx:x=M[i]
  ·simp only [hx,decide_true,Bool.not_true,Bool.false_eq_true,if_false,ih,List.cons.injEq,true_and]
  ·have hne:¬ (x::t=M[i]::M.drop (i+1)):=fun hh=>hx (List.cons.inj hh).1
   simp only [decide_eq_false hx,Bool.not_false,if_true,if_neg hne]
theorem dotEq (a b:GDot):(a.actor.rep==b.actor.rep&&(a.actor.inc==b.actor.inc&&(a.seq==b.seq&&true)))=decide (a=b):=by
 rcases a with ⟨⟨a1,a2⟩,a3⟩;rcases b with ⟨⟨b1,b2⟩,b3⟩
 rw [Bool.eq_iff_iff];simp [and_assoc]
theorem slicesEqualDot_is (L M:List GDot):vK L M=some (decide (L=M)):=by
 unfold vK
 by_cases hl:L.length=M.length
 ·have e:((L.length:Int) != (M.length:Int))=false:=by simp;omega
  rw [e,same_loop M dotEq L 0 (by omega) (fun j x hj=>by simp)]
  by_cases h:L=M <;> simp [h]
 ·have e:((L.length:Int) != (M.length:Int))=true:=by simp;omega
  rw [e,decide_eq_false (fun h=>hl (by rw [h]))];rfl
section
variable {α ρ:Type}
def allI (g:Nat→α→Bool) (L:List α):Bool:=L.zipIdx.all fun p=>g p.2 p.1
theorem wX {g:Nat→α→Bool} {L:List α}:allI g L=true ↔ ∀ i x,L[i]?=some x→g i x=true:=by
 unfold allI
 rw [List.all_eq_true]
 constructor
 ·intro h i x hx
  exact h (x,i) (List.mem_zipIdx_iff_getElem?.2 hx)
 ·rintro h ⟨x,i⟩ hx
  exact h i x (List.mem_zipIdx_iff_getElem?.1 hx)
theorem loopL_allI (g:Nat→α→Bool) {r:ρ} {f:Nat→α→Unit→Option (Out ρ Unit)}:∀ (L:List α) (k:Nat),(∀ i x,L[i]?=some x→f (k+i) x ()=if g (k+i) x=true then some (.nxt ()) else some (.ret r)) →
  yf f L k ()=if ((L.zipIdx k).all fun p=>g p.2 p.1)=true then some (.inr ()) else some (.inl r)
 | [],_,_=>rfl
 | x::t,k,h=>by
  have h0:=h 0 x rfl
  simp only [Nat.add_zero] at h0
  have ih:=loopL_allI g (f:=f) (r:=r) t (k+1) (fun i y hy=>by have:=h (i+1) y (by simpa using hy);rw [show k+1+i=k+(i+1) by omega];exact this)
  simp only [yf,h0,List.zipIdx_cons,List.all_cons]
  by_cases hg:g k x=true
  ·simp only [hg,if_true,ih,Bool.true_and]
  ·simp only [hg,Bool.false_eq_true,if_false,Bool.false_and]
theorem qj {σ:Type} (g:Nat→α→Bool) {r:σ} {L:List α} {f:Nat→α→Unit→Option (Out σ Unit)} {rest:Unit→Option σ} (hf:∀ i x,L[i]?=some x→f i x ()=if g i x=true then some (.nxt ()) else some (.ret r)) :
  lp (yf f L 0 ()) rest=if allI g L=true then rest () else some r:=by
 rw [loopL_allI g L 0 (fun i x hx=>by simpa using hf i x hx)]
 unfold allI
 split <;> rfl
theorem lp_all0 {σ:Type} (g:α→Bool) {r:σ} {L:List α} {f:Nat→α→Unit→Option (Out σ Unit)} {rest:Unit→Option σ} (hf:∀ i x,L[i]?=some x→f i x ()=if g x=true then some (.nxt ()) else some (.ret r)) :
  lp (yf f L 0 ()) rest=if L.all g=true then rest () else some r:=by
 rw [qj (fun _=>g) hf]
 have:allI (fun _=>g) L=L.all g:=by
  rw [Bool.eq_iff_iff,wX,List.all_eq_true]
  exact ⟨fun h x hx=>by obtain ⟨i,hi⟩:=List.mem_iff_getElem?.1 hx;exact h i x hi,fun h i x hx=>h x (List.mem_of_getElem? hx)⟩
 rw [this]
end
theorem qm {j:Nat} (hl:j+1≤maxLen):IntKind.wrap .i64 (((j+1:Nat):Int) - 1)=(j:Int):=by
 simp only [maxLen] at hl;rw [w64n (by omega)];omega
theorem pos_succ (j:Nat):decide (((j+1:Nat):Int) > 0)=true:=decide_eq_true (by omega)
def timeB (n:Int):Bool:=decide (n ≥ 1)&&decide (n≤1099511627776)
def aheadI (a b:GItem):Bool:=if a.time ≠ b.time then decide (a.time < b.time) else qF a.dot b.dot
theorem leafXisTime_is (n:Int):leafXisTime n=some (timeB n):=rfl
theorem leafXisText_is (s:zR):qt s=some (decide (s.length≤40)):=by unfold qt;rw [decide_eq_decide.2 (show ((s.length:Int)≤40) ↔ s.length≤40 by omega)]
theorem dotCmp_neg (a b:GDot):decide (dotCmp a b < 0)=qF a b:=by
 have h:=dotCmp_lt a b
 have:decide (dotCmp a b < 0)=!decide (dotCmp a b ≥ 0):=by rw [Bool.eq_iff_iff];simp
 rw [this,h,Bool.not_not]
theorem leafAhead_is (a:Int) (d:GDot) (b:Int) (o:GDot):leafAhead a d b o=some (if a ≠ b then decide (a < b) else qF d o):=by
 unfold leafAhead leafXcompare
 rw [cmpU64is,dotCompare_is]
 simp only [Option.bind_some,cmpOr2_is]
 congr 1
 by_cases h:a=b
 ·subst h
  have:cmpI a a=0:=by unfold cmpI;simp
  simp [or2,this,dotCmp_neg]
 ·have:cmpI a b ≠ 0:=by unfold cmpI;split <;> (try split) <;> omega
  simp only [or2,this,ne_eq,not_false_eq_true,if_true,h]
  unfold cmpI;rw [Bool.eq_iff_iff];simp only [decide_eq_true_eq];split <;> (try split) <;> omega
theorem ref05Ahead_is (a:Int) (d:GDot) (b:Int) (o:GDot):ref05Ahead a d b o=some (if a ≠ b then decide (a < b) else qF d o):=by
 unfold ref05Ahead
 by_cases h:a=b <;> simp [h,ref03Less_is]
def prevI {α:Type} [Inhabited α] (L:List α) (i:Nat):α:=L.getD (i - 1) default
def qg (timed:Bool) (x:GItem):Bool:=qw x.dot&&decide (x.text.length≤40)&&(if timed then timeB x.time else decide (x.time=0))
def riseB (L:List GItem):Bool:=allI (fun i x=>decide (i=0) || aheadI (prevI L i) x) L
def onceB (L:List GItem):Bool:=decide ((L.map (·.dot)).Nodup)
theorem eqb_iff (a b:GDot):GDot.eqb a b=decide (a=b):=by unfold GDot.eqb;exact dotEq a b
def qC (m:List (GDot×Int)):List GDot:=m.map (·.1)
theorem mput_keys (m:List (GDot×Int)) (k:GDot) (v:Int):qC (mput GDot.eqb m k v)=if k ∈ qC m then qC m else qC m++[k]:=by
 induction m with
 | nil=>simp [mput,qC]
 | cons e r ih =>
  simp only [mput,eqb_iff]
  by_cases h:k=e.1
  ·simp [h,qC]
  ·simp only [decide_eq_false h,Bool.false_eq_true,if_false,qC,List.map_cons,List.mem_cons] at ih ⊢
   rw [ih]
   by_cases h2:k ∈ r.map (·.1) <;> simp [h,h2]
theorem twice_fold:∀ (L:List GItem) (m:List (GDot×Int)),(qC m).Nodup →
  (L.foldl (fun s x=>mput GDot.eqb s x.dot (IntKind.wrap .i64 ((wM GDot.eqb 0 s x.dot)+1))) m).length≤m.length+L.length ∧
  ((L.foldl (fun s x=>mput GDot.eqb s x.dot (IntKind.wrap .i64 ((wM GDot.eqb 0 s x.dot)+1))) m).length=m.length+L.length ↔ (qC m++L.map (·.dot)).Nodup)
 | [],m,h=>by simp [h]
 | x::t,m,h=>by
  simp only [List.foldl_cons]
  have hk:=mput_keys m x.dot (IntKind.wrap .i64 ((wM GDot.eqb 0 m x.dot)+1))
  generalize hm:mput GDot.eqb m x.dot (IntKind.wrap .i64 ((wM GDot.eqb 0 m x.dot)+1))=m' at hk
  have hl:m'.length=(qC m').length:=by simp [qC]
  have hl0:m.length=(qC m).length:=by simp [qC]
  by_cases hx:x.dot ∈ qC m
  ·rw [if_pos hx] at hk
   have ih:=twice_fold t m' (by rw [hk];exact h)
   rw [hk] at ih hl
   refine ⟨by simp only [List.length_cons];omega,?_⟩
   constructor
   ·intro he;simp only [List.length_cons] at he;omega
   ·intro hn
    rw [List.nodup_append] at hn
    exact absurd rfl (hn.2.2 _ hx _ (by simp))
  ·rw [if_neg hx] at hk
   have hnd:(qC m++[x.dot]).Nodup:=by
    rw [List.nodup_append];refine ⟨h,by simp,fun a ha b hb=>?_⟩
    simp at hb;subst hb;rintro rfl;exact hx ha
   have ih:=twice_fold t m' (by rw [hk];exact hnd)
   rw [hk] at ih hl
   simp only [List.length_append,List.length_cons,List.length_nil] at hl
   refine ⟨by simp only [List.length_cons];omega,?_⟩
   have e:qC m++[x.dot]++t.map (·.dot)=qC m++(x::t).map (·.dot):=by simp
   rw [← e,← ih.2]
   simp only [List.length_cons];omega
theorem leafXtwice_is (L:List GItem):leafXtwice L=some (!onceB L):=by
 unfold leafXtwice
 rw [loopL_fold (fun s x=>mput GDot.eqb s x.dot (IntKind.wrap .i64 ((wM GDot.eqb 0 s x.dot)+1))) L 0 [] (fun _ _ _ _=>rfl)]
 have h:=twice_fold L [] (by simp [qC])
 simp only [List.length_nil,Nat.zero_add,qC,List.map_nil,List.nil_append] at h
 simp only [ww,onceB]
 congr 1
 generalize List.length (List.foldl _ _ _)=n at h ⊢
 by_cases hn:(L.map (·.dot)).Nodup
 ·have:=h.2.2 hn
  rw [decide_eq_true hn,decide_eq_false (by omega)];rfl
 ·have h1:n ≠ L.length:=fun e=>hn (h.2.1 e)
  rw [decide_eq_false hn,decide_eq_true (by omega)];rfl
theorem leafXitems_is {L:List GItem} (hl:L.length≤maxLen) (timed:Bool):qU L timed=some (L.all (qg timed)&&riseB L&&onceB L):=by
 unfold qU
 rw [qj (r:=false) (fun i x=>qg timed x&&(decide (i=0) || aheadI (prevI L i) x))]
 ·rw [leafXtwice_is]
  have e:allI (fun i x=>qg timed x&&(decide (i=0) || aheadI (prevI L i) x)) L=(L.all (qg timed)&&riseB L):=by
   rw [Bool.eq_iff_iff,Bool.and_eq_true,riseB,wX,wX,List.all_eq_true]
   constructor
   ·intro h
    exact ⟨fun x hx=>by obtain ⟨i,hi⟩:=List.mem_iff_getElem?.1 hx;have:=h i x hi;simp only [Bool.and_eq_true] at this;exact this.1,fun i x hx=>by have:=h i x hx;simp only [Bool.and_eq_true] at this;exact this.2⟩
   ·rintro ⟨h1,h2⟩ i x hx
    simp only [Bool.and_eq_true]
    exact ⟨h1 x (List.mem_of_getElem? hx),h2 i x hx⟩
  rw [e]
  simp only [Option.bind_some,Bool.not_not]
  cases L.all (qg timed)&&riseB L <;> simp
 ·intro i x hx
  have hi:i < L.length:=(List.getElem?_eq_some_iff.1 hx).1
  simp only [dotMay_is,leafXisText_is,leafXisTime_is,Option.bind_some,leafAhead_is]
  have hb:qg timed x=(qw x.dot&&decide (x.text.length≤40)&&(timed==timeB x.time)&&(timed || decide (x.time=0))):=by
   unfold qg
   cases timed
   ·by_cases h0:x.time=0
    ·simp [h0,show timeB 0=false from rfl]
    ·simp [h0]
   ·simp
  rw [hb]
  cases hd:qw x.dot
  ·simp
  cases ht:decide (x.text.length≤40)
  ·simp
  by_cases htt:timed=timeB x.time
  ·have hz:(x.time != 0)=!decide (x.time=0):=by rw [Bool.eq_iff_iff];simp
   have e1:(timed==timeB x.time)=true:=by simpa using htt
   rw [hz,e1]
   cases hzz:(timed || decide (x.time=0))
   ·have:(!timed&&!decide (x.time=0))=true:=by rw [← Bool.not_or,hzz];rfl
    simp [this]
   have:(!timed&&!decide (x.time=0))=false:=by rw [← Bool.not_or,hzz];rfl
   rw [this]
   rcases i with _ | j
   ·simp [xP,htt]
   ·rw [qm (by simp only [maxLen] at hl ⊢;omega),pos_succ]
    have hj:(j:Int) < (L.length:Int):=by omega
    simp [xP,hj,prevI,aheadI,htt]
    by_cases hq:(L[j]?.getD default).time=x.time
    ·cases hdl:qF (L[j]?.getD default).dot x.dot <;> simp [hq,hdl]
    ·by_cases hlt:(L[j]?.getD default).time < x.time
     ·simp [hq,hlt,Int.not_le.2 hlt]
     ·simp [hq,hlt,Int.not_lt.1 hlt]
  ·have e1:(timed==timeB x.time)=false:=by simpa using htt
   rw [e1];simp [htt]

theorem itemEq (a b:GItem):(a.time==b.time&&(a.dot.actor.rep==b.dot.actor.rep&&(a.dot.actor.inc==b.dot.actor.inc&&(a.dot.seq==b.dot.seq&&(a.text==b.text&&true)))))=decide (a=b):=by
 rcases a with ⟨a0,⟨⟨a1,a2⟩,a3⟩,a4⟩;rcases b with ⟨b0,⟨⟨b1,b2⟩,b3⟩,b4⟩
 rw [Bool.eq_iff_iff];simp [and_assoc]
theorem slicesEqualItem_is (L M:List GItem):vw L M=some (decide (L=M)):=by
 unfold vw
 by_cases hl:L.length=M.length
 ·have e:((L.length:Int) != (M.length:Int))=false:=by simp;omega
  rw [e,same_loop M itemEq L 0 (by omega) (fun j x hj=>by simp)]
  by_cases h:L=M <;> simp [h]
 ·have e:((L.length:Int) != (M.length:Int))=true:=by simp;omega
  rw [e,decide_eq_false (fun h=>hl (by rw [h]))];rfl
theorem leafSame_is (a b:GLeaf):leafSame a b=some (decide (a=b)):=by
 unfold leafSame
 simp only [slicesEqualItem_is,slicesEqualDot_is,dotEq]
 rcases a with ⟨a0,a1,a2,a3,a4,a5,a6⟩;rcases b with ⟨b0,b1,b2,b3,b4,b5,b6⟩
 simp only [GLeaf.mk.injEq]
 by_cases h0:a0=b0 <;> by_cases h1:a1=b1 <;> by_cases h2:a2=b2 <;> by_cases h3:a3=b3 <;> by_cases h4:a4=b4 <;> by_cases h5:a5=b5 <;> by_cases h6:a6=b6 <;> simp [h0,h1,h2,h3,h4,h5,h6]
def dot0:GDot:=⟨⟨0,0⟩,0⟩
def zeroB (l:GLeaf):Bool:=decide (l.time=0)&&decide (l.dot=dot0)&&decide (l.text=[])
def tombsB (l:GLeaf):Bool:=l.tombs.all qw&&rising l.tombs&&l.tombs.all (fun d=>!l.items.any fun x=>decide (x.dot=d))
def leafB (l:GLeaf):Bool :=
 if l.typ=1 then zeroB l&&decide (l.items=[])&&decide (l.tombs=[])
 else if l.typ=2 then decide (l.n=0)&&decide (l.items=[])&&decide (l.tombs=[])&&(if l.time=0 then decide (l.dot=dot0)&&decide (l.text=[]) else timeB l.time&&qw l.dot&&decide (l.text.length≤40))
 else if l.typ=3 then decide (l.n=0)&&zeroB l&&(l.items.all (qg false)&&riseB l.items&&onceB l.items)&&tombsB l
 else if l.typ=4 then decide (l.n=0)&&zeroB l&&decide (l.tombs=[])&&(l.items.all (qg true)&&riseB l.items&&onceB l.items)
 else false
theorem containsItem_is {f:GItem→Option Bool} {q:GItem→Bool} (p:List GItem) (hf:∀ x ∈ p,f x=some (q x)):xu p f=some (p.any q):=by
 unfold xu wP
 rw [first_loop p hf,Option.bind_some,firstI_any]
theorem leafXhas_is (L:List GItem) (d:GDot):leafXhas L d=some (L.any fun x=>decide (x.dot=d)):=by
 unfold leafXhas
 rw [containsItem_is (q:=fun x=>decide (x.dot=d)) L (fun x _=>by unfold leafXhasC1;rw [dotEq]),Option.bind_some]
theorem rising_allI (ds:List GDot):rising ds=allI (fun i x=>wY ds i x) ds:=by
 have h:=rising_loop ds (g:=fun i x _=>if (qw x&&wY ds i x)=true then some (.nxt ()) else some (.ret false)) (fun _ _ _=>rfl)
 have key:∀ (L pre:List GDot),ds=pre++L→rising (match pre.getLast? with | some y=>y::L | none=>L)=(L.zipIdx pre.length).all fun p=>wY ds p.2 p.1:=by
  intro L
  induction L with
  | nil=>intro pre _;cases pre.getLast? <;> simp [rising]
  | cons x t ih =>
   intro pre hd
   have ih':=ih (pre++[x]) (by rw [hd];simp)
   simp only [List.length_append,List.length_cons,List.length_nil,Nat.zero_add,List.getLast?_append,List.getLast?_singleton,Option.some_or] at ih'
   simp only [List.zipIdx_cons,List.all_cons]
   cases hp:pre.getLast? with
   | none =>
    have hpre:pre=[]:=List.getLast?_eq_none_iff.1 hp
    subst hpre
    simp only [List.length_nil,Nat.zero_add] at ih' ⊢
    rw [ih'];simp [wY]
   | some y =>
    have hne:pre ≠ []:=by rintro rfl;simp at hp
    have h0:0 < pre.length:=List.length_pos_iff.2 hne
    have hy:ds.getD (pre.length - 1) default=y:=by
     rw [List.getD_eq_getElem?_getD,hd,List.getElem?_append_left (by omega)]
     rw [List.getLast?_eq_getElem?] at hp;rw [hp];rfl
    have ha:wY ds pre.length x=qF y x:=by
     unfold wY;rw [hy,decide_eq_false (by omega)];rfl
    rw [ha,← ih'];simp [rising]
 simpa [allI] using key ds [] rfl
theorem leafXtombs_is {l:GLeaf} (hl:l.tombs.length≤maxLen):leafXtombs l=some (tombsB l):=by
 unfold leafXtombs
 rw [qj (r:=false) (fun i x=>qw x&&wY l.tombs i x&&!(l.items.any fun y=>decide (y.dot=x)))]
 ·have e:allI (fun i x=>qw x&&wY l.tombs i x&&!(l.items.any fun y=>decide (y.dot=x))) l.tombs=tombsB l:=by
   unfold tombsB
   rw [Bool.eq_iff_iff,rising_allI,Bool.and_eq_true,Bool.and_eq_true,wX,wX,List.all_eq_true,List.all_eq_true]
   constructor
   ·intro h
    refine ⟨⟨fun x hx=>?_,fun i x hx=>?_⟩,fun x hx=>?_⟩
    ·obtain ⟨i,hi⟩:=List.mem_iff_getElem?.1 hx;have:=h i x hi;simp only [Bool.and_eq_true] at this;exact this.1.1
    ·have:=h i x hx;simp only [Bool.and_eq_true] at this;exact this.1.2
    ·obtain ⟨i,hi⟩:=List.mem_iff_getElem?.1 hx;have:=h i x hi;simp only [Bool.and_eq_true] at this;exact this.2
   ·rintro ⟨⟨h1,h2⟩,h3⟩ i x hx
    have hm:=List.mem_of_getElem? hx
    simp only [Bool.and_eq_true]
    exact ⟨⟨h1 x hm,h2 i x hx⟩,h3 x hm⟩
  rw [e];cases tombsB l <;> rfl
 ·intro i x hx
  have hi:i < l.tombs.length:=(List.getElem?_eq_some_iff.1 hx).1
  simp only [dotMay_is,Option.bind_some,dotCompare_is,leafXhas_is]
  cases hd:qw x
  ·simp [xP]
  rcases i with _ | j
  ·cases hh:(l.items.any fun y=>decide (y.dot=x)) <;> simp [xP,wY]
  ·rw [qm (by simp only [maxLen] at hl ⊢;omega),pos_succ]
   have hj:(j:Int) < (l.tombs.length:Int):=by omega
   have ha:wY l.tombs (j+1) x=qF (l.tombs.getD j default) x:=by unfold wY;simp
   have e:=dotCmp_lt (l.tombs.getD j default) x
   rw [zS (by intro _;omega),ha,Int.toNat_natCast]
   generalize l.tombs.getD j default=y at e ⊢
   simp only [Bool.not_true,BEq.rfl,Bool.true_and,if_true,Option.bind_some,e,Bool.false_or]
   cases hlt:qF y x
   ·simp
   ·cases hh:(l.items.any fun y=>decide (y.dot=x)) <;> simp
theorem leafMay_is {l:GLeaf} (hi:l.items.length≤maxLen) (ht:l.tombs.length≤maxLen):leafMay l=some (leafB l):=by
 unfold leafMay leafB
 simp only [leafSame_is,leafXisTime_is,dotMay_is,leafXisText_is,leafXitems_is hi,leafXtombs_is ht,dotEq,Option.bind_some]
 rcases l with ⟨t,n,tm,d,tx,it,tb⟩
 simp only [GLeaf.mk.injEq,zeroB,beq_iff_eq,dot0]
 by_cases h1:t=1
 ·simp only [h1,if_true]
  congr 1;rw [Bool.eq_iff_iff];simp [and_assoc]
  intros;exact decide_eq_true_iff.symm
 by_cases h2:t=2
 ·subst h2
  by_cases h0:tm=0
  ·subst h0
   by_cases hd:d=⟨⟨0,0⟩,0⟩
   ·by_cases hx:tx=[]
    ·simp [hd,hx];rw [Bool.eq_iff_iff];simp [and_assoc]
    ·simp [hd,hx]
   ·have hz:((0:Int)==0&&!decide (d=⟨⟨0,0⟩,0⟩))=true:=by simp [hd]
    simp [hd]
    intro e1
    rcases d with ⟨⟨d1,d2⟩,d3⟩
    simp_all
  ·cases htt:timeB tm <;> cases hdd:qw d <;> cases hxx:decide (tx.length≤40) <;> simp_all [and_assoc]
   rw [Bool.eq_iff_iff];simp [and_assoc]
 by_cases h3:t=3
 ·subst h3
  cases ha:(it.all (qg false)&&riseB it&&onceB it) <;> cases hb:tombsB ⟨3,n,tm,d,tx,it,tb⟩ <;> simp [and_assoc]
  rw [Bool.eq_iff_iff];simp [and_assoc]
  intros;exact decide_eq_true_iff.symm
 by_cases h4:t=4
 ·subst h4
  cases ha:(it.all (qg true)&&riseB it&&onceB it) <;> simp [and_assoc]
  rw [Bool.eq_iff_iff];simp [and_assoc]
  intros;exact decide_eq_true_iff.symm
 simp [h1,h2,h3,h4]

theorem ref05Item_is (L:List GItem) (d:GDot):ref05Item L d=some (qW (fun x=>decide (x.dot=d)) L):=by
 unfold ref05Item
 rw [loopL_first (fun x:GItem=>decide (x.dot=d)) (fun i _=>(i:Int)) _ _ (fun i x _=>by rw [dotEq])]
 unfold qW
 cases h:L.findIdx? (fun x=>decide (x.dot=d)) with
 | none=>simp
 | some j =>
  obtain ⟨hj,_⟩:=List.findIdx?_eq_some_iff_getElem.1 h
  simp [List.getElem?_eq_getElem hj]
theorem ref05Tomb_is (L:List GDot) (d:GDot):ref05Tomb L d=some (L.any fun x=>decide (x=d)):=by
 unfold ref05Tomb
 rw [lp_all0 (r:=true) (fun x:GDot=>!decide (x=d)) (fun i x _=>by rw [dotEq];cases decide (x=d) <;> rfl)]
 have e:L.any (fun x=>decide (x=d))=!L.all (fun x=>!decide (x=d)):=by rw [Bool.eq_iff_iff];simp
 rw [e];cases L.all (fun x=>!decide (x=d)) <;> rfl
theorem first_nodup (L:List GItem):(∀ (i:Nat) (x:GItem),L[i]?=some x→qW (fun y:GItem=>decide (y.dot=x.dot)) L=(i:Int)) ↔ (L.map (·.dot)).Nodup:=by
 constructor
 ·intro h
  rw [List.nodup_iff_pairwise_ne,List.pairwise_iff_getElem]
  intro i j hi hj hij e
  simp only [List.length_map] at hi hj
  simp only [List.getElem_map] at e
  have h1:=h i _ (List.getElem?_eq_getElem hi)
  have h2:=h j _ (List.getElem?_eq_getElem hj)
  rw [e] at h1
  rw [h1] at h2
  omega
 ·intro h i x hx
  obtain ⟨hi,rfl⟩:=List.getElem?_eq_some_iff.1 hx
  unfold qW
  have:L.findIdx? (fun y=>decide (y.dot=L[i].dot))=some i:=by
   rw [List.findIdx?_eq_some_iff_getElem]
   refine ⟨hi,by simp,fun j hj=>?_⟩
   have hjl:j < L.length:=by omega
   simp only [decide_eq_true_eq]
   intro e
   rw [List.nodup_iff_pairwise_ne,List.pairwise_iff_getElem] at h
   exact h j i (by simpa using hjl) (by simpa using hi) hj (by simpa using e)
  rw [this]
def itemR (t:Int) (x:GItem):Bool:=qw x.dot&&decide (x.text.length≤40)&&(decide (t ≠ 3) || decide (x.time=0))&&(decide (t ≠ 4) || timeB x.time)
def tailB (l:GLeaf):Bool:=l.items.all (itemR l.typ)&&onceB l.items&&l.items.all (fun x=>!(l.tombs.any fun y=>decide (y=x.dot)))&&riseB l.items&&(l.tombs.all qw&&rising l.tombs)
theorem items_allI (l:GLeaf):allI (fun i x=>itemR l.typ x&&(decide (qW (fun y:GItem=>decide (y.dot=x.dot)) l.items=(i:Int))&&(!(l.tombs.any fun y=>decide (y=x.dot))&&(decide (i=0) || aheadI (prevI l.items i) x)))) l.items =
  (l.items.all (itemR l.typ)&&onceB l.items&&l.items.all (fun x=>!(l.tombs.any fun y=>decide (y=x.dot)))&&riseB l.items):=by
 rw [Bool.eq_iff_iff,wX]
 simp only [Bool.and_eq_true,decide_eq_true_eq,onceB,riseB,wX,List.all_eq_true,← first_nodup]
 constructor
 ·intro h
  refine ⟨⟨⟨fun x hx=>?_,fun i x hx=>(h i x hx).2.1⟩,fun x hx=>?_⟩,fun i x hx=>(h i x hx).2.2.2⟩
  ·obtain ⟨i,hi⟩:=List.mem_iff_getElem?.1 hx;exact (h i x hi).1
  ·obtain ⟨i,hi⟩:=List.mem_iff_getElem?.1 hx;exact (h i x hi).2.2.1
 ·rintro ⟨⟨⟨h1,h2⟩,h3⟩,h4⟩ i x hx
  have hm:=List.mem_of_getElem? hx
  exact ⟨h1 x hm,h2 i x hx,h3 x hm,h4 i x hx⟩
theorem tombs_allI (ds:List GDot):allI (fun i x=>qw x&&wY ds i x) ds=(ds.all qw&&rising ds):=by
 rw [Bool.eq_iff_iff,wX,rising_allI]
 simp only [Bool.and_eq_true,wX,List.all_eq_true]
 constructor
 ·intro h
  exact ⟨fun x hx=>by obtain ⟨i,hi⟩:=List.mem_iff_getElem?.1 hx;exact (h i x hi).1,fun i x hx=>(h i x hx).2⟩
 ·rintro ⟨h1,h2⟩ i x hx
  exact ⟨h1 x (List.mem_of_getElem? hx),h2 i x hx⟩
theorem ref05May_is {l:GLeaf} (hi:l.items.length≤maxLen) (ht:l.tombs.length≤maxLen) (h0:0≤l.time):ref05May l=some (leafB l):=by
 unfold ref05May
 simp only [ref03May_is,ref05Item_is,ref05Tomb_is,ref05Ahead_is,ref03Less_is,Option.bind_some,dotEq]
 generalize hT:lp (yf _ l.items 0 ()) _=T
 have a1:decide ((l.items.length:Int) > 0)=!decide (l.items=[]):=by cases l.items <;> simp
 have a2:decide ((l.tombs.length:Int) > 0)=!decide (l.tombs=[]):=by cases l.tombs <;> simp
 have hT2:T=some (tailB l):=by
  rw [← hT,qj (r:=false) (fun i x=>itemR l.typ x&&(decide (qW (fun y:GItem=>decide (y.dot=x.dot)) l.items=(i:Int))&&(!(l.tombs.any fun y=>decide (y=x.dot))&&(decide (i=0) || aheadI (prevI l.items i) x))))]
  ·rw [qj (r:=false) (fun i x=>qw x&&wY l.tombs i x)]
   ·rw [items_allI,tombs_allI]
    unfold tailB
    cases (l.items.all (itemR l.typ)&&onceB l.items&&l.items.all (fun x=>!(l.tombs.any fun y=>decide (y=x.dot)))&&riseB l.items) <;> cases (l.tombs.all qw&&rising l.tombs) <;> simp
   ·intro i x hx
    have hil:i < l.tombs.length:=(List.getElem?_eq_some_iff.1 hx).1
    have hxe:l.tombs.getD i default=x:=by rw [List.getD_eq_getElem?_getD,hx];rfl
    rcases i with _ | j
    ·cases hd:qw x <;> simp [xP,wY]
    ·rw [qm (by simp only [maxLen] at ht ⊢;omega),pos_succ,Int.toNat_natCast,Int.toNat_natCast,hxe]
     have ha:wY l.tombs (j+1) x=qF (l.tombs.getD j default) x:=by unfold wY;simp
     rw [zS (by intro _;omega),zS (by intro _;omega),ha]
     generalize l.tombs.getD j default=y
     cases hd:qw x <;> cases hlt:qF y x <;> simp
  ·intro i x hx
   have hil:i < l.items.length:=(List.getElem?_eq_some_iff.1 hx).1
   have b1:decide ((x.text.length:Int) > 40)=!decide (x.text.length≤40):=by rw [Bool.eq_iff_iff];simp;omega
   have b2:(((l.typ==4)&&(decide (x.time < 1) || decide (x.time > 1099511627776))))=!(decide (l.typ ≠ 4) || timeB x.time):=by
    rw [Bool.eq_iff_iff];simp [timeB]
   have b3:((l.typ==3)&&(x.time != 0))=!(decide (l.typ ≠ 3) || decide (x.time=0)):=by rw [Bool.eq_iff_iff];simp
   rw [b1,b2,b3]
   have hc:(((!qw x.dot || !decide (x.text.length≤40)) || !(decide (l.typ ≠ 3) || decide (x.time=0))) || !(decide (l.typ ≠ 4) || timeB x.time))=!itemR l.typ x:=by unfold itemR;simp only [Bool.not_and]
   rw [hc]
   have b4:(qW (fun y:GItem=>decide (y.dot=x.dot)) l.items != (i:Int))=!decide (qW (fun y:GItem=>decide (y.dot=x.dot)) l.items=(i:Int)):=by rw [Bool.eq_iff_iff];simp
   cases hr:itemR l.typ x
   ·simp
   simp only [Bool.not_true,BEq.rfl,if_true,Option.bind_some,Bool.false_or]
   rw [b4]
   cases hf:decide (qW (fun y:GItem=>decide (y.dot=x.dot)) l.items=(i:Int))
   ·simp
   cases htb:l.tombs.any fun y=>decide (y=x.dot)
   ·rcases i with _ | j
    ·simp [xP]
    ·rw [qm (by simp only [maxLen] at hi ⊢;omega),pos_succ,Int.toNat_natCast]
     rw [zS (by intro _;omega),zS (by intro _;omega)]
     have ha:(if (l.items.getD j default).time ≠ x.time then decide ((l.items.getD j default).time < x.time) else qF (l.items.getD j default).dot x.dot)=aheadI (prevI l.items (j+1)) x:=rfl
     rw [ha]
     cases aheadI (prevI l.items (j+1)) x <;> simp
   ·simp
 subst hT2
 clear hT
 rw [a1,a2]
 have z1:(l.time != 0)=!decide (l.time=0):=by rw [Bool.eq_iff_iff];simp
 have z2:(l.time==0)=decide (l.time=0):=by rw [Bool.eq_iff_iff];simp
 have z3:(l.text==([]:zR))=decide (l.text=[]):=by rw [Bool.eq_iff_iff];simp
 have z4:decide (l.time > 1099511627776)=!decide (l.time≤1099511627776):=by rw [Bool.eq_iff_iff];simp
 have z5:decide ((l.text.length:Int) > 40)=!decide (l.text.length≤40):=by rw [Bool.eq_iff_iff];simp;omega
 have hz:zeroB l=(decide (l.time=0)&&decide (l.dot=dot0)&&decide (l.text=[])):=rfl
 have z6:(l.dot.actor.rep==0&&(l.dot.actor.inc==0&&(l.dot.seq==0&&true)))=decide (l.dot=dot0):=dotEq l.dot dot0
 rw [z1,z2,z3,z4,z5,z6]
 by_cases h1:l.typ=1
 ·have hi:decide (l.items=[])=true→tailB l=(l.tombs.all qw&&rising l.tombs):=by
   intro h;have:=of_decide_eq_true h
   unfold tailB;rw [this];simp [onceB,riseB,allI]
  unfold leafB
  simp only [h1,if_true,hz]
  cases hi2:decide (l.items=[])
  ·simp
  ·rw [hi hi2]
   cases ht2:decide (l.tombs=[])
   ·simp
   ·have:=of_decide_eq_true ht2
    rw [this]
    cases decide (l.time=0) <;> cases decide (l.dot=dot0) <;> cases decide (l.text=[]) <;> simp [rising]
 by_cases h2:l.typ=2
 ·have hi:decide (l.items=[])=true→tailB l=(l.tombs.all qw&&rising l.tombs):=by
   intro h;have:=of_decide_eq_true h
   unfold tailB;rw [this];simp [onceB,riseB,allI]
  unfold leafB
  have ht40:timeB l.time=(!decide (l.time=0)&&decide (l.time≤1099511627776)):=by
   unfold timeB;rw [Bool.eq_iff_iff];simp;omega
  simp only [h2,if_true,ht40]
  cases hn:decide (l.n=0)
  ·have:(l.n != 0)=true:=by simpa using hn
   simp [this]
  ·have hn':l.n=0:=of_decide_eq_true hn
   cases hi2:decide (l.items=[])
   ·simp [hn']
   ·rw [hi hi2]
    cases ht2:decide (l.tombs=[])
    ·simp [hn']
    ·have:=of_decide_eq_true ht2
     rw [this]
     by_cases ht0:l.time=0
     ·cases hdd:decide (l.dot=dot0) <;> cases htx:decide (l.text=[]) <;> simp [hn',ht0,rising]
     ·cases hm:decide (l.time≤1099511627776) <;> cases hdd:qw l.dot <;> cases htx:decide (l.text.length≤40) <;> simp [hn',ht0,rising]
 by_cases h3:l.typ=3
 ·have e1:(fun x=>itemR 3 x)=qg false:=by
   funext x;unfold itemR qg;simp
  have e2:tailB l=(l.items.all (qg false)&&riseB l.items&&onceB l.items&&tombsB l):=by
   unfold tailB tombsB
   rw [h3,show itemR 3=qg false from e1]
   have e3:l.items.all (fun x=>!(l.tombs.any fun y=>decide (y=x.dot)))=l.tombs.all (fun d=>!l.items.any fun x=>decide (x.dot=d)):=by
    rw [Bool.eq_iff_iff];simp only [List.all_eq_true,Bool.not_eq_true',List.any_eq_false,decide_eq_true_eq]
    exact ⟨fun h d hd x hx e=>h x hx d hd e.symm,fun h x hx d hd e=>h d hd x hx e.symm⟩
   rw [e3]
   cases l.items.all (qg false) <;> cases onceB l.items <;> cases riseB l.items <;> cases l.tombs.all qw <;> cases rising l.tombs <;> cases l.tombs.all (fun d=>!l.items.any fun x=>decide (x.dot=d)) <;> rfl
  unfold leafB
  simp only [h3,e2,hz]
  cases hn:decide (l.n=0)
  ·have:(l.n != 0)=true:=by simpa using hn
   simp [this]
  ·have hn':l.n=0:=of_decide_eq_true hn
   cases decide (l.time=0) <;> cases decide (l.dot=dot0) <;> cases decide (l.text=[]) <;> simp [hn']
 by_cases h4:l.typ=4
 ·have e1:(fun x=>itemR 4 x)=qg true:=by
   funext x;unfold itemR qg;simp
  have e2:decide (l.tombs=[])=true→tailB l=(l.items.all (qg true)&&riseB l.items&&onceB l.items):=by
   intro h;have:=of_decide_eq_true h
   unfold tailB
   rw [h4,show itemR 4=qg true from e1,this]
   cases l.items.all (qg true) <;> cases onceB l.items <;> cases riseB l.items <;> simp [rising]
  unfold leafB
  simp only [h4,hz]
  cases hn:decide (l.n=0)
  ·have:(l.n != 0)=true:=by simpa using hn
   simp [this]
  ·have hn':l.n=0:=of_decide_eq_true hn
   cases ht2:decide (l.tombs=[])
   ·simp [hn']
   ·rw [e2 ht2]
    cases decide (l.time=0) <;> cases decide (l.dot=dot0) <;> cases decide (l.text=[]) <;> simp [hn']
 have hlt:l.typ < 1 ∨ 4 < l.typ:=by omega
 have:(decide (l.typ < 1) || decide (l.typ > 4))=true:=by simp;omega
 unfold leafB
 rw [this,if_neg h1,if_neg h2,if_neg h3,if_neg h4]
 simp

mutual
def GNode.dep:GNode→Nat
 | ⟨_,_,sb⟩=>GNode.deps sb+1
def GNode.deps:List GNode→Nat
 | []=>0
 | x::r=>max x.dep (GNode.deps r)
end
theorem qG {x:GNode}:∀ {t:List GNode},x ∈ t→x.dep≤GNode.deps t
 | [],h=>by cases h
 | y::r,h=>by
  simp only [GNode.deps]
  rcases List.mem_cons.1 h with rfl | h
  ·omega
  ·have:=qG h;omega
theorem wq (x:GNode):GNode.deps x.subs+1=x.dep:=by cases x;simp [GNode.dep]
def Small (t:List GNode):Prop:=GNode.wfs t∧GNode.bks t≤1048576
theorem bk_pos (x:GNode):1≤x.bk:=by cases x;simp only [GNode.bk];omega
theorem len_bks:∀ t:List GNode,t.length≤GNode.bks t
 | []=>by simp [GNode.bks]
 | x::r=>by have:=len_bks r;have:=bk_pos x;simp only [GNode.bks,List.length_cons];omega
theorem bk_mem {x:GNode}:∀ {t:List GNode},x ∈ t→x.bk≤GNode.bks t
 | [],h=>by cases h
 | y::r,h=>by
  simp only [GNode.bks]
  rcases List.mem_cons.1 h with rfl | h
  ·omega
  ·have:=bk_mem h;omega
theorem sum_len {α:Type} {f:α→Nat} (h:∀ x,1≤f x):∀ l:List α,l.length≤(l.map f).sum
 | []=>by simp
 | x::r=>by have:=sum_len h r;have:=h x;simp only [List.length_cons,List.map_cons,List.sum_cons];omega
theorem sum_mem {α:Type} {f:α→Nat} {x:α}:∀ {l:List α},x ∈ l→f x≤(l.map f).sum
 | [],h=>by cases h
 | y::r,h=>by
  simp only [List.map_cons,List.sum_cons]
  rcases List.mem_cons.1 h with rfl | h
  ·omega
  ·have:=sum_mem (f:=f) h;omega
theorem bk_node (x:GNode):x.name.length+1+((x.leaves.map GLeaf.bk).sum+1)+(GNode.bks x.subs+1)≤x.bk:=by cases x;simp only [GNode.bk];omega
theorem Small.subs {t:List GNode} (h:Small t) {x:GNode} (hx:x ∈ t):Small x.subs:=by
 refine ⟨?_,by have:=bk_mem hx;have:=bk_node x;have:=h.2;omega⟩
 have:=(GNode.wfs_iff t).1 h.1 x hx
 cases x;simp only [GNode.wf] at this;exact this.2.2
theorem Small.len {t:List GNode} (h:Small t):t.length≤1048576:=Nat.le_trans (len_bks t) h.2
structure LeafOk (l:GLeaf):Prop where
 items:l.items.length≤1048576
 tombs:l.tombs.length≤1048576
 time:0≤l.time
theorem Small.leaf {t:List GNode} (h:Small t) {x:GNode} (hx:x ∈ t) {l:GLeaf} (hl:l ∈ x.leaves):LeafOk l:=by
 have h1:=bk_mem hx;have h2:=bk_node x;have h3:=h.2
 have h4:l.bk≤_:=sum_mem (f:=GLeaf.bk) hl
 have h5:(l.items.map GItem.bk).sum+1+((l.tombs.map GDot.bk).sum+1)≤l.bk:=by unfold GLeaf.bk;omega
 have h6:=sum_len (f:=GItem.bk) (fun x=>by unfold GItem.bk;omega) l.items
 have h7:=sum_len (f:=GDot.bk) (fun x=>by unfold GDot.bk;omega) l.tombs
 refine ⟨by omega,by omega,?_⟩
 have:=(GNode.wfs_iff t).1 h.1 x hx
 cases x;simp only [GNode.wf] at this
 have:=this.2.1.2 l hl
 unfold GLeaf.wf at this
 have:=this.2.2.1
 unfold InK at this;simp [IntKind.min,IntKind.max,IntKind.signed,IntKind.bits] at this;omega
theorem Small.leaves {t:List GNode} (h:Small t) {x:GNode} (hx:x ∈ t):x.leaves.length≤1048576:=by
 have h1:=bk_mem hx;have h2:=bk_node x;have h3:=h.2
 have h6:=sum_len (f:=GLeaf.bk) (fun x=>by unfold GLeaf.bk;omega) x.leaves
 omega
def upB (t:List GNode):Bool:=allI (fun i x=>decide (i=0) || Op.bytesLess (t.getD (i - 1) default).name x.name) t
def leavesB (ls:List GLeaf):Bool:=allI (fun i l=>leafB l&&(decide (i=0) || decide ((ls.getD (i - 1) default).typ < l.typ))) ls
mutual
def nodeB (d:Nat):GNode→Bool
 | ⟨nm,ls,sb⟩=>nameB nm&&!(ls.isEmpty&&sb.isEmpty)&&((sb.isEmpty || decide (d+1 < 3))&&upB sb&&vQ (d+1) sb)&&leavesB ls
def vQ (d:Nat):List GNode→Bool
 | []=>true
 | x::r=>nodeB d x&&vQ d r
end
def treeB (d:Nat) (t:List GNode):Bool:=(t.isEmpty || decide (d < 3))&&upB t&&vQ d t
theorem nodesB_all (d:Nat):∀ t,vQ d t=t.all (nodeB d)
 | []=>rfl
 | x::r=>by simp only [vQ,List.all_cons,nodesB_all d r]
theorem nodeB_eq (d:Nat) (x:GNode):nodeB d x=(nameB x.name&&!(x.leaves.isEmpty&&x.subs.isEmpty)&&treeB (d+1) x.subs&&leavesB x.leaves):=by cases x;rfl
theorem up_nodes (d:Nat) (t:List GNode):allI (fun i x=>nodeB d x&&(decide (i=0) || Op.bytesLess (t.getD (i - 1) default).name x.name)) t=(upB t&&vQ d t):=by
 rw [Bool.eq_iff_iff,wX,nodesB_all]
 simp only [Bool.and_eq_true,upB,wX,List.all_eq_true]
 constructor
 ·intro h
  exact ⟨fun i x hx=>(h i x hx).2,fun x hx=>by obtain ⟨i,hi⟩:=List.mem_iff_getElem?.1 hx;exact (h i x hi).1⟩
 ·rintro ⟨h1,h2⟩ i x hx
  exact ⟨h2 x (List.mem_of_getElem? hx),h1 i x hx⟩
theorem lenE {α:Type} (l:List α):((l.length:Int)==0)=l.isEmpty:=by cases l <;> simp;omega
theorem treeXmayN_is:∀ (n:Nat) (t:List GNode) (d:Nat),GNode.deps t < n→d≤3→Small t→qn n t (d:Int)=some (treeB d t)
 | 0,_,_,h,_,_=>by omega
 | n+1,t,d,h,hd,hs=>by
  unfold qn
  by_cases hc:(decide ((t.length:Int) > 0)&&((d:Int)==3))=true
  ·rw [if_pos hc]
   simp only [Bool.and_eq_true,decide_eq_true_eq,beq_iff_eq] at hc
   have:t.isEmpty=false:=by cases t <;> simp at hc ⊢
   have hd3:decide (d < 3)=false:=decide_eq_false (by omega)
   simp [treeB,this,hd3]
  ·rw [if_neg hc]
   have hte:(t.isEmpty || decide (d < 3))=true:=by
    simp only [Bool.and_eq_true,decide_eq_true_eq,beq_iff_eq] at hc
    cases t with
    | nil=>rfl
    | cons x r=>simp at hc ⊢;omega
   have hl:=hs.len
   rw [qj (r:=false) (fun i x=>nodeB d x&&(decide (i=0) || Op.bytesLess (t.getD (i - 1) default).name x.name)),up_nodes]
   ·unfold treeB;rw [hte,Bool.true_and]
    cases upB t&&vQ d t <;> rfl
   ·intro i x hx
    have hi:i < t.length:=(List.getElem?_eq_some_iff.1 hx).1
    have hm:=List.mem_of_getElem? hx
    have hdp:=qG hm
    have hds:=wq x
    have hne:0 < t.length:=by omega
    have hd3:d < 3:=by
     simp only [Bool.and_eq_true,decide_eq_true_eq,beq_iff_eq] at hc;omega
    have hw:IntKind.wrap .i64 ((d:Int)+1)=((d+1:Nat):Int):=by rw [w64n (by omega)];omega
    have ih:=treeXmayN_is n x.subs (d+1) (by omega) (by omega) (hs.subs hm)
    have hll:=hs.leaves hm
    have hsl:=(hs.subs hm).len
    have hw2:IntKind.wrap .i64 ((x.leaves.length:Int)+(x.subs.length:Int))=((x.leaves.length+x.subs.length:Nat):Int):=by rw [w64n (by omega)];omega
    have hz:((((x.leaves.length+x.subs.length:Nat):Int))==0)=(x.leaves.isEmpty&&x.subs.isEmpty):=by
     cases h1:x.leaves <;> cases h2:x.subs <;> simp <;> omega
    rw [opIsName_is,hw,ih,hw2,hz,nodeB_eq]
    have hlv:lp (yf (fun (n2:Nat) (x2:GLeaf) (s2:Unit)=>(((leafMay x2).bind fun v43=>(xP ((((!v43)==false)&&((decide ((n2:Int) > (0:Int)))==true))=true→0≤(IntKind.wrap .i64 ((n2:Int) - (1:Int)))∧(IntKind.wrap .i64 ((n2:Int) - (1:Int))) < ((x.leaves).length:Int)) ((if ((!v43) || ((decide ((n2:Int) > (0:Int)))&&(decide (((x.leaves).getD (IntKind.wrap .i64 ((n2:Int) - (1:Int))).toNat default).typ ≥ x2.typ))))=true then some (.ret (.ret false)) else some (.nxt ()))))):Option (Out (Out Bool Unit) Unit))) x.leaves 0 ()) (fun (s2:Unit)=>some (.nxt ()))=if leavesB x.leaves=true then some (.nxt ()) else some (.ret false):=by
     rw [qj (r:=.ret false) (fun i l=>leafB l&&(decide (i=0) || decide ((x.leaves.getD (i - 1) default).typ < l.typ)))]
     ·rfl
     ·intro j l hjl
      have hjx:j < x.leaves.length:=(List.getElem?_eq_some_iff.1 hjl).1
      have hlo:=hs.leaf hm (List.mem_of_getElem? hjl)
      rw [leafMay_is (by have:=hlo.items;simp only [maxLen];omega) (by have:=hlo.tombs;simp only [maxLen];omega)]
      simp only [Option.bind_some]
      rcases j with _ | j
      ·cases leafB l <;> simp [xP]
      ·rw [qm (by simp only [maxLen];omega),pos_succ,Int.toNat_natCast,zS (by intro _;omega)]
       have e:decide ((x.leaves.getD j default).typ ≥ l.typ)=!decide ((x.leaves.getD j default).typ < l.typ):=by rw [Bool.eq_iff_iff];simp
       rw [e,Nat.add_sub_cancel]
       generalize (x.leaves.getD j default)=y
       cases leafB l <;> cases decide (y.typ < l.typ) <;> simp
    rw [hlv]
    simp only [Option.bind_some]
    rcases i with _ | j
    ·cases nameB x.name <;> cases (x.leaves.isEmpty&&x.subs.isEmpty) <;> cases treeB (d+1) x.subs <;> cases leavesB x.leaves <;> simp [xP]
    ·rw [qm (by simp only [maxLen];omega),pos_succ,Int.toNat_natCast,zS (by intro _;omega),Nat.add_sub_cancel]
     generalize (t.getD j default)=y
     cases nameB x.name <;> cases (x.leaves.isEmpty&&x.subs.isEmpty) <;> cases treeB (d+1) x.subs <;> cases leavesB x.leaves <;> cases Op.bytesLess y.name x.name <;> simp
theorem treeMay_is {t:List GNode} (h:Small t):treeMay t=some (treeB 0 t):=by
 unfold treeMay treeXmay
 have:=anyN_of (g:=fun n=>qn n t 0) (r:=treeB 0 t) (GNode.deps t+1) (fun n hn=>by have:=treeXmayN_is n t 0 (by omega) (by omega) h;simpa using this)
 rw [this];rfl
theorem ref07XmayN_is:∀ (n:Nat) (t:List GNode) (d:Nat),GNode.deps t < n→d≤3→Small t→vN n t (d:Int)=some (treeB d t)
 | 0,_,_,h,_,_=>by omega
 | n+1,t,d,h,hd,hs=>by
  unfold vN
  have hl:=hs.len
  rw [qj (r:=false) (fun i x=>decide (d < 3)&&(nodeB d x&&(decide (i=0) || Op.bytesLess (t.getD (i - 1) default).name x.name)))]
  ·have e:allI (fun i x=>decide (d < 3)&&(nodeB d x&&(decide (i=0) || Op.bytesLess (t.getD (i - 1) default).name x.name))) t=treeB d t:=by
    unfold treeB
    rw [Bool.and_assoc,← up_nodes]
    cases hd3:decide (d < 3)
    ·cases t with
     | nil=>rfl
     | cons x r=>simp [allI]
    ·simp
   rw [e];cases treeB d t <;> rfl
  ·intro i x hx
   have hi:i < t.length:=(List.getElem?_eq_some_iff.1 hx).1
   have hm:=List.mem_of_getElem? hx
   have hdp:=qG hm
   have hds:=wq x
   have hg3:decide ((d:Int) ≥ 3)=!decide (d < 3):=by rw [Bool.eq_iff_iff];simp;omega
   rw [hg3]
   by_cases hd3:d < 3
   ·have hw:IntKind.wrap .i64 ((d:Int)+1)=((d+1:Nat):Int):=by rw [w64n (by omega)];omega
    have ih:=ref07XmayN_is n x.subs (d+1) (by omega) (by omega) (hs.subs hm)
    have hll:=hs.leaves hm
    rw [ref04IsName_is,hw,ih,nodeB_eq,lenE,lenE]
    have hlv:lp (yf (fun (n2:Nat) (x2:GLeaf) (s2:Unit)=>(((ref05May x2).bind fun v50=>(xP ((((!v50)==false)&&((decide ((n2:Int) > (0:Int)))==true))=true→0≤(IntKind.wrap .i64 ((n2:Int) - (1:Int)))∧(IntKind.wrap .i64 ((n2:Int) - (1:Int))) < ((x.leaves).length:Int)) ((xP ((((!v50)==false)&&((decide ((n2:Int) > (0:Int)))==true))=true→0≤(n2:Int)∧(n2:Int) < ((x.leaves).length:Int)) ((if ((!v50) || ((decide ((n2:Int) > (0:Int)))&&(decide (((x.leaves).getD (IntKind.wrap .i64 ((n2:Int) - (1:Int))).toNat default).typ ≥ ((x.leaves).getD (n2:Int).toNat default).typ))))=true then some (.ret (.ret false)) else some (.nxt ()))))))):Option (Out (Out Bool Unit) Unit))) x.leaves 0 ()) (fun (s2:Unit)=>some (.nxt ()))=if leavesB x.leaves=true then some (.nxt ()) else some (.ret false):=by
     rw [qj (r:=.ret false) (fun i l=>leafB l&&(decide (i=0) || decide ((x.leaves.getD (i - 1) default).typ < l.typ)))]
     ·rfl
     ·intro j l hjl
      have hjx:j < x.leaves.length:=(List.getElem?_eq_some_iff.1 hjl).1
      have hle:x.leaves.getD j default=l:=by rw [List.getD_eq_getElem?_getD,hjl];rfl
      have hlo:=hs.leaf hm (List.mem_of_getElem? hjl)
      rw [ref05May_is (by have:=hlo.items;simp only [maxLen];omega) (by have:=hlo.tombs;simp only [maxLen];omega) hlo.time]
      simp only [Option.bind_some]
      rcases j with _ | j
      ·cases leafB l <;> simp [xP]
      ·rw [qm (by simp only [maxLen];omega),pos_succ,Int.toNat_natCast,Int.toNat_natCast,hle,zS (by intro _;omega),zS (by intro _;omega)]
       have e:decide ((x.leaves.getD j default).typ ≥ l.typ)=!decide ((x.leaves.getD j default).typ < l.typ):=by rw [Bool.eq_iff_iff];simp
       rw [e,Nat.add_sub_cancel]
       generalize (x.leaves.getD j default)=y
       cases leafB l <;> cases decide (y.typ < l.typ) <;> simp
    rw [hlv,decide_eq_true hd3]
    simp only [Option.bind_some,Bool.not_true,Bool.false_or,Bool.true_and,BEq.rfl,if_true]
    rcases i with _ | j
    ·cases nameB x.name <;> cases (x.leaves.isEmpty&&x.subs.isEmpty) <;> cases treeB (d+1) x.subs <;> cases leavesB x.leaves <;> simp [xP]
    ·rw [qm (by simp only [maxLen];omega),pos_succ,Int.toNat_natCast,zS (by intro _;omega),Nat.add_sub_cancel]
     generalize (t.getD j default)=y
     cases nameB x.name <;> cases (x.leaves.isEmpty&&x.subs.isEmpty) <;> cases treeB (d+1) x.subs <;> cases leavesB x.leaves <;> cases Op.bytesLess y.name x.name <;> simp
   ·rw [decide_eq_false hd3]
    simp [xP]
theorem ref07May_is {t:List GNode} (h:Small t):ref07May t=some (treeB 0 t):=by
 unfold ref07May ref07Xmay
 have:=anyN_of (g:=fun n=>vN n t 0) (r:=treeB 0 t) (GNode.deps t+1) (fun n hn=>by have:=ref07XmayN_is n t 0 (by omega) (by omega) h;simpa using this)
 rw [this];rfl

theorem loopW_end {σ ρ:Type} {f:σ→Option (Out ρ σ)} (inv:σ→Prop) (μ:σ→Nat) (h:∀ s,inv s→(∃ s',f s=some (.brk s')) ∨ ∃ s',f s=some (.nxt s')∧inv s'∧μ s' < μ s):∀ (k:Nat) (s:σ),μ s=k→inv s→∃ s',vW f s=some (.inr s'):=by
 intro k
 induction k using Nat.strongRecOn with
 | _ k ih =>
  intro s hk hi
  rw [loopW_eq]
  rcases h s hi with ⟨s',e⟩ | ⟨s',e,h1,h2⟩
  ·exact ⟨s',by rw [e]⟩
  ·rw [e];exact ih (μ s') (by omega) s' rfl h1
theorem lpW_end {σ ρ:Type} {f:σ→Option (Out ρ σ)} {rest:σ→Option ρ} (inv:σ→Prop) (μ:σ→Nat) (hr:∀ s,∃ v,rest s=some v) (s0:σ) (hi:inv s0) (h:∀ s,inv s→(∃ s',f s=some (.brk s')) ∨ ∃ s',f s=some (.nxt s')∧inv s'∧μ s' < μ s):∃ v,lp (vW f s0) rest=some v:=by
 obtain ⟨s',e⟩:=loopW_end inv μ h _ s0 rfl hi
 rw [e];exact hr s'
theorem idx_mem {α:Type} {L:List α} {i:Int} {x:α} (h:idx L i=some x):x ∈ L:=by
 unfold idx at h
 split at h
 ·exact List.mem_of_getElem? h
 ·cases h
theorem size_tot:∀ (n:Nat) (t:List GNode) (d:Int),GNode.deps t < n→Small t→∃ v,xT n t d=some v
 | 0,_,_,h,_=>by omega
 | n+1,t,d,h,hs=>by
  unfold xT
  have hl:=hs.len
  refine lpW_end (fun s=>0≤s.2∧s.2≤(t.length:Int)) (fun s=>(t.length - s.2.toNat)) (fun _=>⟨_,rfl⟩) _ ⟨by simp,by simp⟩ (fun s hi=>?_)
  rcases s with ⟨a,i⟩
  obtain ⟨k,rfl⟩:∃ k:Nat,i=(k:Int):=⟨i.toNat,by have:=hi.1;simp at this;omega⟩
  by_cases hc:(decide ((k:Int) < (t.length:Int))&&decide (d < 10))=true
  ·right
   simp only [Bool.and_eq_true,decide_eq_true_eq] at hc
   have hk:k < t.length:=by omega
   have hm:t[k] ∈ t:=List.getElem_mem hk
   have hdp:=qG hm
   have hds:=wq t[k]
   obtain ⟨v,hv⟩:=size_tot n t[k].subs (IntKind.wrap .i64 (d+1)) (by omega) (hs.subs hm)
   have hll:=hs.leaves hm
   obtain ⟨s2,e2⟩:=loopW_end (ρ:=Out Int (Int×Int)) (σ:=Int×Int) (f:=fun s2:Int×Int=>(((idx t (k:Int)).bind fun y102=>(if decide (s2.2 < ((y102.leaves).length:Int))=true then ((idx t (k:Int)).bind fun y105=>((idx y105.leaves s2.2).bind fun y106=>(lp (yf (fun (n3:Nat) (x3:GItem) (s3:Int)=>(some (.nxt (IntKind.wrap .i64 ((IntKind.wrap .i64 (s3+(1:Int)))+((x3.text).length:Int)))):Option (Out _ Int))) y106.items 0 (IntKind.wrap .i64 ((IntKind.wrap .i64 ((IntKind.wrap .i64 (s2.1+(1:Int)))+((y106.text).length:Int)))+((y106.tombs).length:Int)))) fun (s3:Int)=>some (.nxt (s3,(IntKind.wrap .i64 (s2.2+(1:Int)))))))) else some (.brk (s2.1,s2.2)))):Option (Out (Out Int (Int×Int)) (Int×Int))))
    (fun s=>0≤s.2∧s.2≤(t[k].leaves.length:Int)) (fun s=>(t[k].leaves.length - s.2.toNat)) (fun s hi=>by
     rcases s with ⟨b,i⟩
     obtain ⟨q,rfl⟩:∃ q:Nat,i=(q:Int):=⟨i.toNat,by have:=hi.1;simp at this;omega⟩
     simp only [qV hk,Option.bind_some]
     by_cases hq:q < t[k].leaves.length
     ·right
      have hq2:decide ((q:Int) < (t[k].leaves.length:Int))=true:=by simpa using hq
      simp only [hq2,if_true,qV hq,Option.bind_some]
      rw [loopL_fold (fun (s3:Int) (x3:GItem)=>IntKind.wrap .i64 ((IntKind.wrap .i64 (s3+(1:Int)))+((x3.text).length:Int))) _ 0 _ (fun _ _ _ _=>rfl),ww]
      refine ⟨_,rfl,?_,?_⟩
      ·simp only;rw [w64n (by omega)];omega
      ·simp only;rw [w64n (by omega)];omega
     ·left
      have hq2:decide ((q:Int) < (t[k].leaves.length:Int))=false:=by simp;omega
      simp only [hq2]
      exact ⟨_,rfl⟩) _ ((IntKind.wrap .i64 ((IntKind.wrap .i64 ((IntKind.wrap .i64 (a+(1:Int)))+((t[k].name).length:Int)))+v)),(0:Int)) rfl ⟨by simp,by simp⟩
   refine ⟨(s2.1,IntKind.wrap .i64 ((k:Int)+1)),?_,?_,?_⟩
   ·simp only [hc,decide_true,Bool.and_self,if_true,qV hk,Option.bind_some,hv]
    simp only [qV hk,Option.bind_some] at e2
    rw [e2];rfl
   ·simp only;rw [w64n (by omega)];omega
   ·simp only;rw [w64n (by omega)];omega
  ·left
   refine ⟨(a,(k:Int)),?_⟩
   simp only at hc ⊢
   rw [if_neg hc]
theorem size_fuel:∀ (n m:Nat) (t:List GNode) (d:Int),GNode.deps t < n→GNode.deps t < m→xT n t d=xT m t d
 | 0,_,_,_,h,_=>by omega
 | _+1,0,_,_,_,h=>by omega
 | n+1,m+1,t,d,h1,h2=>by
  unfold xT
  congr 2
  funext s
  split
  ·cases hx:idx t s.2 with
   | none=>rfl
   | some y =>
    have hdp:=qG (idx_mem hx)
    have hds:=wq y
    simp only [Option.bind_some]
    rw [size_fuel n m y.subs _ (by omega) (by omega)]
  ·rfl
theorem ref07Great_tot {t:List GNode} (h:Small t):∃ b,ref07Great t=some b:=by
 unfold ref07Great ref07Xsize
 obtain ⟨v,hv⟩:∃ v,∀ n,GNode.deps t+1≤n→xT n t 0=some v:=by
  obtain ⟨v,hv⟩:=size_tot (GNode.deps t+1) t 0 (by omega) h
  exact ⟨v,fun n hn=>by rw [size_fuel n (GNode.deps t+1) t 0 (by omega) (by omega)];exact hv⟩
 rw [anyN_of (GNode.deps t+1) hv]
 exact ⟨_,rfl⟩

def endsB (p:List zR):Bool:=p.getLast?==some [42,42]
def xw (p:List zR):List zR:=if endsB p then p.dropLast else p
def agreeB:List zR→List zR→Bool
 | [],_=>true
 | x::t,y::r=>(x==[42] || x==y)&&agreeB t r
 | _::_,[]=>false
def patB (p:List zR):Bool:=(decide (0 < (xw p).length) || endsB p)&&decide ((xw p).length≤3)&&(xw p).all (fun s=>s==[42] || nameB s)
def matchB (p path:List zR):Bool:=patB p&&pathB path&&decide ((xw p).length≤path.length)&&(endsB p || decide (path.length≤(xw p).length))&&agreeB (xw p) path
theorem wrapLen {n:Nat} (h0:0 < n) (h:n≤maxLen):IntKind.wrap .i64 ((n:Int) - 1)=((n - 1:Nat):Int):=by
 simp only [maxLen] at h;rw [w64n (by omega)];omega
theorem last_getD {p:List zR} (h0:0 < p.length):(p.getD (p.length - 1) default==[42,42])=endsB p:=by
 unfold endsB
 rw [List.getLast?_eq_getElem?,List.getD_eq_getElem?_getD,List.getElem?_eq_getElem (by omega)]
 rw [Bool.eq_iff_iff];simp
theorem slc_init {p:List zR} (h0:0 < p.length):slc p 0 ((p.length - 1:Nat):Int)=some p.dropLast:=by
 rw [slc_at (by omega)];simp [List.dropLast_eq_take]
theorem pathsXparts_is {p:List zR} (h:p.length≤maxLen):qp p=some (xw p,endsB p):=by
 unfold qp xw
 by_cases h0:0 < p.length
 ·rw [wrapLen h0 h,zS (by intro _;omega)]
  have e:decide ((p.length:Int) > 0)=true:=by simpa using h0
  rw [e,Int.toNat_natCast,last_getD h0,slc_init h0]
  cases endsB p <;> rfl
 ·have:p=[]:=List.eq_nil_of_length_eq_zero (by omega)
  subst this;rfl
theorem vh {p:List zR} (h:p.length≤maxLen):xz p=some (patB p):=by
 unfold xz patB
 rw [pathsXparts_is h]
 simp only [Option.bind_some]
 rw [contains_is (q:=fun s=>!(s==[42] || nameB s)) _ (fun x _=>by
  unfold vI;rw [opIsName_is]
  cases h1:(x==([42]:zR)) <;> simp)]
 have e:(xw p).any (fun s=>!(s==[42] || nameB s))=!(xw p).all (fun s=>s==[42] || nameB s):=by rw [Bool.eq_iff_iff];simp
 have e1:decide (((xw p).length:Int) > 0)=decide (0 < (xw p).length):=decide_eq_decide.2 (by omega)
 rw [e,bnd3,e1]
 cases ((decide (0 < (xw p).length) || endsB p)&&decide ((xw p).length≤3)) <;> simp
theorem agree_loop (path:List zR) {f:Nat→zR→Unit→Option (Out Bool Unit)} (hf:∀ i x,i < path.length→f i x ()=if (!(x==([42]:zR))&&!(x==path.getD i default))=true then some (.ret false) else some (.nxt ())) :
  ∀ (L:List zR) (i:Nat),L.length+i≤path.length→yf f L i ()=if agreeB L (path.drop i)=true then some (.inr ()) else some (.inl false)
 | [],i,_=>by cases path.drop i <;> rfl
 | x::t,i,h=>by
  simp only [List.length_cons] at h
  have hi:i < path.length:=by omega
  have ih:=agree_loop path hf t (i+1) (by omega)
  have e:path.drop i=path[i]::path.drop (i+1):=(List.getElem_cons_drop hi).symm
  have e2:path.getD i default=path[i]:=by rw [List.getD_eq_getElem?_getD,List.getElem?_eq_getElem hi];rfl
  simp only [yf,hf i x hi,e,agreeB,e2]
  cases h1:(x==([42]:zR)) <;> cases h2:(x==path[i]) <;> simp [ih]
theorem qe {p path:List zR} (h:p.length≤maxLen):wL p path=some (matchB p path):=by
 unfold wL matchB
 rw [pathsXparts_is h,vh h]
 simp only [Option.bind_some,opMayPath_is]
 cases hp:patB p
 ·simp
 ·cases hq:pathB path
  ·simp
  ·by_cases hl:(xw p).length≤path.length
   ·have e1:decide ((path.length:Int) < ((xw p).length:Int))=false:=decide_eq_false (by omega)
    have e2:decide ((path.length:Int) > ((xw p).length:Int))=!decide (path.length≤(xw p).length):=by
     rw [Bool.eq_iff_iff];simp
    rw [e1,e2,agree_loop path (fun i x hi=>by rw [zS (by intro _;omega),Int.toNat_natCast]) _ 0 (by omega)]
    simp only [List.drop_zero,decide_eq_true hl]
    cases decide (path.length≤(xw p).length) <;> cases endsB p <;> cases agreeB (xw p) path <;> simp
   ·have e1:decide ((path.length:Int) < ((xw p).length:Int))=true:=decide_eq_true (by omega)
    rw [e1,decide_eq_false hl];simp

section
variable {S X:Type}
def foldF (y:S→X→Option (Bool×S)):List X→S→Option (Bool×S)
 | [],s=>some (true,s)
 | x::r,s=>(y s x).bind fun v=>if v.1=true then foldF y r v.2 else some (false,v.2)
theorem foldF_app (y:S→X→Option (Bool×S)):∀ (a b:List X) (s:S),foldF y (a++b) s=(foldF y a s).bind fun v=>if v.1=true then foldF y b v.2 else some v
 | [],b,s=>by simp [foldF]
 | x::r,b,s=>by
  simp only [List.cons_append,foldF]
  cases y s x with
  | none=>rfl
  | some v =>
   simp only [Option.bind_some]
   cases hv:v.1
   ·simp
   ·simp only [if_true];exact foldF_app y r b v.2
theorem foldF_stp (y:S→X→Option (Bool×S)):∀ (xs:List X) (s:S),
  foldF (stp (fun (s3:S) (x3:X)=>(((y s3 x3).bind fun v=>(if (!v.1)=true then some (false,(v.2,some 0)) else some (true,(v.2,none)))):Option (Bool×(S×Option Nat))))) xs (s,none)=(foldF y xs s).map fun v=>(v.1,(v.2,if v.1=true then none else some 0))
 | [],s=>rfl
 | x::r,s=>by
  simp only [foldF,stp]
  cases y s x with
  | none=>rfl
  | some v =>
   rcases v with ⟨b,s'⟩
   cases b
   ·simp
   ·simp only [Bool.not_true,Bool.false_eq_true,if_false,Option.bind_some,if_true]
    exact foldF_stp y r s'
theorem loop_tell {ρ α:Type} (y:S→X→Option (Bool×S)) (g:α→X) (r:S→ρ) {f:Nat→α→S→Option (Out ρ S)}:∀ (L:List α) (i:Nat) (s:S),(∀ i x s,x ∈ L→f i x s=(y s (g x)).bind fun v=>if (!v.1)=true then some (.ret (r v.2)) else some (.nxt v.2)) →
  yf f L i s=(foldF y (L.map g) s).map fun v=>if v.1=true then .inr v.2 else .inl (r v.2)
 | [],_,_,_=>rfl
 | x::t,i,s,h=>by
  simp only [yf,h i x s (List.mem_cons_self ..),List.map_cons,foldF]
  cases y s (g x) with
  | none=>rfl
  | some v =>
   rcases v with ⟨b,s'⟩
   cases b
   ·rfl
   ·simp only [Bool.not_true,Bool.false_eq_true,if_false,Option.bind_some,if_true]
    exact loop_tell y g r t (i+1) s' fun i x s hx=>h i x s (List.mem_cons_of_mem _ hx)
theorem loop_tells {ρ α:Type} (y:S→X→Option (Bool×S)) (g:α→List X) (r:S→ρ) {f:Nat→α→S→Option (Out ρ S)}:∀ (L:List α) (i:Nat) (s:S),(∀ i x s,x ∈ L→f i x s=(foldF y (g x) s).map fun v=>if v.1=true then .nxt v.2 else .ret (r v.2)) →
  yf f L i s=(foldF y (L.flatMap g) s).map fun v=>if v.1=true then .inr v.2 else .inl (r v.2)
 | [],_,_,_=>rfl
 | x::t,i,s,h=>by
  simp only [yf,h i x s (List.mem_cons_self ..),List.flatMap_cons,foldF_app]
  cases foldF y (g x) s with
  | none=>rfl
  | some v =>
   rcases v with ⟨b,s'⟩
   cases b
   ·rfl
   ·simp only [Option.map_some,if_true,Option.bind_some]
    exact loop_tells y g r t (i+1) s' fun i x s hx=>h i x s (List.mem_cons_of_mem _ hx)
end
theorem clone_is {α:Type} {L:List α} (h:L.length≤w9):(nilq L fun b1=>(if b1=true then some ([]:List α) else (xP ((([]:List α)).length+L.length≤w9) (some (([]:List α)++L)))))=some L:=by
 refine nilq_of ?_ fun e=>by subst e;rfl
 rw [zS (by simpa using h)];simp
theorem cloneString_is {L:List zR} (h:L.length≤w9):xf L=some L:=clone_is h
theorem cloneItem_is {L:List GItem} (h:L.length≤w9):wB L=some L:=clone_is h
theorem cloneDot_is {L:List GDot} (h:L.length≤w9):wS L=some L:=clone_is h
theorem pathsXown_is {l:GLeaf} (h:LeafOk l):qq l=some l:=by
 unfold qq
 rw [cloneItem_is (by have:=h.items;unfold w9;omega),cloneDot_is (by have:=h.tombs;unfold w9;omega)];rfl
mutual
def rowsN (a:List zR):GNode→List GRow
 | ⟨nm,ls,sb⟩=>ls.map (fun l=>GRow.mk (a++[nm]) l)++y7 (a++[nm]) sb
def y7 (a:List zR):List GNode→List GRow
 | []=>[]
 | x::r=>rowsN a x++y7 a r
end
mutual
def vy (is:List zR→Bool) (a:List zR):GNode→GNode
 | ⟨nm,ls,sb⟩=>⟨nm,if is (a++[nm])=true then ls else [],xN is (a++[nm]) sb⟩
def xN (is:List zR→Bool) (a:List zR):List GNode→List GNode
 | []=>[]
 | x::r=>if (vy is a x).leaves.isEmpty&&(vy is a x).subs.isEmpty then xN is a r else vy is a x::xN is a r
end
theorem vM (a:List zR) (x:GNode):rowsN a x=x.leaves.map (fun l=>GRow.mk (a++[x.name]) l)++y7 (a++[x.name]) x.subs:=by cases x;rfl
theorem x8 (a:List zR):∀ t,y7 a t=t.flatMap (rowsN a)
 | []=>rfl
 | x::r=>by simp only [y7,List.flatMap_cons,x8 a r]
theorem keepN_eq (is:List zR→Bool) (a:List zR) (x:GNode):vy is a x=⟨x.name,if is (a++[x.name])=true then x.leaves else [],xN is (a++[x.name]) x.subs⟩:=by cases x;rfl
theorem keepL_filter (is:List zR→Bool) (a:List zR):∀ t,xN is a t=(t.map (vy is a)).filter fun y=>!(y.leaves.isEmpty&&y.subs.isEmpty)
 | []=>rfl
 | x::r=>by
  simp only [xN,List.map_cons,List.filter_cons,keepL_filter is a r]
  cases ((vy is a x).leaves.isEmpty&&(vy is a x).subs.isEmpty) <;> simp
theorem rows_is {S:Type}:∀ (n:Nat) (S:Type) (y:S→GRow→Option (Bool×S)) (t:List GNode) (a:List zR) (s:S),GNode.deps t < n→Small t→a.length+GNode.deps t≤2000000→xq n S y t a s=(foldF y (y7 a t) s).map (·.2)
 | 0,_,_,_,_,_,h,_,_=>by omega
 | n+1,S,y,t,a,s,h,hs,ha=>by
  unfold xq
  rw [loop_tells y (rowsN a) (fun s=>s),← x8]
  ·cases foldF y (y7 a t) s with
   | none=>rfl
   | some v=>rcases v with ⟨b,s'⟩;cases b <;> rfl
  ·intro i x s1 hx
   have hdp:=qG hx
   have hds:=wq x
   rw [cloneString_is (by unfold w9;omega),Option.bind_some,zS (by simp [w9];omega)]
   rw [loop_tell y (fun l=>GRow.mk (a++[x.name]) l) (fun s=>Out.ret s)]
   ·rw [vM,foldF_app]
    cases foldF y (x.leaves.map fun l=>GRow.mk (a++[x.name]) l) s1 with
    | none=>rfl
    | some v =>
     rcases v with ⟨b,s'⟩
     cases b
     ·rfl
     ·simp only [Option.map_some,if_true,ww,Option.bind_some]
      unfold qQ
      simp only [Option.bind_some]
      rw [rows_is (S:=Unit) n _ _ x.subs (a++[x.name]) (s',none) (by omega) (hs.subs hx) (by simp;omega),foldF_stp]
      cases foldF y (y7 (a++[x.name]) x.subs) s' with
      | none=>rfl
      | some v=>rcases v with ⟨b,s2⟩;cases b <;> rfl
   ·intro j l s2 hl
    rw [cloneString_is (by simp [w9];omega),Option.bind_some,pathsXown_is (hs.leaf hx hl),Option.bind_some]

theorem loop_keep {α β ρ:Type} (p:α→Bool) (g:α→β) {f:Nat→α→List β→Option (Out ρ (List β))}:∀ (L:List α) (i:Nat) (s:List β),s.length+L.length≤w9→(∀ i x s,x ∈ L→s.length+1≤w9→f i x s=if p x=true then some (.nxt (s++[g x])) else some (.nxt s)) →
  yf f L i s=some (.inr (s++(L.filter p).map g))
 | [],_,s,_,_=>by simp [yf]
 | x::t,i,s,hl,h=>by
  simp only [List.length_cons] at hl
  simp only [yf,h i x s (List.mem_cons_self ..) (by omega),List.filter_cons]
  cases hp:p x
  ·simp only [Bool.false_eq_true,if_false]
   exact loop_keep p g t (i+1) s (by omega) fun i x s hx=>h i x s (List.mem_cons_of_mem _ hx)
  ·simp only [if_true]
   rw [loop_keep p g t (i+1) (s++[g x]) (by simp;omega) fun i x s hx=>h i x s (List.mem_cons_of_mem _ hx)]
   simp
theorem keep_len (is:List zR→Bool) (a:List zR) (t:List GNode):(xN is a t).length≤t.length:=by
 rw [keepL_filter];exact Nat.le_trans (List.length_filter_le _ _) (by simp)
theorem kept_is (is:List zR→Bool) (f:List zR→Option Bool) (hf:∀ p,f p=some (is p)):∀ (n:Nat) (t:List GNode) (a:List zR),GNode.deps t < n→Small t→a.length+GNode.deps t≤2000000→vP n t a f=some (xN is a t)
 | 0,_,_,h,_,_=>by omega
 | n+1,t,a,h,hs,ha=>by
  unfold vP
  have hl:=hs.len
  have key:∀ (L:List GNode) (i:Nat) (s:List GNode),(∀ x ∈ L,x ∈ t)→s.length+L.length≤1048576→∀ {F:Nat→GNode→List GNode→Option (Out (List GNode) (List GNode))},(∀ i x s,x ∈ t→s.length+1≤1048576→F i x s=some (.nxt (if ((vy is a x).leaves.isEmpty&&(vy is a x).subs.isEmpty)=true then s else s++[vy is a x]))) →
    yf F L i s=some (.inr (s++xN is a L)):=by
   intro L
   induction L with
   | nil=>intro i s _ _ F _;simp [yf,xN]
   | cons x r ih =>
    intro i s hm hsl F hF
    simp only [List.length_cons] at hsl
    simp only [yf,hF i x s (hm x (by simp)) (by omega),xN]
    cases he:((vy is a x).leaves.isEmpty&&(vy is a x).subs.isEmpty)
    ·simp only [Bool.false_eq_true,if_false]
     rw [ih (i+1) _ (fun y hy=>hm y (by simp [hy])) (by simp;omega) hF];simp
    ·simp only [if_true]
     exact ih (i+1) s (fun y hy=>hm y (by simp [hy])) (by omega) hF
  rw [key t 0 [] (fun _ h=>h) (by simpa using hl)]
  ·simp
  ·intro i x s hx hsl
   have hdp:=qG hx
   have hds:=wq x
   have hll:=hs.leaves hx
   have hsub:=(hs.subs hx).len
   rw [cloneString_is (by unfold w9;omega),Option.bind_some,zS (by simp [w9];omega),kept_is is f hf n x.subs (a++[x.name]) (by omega) (hs.subs hx) (by simp;omega),Option.bind_some]
   rw [loop_keep (fun _=>is (a++[x.name])) (fun l=>l) x.leaves 0 [] (by simp [w9];omega)]
   ·simp only [ww,List.nil_append,List.map_id_fun',id]
    have hkl:(x.leaves.filter fun _=>is (a++[x.name]))=(if is (a++[x.name])=true then x.leaves else []):=by
     cases is (a++[x.name]) <;> simp
    rw [hkl,← keepN_eq]
    have hk:=keep_len is (a++[x.name]) x.subs
    have hw:decide ((IntKind.wrap .i64 (((if is (a++[x.name])=true then x.leaves else []).length:Int)+((xN is (a++[x.name]) x.subs).length:Int))) > 0)=!((vy is a x).leaves.isEmpty&&(vy is a x).subs.isEmpty):=by
     rw [keepN_eq]
     have h1:(if is (a++[x.name])=true then x.leaves else []).length≤1048576:=by cases is (a++[x.name]) <;> simp [hll]
     rw [w64n (by omega)]
     cases hA:(if is (a++[x.name])=true then x.leaves else []) <;> cases hB:xN is (a++[x.name]) x.subs <;> simp <;> omega
    rw [hw]
    cases ((vy is a x).leaves.isEmpty&&(vy is a x).subs.isEmpty)
    ·simp only [Bool.not_false,if_true,Bool.false_eq_true,if_false]
     rw [zS (by simp [w9];omega)]
    ·simp
   ·intro j l s2 hl2 hs2
    rw [hf,Option.bind_some,pathsXown_is (hs.leaf hx hl2),Option.bind_some,zS (by simpa using hs2)]
theorem deps_bks:∀ (n:Nat) (t:List GNode),GNode.deps t≤n→GNode.deps t≤GNode.bks t:=by
 intro n
 induction n with
 | zero=>intro t ht;omega
 | succ n ih =>
  intro t
  induction t with
  | nil=>intro _;simp [GNode.deps]
  | cons x r ihr =>
   intro ht
   simp only [GNode.deps] at ht ⊢
   simp only [GNode.bks]
   have h1:=ihr (by omega)
   have h2:=wq x
   have h3:=ih x.subs (by omega)
   have h4:=bk_node x
   omega
theorem Small.dep {t:List GNode} (h:Small t):GNode.deps t≤1048576:=Nat.le_trans (deps_bks _ t (Nat.le_refl _)) h.2
theorem keptAll_is (is:List zR→Bool) (f:List zR→Option Bool) (hf:∀ p,f p=some (is p)) {t:List GNode} (h:Small t):pathsXkept t [] f=some (xN is [] t):=by
 unfold pathsXkept
 have hb:=h.dep
 rw [anyN_of (GNode.deps t+1) fun n hn=>kept_is is f hf n t [] (by omega) h (by simp;omega)]
theorem rows_len:∀ (n:Nat) (t:List GNode) (a:List zR),GNode.deps t≤n→(y7 a t).length≤GNode.bks t:=by
 intro n
 induction n with
 | zero =>
  intro t a h
  cases t with
  | nil=>simp [y7]
  | cons x r=>simp only [GNode.deps] at h;have:=wq x;omega
 | succ n ih =>
  intro t
  induction t with
  | nil=>intro a _;simp [y7]
  | cons x r ihr =>
   intro a ht
   simp only [GNode.deps] at ht
   simp only [GNode.bks,y7,List.length_append]
   have h1:=ihr a (by omega)
   have h2:=wq x
   have h3:=ih x.subs (a++[x.name]) (by omega)
   have h4:=bk_node x
   have h5:=sum_len (f:=GLeaf.bk) (fun x=>by unfold GLeaf.bk;omega) x.leaves
   rw [vM]
   simp only [List.length_append,List.length_map]
   omega
theorem fold_app {X:Type}:∀ (xs s:List X),s.length+xs.length≤w9→foldF (stp (fun (s1:List X) (x1:X)=>((xP (s1.length+([x1]:List X).length≤w9) (some (true,((s1++[x1]),none)))):Option (Bool×(List X×Option Nat))))) xs (s,none)=some (true,(s++xs,none))
 | [],s,_=>by simp [foldF]
 | x::r,s,h=>by
  simp only [List.length_cons] at h
  simp only [foldF,stp]
  rw [zS (by simp;omega)]
  simp only [Option.bind_some,if_true]
  rw [fold_app r (s++[x]) (by simp;omega)]
  simp
theorem pathsRows_is {t:List GNode} (h:Small t):qr t=some (if treeB 0 t=true then y7 [] t else []):=by
 unfold qr
 rw [treeMay_is h,Option.bind_some]
 cases treeB 0 t
 ·rfl
 ·have hd:=h.dep
  have hrl:=rows_len _ t [] (Nat.le_refl _)
  have hb:=h.2
  simp only [Bool.not_true,Bool.false_eq_true,if_false,if_true,qQ,Option.bind_some,wl,xK,pathsXrowsC1]
  rw [anyN_of (r:=(y7 [] t,none)) (GNode.deps t+1) fun n hn=>by
   rw [rows_is (S:=Unit) n _ _ t [] ([],none) (by omega) h (by simp;omega),fold_app _ _ (by simp [w9];omega)];rfl]
  rfl

theorem less_trans:∀ {a b c:List UInt8},Op.bytesLess a b=true→Op.bytesLess b c=true→Op.bytesLess a c=true
 | _,[],_,h,_=>by cases ‹List UInt8› <;> simp [Op.bytesLess] at h
 | a,b::y,[],_,h=>by simp [Op.bytesLess] at h
 | [],b::y,c::z,_,_=>rfl
 | a::x,b::y,c::z,h1,h2=>by
  simp only [Op.bytesLess,Bool.or_eq_true,decide_eq_true_eq,Bool.and_eq_true,beq_iff_eq] at h1 h2 ⊢
  rcases h1 with h1 | ⟨rfl,h1⟩
  ·rcases h2 with h2 | ⟨rfl,h2⟩
   ·left;exact UInt8.lt_trans h1 h2
   ·left;exact h1
  ·rcases h2 with h2 | ⟨rfl,h2⟩
   ·left;exact h2
   ·right;exact ⟨rfl,less_trans h1 h2⟩
theorem upB_iff (t:List GNode):upB t=true ↔ t.Pairwise (fun x y=>Op.bytesLess x.name y.name=true):=by
 unfold upB
 rw [wX]
 constructor
 ·intro h
  rw [List.pairwise_iff_getElem]
  intro i j hi hj hij
  obtain ⟨k,rfl⟩:∃ k,j=i+1+k:=⟨j - i - 1,by omega⟩
  induction k with
  | zero =>
   have:=h (i+1) _ (List.getElem?_eq_getElem hj)
   simp only [Nat.add_sub_cancel,Bool.or_eq_true,decide_eq_true_eq] at this
   rcases this with h0 | h0
   ·omega
   ·rw [List.getD_eq_getElem?_getD,List.getElem?_eq_getElem hi] at h0;exact h0
  | succ k ih =>
   have h1:=ih (by omega) (by omega)
   have:=h (i+1+(k+1)) _ (List.getElem?_eq_getElem hj)
   simp only [Bool.or_eq_true,decide_eq_true_eq] at this
   rcases this with h0 | h0
   ·omega
   ·rw [show i+1+(k+1) - 1=i+1+k by omega,List.getD_eq_getElem?_getD,List.getElem?_eq_getElem (by omega:i+1+k < t.length)] at h0
    exact less_trans h1 h0
 ·intro h i x hx
  rcases i with _ | i
  ·rfl
  ·rw [List.pairwise_iff_getElem] at h
   obtain ⟨hi,rfl⟩:=List.getElem?_eq_some_iff.1 hx
   have:=h i (i+1) (by omega) hi (by omega)
   simp only [Nat.add_sub_cancel,Bool.or_eq_true]
   right
   rw [List.getD_eq_getElem?_getD,List.getElem?_eq_getElem (by omega:i < t.length)];exact this
section
variable (is:List zR→Bool)
theorem keep_up (a:List zR) {t:List GNode} (h:upB t=true):upB (xN is a t)=true:=by
 rw [upB_iff] at h ⊢
 rw [keepL_filter]
 refine List.Pairwise.filter _ ?_
 rw [List.pairwise_map]
 exact h.imp fun {x y} h=>by rw [keepN_eq,keepN_eq];exact h
theorem tree_ind {M:List GNode→Prop} (h0:M []) (h1:∀ x r,M x.subs→M r→M (x::r)):∀ t,M t:=by
 have key:∀ (n:Nat) (t:List GNode),GNode.deps t≤n→M t:=by
  intro n
  induction n with
  | zero =>
   intro t h
   cases t with
   | nil=>exact h0
   | cons x r=>simp only [GNode.deps] at h;have:=wq x;omega
  | succ n ih =>
   intro t
   induction t with
   | nil=>intro _;exact h0
   | cons x r ihr =>
    intro h
    simp only [GNode.deps] at h
    have:=wq x
    exact h1 x r (ih x.subs (by omega)) (ihr (by omega))
 exact fun t=>key _ t (Nat.le_refl _)
theorem keep_may:∀ (t:List GNode) (d:Nat) (a:List zR),treeB d t=true→treeB d (xN is a t)=true:=by
 intro t
 have key:∀ (t:List GNode),(∀ (d:Nat) (a:List zR),treeB d t=true→treeB d (xN is a t)=true)∧(∀ (d:Nat) (a:List zR),vQ d t=true→vQ d (xN is a t)=true):=by
  refine tree_ind ⟨fun d a h=>h,fun d a h=>h⟩ ?_
  intro x r hx hr
  have h2:∀ (d:Nat) (a:List zR),vQ d (x::r)=true→vQ d (xN is a (x::r))=true:=by
   intro d a h
   simp only [vQ,Bool.and_eq_true] at h
   simp only [xN]
   cases he:((vy is a x).leaves.isEmpty&&(vy is a x).subs.isEmpty)
   ·simp only [Bool.false_eq_true,if_false,vQ,Bool.and_eq_true]
    refine ⟨?_,hr.2 d a h.2⟩
    have hn:=h.1
    rw [nodeB_eq] at hn ⊢
    simp only [Bool.and_eq_true,Bool.not_eq_true'] at hn ⊢
    rw [keepN_eq] at he ⊢
    refine ⟨⟨⟨hn.1.1.1,he⟩,hx.1 (d+1) _ hn.1.2⟩,?_⟩
    show leavesB (if is (a++[x.name])=true then x.leaves else [])=true
    split
    ·exact hn.2
    ·rfl
   ·simp only [if_true];exact hr.2 d a h.2
  refine ⟨fun d a h=>?_,h2⟩
  unfold treeB at h ⊢
  simp only [Bool.and_eq_true] at h ⊢
  refine ⟨⟨?_,keep_up is a h.1.2⟩,h2 d a h.2⟩
  have:decide (d < 3)=true:=by simpa using h.1.1
  rw [this];simp
 exact (key t).1
theorem keep_rows:∀ (t:List GNode) (a:List zR),y7 a (xN is a t)=(y7 a t).filter fun r=>is r.path:=by
 refine tree_ind (fun a=>rfl) ?_
 intro x r hx hr a
 have hN:rowsN a (vy is a x)=(rowsN a x).filter fun r=>is r.path:=by
  rw [keepN_eq,vM,vM,List.filter_append,← hx]
  simp only
  congr 1
  cases h:is (a++[x.name])
  ·simp [h]
  ·simp only [if_true]
   rw [List.filter_eq_self.2]
   intro r hr
   obtain ⟨l,_,rfl⟩:=List.mem_map.1 hr
   exact h
 simp only [xN,y7,List.filter_append,← hr,← hN]
 cases he:((vy is a x).leaves.isEmpty&&(vy is a x).subs.isEmpty)
 ·simp [y7]
 ·simp only [if_true]
  simp only [Bool.and_eq_true,List.isEmpty_iff] at he
  rw [vM,he.1,he.2];simp [y7]
theorem keep_small:∀ (t:List GNode) (a:List zR),(GNode.wfs t→GNode.wfs (xN is a t))∧GNode.bks (xN is a t)≤GNode.bks t:=by
 refine tree_ind (fun a=>⟨fun h=>h,Nat.le_refl _⟩) ?_
 intro x r hx hr a
 have hb:(vy is a x).bk≤x.bk:=by
  have:=(hx (a++[x.name])).2
  cases x with
  | mk nm ls sb =>
   simp only [vy,GNode.bk] at this ⊢
   have h2:((if is (a++[nm])=true then ls else []).map GLeaf.bk).sum≤(ls.map GLeaf.bk).sum:=by split <;> simp
   omega
 have hw:x.wf→(vy is a x).wf:=by
  have:=(hx (a++[x.name])).1
  cases x with
  | mk nm ls sb =>
   simp only [vy,GNode.wf] at this ⊢
   rintro ⟨h1,h2,h3⟩
   refine ⟨h1,?_,this h3⟩
   split
   ·exact h2
   ·exact ⟨by simp,fun y hy=>by cases hy⟩
 simp only [xN]
 split
 ·refine ⟨fun h=>(hr a).1 (by simp only [GNode.wfs] at h;exact h.2),?_⟩
  have:=(hr a).2;simp only [GNode.bks];omega
 ·refine ⟨fun h=>?_,?_⟩
  ·simp only [GNode.wfs] at h ⊢;exact ⟨hw h.1,(hr a).1 h.2⟩
  ·have:=(hr a).2;simp only [GNode.bks];omega
theorem Small.keep {t:List GNode} (h:Small t) (a:List zR):Small (xN is a t):=⟨(keep_small is t a).1 h.1,Nat.le_trans (keep_small is t a).2 h.2⟩
end
theorem ref05Same_refl (l:GLeaf):ref05Same l l=some true:=by
 unfold ref05Same
 simp only [dotEq,itemEq]
 rw [if_neg (by simp),qj (r:=false) (fun _ _=>true),qj (r:=false) (fun _ _=>true)]
 ·simp [allI]
 ·intro i x hx
  have hi:=(List.getElem?_eq_some_iff.1 hx).1
  have he:l.tombs[i]=x:=(List.getElem?_eq_some_iff.1 hx).2
  rw [qV hi,he];simp
 ·intro i x hx
  have hi:=(List.getElem?_eq_some_iff.1 hx).1
  have he:l.items[i]=x:=(List.getElem?_eq_some_iff.1 hx).2
  rw [qV hi,he];simp
theorem ref30SamePath_refl (p:List zR):qc p p=some true:=by
 unfold qc
 rw [if_neg (by simp),qj (r:=false) (fun _ _=>true)]
 ·simp [allI]
 ·intro i x hx
  have hi:=(List.getElem?_eq_some_iff.1 hx).1
  have he:p[i]=x:=(List.getElem?_eq_some_iff.1 hx).2
  rw [qV hi,he];simp
theorem ref30Same_refl (L:List GRow):ref30Same L L=some true:=by
 unfold ref30Same
 rw [if_neg (by simp),qj (r:=false) (fun _ _=>true)]
 ·simp [allI]
 ·intro i x hx
  have hi:=(List.getElem?_eq_some_iff.1 hx).1
  have he:L[i]=x:=(List.getElem?_eq_some_iff.1 hx).2
  have hd:L.getD i default=x:=by rw [List.getD_eq_getElem?_getD,hx];rfl
  rw [qV hi,he]
  simp only [Option.bind_some,ref30SamePath_refl,Int.toNat_natCast,hd,ref05Same_refl]
  rw [zS (by intro _;omega),zS (by intro _;omega)];simp
theorem ref07SameN_refl:∀ (n:Nat) (t:List GNode),GNode.deps t < n→qi n t t=some true
 | 0,_,h=>by omega
 | n+1,t,h=>by
  unfold qi
  rw [if_neg (by simp),qj (r:=false) (fun _ _=>true)]
  ·simp [allI]
  ·intro i x hx
   have hi:=(List.getElem?_eq_some_iff.1 hx).1
   have he:t[i]=x:=(List.getElem?_eq_some_iff.1 hx).2
   have hd:t.getD i default=x:=by rw [List.getD_eq_getElem?_getD,hx];rfl
   have hdp:=qG (List.mem_of_getElem? hx)
   have hds:=wq x
   rw [qV hi,he]
   simp only [Option.bind_some,Int.toNat_natCast,hd,ref07SameN_refl n x.subs (by omega)]
   rw [zS (by intro _;omega),zS (by intro _;omega),zS (by intro _;omega),zS (by intro _;omega)]
   rw [qj (r:=.ret false) (fun _ _=>true)]
   ·simp [allI]
   ·intro j l hl
    have hj:=(List.getElem?_eq_some_iff.1 hl).1
    have he2:x.leaves[j]=l:=(List.getElem?_eq_some_iff.1 hl).2
    rw [qV hj,he2]
    simp [ref05Same_refl]
theorem ref07Same_refl (t:List GNode):ref07Same t t=some true:=by
 unfold ref07Same
 exact anyN_of (GNode.deps t+1) fun n hn=>ref07SameN_refl n t (by omega)

theorem pathsSelect_is {t:List GNode} (h:Small t) {p:List zR} (hp:p.length≤maxLen):pathsSelect t p=some (if (treeB 0 t&&patB p)=true then (xN (matchB p) [] t,0) else ([],2)):=by
 unfold pathsSelect
 rw [treeMay_is h,vh hp,keptAll_is (matchB p) _ (fun q=>by unfold q8;rw [qe hp];rfl) h]
 cases treeB 0 t <;> cases patB p <;> rfl
theorem pathsWithout_is {t:List GNode} (h:Small t) {p:List zR} (hp:p.length≤maxLen):qA t p=some (if (treeB 0 t&&patB p)=true then (xN (fun q=>!matchB p q) [] t,0) else ([],2)):=by
 unfold qA
 rw [treeMay_is h,vh hp,keptAll_is (fun q=>!matchB p q) _ (fun q=>by unfold qz;rw [qe hp];rfl) h]
 cases treeB 0 t <;> cases patB p <;> rfl
theorem law30Xknown_is:qu=some true:=by
 unfold qu pathsText stringsJoin
 have l1:([[97],[42]]:List zR).length≤maxLen:=by decide
 have l2:([[97],[42,42]]:List zR).length≤maxLen:=by decide
 have l3:([[42,42]]:List zR).length≤maxLen:=by decide
 simp only [qe l1,qe l2,qe l3,vh l1]
 have a1:matchB [[97],[42]] [[97],[98]]=true:=by decide
 have a2:matchB [[97],[42]] [[97]]=false:=by decide
 have a3:matchB [[97],[42,42]] [[97]]=true:=by decide
 have a4:matchB [[42,42]] [[97],[98]]=true:=by decide
 have a5:patB [[97],[42]]=true:=by decide
 have a6:strJoin [[97],[42]] [47]=some [97,47,42]:=by decide
 simp [xP,a1,a2,a3,a4,a5,a6]
theorem law30Xgreat_is (L:List (List zR)):∃ b,law30Xgreat L=some b:=by
 unfold law30Xgreat
 rw [lp_all0 (r:=true) (fun p:List zR=>p.all (fun s=>decide (s.length≤40))&&decide (p.length≤10))]
 ·split
  ·exact ⟨_,rfl⟩
  ·exact ⟨_,rfl⟩
 ·intro i x _
  rw [lp_all0 (r:=Out.ret true) (fun s:zR=>decide (s.length≤40))]
  ·have e:decide ((x.length:Int) > 10)=!decide (x.length≤10):=by rw [Bool.eq_iff_iff];simp;omega
   rw [e]
   cases x.all (fun s=>decide (s.length≤40)) <;> cases decide (x.length≤10) <;> simp
  ·intro j s _
   have e:decide ((s.length:Int) > 40)=!decide (s.length≤40):=by rw [Bool.eq_iff_iff];simp;omega
   rw [e];cases decide (s.length≤40) <;> simp
theorem small_of {t:List GNode} (h:t.length≤maxLen∧∀ y ∈ t,GNode.wf y) (hb:(t.map GNode.bk).sum≤1048576):Small t:=⟨(GNode.wfs_iff t).2 h.2,by rw [GNode.bks_eq];exact hb⟩
theorem rows_nil:∀ (t:List GNode) (d:Nat) (a:List zR),vQ d t=true→y7 a t=[]→t=[]:=by
 refine tree_ind (fun _ _ _ _=>rfl) ?_
 intro x r hx hr d a h hn
 exfalso
 simp only [vQ,Bool.and_eq_true,nodeB_eq] at h
 simp only [y7,List.append_eq_nil_iff,vM,List.map_eq_nil_iff] at hn
 have h1:=hx (d+1) _ (by have:=h.1.1.2;unfold treeB at this;simp only [Bool.and_eq_true] at this;exact this.2) hn.1.2
 have:=h.1.1.1.2
 rw [hn.1.1,h1] at this
 simp at this
theorem vi {n:Nat} (h:n≤1048577):n≤w9:=Nat.le_trans h (by decide)
def preR (a:List zR) (r:GRow):GRow:=⟨a++r.path,r.leaf⟩
theorem rows_pre:∀ (t:List GNode) (a b:List zR),y7 (a++b) t=(y7 b t).map (preR a):=by
 refine tree_ind (fun _ _=>rfl) ?_
 intro x r hx hr a b
 rw [x8,x8,List.flatMap_cons,List.flatMap_cons,← x8,← x8,hr,List.map_append]
 congr 1
 rw [vM,vM,List.append_assoc,hx,List.map_append,List.map_map]
 rfl
theorem rows_path:∀ (t:List GNode) (a:List zR) (r:GRow),r ∈ y7 a t→a.length < r.path.length∧r.path.length≤a.length+GNode.deps t:=by
 refine tree_ind (fun _ _ h=>by simp [y7] at h) ?_
 intro x r hx hr a q hq
 rw [x8,List.flatMap_cons,List.mem_append,← x8] at hq
 have h1:x.dep≤GNode.deps (x::r):=qG (by simp)
 have h2:=wq x
 have h3:GNode.deps r≤GNode.deps (x::r):=by
  simp only [GNode.deps];omega
 rcases hq with hq | hq
 ·rw [vM,List.mem_append,List.mem_map] at hq
  rcases hq with ⟨l,_,rfl⟩ | hq
  ·simp;omega
  ·have:=hx _ _ hq
   simp only [List.length_append,List.length_cons,List.length_nil] at this
   omega
 ·have:=hr _ _ hq
  omega
theorem leaf_typ {l:GLeaf} (h:leafB l=true):1≤l.typ∧l.typ≤4:=by
 unfold leafB at h
 split at h
 ·omega
 split at h
 ·omega
 split at h
 ·omega
 split at h
 ·omega
 ·cases h
theorem leaves_up {ls:List GLeaf} (h:leavesB ls=true):ls.Pairwise (fun x y=>x.typ < y.typ)∧∀ l ∈ ls,leafB l=true:=by
 unfold leavesB at h
 rw [wX] at h
 have h1:∀ l ∈ ls,leafB l=true:=fun l hl=>by
  obtain ⟨i,hi⟩:=List.mem_iff_getElem?.1 hl
  have:=h i l hi
  simp only [Bool.and_eq_true] at this
  exact this.1
 refine ⟨?_,h1⟩
 have step:∀ i,(hi:i+1 < ls.length)→ls[i].typ < ls[i+1].typ:=fun i hi=>by
  have:=h (i+1) _ (List.getElem?_eq_getElem hi)
  simp only [Nat.add_eq_zero_iff,Nat.one_ne_zero,and_false,decide_false,Bool.false_or,Bool.and_eq_true,decide_eq_true_eq,Nat.add_sub_cancel] at this
  have e:ls.getD i default=ls[i]:=by simp [List.getD_eq_getElem?_getD,List.getElem?_eq_getElem (show i < ls.length by omega)]
  rw [e] at this
  exact this.2
 rw [List.pairwise_iff_getElem]
 intro i j hi hj hij
 obtain ⟨k,rfl⟩:∃ k,j=i+1+k:=⟨j - (i+1),by omega⟩
 clear hij
 induction k with
 | zero=>exact step i hj
 | succ k ih=>exact Int.lt_trans (ih (by omega)) (step (i+1+k) hj)
theorem typ_len:∀ (ls:List GLeaf) (lo:Int),ls.Pairwise (fun x y=>x.typ < y.typ)→(∀ l ∈ ls,lo≤l.typ∧l.typ≤4)→(ls.length:Int)≤max 0 (5 - lo)
 | [],_,_,_=>by simp;omega
 | l::ls,lo,hp,h=>by
  rw [List.pairwise_cons] at hp
  have h0:=h l (by simp)
  have:=typ_len ls (lo+1) hp.2 fun x hx=>⟨by have:=hp.1 x hx;omega,(h x (by simp [hx])).2⟩
  simp only [List.length_cons]
  omega
theorem Small.tail {x:GNode} {r:List GNode} (h:Small (x::r)):Small r:=by
 refine ⟨(GNode.wfs_iff r).2 fun y hy=>(GNode.wfs_iff _).1 h.1 y (by simp [hy]),?_⟩
 have:=h.2
 simp only [GNode.bks] at this
 omega
theorem less_irr:∀ (a:List UInt8),Op.bytesLess a a=false
 | []=>rfl
 | x::a=>by simp [Op.bytesLess,less_irr a]
abbrev LyR:=List GNode→List zR→GLeaf→List GNode→Prop
structure LyOk (Ly:LyR):Prop where
 leafNew:∀ {t:List GNode} {s:zR} {l:GLeaf},t.length+1≤1048576→(∀ y ∈ t,Op.bytesLess y.name s=true)→LeafOk l→Ly t [s] l (t++[⟨s,[l],[]⟩])
 leafOld:∀ {t:List GNode} {s:zR} {l:GLeaf} {ls:List GLeaf},t.length+1≤1048576→(∀ y ∈ t,Op.bytesLess y.name s=true)→LeafOk l→ls.length≤11→(ls++[l]).Pairwise (fun x y=>x.typ < y.typ)→Ly (t++[⟨s,ls,[]⟩]) [s] l (t++[⟨s,ls++[l],[]⟩])
 subOld:∀ {t:List GNode} {s a:zR} {q:List zR} {l:GLeaf} {ls:List GLeaf} {sb u:List GNode},t.length+1≤1048576→(∀ y ∈ t,Op.bytesLess y.name s=true)→ls.length≤1048576→0 < u.length→u.length≤1048576→(a::q).length+1≤1048576→Ly sb (a::q) l u→Ly (t++[⟨s,ls,sb⟩]) (s::a::q) l (t++[⟨s,ls,u⟩])
 subNew:∀ {t:List GNode} {s a:zR} {q:List zR} {l:GLeaf} {u:List GNode},t.length+1≤1048576→(∀ y ∈ t,Op.bytesLess y.name s=true)→0 < u.length→u.length≤1048576→(a::q).length+1≤1048576→Ly [] (a::q) l u→Ly t (s::a::q) l (t++[⟨s,[],u⟩])
def LaysG (Ly:LyR):List GNode→List GRow→List GNode→Prop
 | t,[],t'=>t'=t
 | t,r::rs,t'=>∃ t1,Ly t r.path r.leaf t1∧(0 < t1.length∧t1.length≤1048576)∧LaysG Ly t1 rs t'
section
variable {Ly:LyR}
theorem LaysG.app:∀ {a b:List GRow} {t t1 t2:List GNode},LaysG Ly t a t1→LaysG Ly t1 b t2→LaysG Ly t (a++b) t2
 | [],_,_,_,_,h,k=>by cases h;exact k
 | _::_,_,_,_,_,⟨u,h1,h0,h2⟩,k=>⟨u,h1,h0,h2.app k⟩
theorem LaysG.below (ok:LyOk Ly) {t:List GNode} {s:zR} {ls:List GLeaf} (ht:t.length+1≤1048576) (hn:∀ y ∈ t,Op.bytesLess y.name s=true) (h1:ls.length≤1048576) :
  ∀ {rs:List GRow} {sb sb':List GNode},LaysG Ly sb rs sb'→(∀ r ∈ rs,0 < r.path.length∧r.path.length+1≤1048576)→LaysG Ly (t++[⟨s,ls,sb⟩]) (rs.map (preR [s])) (t++[⟨s,ls,sb'⟩])
 | [],_,_,h,_=>by cases h;rfl
 | r::rs,sb,sb',⟨u,hu,⟨u0,u1⟩,h⟩,hp=>by
  obtain ⟨h0,hp1⟩:=hp r (by simp)
  obtain ⟨a,q,e⟩:∃ a q,r.path=a::q:=by
   cases hq:r.path with
   | nil=>rw [hq] at h0;simp at h0
   | cons a q=>exact ⟨a,q,rfl⟩
  refine ⟨t++[⟨s,ls,u⟩],?_,by simp;omega,LaysG.below ok ht hn h1 h (fun x hx=>hp x (by simp [hx]))⟩
  simp only [preR,e,List.singleton_append]
  rw [e] at hu hp1
  exact ok.subOld ht hn h1 u0 u1 hp1 hu
theorem LaysG.leaves (ok:LyOk Ly) {t:List GNode} {s:zR} (ht:t.length+1≤1048576) (hn:∀ y ∈ t,Op.bytesLess y.name s=true) :
  ∀ {ls ls0:List GLeaf},(∀ l ∈ ls,LeafOk l)→(ls0++ls).length≤12→(ls0++ls).Pairwise (fun x y=>x.typ < y.typ)→LaysG Ly (t++[⟨s,ls0,[]⟩]) (ls.map fun l=>⟨[s],l⟩) (t++[⟨s,ls0++ls,[]⟩])
 | [],ls0,_,_,_=>by rw [List.append_nil];rfl
 | l::ls,ls0,hl,hs,hp=>by
  have e:ls0++l::ls=(ls0++[l])++ls:=by simp
  rw [e] at hs hp ⊢
  have hs':=hs
  simp only [List.length_append,List.length_cons,List.length_nil] at hs'
  refine ⟨t++[⟨s,ls0++[l],[]⟩],?_,by simp;omega,LaysG.leaves ok ht hn (fun x hx=>hl x (by simp [hx])) hs hp⟩
  refine ok.leafOld ht hn (hl l (by simp)) (by omega) ?_
  rw [List.pairwise_append] at hp
  exact hp.1
theorem laysG_tree (ok:LyOk Ly):∀ (t:List GNode) (d:Nat) (done:List GNode),Small t→upB t=true→vQ d t=true→(∀ y ∈ done,∀ x ∈ t,Op.bytesLess y.name x.name=true)→(done++t).length≤1048576→LaysG Ly done (y7 [] t) (done++t):=by
 refine tree_ind (fun d done _ _ _ _ _=>by rw [List.append_nil];rfl) ?_
 intro x r hx hr d done hs hu hn hd hl
 rw [x8,List.flatMap_cons,← x8]
 rw [upB_iff,List.pairwise_cons] at hu
 simp only [vQ,Bool.and_eq_true] at hn
 obtain ⟨hnx,hnr⟩:=hn
 rw [nodeB_eq] at hnx
 simp only [Bool.and_eq_true] at hnx
 obtain ⟨⟨⟨_,hne⟩,hsub⟩,hlv⟩:=hnx
 simp only [treeB,Bool.and_eq_true] at hsub
 simp only [List.length_append,List.length_cons] at hl
 have hsx:Small x.subs:=hs.subs (by simp)
 have hdn:∀ y ∈ done,Op.bytesLess y.name x.name=true:=fun y hy=>hd y hy x (by simp)
 obtain ⟨hpw,hlf⟩:=leaves_up hlv
 have hlen:x.leaves.length≤12:=by
  have:=typ_len x.leaves 1 hpw fun l hl=>leaf_typ (hlf l hl)
  omega
 have hok:∀ l ∈ x.leaves,LeafOk l:=fun l hl=>hs.leaf (by simp) hl
 have hsb:=hx (d+1) [] hsx hsub.1.2 hsub.2 (by simp) (by simpa using hsx.len)
 rw [List.nil_append] at hsb
 have hpth:∀ q ∈ y7 [] x.subs,0 < q.path.length∧q.path.length+1≤1048576:=fun q hq=>by
  have h1:=rows_path x.subs [] q hq
  have h2:=wq x
  have h3:x.dep≤GNode.deps (x::r):=qG (by simp)
  have h4:=hs.dep
  simp only [List.length_nil] at h1
  omega
 have hxx:LaysG Ly done (rowsN [] x) (done++[x]):=by
  have ex:x=⟨x.name,x.leaves,x.subs⟩:=by cases x;rfl
  rw [vM,List.nil_append]
  have er:y7 [x.name] x.subs=(y7 [] x.subs).map (preR [x.name]):=by
   have:=rows_pre x.subs [x.name] []
   rwa [List.append_nil] at this
  rw [er]
  cases hls:x.leaves with
  | cons l ls =>
   rw [hls] at hpw hlen hok
   have g1:LaysG Ly (done++[⟨x.name,[l],[]⟩]) (ls.map fun l=>⟨[x.name],l⟩) (done++[⟨x.name,[l]++ls,[]⟩]):=LaysG.leaves ok (by omega) hdn (fun y hy=>hok y (by simp [hy])) (by simpa using hlen) (by simpa using hpw)
   have g2:LaysG Ly (done++[⟨x.name,l::ls,[]⟩]) ((y7 [] x.subs).map (preR [x.name])) (done++[⟨x.name,l::ls,x.subs⟩]):=LaysG.below ok (by omega) hdn (by omega) hsb hpth
   rw [← hls,← ex] at g2
   refine ⟨done++[⟨x.name,[l],[]⟩],?_,by simp;omega,?_⟩
   ·exact ok.leafNew (by omega) hdn (hok l (by simp))
   ·rw [hls] at g2
    exact g1.app g2
  | nil =>
   have hnb:x.subs ≠ []:=by
    intro e
    rw [hls,e] at hne
    simp at hne
   cases hrw:y7 [] x.subs with
   | nil=>exact absurd (rows_nil x.subs (d+1) [] hsub.2 hrw) hnb
   | cons q qs =>
    rw [hrw] at hsb hpth
    obtain ⟨u,hu1,⟨hu2,hu3⟩,hu4⟩:=hsb
    obtain ⟨h0,hp1⟩:=hpth q (by simp)
    obtain ⟨a,p,e⟩:∃ a p,q.path=a::p:=by
     cases hq:q.path with
     | nil=>rw [hq] at h0;simp at h0
     | cons a p=>exact ⟨a,p,rfl⟩
    have g2:LaysG Ly (done++[⟨x.name,[],u⟩]) (qs.map (preR [x.name])) (done++[⟨x.name,[],x.subs⟩]):=LaysG.below ok (by omega) hdn (by simp) hu4 fun y hy=>hpth y (by simp [hy])
    rw [← hls,← ex] at g2
    refine ⟨done++[⟨x.name,[],u⟩],?_,by simp;omega,by rw [hls] at g2;exact g2⟩
    simp only [preR,e,List.singleton_append]
    rw [e] at hu1 hp1
    exact ok.subNew (by omega) hdn hu2 hu3 hp1 hu1
 have e:done++x::r=(done++[x])++r:=by simp
 rw [e]
 refine hxx.app (hr d (done++[x]) hs.tail (upB_iff r |>.2 hu.2) hnr (fun y hy z hz=>?_) (by simp;omega))
 rcases List.mem_append.1 hy with hy | hy
 ·exact hd y hy z (by simp [hz])
 ·simp only [List.mem_singleton] at hy
  subst hy
  exact hu.1 z hz
end
noncomputable def l7A (t0:List GNode) (path1:List zR):(List GNode)×Int→Option (Out (List GNode) ((List GNode)×Int)):=(fun (s1:(List GNode)×Int)=>((xP (((decide (s1.2 < ((t0).length:Int)))==true)=true→0≤s1.2∧s1.2 < ((t0).length:Int)) ((xP (((decide (s1.2 < ((t0).length:Int)))==true)=true→0≤(0:Int)∧(0:Int) < ((path1).length:Int)) ((if ((decide (s1.2 < ((t0).length:Int)))&&(Op.bytesLess (((t0).getD s1.2.toNat default).name) ((path1).getD (0:Int).toNat default)))=true then ((idx t0 s1.2).bind fun y22=>(xP ((s1.1).length+(([y22]:List GNode)).length≤w9) (some (.nxt ((s1.1++([y22]:List GNode)),(IntKind.wrap .i64 (s1.2+(1:Int)))))))) else some (.brk (s1.1,s1.2))))))):Option (Out _ ((List GNode)×Int))))
noncomputable def l7B (ls:List GLeaf) (l2:GLeaf):(List GLeaf)×Int→Option (Out (List GNode) ((List GLeaf)×Int)):=(fun (sd62:(List GLeaf)×Int)=>((xP (((decide (sd62.2 < ((ls).length:Int)))==true)=true→0≤sd62.2∧sd62.2 < ((ls).length:Int)) ((if ((decide (sd62.2 < ((ls).length:Int)))&&(decide (((ls).getD sd62.2.toNat default).typ < l2.typ)))=true then ((idx ls sd62.2).bind fun y66=>(xP ((sd62.1).length+(([y66]:List GLeaf)).length≤w9) (some (.nxt ((sd62.1++([y66]:List GLeaf)),(IntKind.wrap .i64 (sd62.2+(1:Int)))))))) else some (.brk (sd62.1,sd62.2))))):Option (Out _ ((List GLeaf)×Int))))
theorem lay7_eq (n:Nat) (t0:List GNode) (path1:List zR) (l2:GLeaf):x6 (n+1) t0 path1 l2=(lp (vW (l7A t0 path1) (([]:List GNode),(0:Int))) fun (s1:(List GNode)×Int)=>((idx path1 (0:Int)).bind fun y24=>(lp ((xP (((decide (s1.2 < ((t0).length:Int)))==true)=true→0≤s1.2∧s1.2 < ((t0).length:Int)) ((xP (((decide (s1.2 < ((t0).length:Int)))==true)=true→0≤(0:Int)∧(0:Int) < ((path1).length:Int)) ((if ((decide (s1.2 < ((t0).length:Int)))&&(((t0).getD s1.2.toNat default).name==((path1).getD (0:Int).toNat default)))=true then ((idx t0 s1.2).bind fun y35=>some (.inr ((IntKind.wrap .i64 (s1.2+(1:Int))),y35.name,y35.leaves,y35.subs))) else some (.inr (s1.2,y24,([]:List GLeaf),([]:List GNode)))))))):Option (_ ⊕ (Int×zR×(List GLeaf)×(List GNode)))) fun (sd30:Int×zR×(List GLeaf)×(List GNode))=>(if (decide (((path1).length:Int) > (1:Int)))=true then ((slc path1 (1:Int) ((path1).length:Int)).bind fun m38=>((x6 n sd30.2.2.2 m38 l2).bind fun v39=>(xP ((s1.1).length+(([(GNode.mk sd30.2.1 sd30.2.2.1 v39)]:List GNode)).length≤w9) (((slc t0 sd30.1 ((t0).length:Int)).bind fun m41=>(xP (((s1.1++([(GNode.mk sd30.2.1 sd30.2.2.1 v39)]:List GNode))).length+(m41).length≤w9) (some ((s1.1++([(GNode.mk sd30.2.1 sd30.2.2.1 v39)]:List GNode))++m41)))))))) else (lp (vW (l7B sd30.2.2.1 l2) (([]:List GLeaf),(0:Int))) fun (sd62:(List GLeaf)×Int)=>(xP (((decide (sd62.2 < ((sd30.2.2.1).length:Int)))==true)=true→0≤sd62.2∧sd62.2 < ((sd30.2.2.1).length:Int)) ((if ((decide (sd62.2 < ((sd30.2.2.1).length:Int)))&&(((sd30.2.2.1).getD sd62.2.toNat default).typ==l2.typ))=true then (xP ((sd62.1).length+(([l2]:List GLeaf)).length≤w9) (((slc sd30.2.2.1 (IntKind.wrap .i64 (sd62.2+(1:Int))) ((sd30.2.2.1).length:Int)).bind fun m72=>(xP (((sd62.1++([l2]:List GLeaf))).length+(m72).length≤w9) ((xP ((s1.1).length+(([(GNode.mk sd30.2.1 ((sd62.1++([l2]:List GLeaf))++m72) sd30.2.2.2)]:List GNode)).length≤w9) (((slc t0 sd30.1 ((t0).length:Int)).bind fun m75=>(xP (((s1.1++([(GNode.mk sd30.2.1 ((sd62.1++([l2]:List GLeaf))++m72) sd30.2.2.2)]:List GNode))).length+(m75).length≤w9) (some ((s1.1++([(GNode.mk sd30.2.1 ((sd62.1++([l2]:List GLeaf))++m72) sd30.2.2.2)]:List GNode))++m75))))))))))) else (xP ((sd62.1).length+(([l2]:List GLeaf)).length≤w9) (((slc sd30.2.2.1 sd62.2 ((sd30.2.2.1).length:Int)).bind fun m78=>(xP (((sd62.1++([l2]:List GLeaf))).length+(m78).length≤w9) ((xP ((s1.1).length+(([(GNode.mk sd30.2.1 ((sd62.1++([l2]:List GLeaf))++m78) sd30.2.2.2)]:List GNode)).length≤w9) (((slc t0 sd30.1 ((t0).length:Int)).bind fun m81=>(xP (((s1.1++([(GNode.mk sd30.2.1 ((sd62.1++([l2]:List GLeaf))++m78) sd30.2.2.2)]:List GNode))).length+(m81).length≤w9) (some ((s1.1++([(GNode.mk sd30.2.1 ((sd62.1++([l2]:List GLeaf))++m78) sd30.2.2.2)]:List GNode))++m81))))))))))))))))))):=rfl
noncomputable def r7F (n:Nat) (ahead1:List zR):Nat→GNode→List GVarveref07Row→Option (Out (List GVarveref07Row) (List GVarveref07Row)):=(fun (n1:Nat) (x1:GNode) (s1:(List GVarveref07Row))=>((xP ((([]:List zR)).length+(ahead1).length≤w9) ((xP (((([]:List zR)++ahead1)).length+(([x1.name]:List zR)).length≤w9) ((lp (yf (fun (n2:Nat) (x2:GLeaf) (s2:(List GVarveref07Row))=>((xP ((s2).length+(([(GVarveref07Row.mk ((([]:List zR)++ahead1)++([x1.name]:List zR)) x2)]:List GVarveref07Row)).length≤w9) (some (.nxt (s2++([(GVarveref07Row.mk ((([]:List zR)++ahead1)++([x1.name]:List zR)) x2)]:List GVarveref07Row))))):Option (Out _ (List GVarveref07Row)))) x1.leaves 0 s1) fun (s2:(List GVarveref07Row))=>((vg n x1.subs ((([]:List zR)++ahead1)++([x1.name]:List zR))).bind fun v44=>(xP ((s2).length+(v44).length≤w9) (some (.nxt (s2++v44)))))))))):Option (Out _ (List GVarveref07Row))))
theorem rows7_eq (n:Nat) (t0:List GNode) (ahead1:List zR):vg (n+1) t0 ahead1=(lp (yf (r7F n ahead1) t0 0 ([]:List GVarveref07Row)) fun (s1:(List GVarveref07Row))=>some s1):=rfl
theorem l7A_is {t:List GNode} {s:zR} {q:List zR} (ht:t.length≤1048576) (a b:List GNode) (e:t=a++b) (ha:∀ y ∈ a,Op.bytesLess y.name s=true) (hb:∀ y r,b=y::r→Op.bytesLess y.name s=false) :
  ∀ (k i:Nat),a.length - i≤k→i≤a.length→vW (l7A t (s::q)) (a.take i,(i:Int))=some (.inr (a,(a.length:Int))):=by
 have hl:t.length=a.length+b.length:=by rw [e];simp
 intro k
 induction k with
 | zero =>
  intro i hk hi
  obtain rfl:i=a.length:=by omega
  rw [loopW_eq]
  have:l7A t (s::q) (a.take a.length,(a.length:Int))=some (.brk (a,(a.length:Int))):=by
   unfold l7A
   simp only [List.take_length]
   rw [zS (by intro h;simp at h;omega),zS (by intro h;simp)]
   cases hbb:b with
   | nil =>
    rw [hbb] at hl
    rw [decide_eq_false (by simp at hl;omega)]
    rfl
   | cons y r =>
    have hy:t.getD a.length default=y:=by rw [e,hbb];simp
    have:=hb y r hbb
    simp only [Int.toNat_natCast,hy]
    have e2:(s::q).getD (0:Int).toNat default=s:=rfl
    rw [e2,this,Bool.and_false]
    rfl
  rw [this]
 | succ k ih =>
  intro i hk hi
  rcases Nat.lt_or_ge i a.length with h | h
  ·rw [loopW_eq]
   have hy:t[i]?=some a[i]:=by rw [e,List.getElem?_append_left h,List.getElem?_eq_getElem h]
   have hd:t.getD i default=a[i]:=by rw [List.getD_eq_getElem?_getD,hy];rfl
   have:l7A t (s::q) (a.take i,(i:Int))=some (.nxt (a.take (i+1),((i+1:Nat):Int))):=by
    unfold l7A
    simp only
    rw [zS (by intro h;simp at h;omega),zS (by intro h;simp)]
    have e2:(s::q).getD (0:Int).toNat default=s:=rfl
    have e3:IntKind.wrap .i64 ((i:Int)+1)=((i+1:Nat):Int):=by rw [w64n (by omega)];omega
    rw [Int.toNat_natCast,hd,e2,ha _ (List.getElem_mem h),decide_eq_true (by omega:(i:Int) < (t.length:Int)),Bool.and_self,if_pos rfl,yn hy,Option.bind_some,zS (vi (by simp;omega)),e3]
    rw [List.take_succ_eq_append_getElem h]
   rw [this]
   exact ih (i+1) (by omega) h
  ·exact ih i (by omega) hi
theorem l7B_is {ls:List GLeaf} {l:GLeaf} (hl:ls.length≤1048576) (ha:∀ y ∈ ls,y.typ < l.typ) :
  ∀ (k i:Nat),ls.length - i≤k→i≤ls.length→vW (l7B ls l) (ls.take i,(i:Int))=some (.inr (ls,(ls.length:Int))):=by
 intro k
 induction k with
 | zero =>
  intro i hk hi
  obtain rfl:i=ls.length:=by omega
  rw [loopW_eq]
  have:l7B ls l (ls.take ls.length,(ls.length:Int))=some (.brk (ls,(ls.length:Int))):=by
   unfold l7B
   simp only [List.take_length]
   rw [zS (by intro h;simp at h),decide_eq_false (by omega)]
   rfl
  rw [this]
 | succ k ih =>
  intro i hk hi
  rcases Nat.lt_or_ge i ls.length with h | h
  ·rw [loopW_eq]
   have hy:ls[i]?=some ls[i]:=List.getElem?_eq_getElem h
   have hd:ls.getD i default=ls[i]:=by rw [List.getD_eq_getElem?_getD,hy];rfl
   have:l7B ls l (ls.take i,(i:Int))=some (.nxt (ls.take (i+1),((i+1:Nat):Int))):=by
    unfold l7B
    simp only
    have e3:IntKind.wrap .i64 ((i:Int)+1)=((i+1:Nat):Int):=by rw [w64n (by omega)];omega
    rw [zS (by intro h;simp at h;omega),Int.toNat_natCast,hd,decide_eq_true (ha _ (List.getElem_mem h)),decide_eq_true (by omega:(i:Int) < (ls.length:Int)),Bool.and_self,if_pos rfl,yn hy,Option.bind_some,zS (vi (by simp;omega)),e3]
    rw [List.take_succ_eq_append_getElem h]
   rw [this]
   exact ih (i+1) (by omega) h
  ·exact ih i (by omega) hi
def LayR:LyR:=fun t p l t'=>∀ n,p.length < n→x6 n t p l=some t'
theorem drop_all {α:Type} (L:List α):((L.take ((L.length:Int)).toNat).drop ((L.length:Int)).toNat)=[]:=by simp
section
variable {t:List GNode} {s:zR} {q:List zR} {l:GLeaf} {n:Nat}
theorem lay7_new_sub {a:zR} {u:List GNode} (ht:t.length+1≤1048576) (hn:∀ y ∈ t,Op.bytesLess y.name s=true) (hq:(a::q).length+1≤1048576) (h:x6 n [] (a::q) l=some u):x6 (n+1) t (s::a::q) l=some (t++[⟨s,[],u⟩]):=by
 have hA:=l7A_is (t:=t) (s:=s) (q:=a::q) (by omega) t [] (by simp) hn (by simp) t.length 0 (by omega) (by omega)
 rw [lay7_eq,show (([]:List GNode),(0:Int))=(t.take 0,((0:Nat):Int)) from rfl,hA,ww]
 have d0:decide ((t.length:Int) < (t.length:Int))=false:=decide_eq_false (by omega)
 have i0:idx (s::a::q) (0:Int)=some s:=rfl
 have d1:decide ((((s::a::q).length:Int)) > 1)=true:=decide_eq_true (by simp only [List.length_cons];omega)
 simp only [i0,Option.bind_some,d0,Bool.false_and]
 rw [zS (by intro h;cases h),zS (by intro h;cases h)]
 simp only [Bool.false_eq_true,if_false,ww,d1,if_true]
 rw [slc_at ⟨by omega,by simp only [List.length_cons];omega,Int.le_refl _⟩,Option.bind_some]
 have e2:((s::a::q).take (((s::a::q).length:Int)).toNat).drop (1:Int).toNat=a::q:=by rw [Int.toNat_natCast,List.take_length];rfl
 rw [e2,h,Option.bind_some,zS (vi (by simp;omega)),slc_at ⟨by omega,Int.le_refl _,Int.le_refl _⟩,Option.bind_some,drop_all,zS (vi (by simp;omega)),List.append_nil]
theorem lay7_new_leaf (ht:t.length+1≤1048576) (hn:∀ y ∈ t,Op.bytesLess y.name s=true):x6 (n+1) t [s] l=some (t++[⟨s,[l],[]⟩]):=by
 have hA:=l7A_is (t:=t) (s:=s) (q:=[]) (by omega) t [] (by simp) hn (by simp) t.length 0 (by omega) (by omega)
 rw [lay7_eq,show (([]:List GNode),(0:Int))=(t.take 0,((0:Nat):Int)) from rfl,hA,ww]
 have d0:decide ((t.length:Int) < (t.length:Int))=false:=decide_eq_false (by omega)
 have i0:idx [s] (0:Int)=some s:=rfl
 have d1:decide (((([s]:List zR).length:Int)) > 1)=false:=rfl
 simp only [i0,Option.bind_some,d0,Bool.false_and]
 rw [zS (by intro h;cases h),zS (by intro h;cases h)]
 simp only [Bool.false_eq_true,if_false,ww,d1]
 have hB:=l7B_is (ls:=[]) (l:=l) (by simp) (by simp) 0 0 (by simp) (by simp)
 rw [show (([]:List GLeaf),(0:Int))=(([]:List GLeaf).take 0,((0:Nat):Int)) from rfl,hB,ww]
 have d2:decide (((([]:List GLeaf).length:Nat):Int) < ((([]:List GLeaf).length:Nat):Int))=false:=rfl
 simp only [d2,Bool.false_and]
 rw [zS (by intro h;cases h)]
 simp only [Bool.false_eq_true,if_false]
 rw [zS (vi (by simp)),slc_at ⟨by simp,Int.le_refl _,Int.le_refl _⟩,Option.bind_some,drop_all,zS (vi (by simp)),zS (vi (by simp;omega)),slc_at ⟨by omega,Int.le_refl _,Int.le_refl _⟩,Option.bind_some,drop_all,zS (vi (by simp;omega)),List.append_nil]
 rfl
theorem lay7_old_sub {a:zR} {u sb:List GNode} {ls:List GLeaf} (ht:t.length+1≤1048576) (hn:∀ y ∈ t,Op.bytesLess y.name s=true) (hq:(a::q).length+1≤1048576) (h:x6 n sb (a::q) l=some u):x6 (n+1) (t++[⟨s,ls,sb⟩]) (s::a::q) l=some (t++[⟨s,ls,u⟩]):=by
 have hl:(t++[(⟨s,ls,sb⟩:GNode)]).length=t.length+1:=by simp
 have hA:=l7A_is (t:=t++[⟨s,ls,sb⟩]) (s:=s) (q:=a::q) (by omega) t [⟨s,ls,sb⟩] rfl hn (by rintro y r e;injection e with e1 _;subst e1;exact less_irr s) t.length 0 (by omega) (by omega)
 rw [lay7_eq,show (([]:List GNode),(0:Int))=(t.take 0,((0:Nat):Int)) from rfl,hA,ww]
 have d0:decide ((t.length:Int) < ((t++[(⟨s,ls,sb⟩:GNode)]).length:Int))=true:=decide_eq_true (by omega)
 have i0:idx (s::a::q) (0:Int)=some s:=rfl
 have d1:decide ((((s::a::q).length:Int)) > 1)=true:=decide_eq_true (by simp only [List.length_cons];omega)
 have g0:(t++[(⟨s,ls,sb⟩:GNode)]).getD ((t.length:Int)).toNat default=⟨s,ls,sb⟩:=by simp
 have g1:(s::a::q).getD (0:Int).toNat default=s:=rfl
 have g2:idx (t++[(⟨s,ls,sb⟩:GNode)]) (t.length:Int)=some ⟨s,ls,sb⟩:=yn (by simp)
 have g3:IntKind.wrap .i64 ((t.length:Int)+1)=((t++[(⟨s,ls,sb⟩:GNode)]).length:Int):=by rw [w64n (by omega)];omega
 simp only [i0,Option.bind_some,d0,g0,g1,g2,g3,beq_self_eq_true,Bool.and_self,if_true]
 rw [zS (by intro _;simp only [List.length_append,List.length_cons,List.length_nil];omega),zS (by intro _;simp only [List.length_cons];omega)]
 simp only [ww,d1,if_true]
 rw [slc_at ⟨by omega,by simp only [List.length_cons];omega,Int.le_refl _⟩,Option.bind_some]
 have e2:((s::a::q).take (((s::a::q).length:Int)).toNat).drop (1:Int).toNat=a::q:=by rw [Int.toNat_natCast,List.take_length];rfl
 rw [e2,h,Option.bind_some,zS (vi (by simp;omega)),slc_at ⟨by omega,Int.le_refl _,Int.le_refl _⟩,Option.bind_some,drop_all,zS (vi (by simp;omega)),List.append_nil]
theorem lay7_old_leaf {ls:List GLeaf} {sb:List GNode} (ht:t.length+1≤1048576) (hn:∀ y ∈ t,Op.bytesLess y.name s=true) (h1:ls.length≤1048575) (h2:∀ y ∈ ls,y.typ < l.typ):x6 (n+1) (t++[⟨s,ls,sb⟩]) [s] l=some (t++[⟨s,ls++[l],sb⟩]):=by
 have hl:(t++[(⟨s,ls,sb⟩:GNode)]).length=t.length+1:=by simp
 have hA:=l7A_is (t:=t++[⟨s,ls,sb⟩]) (s:=s) (q:=[]) (by omega) t [⟨s,ls,sb⟩] rfl hn (by rintro y r e;injection e with e1 _;subst e1;exact less_irr s) t.length 0 (by omega) (by omega)
 rw [lay7_eq,show (([]:List GNode),(0:Int))=(t.take 0,((0:Nat):Int)) from rfl,hA,ww]
 have d0:decide ((t.length:Int) < ((t++[(⟨s,ls,sb⟩:GNode)]).length:Int))=true:=decide_eq_true (by omega)
 have i0:idx [s] (0:Int)=some s:=rfl
 have d1:decide (((([s]:List zR).length:Int)) > 1)=false:=rfl
 have g0:(t++[(⟨s,ls,sb⟩:GNode)]).getD ((t.length:Int)).toNat default=⟨s,ls,sb⟩:=by simp
 have g1:[s].getD (0:Int).toNat default=s:=rfl
 have g2:idx (t++[(⟨s,ls,sb⟩:GNode)]) (t.length:Int)=some ⟨s,ls,sb⟩:=yn (by simp)
 have g3:IntKind.wrap .i64 ((t.length:Int)+1)=((t++[(⟨s,ls,sb⟩:GNode)]).length:Int):=by rw [w64n (by omega)];omega
 simp only [i0,Option.bind_some,d0,g0,g1,g2,g3,beq_self_eq_true,Bool.and_self,if_true]
 rw [zS (by intro _;simp only [List.length_append,List.length_cons,List.length_nil];omega),zS (by intro _;simp only [List.length_cons,List.length_nil];omega)]
 simp only [ww,d1,Bool.false_eq_true,if_false]
 have hB:=l7B_is (ls:=ls) (l:=l) (by omega) h2 ls.length 0 (by omega) (by omega)
 rw [show (([]:List GLeaf),(0:Int))=(ls.take 0,((0:Nat):Int)) from rfl,hB,ww]
 have d2:decide (((ls.length:Nat):Int) < ((ls.length:Nat):Int))=false:=decide_eq_false (by omega)
 simp only [d2,Bool.false_and]
 rw [zS (by intro h;cases h)]
 simp only [Bool.false_eq_true,if_false]
 rw [zS (vi (by simp;omega)),slc_at ⟨by omega,Int.le_refl _,Int.le_refl _⟩,Option.bind_some,drop_all,zS (vi (by simp;omega)),zS (vi (by simp;omega)),slc_at ⟨by omega,Int.le_refl _,Int.le_refl _⟩,Option.bind_some,drop_all,zS (vi (by simp;omega)),List.append_nil,List.append_nil]
end
theorem layR_ok:LyOk LayR where
 leafNew:=fun ht hn _ n hl=>by
  obtain ⟨m,rfl⟩:∃ m,n=m+1:=⟨n - 1,by omega⟩
  exact lay7_new_leaf ht hn
 leafOld:=fun ht hn _ h1 h2 n hl=>by
  obtain ⟨m,rfl⟩:∃ m,n=m+1:=⟨n - 1,by omega⟩
  exact lay7_old_leaf ht hn (by omega) fun y hy=>(List.pairwise_append.1 h2).2.2 y hy _ (by simp)
 subOld:=fun ht hn _ _ _ hq h n hl=>by
  obtain ⟨m,rfl⟩:∃ m,n=m+1:=⟨n - 1,by omega⟩
  exact lay7_old_sub ht hn hq (h m (by simp only [List.length_cons] at hl ⊢;omega))
 subNew:=fun ht hn _ _ hq h n hl=>by
  obtain ⟨m,rfl⟩:∃ m,n=m+1:=⟨n - 1,by omega⟩
  exact lay7_new_sub ht hn hq (h m (by simp only [List.length_cons] at hl ⊢;omega))
theorem made_rows:∀ {rs:List GRow} {t t':List GNode} (n:Nat),LaysG LayR t rs t'→yf (fun (n1:Nat) (x1:GRow) (s1:(List GNode))=>(((ref07Lay s1 x1.path x1.leaf).bind fun v10=>some (.nxt v10)):Option (Out (List GNode) (List GNode)))) rs n t=some (.inr t')
 | [],_,_,_,h=>by cases h;rfl
 | r::rs,t,t',n,⟨u,hu,_,h⟩=>by
  have:ref07Lay t r.path r.leaf=some u:=anyN_of (r.path.length+1) fun n hn=>hu n (by omega)
  simp only [yf,this,Option.bind_some]
  exact made_rows (n+1) h
theorem made_is {t:List GNode} (h:Small t) (ht:treeB 0 t=true):ref30Made (y7 [] t)=some t:=by
 simp only [treeB,Bool.and_eq_true] at ht
 have hl:=laysG_tree layR_ok t 0 [] h ht.1.2 ht.2 (by simp) (by simpa using h.len)
 rw [List.nil_append] at hl
 unfold ref30Made
 rw [made_rows 0 hl,ww]
def vR (r:GRow):GVarveref07Row:=⟨r.path,r.leaf⟩

abbrev spot (s:zR):Bool:=s==[42] || nameB s
theorem name_no {s:zR} {c:UInt8} (h:nameB s=true) (hc:alnum c=false):c ∉ s:=by
 intro hm
 unfold nameB at h
 simp only [Bool.and_eq_true,List.all_eq_true] at h
 rw [h.2 c hm] at hc;exact absurd hc (by simp)
theorem spot_star {s:zR} (h:spot s=true):(s==([42,42]:zR))=false:=by
 rcases Bool.or_eq_true_iff.1 h with h | h
 ·rw [beq_iff_eq.1 h];decide
 ·have:=name_no (c:=42) h (by decide)
  rw [beq_eq_false_iff_ne];rintro rfl;exact this (by simp)
theorem ends_app {p:List zR} (h:endsB p=true):p=p.dropLast++[[42,42]]:=by
 unfold endsB at h
 have h:=beq_iff_eq.1 h
 rw [List.getLast?_eq_some_iff] at h
 obtain ⟨t,rfl⟩:=h;simp
theorem spot_step (s:zR):(((if ((!(s==([42]:zR)))==true)=true then wE s else some default).bind fun v=>(if ((!(s==([42]:zR)))&&(!v))=true then some (Out.ret false) else some (.nxt ()))):Option (Out Bool Unit))=if spot s=true then some (.nxt ()) else some (.ret false):=by
 rw [ref04IsName_is];unfold spot
 cases h:(s==([42]:zR)) <;> cases nameB s <;> simp
theorem range_all {p:List zR} {n:Nat} (h:n≤p.length) (q:zR→Bool):(List.range n).all (fun j=>q (p.getD j default))=(p.take n).all q:=by
 rw [Bool.eq_iff_iff,List.all_eq_true,List.all_eq_true]
 constructor
 ·intro H x hx
  obtain ⟨i,hi,rfl⟩:=List.getElem_of_mem hx
  simp only [List.length_take] at hi
  have:=H i (by simp;omega)
  rw [List.getD_eq_getElem?_getD,List.getElem?_eq_getElem (by omega)] at this
  simpa using this
 ·intro H j hj
  have hj:j < n:=by simpa using hj
  have:p[j] ∈ p.take n:=by rw [List.mem_take_iff_getElem];exact ⟨j,by omega,rfl⟩
  have:=H _ this
  rw [List.getD_eq_getElem?_getD,List.getElem?_eq_getElem (by omega)]
  simpa using this
theorem ref30MayPattern_is {p:List zR} (h:p.length≤maxLen):wC p=some (patB p):=by
 unfold wC
 by_cases h0:0 < p.length
 ·rw [wrapLen h0 h,zS (by intro _;omega)]
  have e:decide ((p.length:Int) > 0)=true:=by simpa using h0
  rw [e,Int.toNat_natCast,last_getD h0]
  cases he:endsB p
  ·rw [if_neg (by simp)]
   have ep:patB p=(decide (p.length≤3)&&p.all spot):=by
    unfold patB xw;rw [he];simp [h0]
   rw [ep]
   have e1:decide ((p.length:Int) < 1)=false:=by simp;omega
   have e2:decide ((p.length:Int) > 3)=!decide (p.length≤3):=by rw [Bool.eq_iff_iff];simp;omega
   rw [e1,e2]
   cases decide (p.length≤3)
   ·simp
   ·rw [if_neg (by simp),lp_all0 (r:=false) spot]
    ·cases p.all spot <;> simp
    ·intro i x hx
     rw [zS (by intro _;have:=(List.getElem?_eq_some_iff.1 hx).1;omega)]
     have eg:p.getD ((i:Int)).toNat default=x:=by rw [Int.toNat_natCast,List.getD_eq_getElem?_getD,hx];rfl
     rw [eg];exact spot_step x
  ·rw [if_pos (by simp)]
   have el:(xw p)=p.take (p.length - 1):=by unfold xw;rw [he,if_pos rfl,List.dropLast_eq_take]
   have ep:patB p=(decide (p.length - 1≤3)&&(p.take (p.length - 1)).all spot):=by
    unfold patB;rw [he,el];simp
   rw [ep]
   have e0:((((p.length - 1:Nat):Int))==0)=decide (p.length - 1=0):=by rw [Bool.eq_iff_iff];simp
   rw [e0]
   by_cases hn:p.length - 1=0
   ·simp [hn]
   ·rw [if_neg (by simpa using hn)]
    have e1:decide (((p.length - 1:Nat):Int) < 1)=false:=by simp;omega
    have e2:decide (((p.length - 1:Nat):Int) > 3)=!decide (p.length - 1≤3):=by rw [Bool.eq_iff_iff];simp;omega
    rw [e1,e2]
    cases decide (p.length - 1≤3)
    ·simp
    ·rw [if_neg (by simp),zS (by simp only [maxLen] at h;omega),lp_all0 (r:=false) (fun j=>spot (p.getD j default)),range_all (by omega)]
     ·cases (p.take (p.length - 1)).all spot <;> simp
     ·intro i x hx
      obtain ⟨hl,hv⟩:=List.getElem?_eq_some_iff.1 hx
      simp at hl hv;subst hv
      have hi:i < p.length:=by omega
      rw [qV hi]
      simp only [Option.bind_some]
      rw [zS (by intro _;omega)]
      have eg:p.getD ((i:Int)).toNat default=p[i]:=by rw [Int.toNat_natCast,List.getD_eq_getElem?_getD,List.getElem?_eq_getElem hi];rfl
      have eg2:p.getD i default=p[i]:=by rw [List.getD_eq_getElem?_getD,List.getElem?_eq_getElem hi];rfl
      rw [eg,eg2];exact spot_step _
 ·have:p=[]:=List.eq_nil_of_length_eq_zero (by omega)
  subst this;rfl
def xL:List zR→List zR→Bool
 | [],path=>path.length==0
 | x::t,path=>x==[42,42] || (match path with | []=>false | y::r=>(x==[42] || x==y)&&xL t r)
theorem refMatchN_is:∀ (p path:List zR) (n:Nat),p.length < n→xS n p path=some (xL p path)
 | [],path,n,h=>by
  cases n with
  | zero=>omega
  | succ n=>simp [xS,xL];rw [Bool.eq_iff_iff];simp
 | x::t,path,n,h=>by
  cases n with
  | zero=>omega
  | succ n =>
   have e0:((((x::t).length:Nat):Int)==0)=false:=by rw [beq_eq_false_iff_ne];simp;omega
   have ei:idx (x::t) (0:Int)=some x:=yn (i:=0) rfl
   rw [xS,e0,ei]
   simp only [Option.bind_some]
   cases hx:(x==([42,42]:zR))
   ·cases path with
    | nil=>simp [xP,xL,hx]
    | cons y r =>
     have ih:=refMatchN_is t r n (by simpa using h)
     have e1:decide ((((y::r).length:Nat):Int) > 0)=true:=decide_eq_true (by simp only [List.length_cons];omega)
     have t1:(List.take (((x::t).length:Nat):Int).toNat (x::t)).drop (1:Int).toNat=t:=by rw [Int.toNat_natCast,List.take_length];rfl
     have t2:(List.take (((y::r).length:Nat):Int).toNat (y::r)).drop (1:Int).toNat=r:=by rw [Int.toNat_natCast,List.take_length];rfl
     have g1:(x::t).getD (0:Int).toNat default=x:=rfl
     have g2:(y::r).getD (0:Int).toNat default=y:=rfl
     rw [zS (by intro _;simp only [List.length_cons];omega),zS (by intro _;simp only [List.length_cons];omega),zS (by intro _;simp only [List.length_cons];omega),zS (by intro _;simp only [List.length_cons];omega),zS (by intro _;simp only [List.length_cons];omega),e1,t1,t2,g1,g2,ih]
     simp only [xL,hx]
     cases (x==([42]:zR)) <;> cases (x==y) <;> simp
   ·simp [xL,hx]
theorem refMatch_is (p path:List zR):ref30Xmatches p path=some (xL p path):=anyN_of (p.length+1) (fun n hn=>refMatchN_is p path n (by omega))
theorem refMatch_all:∀ (p path:List zR),(∀ x ∈ p,spot x=true)→xL p path=(decide (p.length≤path.length)&&decide (path.length≤p.length)&&agreeB p path)
 | [],path,_=>by cases path <;> simp [xL,agreeB]
 | x::t,[],h=>by simp [xL,spot_star (h x (by simp))]
 | x::t,y::r,h=>by
  rw [xL,spot_star (h x (by simp)),refMatch_all t r (fun z hz=>h z (by simp [hz])),agreeB]
  have a1:decide ((x::t).length≤(y::r).length)=decide (t.length≤r.length):=by simp
  have a2:decide ((y::r).length≤(x::t).length)=decide (r.length≤t.length):=by simp
  rw [a1,a2]
  cases (x==[42] || x==y) <;> simp
theorem refMatch_ends:∀ (p path:List zR),(∀ x ∈ p,spot x=true)→xL (p++[[42,42]]) path=(decide (p.length≤path.length)&&agreeB p path)
 | [],path,_=>by simp [xL,agreeB]
 | x::t,[],h=>by simp [xL,spot_star (h x (by simp))]
 | x::t,y::r,h=>by
  rw [List.cons_append,xL,spot_star (h x (by simp)),refMatch_ends t r (fun z hz=>h z (by simp [hz])),agreeB]
  have a1:decide ((x::t).length≤(y::r).length)=decide (t.length≤r.length):=by simp
  rw [a1]
  cases (x==[42] || x==y) <;> simp
theorem ref30Match_is {p path:List zR} (h:p.length≤maxLen):ref30Match p path=some (matchB p path):=by
 unfold ref30Match matchB
 rw [ref30MayPattern_is h]
 cases hp:patB p
 ·simp
 ·simp only [Option.bind_some,ref04MayPath_is,Bool.true_and]
  cases pathB path
  ·simp
  ·simp only [Bool.true_and,beq_self_eq_true,if_true,refMatch_is,Option.bind_some]
   congr 1
   have hs:∀ x ∈ xw p,spot x=true:=by
    unfold patB at hp;simp only [Bool.and_eq_true,List.all_eq_true] at hp;exact hp.2
   cases he:endsB p
   ·have e:xw p=p:=by unfold xw;rw [he];rfl
    rw [e] at hs ⊢
    rw [refMatch_all p path hs];simp
   ·have e:xw p=p.dropLast:=by unfold xw;rw [he];rfl
    rw [e] at hs ⊢
    rw [ends_app he,refMatch_ends _ path hs];simp
noncomputable def roF:Nat→GVarveref07Row→List GRow→Option (Out (List GRow) (List GRow)):=(fun (n1:Nat) (x1:GVarveref07Row) (s1:(List GRow))=>((xP ((s1).length+(([(GRow.mk x1.path x1.l)]:List GRow)).length≤w9) (some (.nxt (s1++([(GRow.mk x1.path x1.l)]:List GRow))))):Option (Out _ (List GRow))))
theorem roT_eq (t0:List GNode):qP t0=((ref07May t0).bind fun v1=>(if (!v1)=true then some ([]:List GRow) else ((ref07Rows t0 ([]:List zR)).bind fun v3=>(lp (yf roF v3 0 ([]:List GRow)) fun (s1:(List GRow))=>some s1)))):=rfl
theorem filt_all {α:Type} (L:List α):L.filter (fun _=>true)=L:=List.filter_eq_self.2 fun _ _=>rfl
theorem r7F_is {n:Nat} {a:List zR} {x:GNode} {s:List GVarveref07Row} (ha:a.length≤1048576) (h:vg n x.subs (a++[x.name])=some ((y7 (a++[x.name]) x.subs).map vR)) (hs:s.length+(rowsN a x).length≤1048576) (i:Nat):r7F n a i x s=some (.nxt (s++(rowsN a x).map vR)):=by
 rw [vM] at hs ⊢
 simp only [List.length_append,List.length_map] at hs
 unfold r7F
 simp only [List.nil_append]
 rw [zS (vi (by simp;omega)),zS (vi (by simp;omega))]
 rw [loop_keep (fun _:GLeaf=>true) (fun l=>(⟨a++[x.name],l⟩:GVarveref07Row)) x.leaves 0 s (vi (by omega)) (fun i y s' _ hl=>by rw [zS (by simpa using hl),if_pos rfl]),ww]
 rw [filt_all]
 rw [h,Option.bind_some,zS (vi (by simp;omega))]
 simp [vR,Function.comp_def]
theorem rows7_is:∀ (n:Nat) (t:List GNode) (a:List zR),GNode.deps t < n→Small t→a.length+GNode.deps t≤1048576→vg n t a=some ((y7 a t).map vR)
 | 0,_,_,h,_,_=>by omega
 | n+1,t,a,h,hs,ha=>by
  rw [rows7_eq]
  have key:∀ (u:List GNode) (i:Nat) (s:List GVarveref07Row),(∀ x ∈ u,x ∈ t)→s.length+(y7 a u).length≤1048576→yf (r7F n a) u i s=some (.inr (s++(y7 a u).map vR)):=by
   intro u
   induction u with
   | nil=>intro i s _ _;simp [yf,y7]
   | cons x r ih =>
    intro i s hm hl
    have e:y7 a (x::r)=rowsN a x++y7 a r:=by rw [x8,List.flatMap_cons,← x8]
    rw [e] at hl ⊢
    simp only [List.length_append] at hl
    have hx:=hm x (by simp)
    have h1:x.dep≤GNode.deps t:=qG hx
    have h2:=wq x
    have hr:=rows7_is n x.subs (a++[x.name]) (by omega) (hs.subs hx) (by simp;omega)
    have hf:=r7F_is (s:=s) (by omega) hr (by omega) i
    simp only [yf,hf]
    rw [ih (i+1) (s++(rowsN a x).map vR) (fun y hy=>hm y (by simp [hy])) (by simp;omega)]
    simp
  rw [key t 0 [] (fun x h=>h) (by simpa using Nat.le_trans (rows_len _ t a (Nat.le_refl _)) hs.2),ww,List.nil_append]
theorem refRows_is {t:List GNode} (h:Small t):qP t=some (if treeB 0 t=true then y7 [] t else []):=by
 rw [roT_eq,ref07May_is h,Option.bind_some]
 cases treeB 0 t with
 | false=>rfl
 | true =>
  have hr:ref07Rows t []=some ((y7 [] t).map vR):=anyN_of (GNode.deps t+1) fun n hn=>rows7_is n t [] (by omega) h (by simpa using h.dep)
  have hl:(y7 [] t).length≤1048576:=Nat.le_trans (rows_len _ t [] (Nat.le_refl _)) h.2
  rw [if_neg (by decide),hr,Option.bind_some,loop_keep (fun _:GVarveref07Row=>true) (fun x=>(⟨x.path,x.l⟩:GRow)) _ 0 [] (vi (by simp;omega)) (fun i y s' _ hl'=>by unfold roF;rw [zS (by simpa using hl'),if_pos rfl]),ww]
  have e:(((y7 [] t).map vR).filter fun _=>true).map (fun x=>(⟨x.path,x.l⟩:GRow))=y7 [] t:=by
   rw [filt_all,List.map_map]
   exact List.map_id' _
  rw [e]
  rfl
end Go.Vv
namespace Go.Vv
open Go
theorem keepL_congr {f g:List zR→Bool} (h:∀ p,f p=g p) (t:List GNode):xN f [] t=xN g [] t:=by
 have:f=g:=funext h
 rw [this]
theorem keptRef_is {t:List GNode} (h:Small t) {p:List zR} (hp:p.length≤maxLen) (m:Bool) :
  ref30Kept t p m=some (if (treeB 0 t&&patB p)=true then (xN (fun q=>matchB p q==m) [] t,0) else ([],2)):=by
 unfold ref30Kept
 rw [ref07May_is h,Option.bind_some]
 cases ht:treeB 0 t with
 | false=>simp
 | true =>
  simp only [Bool.not_true,BEq.rfl,if_true,ref30MayPattern_is hp,Option.bind_some,Bool.true_and]
  cases hq:patB p with
  | false=>simp
  | true =>
   simp only [Bool.not_true,Bool.or_self,Bool.false_eq_true,if_false,if_true,refRows_is h,ht,Option.bind_some]
   have hl:(y7 [] t).length≤1048576:=Nat.le_trans (rows_len _ t [] (Nat.le_refl _)) h.2
   rw [loop_keep (fun r:GRow=>matchB p r.path==m) (fun r=>r) (y7 [] t) 0 [] (by simp;exact Nat.le_trans hl (by decide)) (fun i x s hx hs=>?_)]
   ·have e:[]++((y7 [] t).filter (fun r:GRow=>matchB p r.path==m)).map (fun r=>r)=y7 [] (xN (fun q=>matchB p q==m) [] t):=by
     rw [keep_rows];simp
    rw [ww,e,made_is (h.keep _ []) (keep_may _ t 0 [] ht),Option.bind_some]
   ·rw [ref30Match_is hp,Option.bind_some]
    cases hb:(matchB p x.path==m)
    ·simp
    ·simp only [if_true];rw [zS (by simpa using hs)]
theorem loop_idle {α ρ:Type} {f:Nat→α→Unit→Option (Out ρ Unit)}:∀ (L:List α) (i:Nat),(∀ i x,x ∈ L→f i x ()=some (.nxt ()))→yf f L i ()=some (.inr ())
 | [],_,_=>rfl
 | x::t,i,h=>by
  simp only [yf,h i x (List.mem_cons_self ..)]
  exact loop_idle t (i+1) fun i y hy=>h i y (List.mem_cons_of_mem _ hy)
theorem loop_idleI {α ρ:Type} {f:Nat→α→Unit→Option (Out ρ Unit)}:∀ (L:List α) (i:Nat),(∀ j x,L[j]?=some x→f (i+j) x ()=some (.nxt ()))→yf f L i ()=some (.inr ())
 | [],_,_=>rfl
 | x::t,i,h=>by
  have h0:=h 0 x rfl
  simp only [Nat.add_zero] at h0
  simp only [yf,h0]
  exact loop_idleI t (i+1) fun j y hy=>by have:=h (j+1) y hy;rw [show i+1+j=i+(j+1) by omega];exact this
theorem law30PathsSelect_is {t:List GNode} {p:List zR} (h:Small t) (hp:p.length≤maxLen):wT t p=some true:=by
 unfold wT
 obtain ⟨b1,e1⟩:=ref07Great_tot h
 obtain ⟨b2,e2⟩:=law30Xgreat_is [p]
 rw [e1,e2,law30Xknown_is]
 have k1:xN (fun q=>matchB p q==true) [] t=xN (matchB p) [] t:=keepL_congr (fun q=>by simp) t
 have k2:xN (fun q=>matchB p q==false) [] t=xN (fun q=>!matchB p q) [] t:=keepL_congr (fun q=>by cases matchB p q <;> rfl) t
 have hl:(y7 [] t).length≤1048576:=Nat.le_trans (rows_len _ t [] (Nat.le_refl _)) h.2
 simp only [pathsSelect_is h hp,pathsWithout_is h hp,keptRef_is h hp,k1,k2,Option.bind_some]
 cases b1
 case true=>simp
 cases b2
 case true=>simp
 cases hm:(treeB 0 t&&patB p)
 all_goals
  simp only [Bool.false_eq_true,if_false,BEq.rfl,if_true,Option.bind_some,Bool.or_false,Bool.or_self,ref07Same_refl,Bool.not_true,bne_self_eq_false,refRows_is h,pathsRows_is h,ref30Same_refl]
  have hl':(if treeB 0 t=true then y7 [] t else []).length≤1048576:=by split;exact hl;simp
  rw [zS (by omega),loop_idleI _ 0 (fun j x hx=>?_),ww]
  ·rfl
  ·have hj:=(List.getElem?_eq_some_iff.1 hx).1
   simp only [List.length_range,Int.toNat_natCast] at hj
   rw [Nat.zero_add,qV hj,Option.bind_some,loop_idle _ 0 (fun _ _ _=>rfl),ww,loop_idle _ 0 (fun _ _ _=>rfl),ww]
theorem law30PathsSelect_top (t:List GNode) (p:List zR) (h1:t.length≤maxLen∧∀ y ∈ t,GNode.wf y) (h2:p.length≤maxLen∧∀ y ∈ p,y.length≤maxLen)
  (hb:((t.map GNode.bk).sum+1)+((p.map (fun s=>s.length+1)).sum+1)≤1048576):wT t p=some true :=
 law30PathsSelect_is (small_of h1 (by omega)) h2.1
end Go.Vv
