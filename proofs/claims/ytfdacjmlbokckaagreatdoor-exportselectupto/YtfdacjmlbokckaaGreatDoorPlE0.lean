/- Plain laws, as far as they are leaned on. -/
import Derived.Test.YtfdacjmlbokckaaGreatDoorD
import Derived.Test.YtfdacjmlbokckaaGreatDoorVvRd
namespace Go.Vv
open Go
def alnum (b:UInt8):Bool:=(decide (97≤b.toNat)&&decide (b.toNat≤122)) || (decide (65≤b.toNat)&&decide (b.toNat≤90)) || (decide (48≤b.toNat)&&decide (b.toNat≤57))
def other (r:Int):Bool:=!((decide (97≤r)&&decide (r≤122)) || (decide (65≤r)&&decide (r≤90)) || (decide (48≤r)&&decide (r≤57)))
def runeIdx (q:Int→Bool) (s:List UInt8) (i:Nat):Int :=
 if h:i < s.length then (if q (dec s i).1 then i else if (dec s i).2=0 then -1 else runeIdx q s (i+(dec s i).2)) else -1
termination_by s.length - i
decreasing_by omega
theorem dec_width (s:List UInt8) (i:Nat) (h:i < s.length):1≤(dec s i).2:=by
 have hs:i < (⟨s.toArray⟩:ByteArray).size:=by simpa [ByteArray.size] using h
 by_cases ha:((⟨s.toArray⟩:ByteArray)[i]'hs).toNat < 128
 ·unfold dec;rw [decode_ascii _ i hs ha];exact Nat.le_refl _
 ·exact (decode_high _ i hs (by omega)).2
theorem dec_low {s:List UInt8} {i:Nat} {b:UInt8} (hb:s[i]?=some b) (h:b.toNat < 128):dec s i=(b.toNat,1):=by
 have hl:i < s.length:=(List.getElem?_eq_some_iff.1 hb).1
 have hs:i < (⟨s.toArray⟩:ByteArray).size:=by simpa [ByteArray.size] using hl
 have e:((⟨s.toArray⟩:ByteArray)[i]'hs)=b:=by
  have h1:((⟨s.toArray⟩:ByteArray)[i]'hs)=s[i]:=rfl
  rw [h1];rw [List.getElem?_eq_getElem hl] at hb;injection hb
 unfold dec
 rw [decode_ascii _ i hs (by rw [e];exact h),e]
theorem dec_hi {s:List UInt8} {i:Nat} {b:UInt8} (hb:s[i]?=some b) (h:128≤b.toNat):128≤(dec s i).1:=by
 have hl:i < s.length:=(List.getElem?_eq_some_iff.1 hb).1
 have hs:i < (⟨s.toArray⟩:ByteArray).size:=by simpa [ByteArray.size] using hl
 have e:((⟨s.toArray⟩:ByteArray)[i]'hs)=b:=by
  have h1:((⟨s.toArray⟩:ByteArray)[i]'hs)=s[i]:=rfl
  rw [h1];rw [List.getElem?_eq_getElem hl] at hb;injection hb
 exact (decode_high _ i hs (by rw [e];exact h)).1
theorem other_alnum {b:UInt8}:other (b.toNat:Int)=!alnum b:=by
 unfold other alnum
 congr 1
 rw [Bool.eq_iff_iff]
 simp
 omega
theorem rune_all {s:List UInt8} (h:s.all alnum=true):∀ (n i:Nat),s.length - i=n→runeIdx other s i=-1
 | n,i,hn=>by
  rw [runeIdx.eq_def]
  by_cases hi:i < s.length
  ·rw [dif_pos hi]
   have hb:s[i]?=some s[i]:=List.getElem?_eq_getElem hi
   have ha:alnum s[i]=true:=by rw [List.all_eq_true] at h;exact h _ (List.getElem_mem hi)
   have hlow:s[i].toNat < 128:=by
    unfold alnum at ha
    simp only [Bool.or_eq_true,Bool.and_eq_true,decide_eq_true_eq] at ha
    omega
   rw [dec_low hb hlow]
   simp only [other_alnum,ha,Bool.not_true,Bool.false_eq_true,if_false,Nat.one_ne_zero]
   exact rune_all h (s.length - (i+1)) (i+1) rfl
  ·rw [dif_neg hi]
 termination_by n=>n
 decreasing_by omega
theorem rune_some {s:List UInt8} {k:Nat} {b:UInt8} (hk:s[k]?=some b) (hb:alnum b=false):∀ (n i:Nat),k - i=n→i≤k→0≤runeIdx other s i
 | n,i,hn,hik=>by
  have hl:k < s.length:=(List.getElem?_eq_some_iff.1 hk).1
  have hi:i < s.length:=by omega
  rw [runeIdx.eq_def,dif_pos hi]
  by_cases ho:other ((dec s i).1:Nat)=true
  ·rw [if_pos ho];omega
  ·rw [if_neg ho]
   have hc:s[i]?=some s[i]:=List.getElem?_eq_getElem hi
   have hlow:s[i].toNat < 128:=by
    refine Decidable.byContradiction fun hh=>ho ?_
    have:=dec_hi hc (by omega)
    unfold other
    simp
    omega
   rw [dec_low hc hlow] at ho ⊢
   rw [other_alnum] at ho
   have hne:i ≠ k:=by
    rintro rfl
    rw [hc] at hk;injection hk with hk;subst hk
    rw [hb] at ho;exact ho rfl
   simp only [Nat.one_ne_zero,if_false]
   exact rune_some hk hb (k - (i+1)) (i+1) rfl (by omega)
 termination_by n=>n
 decreasing_by omega

def nameB (s:zM):Bool:=decide (1≤s.length)&&decide (s.length≤12)&&s.all alnum
def pathB (p:List zM):Bool:=decide (1≤p.length)&&decide (p.length≤3)&&p.all nameB
theorem bnd1 (n:Nat):decide ((n:Int) ≥ 1)=decide (1≤n):=decide_eq_decide.2 (by omega)
theorem bnd12 (n:Nat):decide ((n:Int)≤12)=decide (n≤12):=decide_eq_decide.2 (by omega)
theorem bnd3 (n:Nat):decide ((n:Int)≤3)=decide (n≤3):=decide_eq_decide.2 (by omega)
theorem ref04IsName_is (s:zM):qy s=some (nameB s):=by
 unfold qy nameB
 rw [loopL_all alnum false]
 ·split
  ·rename_i h
   simp only [Bool.or_eq_true,decide_eq_true_eq] at h
   congr 1
   rw [eq_comm,Bool.and_eq_false_iff,Bool.and_eq_false_iff]
   left
   rcases h with h | h
   ·exact .inl (decide_eq_false (by omega))
   ·exact .inr (decide_eq_false (by omega))
  ·rename_i h
   simp only [Bool.or_eq_true,decide_eq_true_eq] at h
   have h1:1≤s.length:=by omega
   have h2:s.length≤12:=by omega
   cases ha:s.all alnum <;> simp [h1,h2]
 ·intro i x _
  unfold alnum
  have e:(((decide ((x.toNat:Int) ≥ 97))&&(decide ((x.toNat:Int)≤122)) || (decide ((x.toNat:Int) ≥ 65))&&(decide ((x.toNat:Int)≤90))) || (decide ((x.toNat:Int) ≥ 48))&&(decide ((x.toNat:Int)≤57))) =
    (decide (97≤x.toNat)&&decide (x.toNat≤122) || decide (65≤x.toNat)&&decide (x.toNat≤90) || decide (48≤x.toNat)&&decide (x.toNat≤57)):=by
   rw [Bool.eq_iff_iff];simp;omega
  rw [e]
  generalize (decide (97≤x.toNat)&&decide (x.toNat≤122) || decide (65≤x.toNat)&&decide (x.toNat≤90) || decide (48≤x.toNat)&&decide (x.toNat≤57))=b
  cases b <;> rfl
theorem rune_loop (q:Int→Bool) (s:zM) {f:Nat→Option (Out Int Nat)} (hf:∀ i,f i=if i < s.length then (if q (dec s i).1=true then some (.ret (i:Int)) else some (.nxt (i+(dec s i).2))) else some (.brk i)) :
  ∀ (k i:Nat),s.length - i=k→lp (qY f i) (fun _=>some (-1:Int))=some (runeIdx q s i)
 | k,i,hk=>by
  rw [loopW_eq,runeIdx.eq_def,hf]
  by_cases h:i < s.length
  ·have hw:=dec_width s i h
   rw [if_pos h,dif_pos h]
   by_cases hq:q (dec s i).1=true
   ·simp [hq]
   ·have h0:¬ (dec s i).2=0:=by omega
    simp only [if_neg hq,if_neg h0]
    exact rune_loop q s hf (s.length - (i+(dec s i).2)) _ rfl
  ·rw [if_neg h,dif_neg h];rfl
 termination_by k=>k
 decreasing_by omega
theorem stringsContains_other (s:zM):xr s (fun x=>qe x)=some (!s.all alnum):=by
 have e:(fun x=>qe x)=fun x=>some (other x):=by
  funext x
  unfold qe other
  congr 1
  rw [Bool.eq_iff_iff];simp
 unfold xr va wG
 rw [e,rune_loop other s (fun i=>by simp) _ 0 rfl]
 simp only [Option.bind_some]
 congr 1
 cases h:s.all alnum with
 | true=>rw [rune_all h _ 0 rfl];rfl
 | false =>
  rw [List.all_eq_false] at h
  obtain ⟨b,hb,hn⟩:=h
  obtain ⟨k,hk,rfl⟩:=List.getElem_of_mem hb
  have:=rune_some (List.getElem?_eq_getElem hk) (by simpa using hn) _ 0 rfl (Nat.zero_le _)
  simp [this]
theorem opIsName_is (s:zM):opIsName s=some (nameB s):=by
 unfold opIsName nameB
 rw [stringsContains_other,bnd1,bnd12]
 cases h1:decide (1≤s.length) <;> cases h2:decide (s.length≤12) <;> simp
theorem contains_is {f:zM→Option Bool} {q:zM→Bool} (p:List zM) (hf:∀ x ∈ p,f x=some (q x)):yE p f=some (p.any q):=by
 unfold yE xH
 rw [first_loop p hf];simp only [Option.bind_some,firstI_any]
theorem opMayPath_is (p:List zM):opMayPath p=some (pathB p):=by
 unfold opMayPath pathB
 rw [contains_is (q:=fun s=>!nameB s) p (fun x _=>by unfold opMayPathC1;rw [opIsName_is];rfl),bnd1,bnd3]
 have e:p.any (fun s=>!nameB s)=!p.all nameB:=by rw [Bool.eq_iff_iff];simp
 rw [e]
 cases h1:decide (1≤p.length) <;> cases h2:decide (p.length≤3) <;> simp
def actorB (a:GActor):Bool:=decide (a.rep < 16)&&decide (a.inc ≥ 1)&&decide (a.inc≤4)
def vO (d:GDot):Bool:=actorB d.actor&&decide (d.seq ≥ 1)&&decide (d.seq≤1048576)
theorem dotMay_is (d:GDot):dotMay d=some (vO d):=rfl
theorem ref03MayActor_is (a:GActor):vq a=some (actorB a):=by
 unfold vq actorB
 have:decide (a.rep≤15)=decide (a.rep < 16):=decide_eq_decide.2 (by omega)
 rw [this]
theorem ref03May_is (d:GDot):ref03May d=some (vO d):=by unfold ref03May;rw [ref03MayActor_is];rfl
def vY (a b:GDot):Bool:=if a.actor.rep ≠ b.actor.rep then decide (a.actor.rep < b.actor.rep) else if a.actor.inc ≠ b.actor.inc then decide (a.actor.inc < b.actor.inc) else decide (a.seq < b.seq)
theorem ref03Less_is (a b:GDot):ref03Less a b=some (vY a b):=by
 unfold ref03Less vY
 by_cases h1:a.actor.rep=b.actor.rep <;> by_cases h2:a.actor.inc=b.actor.inc <;> simp [h1,h2]
def cmpI (a b:Int):Int:=if a < b then -1 else if b < a then 1 else 0
theorem cmpU8is (a b:Int):wB a b=some (cmpI a b):=by
 unfold wB wY cmpI;simp only [bne_self_eq_false,Option.bind_some,Bool.false_eq_true,if_false,decide_eq_true_eq,gt_iff_lt]
 split <;> (try split) <;> rfl
theorem cmpU32is (a b:Int):wi a b=some (cmpI a b):=by
 unfold wi wA cmpI;simp only [bne_self_eq_false,Option.bind_some,Bool.false_eq_true,if_false,decide_eq_true_eq,gt_iff_lt]
 split <;> (try split) <;> rfl
theorem cmpU64is (a b:Int):xD a b=some (cmpI a b):=by
 unfold xD wz cmpI;simp only [bne_self_eq_false,Option.bind_some,Bool.false_eq_true,if_false,decide_eq_true_eq,gt_iff_lt]
 split <;> (try split) <;> rfl
def or2 (a b:Int):Int:=if a ≠ 0 then a else b
theorem cmpOr2_is (a b:Int):cmpOrInt [a,b]=some (or2 a b):=by
 unfold cmpOrInt or2
 by_cases h1:a=0 <;> by_cases h2:b=0 <;> simp [z8,h1,h2]
def actorCmp (a b:GActor):Int:=or2 (cmpI a.rep b.rep) (cmpI a.inc b.inc)
def dotCmp (a b:GDot):Int:=or2 (actorCmp a.actor b.actor) (cmpI a.seq b.seq)
theorem dotXcompare_is (a b:GActor):qK a b=some (actorCmp a b):=by
 unfold qK;rw [cmpU8is,cmpU32is];simp only [Option.bind_some];rw [cmpOr2_is];rfl
theorem dotCompare_is (a b:GDot):qp a b=some (dotCmp a b):=by
 unfold qp;rw [dotXcompare_is,cmpU64is];simp only [Option.bind_some];rw [cmpOr2_is];rfl
theorem dotCmp_lt (a b:GDot):decide (dotCmp a b ≥ 0)=!vY a b:=by
 unfold dotCmp actorCmp vY cmpI or2
 grind

def rising:List GDot→Bool
 | a::b::r=>vY a b&&rising (b::r)
 | _=>true
def wj (ds:List GDot) (i:Nat) (x:GDot):Bool:=decide (i=0) || vY (ds.getD (i - 1) default) x
theorem rising_loop (ds:List GDot) {g:Nat→GDot→Unit→Option (Out Bool Unit)}
  (hg:∀ i x,ds[i]?=some x→g i x ()=if (vO x&&wj ds i x)=true then some (.nxt ()) else some (.ret false)) :
  lp (z8 g ds 0 ()) (fun _=>some true)=some (ds.all vO&&rising ds):=by
 have key:∀ (L pre:List GDot),ds=pre++L→lp (z8 g L pre.length ()) (fun _=>some true)=some (L.all vO&&rising (match pre.getLast? with | some y=>y::L | none=>L)):=by
  intro L
  induction L with
  | nil=>intro pre h;cases hp:pre.getLast? <;> simp [z8,rising]
  | cons x t ih =>
   intro pre h
   have hx:ds[pre.length]?=some x:=by rw [h];simp
   have ih':=ih (pre++[x]) (by rw [h];simp)
   simp only [List.length_append,List.length_cons,List.length_nil,Nat.zero_add,List.getLast?_append,List.getLast?_singleton,Option.some_or] at ih'
   simp only [z8,hg _ _ hx]
   cases hp:pre.getLast? with
   | none =>
    have hpre:pre=[]:=List.getLast?_eq_none_iff.1 hp
    subst hpre
    simp only [List.length_nil,Nat.zero_add] at ih' ⊢
    cases hd:vO x <;> simp [wj,hd,ih']
   | some y =>
    have hne:pre ≠ []:=by rintro rfl;simp at hp
    have h0:0 < pre.length:=List.length_pos_iff.2 hne
    have hy:ds.getD (pre.length - 1) default=y:=by
     rw [List.getD_eq_getElem?_getD,h,List.getElem?_append_left (by omega)]
     rw [List.getLast?_eq_getElem?] at hp;rw [hp];rfl
    have ha:wj ds pre.length x=vY y x:=by
     unfold wj;rw [hy]
     have:decide (pre.length=0)=false:=decide_eq_false (by omega)
     rw [this];rfl
    rw [ha]
    cases hd:vO x <;> cases hlt:vY y x <;> simp [hd,hlt,ih',rising]
 have:=key ds [] rfl
 simpa using this
theorem same_loop {α:Type} [DecidableEq α] (M:List α) {eq:α→α→Bool} (he:∀ a b,eq a b=decide (a=b)) {f:Nat→α→Unit→Option (Out Bool Unit)} :
  ∀ (L:List α) (i:Nat),L.length+i=M.length→(∀ j x,L[j]?=some x→f (i+j) x ()=(idx M ((i+j:Nat):Int)).bind fun y=>if (!eq x y)=true then some (.ret false) else some (.nxt ())) →
  z8 f L i ()=if L=M.drop i then some (.inr ()) else some (.inl false)
 | [],i,hl,_=>by
  rw [List.drop_of_length_le (by simp at hl;omega)];rfl
 | x::t,i,hl,h=>by
  simp only [List.length_cons] at hl
  have hi:i < M.length:=by omega
  have h0:=h 0 x rfl
  simp only [Nat.add_zero] at h0
  rw [idx_at hi] at h0
  have ih:=same_loop M he (f:=f) t (i+1) (by omega) (fun j y hj=>by have:=h (j+1) y hj;rw [show i+1+j=i+(j+1) by omega];exact this)
  have e:M.drop i=M[i]::M.drop (i+1):=(List.getElem_cons_drop hi).symm
  simp only [z8,h0,Option.bind_some,he,e]
  by_cases hx:x=M[i]
  ·simp only [hx,decide_true,Bool.not_true,Bool.false_eq_true,if_false,ih,List.cons.injEq,true_and]
  ·have hne:¬ (x::t=M[i]::M.drop (i+1)):=fun hh=>hx (List.cons.inj hh).1
   simp only [decide_eq_false hx,Bool.not_false,if_true,if_neg hne]
theorem dotEq (a b:GDot):(a.actor.rep==b.actor.rep&&(a.actor.inc==b.actor.inc&&(a.seq==b.seq&&true)))=decide (a=b):=by
 rcases a with ⟨⟨a1,a2⟩,a3⟩;rcases b with ⟨⟨b1,b2⟩,b3⟩
 rw [Bool.eq_iff_iff];simp [and_assoc]
theorem slicesEqualDot_is (L M:List GDot):wP L M=some (decide (L=M)):=by
 unfold wP
 by_cases hl:L.length=M.length
 ·have e:((L.length:Int) != (M.length:Int))=false:=by simp;omega
  rw [e,same_loop M dotEq L 0 (by omega) (fun j x hj=>by simp)]
  by_cases h:L=M <;> simp [h]
 ·have e:((L.length:Int) != (M.length:Int))=true:=by simp;omega
  rw [e,decide_eq_false (fun h=>hl (by rw [h]))];rfl
section
variable {α ρ:Type}
def allI (g:Nat→α→Bool) (L:List α):Bool:=L.zipIdx.all fun p=>g p.2 p.1
theorem wC {g:Nat→α→Bool} {L:List α}:allI g L=true ↔ ∀ i x,L[i]?=some x→g i x=true:=by
 unfold allI
 rw [List.all_eq_true]
 constructor
 ·intro h i x hx
  exact h (x,i) (List.mem_zipIdx_iff_getElem?.2 hx)
 ·rintro h ⟨x,i⟩ hx
  exact h i x (List.mem_zipIdx_iff_getElem?.1 hx)
theorem loopL_allI (g:Nat→α→Bool) {r:ρ} {f:Nat→α→Unit→Option (Out ρ Unit)}:∀ (L:List α) (k:Nat),(∀ i x,L[i]?=some x→f (k+i) x ()=if g (k+i) x=true then some (.nxt ()) else some (.ret r)) →
  z8 f L k ()=if ((L.zipIdx k).all fun p=>g p.2 p.1)=true then some (.inr ()) else some (.inl r)
 | [],_,_=>rfl
 | x::t,k,h=>by
  have h0:=h 0 x rfl
  simp only [Nat.add_zero] at h0
  have ih:=loopL_allI g (f:=f) (r:=r) t (k+1) (fun i y hy=>by have:=h (i+1) y (by simpa using hy);rw [show k+1+i=k+(i+1) by omega];exact this)
  simp only [z8,h0,List.zipIdx_cons,List.all_cons]
  by_cases hg:g k x=true
  ·simp only [hg,if_true,ih,Bool.true_and]
  ·simp only [hg,Bool.false_eq_true,if_false,Bool.false_and]
theorem lp_all {σ:Type} (g:Nat→α→Bool) {r:σ} {L:List α} {f:Nat→α→Unit→Option (Out σ Unit)} {rest:Unit→Option σ} (hf:∀ i x,L[i]?=some x→f i x ()=if g i x=true then some (.nxt ()) else some (.ret r)) :
  lp (z8 f L 0 ()) rest=if allI g L=true then rest () else some r:=by
 rw [loopL_allI g L 0 (fun i x hx=>by simpa using hf i x hx)]
 unfold allI
 split <;> rfl
theorem lp_all0 {σ:Type} (g:α→Bool) {r:σ} {L:List α} {f:Nat→α→Unit→Option (Out σ Unit)} {rest:Unit→Option σ} (hf:∀ i x,L[i]?=some x→f i x ()=if g x=true then some (.nxt ()) else some (.ret r)) :
  lp (z8 f L 0 ()) rest=if L.all g=true then rest () else some r:=by
 rw [lp_all (fun _=>g) hf]
 have:allI (fun _=>g) L=L.all g:=by
  rw [Bool.eq_iff_iff,wC,List.all_eq_true]
  exact ⟨fun h x hx=>by obtain ⟨i,hi⟩:=List.mem_iff_getElem?.1 hx;exact h i x hi,fun h i x hx=>h x (List.mem_of_getElem? hx)⟩
 rw [this]
end
theorem vG {j:Nat} (hl:j+1≤maxLen):IntKind.wrap .i64 (((j+1:Nat):Int) - 1)=(j:Int):=by
 simp only [maxLen] at hl;rw [w64n (by omega)];omega
theorem qz (j:Nat):decide (((j+1:Nat):Int) > 0)=true:=decide_eq_true (by omega)
def timeB (n:Int):Bool:=decide (n ≥ 1)&&decide (n≤1099511627776)
def aheadI (a b:GItem):Bool:=if a.time ≠ b.time then decide (a.time < b.time) else vY a.dot b.dot
theorem leafXisTime_is (n:Int):qC n=some (timeB n):=rfl
theorem leafXisText_is (s:zM):vK s=some (decide (s.length≤40)):=by unfold vK;rw [decide_eq_decide.2 (show ((s.length:Int)≤40) ↔ s.length≤40 by omega)]
theorem dotCmp_neg (a b:GDot):decide (dotCmp a b < 0)=vY a b:=by
 have h:=dotCmp_lt a b
 have:decide (dotCmp a b < 0)=!decide (dotCmp a b ≥ 0):=by rw [Bool.eq_iff_iff];simp
 rw [this,h,Bool.not_not]
theorem leafAhead_is (a:Int) (d:GDot) (b:Int) (o:GDot):leafAhead a d b o=some (if a ≠ b then decide (a < b) else vY d o):=by
 unfold leafAhead leafXcompare
 rw [cmpU64is,dotCompare_is]
 simp only [Option.bind_some,cmpOr2_is]
 congr 1
 by_cases h:a=b
 ·subst h
  have:cmpI a a=0:=by unfold cmpI;simp
  simp [or2,this,dotCmp_neg]
 ·have:cmpI a b ≠ 0:=by unfold cmpI;split <;> (try split) <;> omega
  simp only [or2,this,ne_eq,not_false_eq_true,if_true,h]
  unfold cmpI;rw [Bool.eq_iff_iff];simp only [decide_eq_true_eq];split <;> (try split) <;> omega
theorem ref05Ahead_is (a:Int) (d:GDot) (b:Int) (o:GDot):ref05Ahead a d b o=some (if a ≠ b then decide (a < b) else vY d o):=by
 unfold ref05Ahead
 by_cases h:a=b <;> simp [h,ref03Less_is]
def prevI {α:Type} [Inhabited α] (L:List α) (i:Nat):α:=L.getD (i - 1) default
def vu (timed:Bool) (x:GItem):Bool:=vO x.dot&&decide (x.text.length≤40)&&(if timed then timeB x.time else decide (x.time=0))
def riseB (L:List GItem):Bool:=allI (fun i x=>decide (i=0) || aheadI (prevI L i) x) L
def onceB (L:List GItem):Bool:=decide ((L.map (·.dot)).Nodup)
theorem eqb_iff (a b:GDot):GDot.eqb a b=decide (a=b):=by unfold GDot.eqb;exact dotEq a b
def vW (m:List (GDot×Int)):List GDot:=m.map (·.1)
theorem mput_keys (m:List (GDot×Int)) (k:GDot) (v:Int):vW (mput GDot.eqb m k v)=if k ∈ vW m then vW m else vW m++[k]:=by
 induction m with
 | nil=>simp [mput,vW]
 | cons e r ih =>
  simp only [mput,eqb_iff]
  by_cases h:k=e.1
  ·simp [h,vW]
  ·simp only [decide_eq_false h,Bool.false_eq_true,if_false,vW,List.map_cons,List.mem_cons] at ih ⊢
   rw [ih]
   by_cases h2:k ∈ r.map (·.1) <;> simp [h,h2]
theorem twice_fold:∀ (L:List GItem) (m:List (GDot×Int)),(vW m).Nodup →
  (L.foldl (fun s x=>mput GDot.eqb s x.dot (IntKind.wrap .i64 ((x7 GDot.eqb 0 s x.dot)+1))) m).length≤m.length+L.length ∧
  ((L.foldl (fun s x=>mput GDot.eqb s x.dot (IntKind.wrap .i64 ((x7 GDot.eqb 0 s x.dot)+1))) m).length=m.length+L.length ↔ (vW m++L.map (·.dot)).Nodup)
 | [],m,h=>by simp [h]
 | x::t,m,h=>by
  simp only [List.foldl_cons]
  have hk:=mput_keys m x.dot (IntKind.wrap .i64 ((x7 GDot.eqb 0 m x.dot)+1))
  generalize hm:mput GDot.eqb m x.dot (IntKind.wrap .i64 ((x7 GDot.eqb 0 m x.dot)+1))=m' at hk
  have hl:m'.length=(vW m').length:=by simp [vW]
  have hl0:m.length=(vW m).length:=by simp [vW]
  by_cases hx:x.dot ∈ vW m
  ·rw [if_pos hx] at hk
   have ih:=twice_fold t m' (by rw [hk];exact h)
   rw [hk] at ih hl
   refine ⟨by simp only [List.length_cons];omega,?_⟩
   constructor
   ·intro he;simp only [List.length_cons] at he;omega
   ·intro hn
    rw [List.nodup_append] at hn
    exact absurd rfl (hn.2.2 _ hx _ (by simp))
  ·rw [if_neg hx] at hk
   have hnd:(vW m++[x.dot]).Nodup:=by
    rw [List.nodup_append];refine ⟨h,by simp,fun a ha b hb=>?_⟩
    simp at hb;subst hb;rintro rfl;exact hx ha
   have ih:=twice_fold t m' (by rw [hk];exact hnd)
   rw [hk] at ih hl
   simp only [List.length_append,List.length_cons,List.length_nil] at hl
   refine ⟨by simp only [List.length_cons];omega,?_⟩
   have e:vW m++[x.dot]++t.map (·.dot)=vW m++(x::t).map (·.dot):=by simp
   rw [← e,← ih.2]
   simp only [List.length_cons];omega
theorem leafXtwice_is (L:List GItem):leafXtwice L=some (!onceB L):=by
 unfold leafXtwice
 rw [loopL_fold (fun s x=>mput GDot.eqb s x.dot (IntKind.wrap .i64 ((x7 GDot.eqb 0 s x.dot)+1))) L 0 [] (fun _ _ _ _=>rfl)]
 have h:=twice_fold L [] (by simp [vW])
 simp only [List.length_nil,Nat.zero_add,vW,List.map_nil,List.nil_append] at h
 simp only [lp_inr,onceB]
 congr 1
 generalize List.length (List.foldl _ _ _)=n at h ⊢
 by_cases hn:(L.map (·.dot)).Nodup
 ·have:=h.2.2 hn
  rw [decide_eq_true hn,decide_eq_false (by omega)];rfl
 ·have h1:n ≠ L.length:=fun e=>hn (h.2.1 e)
  rw [decide_eq_false hn,decide_eq_true (by omega)];rfl
theorem leafXitems_is {L:List GItem} (hl:L.length≤maxLen) (timed:Bool):qh L timed=some (L.all (vu timed)&&riseB L&&onceB L):=by
 unfold qh
 rw [lp_all (r:=false) (fun i x=>vu timed x&&(decide (i=0) || aheadI (prevI L i) x))]
 ·rw [leafXtwice_is]
  have e:allI (fun i x=>vu timed x&&(decide (i=0) || aheadI (prevI L i) x)) L=(L.all (vu timed)&&riseB L):=by
   rw [Bool.eq_iff_iff,Bool.and_eq_true,riseB,wC,wC,List.all_eq_true]
   constructor
   ·intro h
    exact ⟨fun x hx=>by obtain ⟨i,hi⟩:=List.mem_iff_getElem?.1 hx;have:=h i x hi;simp only [Bool.and_eq_true] at this;exact this.1,fun i x hx=>by have:=h i x hx;simp only [Bool.and_eq_true] at this;exact this.2⟩
   ·rintro ⟨h1,h2⟩ i x hx
    simp only [Bool.and_eq_true]
    exact ⟨h1 x (List.mem_of_getElem? hx),h2 i x hx⟩
  rw [e]
  simp only [Option.bind_some,Bool.not_not]
  cases L.all (vu timed)&&riseB L <;> simp
 ·intro i x hx
  have hi:i < L.length:=(List.getElem?_eq_some_iff.1 hx).1
  simp only [dotMay_is,leafXisText_is,leafXisTime_is,Option.bind_some,leafAhead_is]
  have hb:vu timed x=(vO x.dot&&decide (x.text.length≤40)&&(timed==timeB x.time)&&(timed || decide (x.time=0))):=by
   unfold vu
   cases timed
   ·by_cases h0:x.time=0
    ·simp [h0,show timeB 0=false from rfl]
    ·simp [h0]
   ·simp
  rw [hb]
  cases hd:vO x.dot
  ·simp
  cases ht:decide (x.text.length≤40)
  ·simp
  by_cases htt:timed=timeB x.time
  ·have hz:(x.time != 0)=!decide (x.time=0):=by rw [Bool.eq_iff_iff];simp
   have e1:(timed==timeB x.time)=true:=by simpa using htt
   rw [hz,e1]
   cases hzz:(timed || decide (x.time=0))
   ·have:(!timed&&!decide (x.time=0))=true:=by rw [← Bool.not_or,hzz];rfl
    simp [this]
   have:(!timed&&!decide (x.time=0))=false:=by rw [← Bool.not_or,hzz];rfl
   rw [this]
   rcases i with _ | j
   ·simp [vP,htt]
   ·rw [vG (by simp only [maxLen] at hl ⊢;omega),qz]
    have hj:(j:Int) < (L.length:Int):=by omega
    simp [vP,hj,prevI,aheadI,htt]
    by_cases hq:(L[j]?.getD default).time=x.time
    ·cases hdl:vY (L[j]?.getD default).dot x.dot <;> simp [hq,hdl]
    ·by_cases hlt:(L[j]?.getD default).time < x.time
     ·simp [hq,hlt,Int.not_le.2 hlt]
     ·simp [hq,hlt,Int.not_lt.1 hlt]
  ·have e1:(timed==timeB x.time)=false:=by simpa using htt
   rw [e1];simp [htt]

theorem itemEq (a b:GItem):(a.time==b.time&&(a.dot.actor.rep==b.dot.actor.rep&&(a.dot.actor.inc==b.dot.actor.inc&&(a.dot.seq==b.dot.seq&&(a.text==b.text&&true)))))=decide (a=b):=by
 rcases a with ⟨a0,⟨⟨a1,a2⟩,a3⟩,a4⟩;rcases b with ⟨b0,⟨⟨b1,b2⟩,b3⟩,b4⟩
 rw [Bool.eq_iff_iff];simp [and_assoc]
theorem slicesEqualItem_is (L M:List GItem):ww L M=some (decide (L=M)):=by
 unfold ww
 by_cases hl:L.length=M.length
 ·have e:((L.length:Int) != (M.length:Int))=false:=by simp;omega
  rw [e,same_loop M itemEq L 0 (by omega) (fun j x hj=>by simp)]
  by_cases h:L=M <;> simp [h]
 ·have e:((L.length:Int) != (M.length:Int))=true:=by simp;omega
  rw [e,decide_eq_false (fun h=>hl (by rw [h]))];rfl
theorem leafSame_is (a b:GLeaf):qD a b=some (decide (a=b)):=by
 unfold qD
 simp only [slicesEqualItem_is,slicesEqualDot_is,dotEq]
 rcases a with ⟨a0,a1,a2,a3,a4,a5,a6⟩;rcases b with ⟨b0,b1,b2,b3,b4,b5,b6⟩
 simp only [GLeaf.mk.injEq]
 by_cases h0:a0=b0 <;> by_cases h1:a1=b1 <;> by_cases h2:a2=b2 <;> by_cases h3:a3=b3 <;> by_cases h4:a4=b4 <;> by_cases h5:a5=b5 <;> by_cases h6:a6=b6 <;> simp [h0,h1,h2,h3,h4,h5,h6]
def dot0:GDot:=⟨⟨0,0⟩,0⟩
def zeroB (l:GLeaf):Bool:=decide (l.time=0)&&decide (l.dot=dot0)&&decide (l.text=[])
def tombsB (l:GLeaf):Bool:=l.tombs.all vO&&rising l.tombs&&l.tombs.all (fun d=>!l.items.any fun x=>decide (x.dot=d))
def leafB (l:GLeaf):Bool :=
 if l.typ=1 then zeroB l&&decide (l.items=[])&&decide (l.tombs=[])
 else if l.typ=2 then decide (l.n=0)&&decide (l.items=[])&&decide (l.tombs=[])&&(if l.time=0 then decide (l.dot=dot0)&&decide (l.text=[]) else timeB l.time&&vO l.dot&&decide (l.text.length≤40))
 else if l.typ=3 then decide (l.n=0)&&zeroB l&&(l.items.all (vu false)&&riseB l.items&&onceB l.items)&&tombsB l
 else if l.typ=4 then decide (l.n=0)&&zeroB l&&decide (l.tombs=[])&&(l.items.all (vu true)&&riseB l.items&&onceB l.items)
 else false
theorem containsItem_is {f:GItem→Option Bool} {q:GItem→Bool} (p:List GItem) (hf:∀ x ∈ p,f x=some (q x)):y6 p f=some (p.any q):=by
 unfold y6 x9
 rw [first_loop p hf,Option.bind_some,firstI_any]
theorem leafXhas_is (L:List GItem) (d:GDot):leafXhas L d=some (L.any fun x=>decide (x.dot=d)):=by
 unfold leafXhas
 rw [containsItem_is (q:=fun x=>decide (x.dot=d)) L (fun x _=>by unfold leafXhasC1;rw [dotEq]),Option.bind_some]
theorem rising_allI (ds:List GDot):rising ds=allI (fun i x=>wj ds i x) ds:=by
 have h:=rising_loop ds (g:=fun i x _=>if (vO x&&wj ds i x)=true then some (.nxt ()) else some (.ret false)) (fun _ _ _=>rfl)
 have key:∀ (L pre:List GDot),ds=pre++L→rising (match pre.getLast? with | some y=>y::L | none=>L)=(L.zipIdx pre.length).all fun p=>wj ds p.2 p.1:=by
  intro L
  induction L with
  | nil=>intro pre _;cases pre.getLast? <;> simp [rising]
  | cons x t ih =>
   intro pre hd
   have ih':=ih (pre++[x]) (by rw [hd];simp)
   simp only [List.length_append,List.length_cons,List.length_nil,Nat.zero_add,List.getLast?_append,List.getLast?_singleton,Option.some_or] at ih'
   simp only [List.zipIdx_cons,List.all_cons]
   cases hp:pre.getLast? with
   | none =>
    have hpre:pre=[]:=List.getLast?_eq_none_iff.1 hp
    subst hpre
    simp only [List.length_nil,Nat.zero_add] at ih' ⊢
    rw [ih'];simp [wj]
   | some y =>
    have hne:pre ≠ []:=by rintro rfl;simp at hp
    have h0:0 < pre.length:=List.length_pos_iff.2 hne
    have hy:ds.getD (pre.length - 1) default=y:=by
     rw [List.getD_eq_getElem?_getD,hd,List.getElem?_append_left (by omega)]
     rw [List.getLast?_eq_getElem?] at hp;rw [hp];rfl
    have ha:wj ds pre.length x=vY y x:=by
     unfold wj;rw [hy,decide_eq_false (by omega)];rfl
    rw [ha,← ih'];simp [rising]
 simpa [allI] using key ds [] rfl
theorem leafXtombs_is {l:GLeaf} (hl:l.tombs.length≤maxLen):leafXtombs l=some (tombsB l):=by
 unfold leafXtombs
 rw [lp_all (r:=false) (fun i x=>vO x&&wj l.tombs i x&&!(l.items.any fun y=>decide (y.dot=x)))]
 ·have e:allI (fun i x=>vO x&&wj l.tombs i x&&!(l.items.any fun y=>decide (y.dot=x))) l.tombs=tombsB l:=by
   unfold tombsB
   rw [Bool.eq_iff_iff,rising_allI,Bool.and_eq_true,Bool.and_eq_true,wC,wC,List.all_eq_true,List.all_eq_true]
   constructor
   ·intro h
    refine ⟨⟨fun x hx=>?_,fun i x hx=>?_⟩,fun x hx=>?_⟩
    ·obtain ⟨i,hi⟩:=List.mem_iff_getElem?.1 hx;have:=h i x hi;simp only [Bool.and_eq_true] at this;exact this.1.1
    ·have:=h i x hx;simp only [Bool.and_eq_true] at this;exact this.1.2
    ·obtain ⟨i,hi⟩:=List.mem_iff_getElem?.1 hx;have:=h i x hi;simp only [Bool.and_eq_true] at this;exact this.2
   ·rintro ⟨⟨h1,h2⟩,h3⟩ i x hx
    have hm:=List.mem_of_getElem? hx
    simp only [Bool.and_eq_true]
    exact ⟨⟨h1 x hm,h2 i x hx⟩,h3 x hm⟩
  rw [e];cases tombsB l <;> rfl
 ·intro i x hx
  have hi:i < l.tombs.length:=(List.getElem?_eq_some_iff.1 hx).1
  simp only [dotMay_is,Option.bind_some,dotCompare_is,leafXhas_is]
  cases hd:vO x
  ·simp [vP]
  rcases i with _ | j
  ·cases hh:(l.items.any fun y=>decide (y.dot=x)) <;> simp [vP,wj]
  ·rw [vG (by simp only [maxLen] at hl ⊢;omega),qz]
   have hj:(j:Int) < (l.tombs.length:Int):=by omega
   have ha:wj l.tombs (j+1) x=vY (l.tombs.getD j default) x:=by unfold wj;simp
   have e:=dotCmp_lt (l.tombs.getD j default) x
   rw [yg (by intro _;omega),ha,Int.toNat_natCast]
   generalize l.tombs.getD j default=y at e ⊢
   simp only [Bool.not_true,BEq.rfl,Bool.true_and,if_true,Option.bind_some,e,Bool.false_or]
   cases hlt:vY y x
   ·simp
   ·cases hh:(l.items.any fun y=>decide (y.dot=x)) <;> simp
theorem leafMay_is {l:GLeaf} (hi:l.items.length≤maxLen) (ht:l.tombs.length≤maxLen):leafMay l=some (leafB l):=by
 unfold leafMay leafB
 simp only [leafSame_is,leafXisTime_is,dotMay_is,leafXisText_is,leafXitems_is hi,leafXtombs_is ht,dotEq,Option.bind_some]
 rcases l with ⟨t,n,tm,d,tx,it,tb⟩
 simp only [GLeaf.mk.injEq,zeroB,beq_iff_eq,dot0]
 by_cases h1:t=1
 ·simp only [h1,if_true]
  congr 1;rw [Bool.eq_iff_iff];simp [and_assoc]
  intros;exact decide_eq_true_iff.symm
 by_cases h2:t=2
 ·subst h2
  by_cases h0:tm=0
  ·subst h0
   by_cases hd:d=⟨⟨0,0⟩,0⟩
   ·by_cases hx:tx=[]
    ·simp [hd,hx];rw [Bool.eq_iff_iff];simp [and_assoc]
    ·simp [hd,hx]
   ·have hz:((0:Int)==0&&!decide (d=⟨⟨0,0⟩,0⟩))=true:=by simp [hd]
    simp [hd]
    intro e1
    rcases d with ⟨⟨d1,d2⟩,d3⟩
    simp_all
  ·cases htt:timeB tm <;> cases hdd:vO d <;> cases hxx:decide (tx.length≤40) <;> simp_all [and_assoc]
   rw [Bool.eq_iff_iff];simp [and_assoc]
 by_cases h3:t=3
 ·subst h3
  cases ha:(it.all (vu false)&&riseB it&&onceB it) <;> cases hb:tombsB ⟨3,n,tm,d,tx,it,tb⟩ <;> simp [and_assoc]
  rw [Bool.eq_iff_iff];simp [and_assoc]
  intros;exact decide_eq_true_iff.symm
 by_cases h4:t=4
 ·subst h4
  cases ha:(it.all (vu true)&&riseB it&&onceB it) <;> simp [and_assoc]
  rw [Bool.eq_iff_iff];simp [and_assoc]
  intros;exact decide_eq_true_iff.symm
 simp [h1,h2,h3,h4]

theorem ref05Item_is (L:List GItem) (d:GDot):ref05Item L d=some (ql (fun x=>decide (x.dot=d)) L):=by
 unfold ref05Item
 rw [loopL_first (fun x:GItem=>decide (x.dot=d)) (fun i _=>(i:Int)) _ _ (fun i x _=>by rw [dotEq])]
 unfold ql
 cases h:L.findIdx? (fun x=>decide (x.dot=d)) with
 | none=>simp
 | some j =>
  obtain ⟨hj,_⟩:=List.findIdx?_eq_some_iff_getElem.1 h
  simp [List.getElem?_eq_getElem hj]
theorem ref05Tomb_is (L:List GDot) (d:GDot):ref05Tomb L d=some (L.any fun x=>decide (x=d)):=by
 unfold ref05Tomb
 rw [lp_all0 (r:=true) (fun x:GDot=>!decide (x=d)) (fun i x _=>by rw [dotEq];cases decide (x=d) <;> rfl)]
 have e:L.any (fun x=>decide (x=d))=!L.all (fun x=>!decide (x=d)):=by rw [Bool.eq_iff_iff];simp
 rw [e];cases L.all (fun x=>!decide (x=d)) <;> rfl
theorem first_nodup (L:List GItem):(∀ (i:Nat) (x:GItem),L[i]?=some x→ql (fun y:GItem=>decide (y.dot=x.dot)) L=(i:Int)) ↔ (L.map (·.dot)).Nodup:=by
 constructor
 ·intro h
  rw [List.nodup_iff_pairwise_ne,List.pairwise_iff_getElem]
  intro i j hi hj hij e
  simp only [List.length_map] at hi hj
  simp only [List.getElem_map] at e
  have h1:=h i _ (List.getElem?_eq_getElem hi)
  have h2:=h j _ (List.getElem?_eq_getElem hj)
  rw [e] at h1
  rw [h1] at h2
  omega
 ·intro h i x hx
  obtain ⟨hi,rfl⟩:=List.getElem?_eq_some_iff.1 hx
  unfold ql
  have:L.findIdx? (fun y=>decide (y.dot=L[i].dot))=some i:=by
   rw [List.findIdx?_eq_some_iff_getElem]
   refine ⟨hi,by simp,fun j hj=>?_⟩
   have hjl:j < L.length:=by omega
   simp only [decide_eq_true_eq]
   intro e
   rw [List.nodup_iff_pairwise_ne,List.pairwise_iff_getElem] at h
   exact h j i (by simpa using hjl) (by simpa using hi) hj (by simpa using e)
  rw [this]
def itemR (t:Int) (x:GItem):Bool:=vO x.dot&&decide (x.text.length≤40)&&(decide (t ≠ 3) || decide (x.time=0))&&(decide (t ≠ 4) || timeB x.time)
def tailB (l:GLeaf):Bool:=l.items.all (itemR l.typ)&&onceB l.items&&l.items.all (fun x=>!(l.tombs.any fun y=>decide (y=x.dot)))&&riseB l.items&&(l.tombs.all vO&&rising l.tombs)
theorem items_allI (l:GLeaf):allI (fun i x=>itemR l.typ x&&(decide (ql (fun y:GItem=>decide (y.dot=x.dot)) l.items=(i:Int))&&(!(l.tombs.any fun y=>decide (y=x.dot))&&(decide (i=0) || aheadI (prevI l.items i) x)))) l.items =
  (l.items.all (itemR l.typ)&&onceB l.items&&l.items.all (fun x=>!(l.tombs.any fun y=>decide (y=x.dot)))&&riseB l.items):=by
 rw [Bool.eq_iff_iff,wC]
 simp only [Bool.and_eq_true,decide_eq_true_eq,onceB,riseB,wC,List.all_eq_true,← first_nodup]
 constructor
 ·intro h
  refine ⟨⟨⟨fun x hx=>?_,fun i x hx=>(h i x hx).2.1⟩,fun x hx=>?_⟩,fun i x hx=>(h i x hx).2.2.2⟩
  ·obtain ⟨i,hi⟩:=List.mem_iff_getElem?.1 hx;exact (h i x hi).1
  ·obtain ⟨i,hi⟩:=List.mem_iff_getElem?.1 hx;exact (h i x hi).2.2.1
 ·rintro ⟨⟨⟨h1,h2⟩,h3⟩,h4⟩ i x hx
  have hm:=List.mem_of_getElem? hx
  exact ⟨h1 x hm,h2 i x hx,h3 x hm,h4 i x hx⟩
theorem tombs_allI (ds:List GDot):allI (fun i x=>vO x&&wj ds i x) ds=(ds.all vO&&rising ds):=by
 rw [Bool.eq_iff_iff,wC,rising_allI]
 simp only [Bool.and_eq_true,wC,List.all_eq_true]
 constructor
 ·intro h
  exact ⟨fun x hx=>by obtain ⟨i,hi⟩:=List.mem_iff_getElem?.1 hx;exact (h i x hi).1,fun i x hx=>(h i x hx).2⟩
 ·rintro ⟨h1,h2⟩ i x hx
  exact ⟨h1 x (List.mem_of_getElem? hx),h2 i x hx⟩
theorem ref05May_is {l:GLeaf} (hi:l.items.length≤maxLen) (ht:l.tombs.length≤maxLen) (h0:0≤l.time):ref05May l=some (leafB l):=by
 unfold ref05May
 simp only [ref03May_is,ref05Item_is,ref05Tomb_is,ref05Ahead_is,ref03Less_is,Option.bind_some,dotEq]
 generalize hT:lp (z8 _ l.items 0 ()) _=T
 have a1:decide ((l.items.length:Int) > 0)=!decide (l.items=[]):=by cases l.items <;> simp
 have a2:decide ((l.tombs.length:Int) > 0)=!decide (l.tombs=[]):=by cases l.tombs <;> simp
 have hT2:T=some (tailB l):=by
  rw [← hT,lp_all (r:=false) (fun i x=>itemR l.typ x&&(decide (ql (fun y:GItem=>decide (y.dot=x.dot)) l.items=(i:Int))&&(!(l.tombs.any fun y=>decide (y=x.dot))&&(decide (i=0) || aheadI (prevI l.items i) x))))]
  ·rw [lp_all (r:=false) (fun i x=>vO x&&wj l.tombs i x)]
   ·rw [items_allI,tombs_allI]
    unfold tailB
    cases (l.items.all (itemR l.typ)&&onceB l.items&&l.items.all (fun x=>!(l.tombs.any fun y=>decide (y=x.dot)))&&riseB l.items) <;> cases (l.tombs.all vO&&rising l.tombs) <;> simp
   ·intro i x hx
    have hil:i < l.tombs.length:=(List.getElem?_eq_some_iff.1 hx).1
    have hxe:l.tombs.getD i default=x:=by rw [List.getD_eq_getElem?_getD,hx];rfl
    rcases i with _ | j
    ·cases hd:vO x <;> simp [vP,wj]
    ·rw [vG (by simp only [maxLen] at ht ⊢;omega),qz,Int.toNat_natCast,Int.toNat_natCast,hxe]
     have ha:wj l.tombs (j+1) x=vY (l.tombs.getD j default) x:=by unfold wj;simp
     rw [yg (by intro _;omega),yg (by intro _;omega),ha]
     generalize l.tombs.getD j default=y
     cases hd:vO x <;> cases hlt:vY y x <;> simp
  ·intro i x hx
   have hil:i < l.items.length:=(List.getElem?_eq_some_iff.1 hx).1
   have b1:decide ((x.text.length:Int) > 40)=!decide (x.text.length≤40):=by rw [Bool.eq_iff_iff];simp;omega
   have b2:(((l.typ==4)&&(decide (x.time < 1) || decide (x.time > 1099511627776))))=!(decide (l.typ ≠ 4) || timeB x.time):=by
    rw [Bool.eq_iff_iff];simp [timeB]
   have b3:((l.typ==3)&&(x.time != 0))=!(decide (l.typ ≠ 3) || decide (x.time=0)):=by rw [Bool.eq_iff_iff];simp
   rw [b1,b2,b3]
   have hc:(((!vO x.dot || !decide (x.text.length≤40)) || !(decide (l.typ ≠ 3) || decide (x.time=0))) || !(decide (l.typ ≠ 4) || timeB x.time))=!itemR l.typ x:=by unfold itemR;simp only [Bool.not_and]
   rw [hc]
   have b4:(ql (fun y:GItem=>decide (y.dot=x.dot)) l.items != (i:Int))=!decide (ql (fun y:GItem=>decide (y.dot=x.dot)) l.items=(i:Int)):=by rw [Bool.eq_iff_iff];simp
   cases hr:itemR l.typ x
   ·simp
   simp only [Bool.not_true,BEq.rfl,if_true,Option.bind_some,Bool.false_or]
   rw [b4]
   cases hf:decide (ql (fun y:GItem=>decide (y.dot=x.dot)) l.items=(i:Int))
   ·simp
   cases htb:l.tombs.any fun y=>decide (y=x.dot)
   ·rcases i with _ | j
    ·simp [vP]
    ·rw [vG (by simp only [maxLen] at hi ⊢;omega),qz,Int.toNat_natCast]
     rw [yg (by intro _;omega),yg (by intro _;omega)]
     have ha:(if (l.items.getD j default).time ≠ x.time then decide ((l.items.getD j default).time < x.time) else vY (l.items.getD j default).dot x.dot)=aheadI (prevI l.items (j+1)) x:=rfl
     rw [ha]
     cases aheadI (prevI l.items (j+1)) x <;> simp
   ·simp
 subst hT2
 clear hT
 rw [a1,a2]
 have z1:(l.time != 0)=!decide (l.time=0):=by rw [Bool.eq_iff_iff];simp
 have z2:(l.time==0)=decide (l.time=0):=by rw [Bool.eq_iff_iff];simp
 have z3:(l.text==([]:zM))=decide (l.text=[]):=by rw [Bool.eq_iff_iff];simp
 have z4:decide (l.time > 1099511627776)=!decide (l.time≤1099511627776):=by rw [Bool.eq_iff_iff];simp
 have z5:decide ((l.text.length:Int) > 40)=!decide (l.text.length≤40):=by rw [Bool.eq_iff_iff];simp;omega
 have hz:zeroB l=(decide (l.time=0)&&decide (l.dot=dot0)&&decide (l.text=[])):=rfl
 have z6:(l.dot.actor.rep==0&&(l.dot.actor.inc==0&&(l.dot.seq==0&&true)))=decide (l.dot=dot0):=dotEq l.dot dot0
 rw [z1,z2,z3,z4,z5,z6]
 by_cases h1:l.typ=1
 ·have hi:decide (l.items=[])=true→tailB l=(l.tombs.all vO&&rising l.tombs):=by
   intro h;have:=of_decide_eq_true h
   unfold tailB;rw [this];simp [onceB,riseB,allI]
  unfold leafB
  simp only [h1,if_true,hz]
  cases hi2:decide (l.items=[])
  ·simp
  ·rw [hi hi2]
   cases ht2:decide (l.tombs=[])
   ·simp
   ·have:=of_decide_eq_true ht2
    rw [this]
    cases decide (l.time=0) <;> cases decide (l.dot=dot0) <;> cases decide (l.text=[]) <;> simp [rising]
 by_cases h2:l.typ=2
 ·have hi:decide (l.items=[])=true→tailB l=(l.tombs.all vO&&rising l.tombs):=by
   intro h;have:=of_decide_eq_true h
   unfold tailB;rw [this];simp [onceB,riseB,allI]
  unfold leafB
  have ht40:timeB l.time=(!decide (l.time=0)&&decide (l.time≤1099511627776)):=by
   unfold timeB;rw [Bool.eq_iff_iff];simp;omega
  simp only [h2,if_true,ht40]
  cases hn:decide (l.n=0)
  ·have:(l.n != 0)=true:=by simpa using hn
   simp [this]
  ·have hn':l.n=0:=of_decide_eq_true hn
   cases hi2:decide (l.items=[])
   ·simp [hn']
   ·rw [hi hi2]
    cases ht2:decide (l.tombs=[])
    ·simp [hn']
    ·have:=of_decide_eq_true ht2
     rw [this]
     by_cases ht0:l.time=0
     ·cases hdd:decide (l.dot=dot0) <;> cases htx:decide (l.text=[]) <;> simp [hn',ht0,rising]
     ·cases hm:decide (l.time≤1099511627776) <;> cases hdd:vO l.dot <;> cases htx:decide (l.text.length≤40) <;> simp [hn',ht0,rising]
 by_cases h3:l.typ=3
 ·have e1:(fun x=>itemR 3 x)=vu false:=by
   funext x;unfold itemR vu;simp
  have e2:tailB l=(l.items.all (vu false)&&riseB l.items&&onceB l.items&&tombsB l):=by
   unfold tailB tombsB
   rw [h3,show itemR 3=vu false from e1]
   have e3:l.items.all (fun x=>!(l.tombs.any fun y=>decide (y=x.dot)))=l.tombs.all (fun d=>!l.items.any fun x=>decide (x.dot=d)):=by
    rw [Bool.eq_iff_iff];simp only [List.all_eq_true,Bool.not_eq_true',List.any_eq_false,decide_eq_true_eq]
    exact ⟨fun h d hd x hx e=>h x hx d hd e.symm,fun h x hx d hd e=>h d hd x hx e.symm⟩
   rw [e3]
   cases l.items.all (vu false) <;> cases onceB l.items <;> cases riseB l.items <;> cases l.tombs.all vO <;> cases rising l.tombs <;> cases l.tombs.all (fun d=>!l.items.any fun x=>decide (x.dot=d)) <;> rfl
  unfold leafB
  simp only [h3,e2,hz]
  cases hn:decide (l.n=0)
  ·have:(l.n != 0)=true:=by simpa using hn
   simp [this]
  ·have hn':l.n=0:=of_decide_eq_true hn
   cases decide (l.time=0) <;> cases decide (l.dot=dot0) <;> cases decide (l.text=[]) <;> simp [hn']
 by_cases h4:l.typ=4
 ·have e1:(fun x=>itemR 4 x)=vu true:=by
   funext x;unfold itemR vu;simp
  have e2:decide (l.tombs=[])=true→tailB l=(l.items.all (vu true)&&riseB l.items&&onceB l.items):=by
   intro h;have:=of_decide_eq_true h
   unfold tailB
   rw [h4,show itemR 4=vu true from e1,this]
   cases l.items.all (vu true) <;> cases onceB l.items <;> cases riseB l.items <;> simp [rising]
  unfold leafB
  simp only [h4,hz]
  cases hn:decide (l.n=0)
  ·have:(l.n != 0)=true:=by simpa using hn
   simp [this]
  ·have hn':l.n=0:=of_decide_eq_true hn
   cases ht2:decide (l.tombs=[])
   ·simp [hn']
   ·rw [e2 ht2]
    cases decide (l.time=0) <;> cases decide (l.dot=dot0) <;> cases decide (l.text=[]) <;> simp [hn']
 have hlt:l.typ < 1 ∨ 4 < l.typ:=by omega
 have:(decide (l.typ < 1) || decide (l.typ > 4))=true:=by simp;omega
 unfold leafB
 rw [this,if_neg h1,if_neg h2,if_neg h3,if_neg h4]
 simp

mutual
def GNode.dep:GNode→Nat
 | ⟨_,_,sb⟩=>GNode.deps sb+1
def GNode.deps:List GNode→Nat
 | []=>0
 | x::r=>max x.dep (GNode.deps r)
end
theorem dep_mem {x:GNode}:∀ {t:List GNode},x ∈ t→x.dep≤GNode.deps t
 | [],h=>by cases h
 | y::r,h=>by
  simp only [GNode.deps]
  rcases List.mem_cons.1 h with rfl | h
  ·omega
  ·have:=dep_mem h;omega
theorem wX (x:GNode):GNode.deps x.subs+1=x.dep:=by cases x;simp [GNode.dep]
def Small (t:List GNode):Prop:=GNode.wfs t∧GNode.bks t≤1048576
theorem bk_pos (x:GNode):1≤x.bk:=by cases x;simp only [GNode.bk];omega
theorem len_bks:∀ t:List GNode,t.length≤GNode.bks t
 | []=>by simp [GNode.bks]
 | x::r=>by have:=len_bks r;have:=bk_pos x;simp only [GNode.bks,List.length_cons];omega
theorem bk_mem {x:GNode}:∀ {t:List GNode},x ∈ t→x.bk≤GNode.bks t
 | [],h=>by cases h
 | y::r,h=>by
  simp only [GNode.bks]
  rcases List.mem_cons.1 h with rfl | h
  ·omega
  ·have:=bk_mem h;omega
theorem sum_len {α:Type} {f:α→Nat} (h:∀ x,1≤f x):∀ l:List α,l.length≤(l.map f).sum
 | []=>by simp
 | x::r=>by have:=sum_len h r;have:=h x;simp only [List.length_cons,List.map_cons,List.sum_cons];omega
theorem sum_mem {α:Type} {f:α→Nat} {x:α}:∀ {l:List α},x ∈ l→f x≤(l.map f).sum
 | [],h=>by cases h
 | y::r,h=>by
  simp only [List.map_cons,List.sum_cons]
  rcases List.mem_cons.1 h with rfl | h
  ·omega
  ·have:=sum_mem (f:=f) h;omega
theorem bk_node (x:GNode):x.name.length+1+((x.leaves.map GLeaf.bk).sum+1)+(GNode.bks x.subs+1)≤x.bk:=by cases x;simp only [GNode.bk];omega
theorem Small.subs {t:List GNode} (h:Small t) {x:GNode} (hx:x ∈ t):Small x.subs:=by
 refine ⟨?_,by have:=bk_mem hx;have:=bk_node x;have:=h.2;omega⟩
 have:=(GNode.wfs_iff t).1 h.1 x hx
 cases x;simp only [GNode.wf] at this;exact this.2.2
theorem Small.len {t:List GNode} (h:Small t):t.length≤1048576:=Nat.le_trans (len_bks t) h.2
structure LeafOk (l:GLeaf):Prop where
 items:l.items.length≤1048576
 tombs:l.tombs.length≤1048576
 time:0≤l.time
theorem Small.leaf {t:List GNode} (h:Small t) {x:GNode} (hx:x ∈ t) {l:GLeaf} (hl:l ∈ x.leaves):LeafOk l:=by
 have h1:=bk_mem hx;have h2:=bk_node x;have h3:=h.2
 have h4:l.bk≤_:=sum_mem (f:=GLeaf.bk) hl
 have h5:(l.items.map GItem.bk).sum+1+((l.tombs.map GDot.bk).sum+1)≤l.bk:=by unfold GLeaf.bk;omega
 have h6:=sum_len (f:=GItem.bk) (fun x=>by unfold GItem.bk;omega) l.items
 have h7:=sum_len (f:=GDot.bk) (fun x=>by unfold GDot.bk;omega) l.tombs
 refine ⟨by omega,by omega,?_⟩
 have:=(GNode.wfs_iff t).1 h.1 x hx
 cases x;simp only [GNode.wf] at this
 have:=this.2.1.2 l hl
 unfold GLeaf.wf at this
 have:=this.2.2.1
 unfold InK at this;simp [IntKind.min,IntKind.max,IntKind.signed,IntKind.bits] at this;omega
theorem Small.leaves {t:List GNode} (h:Small t) {x:GNode} (hx:x ∈ t):x.leaves.length≤1048576:=by
 have h1:=bk_mem hx;have h2:=bk_node x;have h3:=h.2
 have h6:=sum_len (f:=GLeaf.bk) (fun x=>by unfold GLeaf.bk;omega) x.leaves
 omega
def upB (t:List GNode):Bool:=allI (fun i x=>decide (i=0) || Op.bytesLess (t.getD (i - 1) default).name x.name) t
def leavesB (ls:List GLeaf):Bool:=allI (fun i l=>leafB l&&(decide (i=0) || decide ((ls.getD (i - 1) default).typ < l.typ))) ls
mutual
def nodeB (d:Nat):GNode→Bool
 | ⟨nm,ls,sb⟩=>nameB nm&&!(ls.isEmpty&&sb.isEmpty)&&((sb.isEmpty || decide (d+1 < 3))&&upB sb&&qf (d+1) sb)&&leavesB ls
def qf (d:Nat):List GNode→Bool
 | []=>true
 | x::r=>nodeB d x&&qf d r
end
def treeB (d:Nat) (t:List GNode):Bool:=(t.isEmpty || decide (d < 3))&&upB t&&qf d t
theorem nodesB_all (d:Nat):∀ t,qf d t=t.all (nodeB d)
 | []=>rfl
 | x::r=>by simp only [qf,List.all_cons,nodesB_all d r]
theorem nodeB_eq (d:Nat) (x:GNode):nodeB d x=(nameB x.name&&!(x.leaves.isEmpty&&x.subs.isEmpty)&&treeB (d+1) x.subs&&leavesB x.leaves):=by cases x;rfl
theorem up_nodes (d:Nat) (t:List GNode):allI (fun i x=>nodeB d x&&(decide (i=0) || Op.bytesLess (t.getD (i - 1) default).name x.name)) t=(upB t&&qf d t):=by
 rw [Bool.eq_iff_iff,wC,nodesB_all]
 simp only [Bool.and_eq_true,upB,wC,List.all_eq_true]
 constructor
 ·intro h
  exact ⟨fun i x hx=>(h i x hx).2,fun x hx=>by obtain ⟨i,hi⟩:=List.mem_iff_getElem?.1 hx;exact (h i x hi).1⟩
 ·rintro ⟨h1,h2⟩ i x hx
  exact ⟨h2 x (List.mem_of_getElem? hx),h1 i x hx⟩
theorem lenE {α:Type} (l:List α):((l.length:Int)==0)=l.isEmpty:=by cases l <;> simp;omega
theorem treeXmayN_is:∀ (n:Nat) (t:List GNode) (d:Nat),GNode.deps t < n→d≤3→Small t→vH n t (d:Int)=some (treeB d t)
 | 0,_,_,h,_,_=>by omega
 | n+1,t,d,h,hd,hs=>by
  unfold vH
  by_cases hc:(decide ((t.length:Int) > 0)&&((d:Int)==3))=true
  ·rw [if_pos hc]
   simp only [Bool.and_eq_true,decide_eq_true_eq,beq_iff_eq] at hc
   have:t.isEmpty=false:=by cases t <;> simp at hc ⊢
   have hd3:decide (d < 3)=false:=decide_eq_false (by omega)
   simp [treeB,this,hd3]
  ·rw [if_neg hc]
   have hte:(t.isEmpty || decide (d < 3))=true:=by
    simp only [Bool.and_eq_true,decide_eq_true_eq,beq_iff_eq] at hc
    cases t with
    | nil=>rfl
    | cons x r=>simp at hc ⊢;omega
   have hl:=hs.len
   rw [lp_all (r:=false) (fun i x=>nodeB d x&&(decide (i=0) || Op.bytesLess (t.getD (i - 1) default).name x.name)),up_nodes]
   ·unfold treeB;rw [hte,Bool.true_and]
    cases upB t&&qf d t <;> rfl
   ·intro i x hx
    have hi:i < t.length:=(List.getElem?_eq_some_iff.1 hx).1
    have hm:=List.mem_of_getElem? hx
    have hdp:=dep_mem hm
    have hds:=wX x
    have hne:0 < t.length:=by omega
    have hd3:d < 3:=by
     simp only [Bool.and_eq_true,decide_eq_true_eq,beq_iff_eq] at hc;omega
    have hw:IntKind.wrap .i64 ((d:Int)+1)=((d+1:Nat):Int):=by rw [w64n (by omega)];omega
    have ih:=treeXmayN_is n x.subs (d+1) (by omega) (by omega) (hs.subs hm)
    have hll:=hs.leaves hm
    have hsl:=(hs.subs hm).len
    have hw2:IntKind.wrap .i64 ((x.leaves.length:Int)+(x.subs.length:Int))=((x.leaves.length+x.subs.length:Nat):Int):=by rw [w64n (by omega)];omega
    have hz:((((x.leaves.length+x.subs.length:Nat):Int))==0)=(x.leaves.isEmpty&&x.subs.isEmpty):=by
     cases h1:x.leaves <;> cases h2:x.subs <;> simp <;> omega
    rw [opIsName_is,hw,ih,hw2,hz,nodeB_eq]
    have hlv:lp (z8 (fun (n2:Nat) (x2:GLeaf) (s2:Unit)=>(((leafMay x2).bind fun v43=>(vP ((((!v43)==false)&&((decide ((n2:Int) > (0:Int)))==true))=true→0≤(IntKind.wrap .i64 ((n2:Int) - (1:Int)))∧(IntKind.wrap .i64 ((n2:Int) - (1:Int))) < ((x.leaves).length:Int)) ((if ((!v43) || ((decide ((n2:Int) > (0:Int)))&&(decide (((x.leaves).getD (IntKind.wrap .i64 ((n2:Int) - (1:Int))).toNat default).typ ≥ x2.typ))))=true then some (.ret (.ret false)) else some (.nxt ()))))):Option (Out (Out Bool Unit) Unit))) x.leaves 0 ()) (fun (s2:Unit)=>some (.nxt ()))=if leavesB x.leaves=true then some (.nxt ()) else some (.ret false):=by
     rw [lp_all (r:=.ret false) (fun i l=>leafB l&&(decide (i=0) || decide ((x.leaves.getD (i - 1) default).typ < l.typ)))]
     ·rfl
     ·intro j l hjl
      have hjx:j < x.leaves.length:=(List.getElem?_eq_some_iff.1 hjl).1
      have hlo:=hs.leaf hm (List.mem_of_getElem? hjl)
      rw [leafMay_is (by have:=hlo.items;simp only [maxLen];omega) (by have:=hlo.tombs;simp only [maxLen];omega)]
      simp only [Option.bind_some]
      rcases j with _ | j
      ·cases leafB l <;> simp [vP]
      ·rw [vG (by simp only [maxLen];omega),qz,Int.toNat_natCast,yg (by intro _;omega)]
       have e:decide ((x.leaves.getD j default).typ ≥ l.typ)=!decide ((x.leaves.getD j default).typ < l.typ):=by rw [Bool.eq_iff_iff];simp
       rw [e,Nat.add_sub_cancel]
       generalize (x.leaves.getD j default)=y
       cases leafB l <;> cases decide (y.typ < l.typ) <;> simp
    rw [hlv]
    simp only [Option.bind_some]
    rcases i with _ | j
    ·cases nameB x.name <;> cases (x.leaves.isEmpty&&x.subs.isEmpty) <;> cases treeB (d+1) x.subs <;> cases leavesB x.leaves <;> simp [vP]
    ·rw [vG (by simp only [maxLen];omega),qz,Int.toNat_natCast,yg (by intro _;omega),Nat.add_sub_cancel]
     generalize (t.getD j default)=y
     cases nameB x.name <;> cases (x.leaves.isEmpty&&x.subs.isEmpty) <;> cases treeB (d+1) x.subs <;> cases leavesB x.leaves <;> cases Op.bytesLess y.name x.name <;> simp
theorem treeMay_is {t:List GNode} (h:Small t):treeMay t=some (treeB 0 t):=by
 unfold treeMay treeXmay
 have:=anyN_of (g:=fun n=>vH n t 0) (r:=treeB 0 t) (GNode.deps t+1) (fun n hn=>by have:=treeXmayN_is n t 0 (by omega) (by omega) h;simpa using this)
 rw [this];rfl
theorem ref07XmayN_is:∀ (n:Nat) (t:List GNode) (d:Nat),GNode.deps t < n→d≤3→Small t→wR n t (d:Int)=some (treeB d t)
 | 0,_,_,h,_,_=>by omega
 | n+1,t,d,h,hd,hs=>by
  unfold wR
  have hl:=hs.len
  rw [lp_all (r:=false) (fun i x=>decide (d < 3)&&(nodeB d x&&(decide (i=0) || Op.bytesLess (t.getD (i - 1) default).name x.name)))]
  ·have e:allI (fun i x=>decide (d < 3)&&(nodeB d x&&(decide (i=0) || Op.bytesLess (t.getD (i - 1) default).name x.name))) t=treeB d t:=by
    unfold treeB
    rw [Bool.and_assoc,← up_nodes]
    cases hd3:decide (d < 3)
    ·cases t with
     | nil=>rfl
     | cons x r=>simp [allI]
    ·simp
   rw [e];cases treeB d t <;> rfl
  ·intro i x hx
   have hi:i < t.length:=(List.getElem?_eq_some_iff.1 hx).1
   have hm:=List.mem_of_getElem? hx
   have hdp:=dep_mem hm
   have hds:=wX x
   have hg3:decide ((d:Int) ≥ 3)=!decide (d < 3):=by rw [Bool.eq_iff_iff];simp;omega
   rw [hg3]
   by_cases hd3:d < 3
   ·have hw:IntKind.wrap .i64 ((d:Int)+1)=((d+1:Nat):Int):=by rw [w64n (by omega)];omega
    have ih:=ref07XmayN_is n x.subs (d+1) (by omega) (by omega) (hs.subs hm)
    have hll:=hs.leaves hm
    rw [ref04IsName_is,hw,ih,nodeB_eq,lenE,lenE]
    have hlv:lp (z8 (fun (n2:Nat) (x2:GLeaf) (s2:Unit)=>(((ref05May x2).bind fun v50=>(vP ((((!v50)==false)&&((decide ((n2:Int) > (0:Int)))==true))=true→0≤(IntKind.wrap .i64 ((n2:Int) - (1:Int)))∧(IntKind.wrap .i64 ((n2:Int) - (1:Int))) < ((x.leaves).length:Int)) ((vP ((((!v50)==false)&&((decide ((n2:Int) > (0:Int)))==true))=true→0≤(n2:Int)∧(n2:Int) < ((x.leaves).length:Int)) ((if ((!v50) || ((decide ((n2:Int) > (0:Int)))&&(decide (((x.leaves).getD (IntKind.wrap .i64 ((n2:Int) - (1:Int))).toNat default).typ ≥ ((x.leaves).getD (n2:Int).toNat default).typ))))=true then some (.ret (.ret false)) else some (.nxt ()))))))):Option (Out (Out Bool Unit) Unit))) x.leaves 0 ()) (fun (s2:Unit)=>some (.nxt ()))=if leavesB x.leaves=true then some (.nxt ()) else some (.ret false):=by
     rw [lp_all (r:=.ret false) (fun i l=>leafB l&&(decide (i=0) || decide ((x.leaves.getD (i - 1) default).typ < l.typ)))]
     ·rfl
     ·intro j l hjl
      have hjx:j < x.leaves.length:=(List.getElem?_eq_some_iff.1 hjl).1
      have hle:x.leaves.getD j default=l:=by rw [List.getD_eq_getElem?_getD,hjl];rfl
      have hlo:=hs.leaf hm (List.mem_of_getElem? hjl)
      rw [ref05May_is (by have:=hlo.items;simp only [maxLen];omega) (by have:=hlo.tombs;simp only [maxLen];omega) hlo.time]
      simp only [Option.bind_some]
      rcases j with _ | j
      ·cases leafB l <;> simp [vP]
      ·rw [vG (by simp only [maxLen];omega),qz,Int.toNat_natCast,Int.toNat_natCast,hle,yg (by intro _;omega),yg (by intro _;omega)]
       have e:decide ((x.leaves.getD j default).typ ≥ l.typ)=!decide ((x.leaves.getD j default).typ < l.typ):=by rw [Bool.eq_iff_iff];simp
       rw [e,Nat.add_sub_cancel]
       generalize (x.leaves.getD j default)=y
       cases leafB l <;> cases decide (y.typ < l.typ) <;> simp
    rw [hlv,decide_eq_true hd3]
    simp only [Option.bind_some,Bool.not_true,Bool.false_or,Bool.true_and,BEq.rfl,if_true]
    rcases i with _ | j
    ·cases nameB x.name <;> cases (x.leaves.isEmpty&&x.subs.isEmpty) <;> cases treeB (d+1) x.subs <;> cases leavesB x.leaves <;> simp [vP]
    ·rw [vG (by simp only [maxLen];omega),qz,Int.toNat_natCast,yg (by intro _;omega),Nat.add_sub_cancel]
     generalize (t.getD j default)=y
     cases nameB x.name <;> cases (x.leaves.isEmpty&&x.subs.isEmpty) <;> cases treeB (d+1) x.subs <;> cases leavesB x.leaves <;> cases Op.bytesLess y.name x.name <;> simp
   ·rw [decide_eq_false hd3]
    simp [vP]
theorem ref07May_is {t:List GNode} (h:Small t):ref07May t=some (treeB 0 t):=by
 unfold ref07May ref07Xmay
 have:=anyN_of (g:=fun n=>wR n t 0) (r:=treeB 0 t) (GNode.deps t+1) (fun n hn=>by have:=ref07XmayN_is n t 0 (by omega) (by omega) h;simpa using this)
 rw [this];rfl

theorem loopW_end {σ ρ:Type} {f:σ→Option (Out ρ σ)} (inv:σ→Prop) (μ:σ→Nat) (h:∀ s,inv s→(∃ s',f s=some (.brk s')) ∨ ∃ s',f s=some (.nxt s')∧inv s'∧μ s' < μ s):∀ (k:Nat) (s:σ),μ s=k→inv s→∃ s',qY f s=some (.inr s'):=by
 intro k
 induction k using Nat.strongRecOn with
 | _ k ih =>
  intro s hk hi
  rw [loopW_eq]
  rcases h s hi with ⟨s',e⟩ | ⟨s',e,h1,h2⟩
  ·exact ⟨s',by rw [e]⟩
  ·rw [e];exact ih (μ s') (by omega) s' rfl h1
theorem lpW_end {σ ρ:Type} {f:σ→Option (Out ρ σ)} {rest:σ→Option ρ} (inv:σ→Prop) (μ:σ→Nat) (hr:∀ s,∃ v,rest s=some v) (s0:σ) (hi:inv s0) (h:∀ s,inv s→(∃ s',f s=some (.brk s')) ∨ ∃ s',f s=some (.nxt s')∧inv s'∧μ s' < μ s):∃ v,lp (qY f s0) rest=some v:=by
 obtain ⟨s',e⟩:=loopW_end inv μ h _ s0 rfl hi
 rw [e];exact hr s'
theorem idx_mem {α:Type} {L:List α} {i:Int} {x:α} (h:idx L i=some x):x ∈ L:=by
 unfold idx at h
 split at h
 ·exact List.mem_of_getElem? h
 ·cases h
theorem size_tot:∀ (n:Nat) (t:List GNode) (d:Int),GNode.deps t < n→Small t→∃ v,xh n t d=some v
 | 0,_,_,h,_=>by omega
 | n+1,t,d,h,hs=>by
  unfold xh
  have hl:=hs.len
  refine lpW_end (fun s=>0≤s.2∧s.2≤(t.length:Int)) (fun s=>(t.length - s.2.toNat)) (fun _=>⟨_,rfl⟩) _ ⟨by simp,by simp⟩ (fun s hi=>?_)
  rcases s with ⟨a,i⟩
  obtain ⟨k,rfl⟩:∃ k:Nat,i=(k:Int):=⟨i.toNat,by have:=hi.1;simp at this;omega⟩
  by_cases hc:(decide ((k:Int) < (t.length:Int))&&decide (d < 10))=true
  ·right
   simp only [Bool.and_eq_true,decide_eq_true_eq] at hc
   have hk:k < t.length:=by omega
   have hm:t[k] ∈ t:=List.getElem_mem hk
   have hdp:=dep_mem hm
   have hds:=wX t[k]
   obtain ⟨v,hv⟩:=size_tot n t[k].subs (IntKind.wrap .i64 (d+1)) (by omega) (hs.subs hm)
   have hll:=hs.leaves hm
   obtain ⟨s2,e2⟩:=loopW_end (ρ:=Out Int (Int×Int)) (σ:=Int×Int) (f:=fun s2:Int×Int=>(((idx t (k:Int)).bind fun y102=>(if decide (s2.2 < ((y102.leaves).length:Int))=true then ((idx t (k:Int)).bind fun y105=>((idx y105.leaves s2.2).bind fun y106=>(lp (z8 (fun (n3:Nat) (x3:GItem) (s3:Int)=>(some (.nxt (IntKind.wrap .i64 ((IntKind.wrap .i64 (s3+(1:Int)))+((x3.text).length:Int)))):Option (Out _ Int))) y106.items 0 (IntKind.wrap .i64 ((IntKind.wrap .i64 ((IntKind.wrap .i64 (s2.1+(1:Int)))+((y106.text).length:Int)))+((y106.tombs).length:Int)))) fun (s3:Int)=>some (.nxt (s3,(IntKind.wrap .i64 (s2.2+(1:Int)))))))) else some (.brk (s2.1,s2.2)))):Option (Out (Out Int (Int×Int)) (Int×Int))))
    (fun s=>0≤s.2∧s.2≤(t[k].leaves.length:Int)) (fun s=>(t[k].leaves.length - s.2.toNat)) (fun s hi=>by
     rcases s with ⟨b,i⟩
     obtain ⟨q,rfl⟩:∃ q:Nat,i=(q:Int):=⟨i.toNat,by have:=hi.1;simp at this;omega⟩
     simp only [idx_at hk,Option.bind_some]
     by_cases hq:q < t[k].leaves.length
     ·right
      have hq2:decide ((q:Int) < (t[k].leaves.length:Int))=true:=by simpa using hq
      simp only [hq2,if_true,idx_at hq,Option.bind_some]
      rw [loopL_fold (fun (s3:Int) (x3:GItem)=>IntKind.wrap .i64 ((IntKind.wrap .i64 (s3+(1:Int)))+((x3.text).length:Int))) _ 0 _ (fun _ _ _ _=>rfl),lp_inr]
      refine ⟨_,rfl,?_,?_⟩
      ·simp only;rw [w64n (by omega)];omega
      ·simp only;rw [w64n (by omega)];omega
     ·left
      have hq2:decide ((q:Int) < (t[k].leaves.length:Int))=false:=by simp;omega
      simp only [hq2]
      exact ⟨_,rfl⟩) _ ((IntKind.wrap .i64 ((IntKind.wrap .i64 ((IntKind.wrap .i64 (a+(1:Int)))+((t[k].name).length:Int)))+v)),(0:Int)) rfl ⟨by simp,by simp⟩
   refine ⟨(s2.1,IntKind.wrap .i64 ((k:Int)+1)),?_,?_,?_⟩
   ·simp only [hc,decide_true,Bool.and_self,if_true,idx_at hk,Option.bind_some,hv]
    simp only [idx_at hk,Option.bind_some] at e2
    rw [e2];rfl
   ·simp only;rw [w64n (by omega)];omega
   ·simp only;rw [w64n (by omega)];omega
  ·left
   refine ⟨(a,(k:Int)),?_⟩
   simp only at hc ⊢
   rw [if_neg hc]
theorem size_fuel:∀ (n m:Nat) (t:List GNode) (d:Int),GNode.deps t < n→GNode.deps t < m→xh n t d=xh m t d
 | 0,_,_,_,h,_=>by omega
 | _+1,0,_,_,_,h=>by omega
 | n+1,m+1,t,d,h1,h2=>by
  unfold xh
  congr 2
  funext s
  split
  ·cases hx:idx t s.2 with
   | none=>rfl
   | some y =>
    have hdp:=dep_mem (idx_mem hx)
    have hds:=wX y
    simp only [Option.bind_some]
    rw [size_fuel n m y.subs _ (by omega) (by omega)]
  ·rfl
theorem ref07Great_tot {t:List GNode} (h:Small t):∃ b,ref07Great t=some b:=by
 unfold ref07Great ref07Xsize
 obtain ⟨v,hv⟩:∃ v,∀ n,GNode.deps t+1≤n→xh n t 0=some v:=by
  obtain ⟨v,hv⟩:=size_tot (GNode.deps t+1) t 0 (by omega) h
  exact ⟨v,fun n hn=>by rw [size_fuel n (GNode.deps t+1) t 0 (by omega) (by omega)];exact hv⟩
 rw [anyN_of (GNode.deps t+1) hv]
 exact ⟨_,rfl⟩

def endsB (p:List zM):Bool:=p.getLast?==some [42,42]
def x5 (p:List zM):List zM:=if endsB p then p.dropLast else p
def agreeB:List zM→List zM→Bool
 | [],_=>true
 | x::t,y::r=>(x==[42] || x==y)&&agreeB t r
 | _::_,[]=>false
def patB (p:List zM):Bool:=(decide (0 < (x5 p).length) || endsB p)&&decide ((x5 p).length≤3)&&(x5 p).all (fun s=>s==[42] || nameB s)
def matchB (p path:List zM):Bool:=patB p&&pathB path&&decide ((x5 p).length≤path.length)&&(endsB p || decide (path.length≤(x5 p).length))&&agreeB (x5 p) path
theorem wrapLen {n:Nat} (h0:0 < n) (h:n≤maxLen):IntKind.wrap .i64 ((n:Int) - 1)=((n - 1:Nat):Int):=by
 simp only [maxLen] at h;rw [w64n (by omega)];omega
theorem last_getD {p:List zM} (h0:0 < p.length):(p.getD (p.length - 1) default==[42,42])=endsB p:=by
 unfold endsB
 rw [List.getLast?_eq_getElem?,List.getD_eq_getElem?_getD,List.getElem?_eq_getElem (by omega)]
 rw [Bool.eq_iff_iff];simp
theorem slc_init {p:List zM} (h0:0 < p.length):slc p 0 ((p.length - 1:Nat):Int)=some p.dropLast:=by
 rw [slc_at (by omega)];simp [List.dropLast_eq_take]
theorem pathsXparts_is {p:List zM} (h:p.length≤maxLen):vJ p=some (x5 p,endsB p):=by
 unfold vJ x5
 by_cases h0:0 < p.length
 ·rw [wrapLen h0 h,yg (by intro _;omega)]
  have e:decide ((p.length:Int) > 0)=true:=by simpa using h0
  rw [e,Int.toNat_natCast,last_getD h0,slc_init h0]
  cases endsB p <;> rfl
 ·have:p=[]:=List.eq_nil_of_length_eq_zero (by omega)
  subst this;rfl
theorem vD {p:List zM} (h:p.length≤maxLen):xp p=some (patB p):=by
 unfold xp patB
 rw [pathsXparts_is h]
 simp only [Option.bind_some]
 rw [contains_is (q:=fun s=>!(s==[42] || nameB s)) _ (fun x _=>by
  unfold wH;rw [opIsName_is]
  cases h1:(x==([42]:zM)) <;> simp)]
 have e:(x5 p).any (fun s=>!(s==[42] || nameB s))=!(x5 p).all (fun s=>s==[42] || nameB s):=by rw [Bool.eq_iff_iff];simp
 have e1:decide (((x5 p).length:Int) > 0)=decide (0 < (x5 p).length):=decide_eq_decide.2 (by omega)
 rw [e,bnd3,e1]
 cases ((decide (0 < (x5 p).length) || endsB p)&&decide ((x5 p).length≤3)) <;> simp
theorem agree_loop (path:List zM) {f:Nat→zM→Unit→Option (Out Bool Unit)} (hf:∀ i x,i < path.length→f i x ()=if (!(x==([42]:zM))&&!(x==path.getD i default))=true then some (.ret false) else some (.nxt ())) :
  ∀ (L:List zM) (i:Nat),L.length+i≤path.length→z8 f L i ()=if agreeB L (path.drop i)=true then some (.inr ()) else some (.inl false)
 | [],i,_=>by cases path.drop i <;> rfl
 | x::t,i,h=>by
  simp only [List.length_cons] at h
  have hi:i < path.length:=by omega
  have ih:=agree_loop path hf t (i+1) (by omega)
  have e:path.drop i=path[i]::path.drop (i+1):=(List.getElem_cons_drop hi).symm
  have e2:path.getD i default=path[i]:=by rw [List.getD_eq_getElem?_getD,List.getElem?_eq_getElem hi];rfl
  simp only [z8,hf i x hi,e,agreeB,e2]
  cases h1:(x==([42]:zM)) <;> cases h2:(x==path[i]) <;> simp [ih]
theorem pathsMatch_is {p path:List zM} (h:p.length≤maxLen):vE p path=some (matchB p path):=by
 unfold vE matchB
 rw [pathsXparts_is h,vD h]
 simp only [Option.bind_some,opMayPath_is]
 cases hp:patB p
 ·simp
 ·cases hq:pathB path
  ·simp
  ·by_cases hl:(x5 p).length≤path.length
   ·have e1:decide ((path.length:Int) < ((x5 p).length:Int))=false:=decide_eq_false (by omega)
    have e2:decide ((path.length:Int) > ((x5 p).length:Int))=!decide (path.length≤(x5 p).length):=by
     rw [Bool.eq_iff_iff];simp
    rw [e1,e2,agree_loop path (fun i x hi=>by rw [yg (by intro _;omega),Int.toNat_natCast]) _ 0 (by omega)]
    simp only [List.drop_zero,decide_eq_true hl]
    cases decide (path.length≤(x5 p).length) <;> cases endsB p <;> cases agreeB (x5 p) path <;> simp
   ·have e1:decide ((path.length:Int) < ((x5 p).length:Int))=true:=decide_eq_true (by omega)
    rw [e1,decide_eq_false hl];simp

section
variable {S X:Type}
def foldF (y:S→X→Option (Bool×S)):List X→S→Option (Bool×S)
 | [],s=>some (true,s)
 | x::r,s=>(y s x).bind fun v=>if v.1=true then foldF y r v.2 else some (false,v.2)
theorem foldF_app (y:S→X→Option (Bool×S)):∀ (a b:List X) (s:S),foldF y (a++b) s=(foldF y a s).bind fun v=>if v.1=true then foldF y b v.2 else some v
 | [],b,s=>by simp [foldF]
 | x::r,b,s=>by
  simp only [List.cons_append,foldF]
  cases y s x with
  | none=>rfl
  | some v =>
   simp only [Option.bind_some]
   cases hv:v.1
   ·simp
   ·simp only [if_true];exact foldF_app y r b v.2
theorem foldF_stp (y:S→X→Option (Bool×S)):∀ (xs:List X) (s:S),
  foldF (stp (fun (s3:S) (x3:X)=>(((y s3 x3).bind fun v=>(if (!v.1)=true then some (false,(v.2,some 0)) else some (true,(v.2,none)))):Option (Bool×(S×Option Nat))))) xs (s,none)=(foldF y xs s).map fun v=>(v.1,(v.2,if v.1=true then none else some 0))
 | [],s=>rfl
 | x::r,s=>by
  simp only [foldF,stp]
  cases y s x with
  | none=>rfl
  | some v =>
   rcases v with ⟨b,s'⟩
   cases b
   ·simp
   ·simp only [Bool.not_true,Bool.false_eq_true,if_false,Option.bind_some,if_true]
    exact foldF_stp y r s'
theorem loop_tell {ρ α:Type} (y:S→X→Option (Bool×S)) (g:α→X) (r:S→ρ) {f:Nat→α→S→Option (Out ρ S)}:∀ (L:List α) (i:Nat) (s:S),(∀ i x s,x ∈ L→f i x s=(y s (g x)).bind fun v=>if (!v.1)=true then some (.ret (r v.2)) else some (.nxt v.2)) →
  z8 f L i s=(foldF y (L.map g) s).map fun v=>if v.1=true then .inr v.2 else .inl (r v.2)
 | [],_,_,_=>rfl
 | x::t,i,s,h=>by
  simp only [z8,h i x s (List.mem_cons_self ..),List.map_cons,foldF]
  cases y s (g x) with
  | none=>rfl
  | some v =>
   rcases v with ⟨b,s'⟩
   cases b
   ·rfl
   ·simp only [Bool.not_true,Bool.false_eq_true,if_false,Option.bind_some,if_true]
    exact loop_tell y g r t (i+1) s' fun i x s hx=>h i x s (List.mem_cons_of_mem _ hx)
theorem loop_tells {ρ α:Type} (y:S→X→Option (Bool×S)) (g:α→List X) (r:S→ρ) {f:Nat→α→S→Option (Out ρ S)}:∀ (L:List α) (i:Nat) (s:S),(∀ i x s,x ∈ L→f i x s=(foldF y (g x) s).map fun v=>if v.1=true then .nxt v.2 else .ret (r v.2)) →
  z8 f L i s=(foldF y (L.flatMap g) s).map fun v=>if v.1=true then .inr v.2 else .inl (r v.2)
 | [],_,_,_=>rfl
 | x::t,i,s,h=>by
  simp only [z8,h i x s (List.mem_cons_self ..),List.flatMap_cons,foldF_app]
  cases foldF y (g x) s with
  | none=>rfl
  | some v =>
   rcases v with ⟨b,s'⟩
   cases b
   ·rfl
   ·simp only [Option.map_some,if_true,Option.bind_some]
    exact loop_tells y g r t (i+1) s' fun i x s hx=>h i x s (List.mem_cons_of_mem _ hx)
end
theorem clone_is {α:Type} {L:List α} (h:L.length≤vQ):(nilq L fun b1=>(if b1=true then some ([]:List α) else (vP ((([]:List α)).length+L.length≤vQ) (some (([]:List α)++L)))))=some L:=by
 refine nilq_of ?_ fun e=>by subst e;rfl
 rw [yg (by simpa using h)];simp
theorem cloneString_is {L:List zM} (h:L.length≤vQ):xn L=some L:=clone_is h
theorem cloneItem_is {L:List GItem} (h:L.length≤vQ):vA L=some L:=clone_is h
theorem cloneDot_is {L:List GDot} (h:L.length≤vQ):vS L=some L:=clone_is h
theorem pathsXown_is {l:GLeaf} (h:LeafOk l):pathsXown l=some l:=by
 unfold pathsXown
 rw [cloneItem_is (by have:=h.items;unfold vQ;omega),cloneDot_is (by have:=h.tombs;unfold vQ;omega)];rfl
mutual
def rowsN (a:List zM):GNode→List GRow
 | ⟨nm,ls,sb⟩=>ls.map (fun l=>GRow.mk (a++[nm]) l)++xT (a++[nm]) sb
def xT (a:List zM):List GNode→List GRow
 | []=>[]
 | x::r=>rowsN a x++xT a r
end
mutual
def wx (is:List zM→Bool) (a:List zM):GNode→GNode
 | ⟨nm,ls,sb⟩=>⟨nm,if is (a++[nm])=true then ls else [],wg is (a++[nm]) sb⟩
def wg (is:List zM→Bool) (a:List zM):List GNode→List GNode
 | []=>[]
 | x::r=>if (wx is a x).leaves.isEmpty&&(wx is a x).subs.isEmpty then wg is a r else wx is a x::wg is a r
end
theorem rowsN_eq (a:List zM) (x:GNode):rowsN a x=x.leaves.map (fun l=>GRow.mk (a++[x.name]) l)++xT (a++[x.name]) x.subs:=by cases x;rfl
theorem rowsL_flat (a:List zM):∀ t,xT a t=t.flatMap (rowsN a)
 | []=>rfl
 | x::r=>by simp only [xT,List.flatMap_cons,rowsL_flat a r]
theorem keepN_eq (is:List zM→Bool) (a:List zM) (x:GNode):wx is a x=⟨x.name,if is (a++[x.name])=true then x.leaves else [],wg is (a++[x.name]) x.subs⟩:=by cases x;rfl
theorem keepL_filter (is:List zM→Bool) (a:List zM):∀ t,wg is a t=(t.map (wx is a)).filter fun y=>!(y.leaves.isEmpty&&y.subs.isEmpty)
 | []=>rfl
 | x::r=>by
  simp only [wg,List.map_cons,List.filter_cons,keepL_filter is a r]
  cases ((wx is a x).leaves.isEmpty&&(wx is a x).subs.isEmpty) <;> simp
theorem rows_is {S:Type}:∀ (n:Nat) (S:Type) (y:S→GRow→Option (Bool×S)) (t:List GNode) (a:List zM) (s:S),GNode.deps t < n→Small t→a.length+GNode.deps t≤2000000→x4 n S y t a s=(foldF y (xT a t) s).map (·.2)
 | 0,_,_,_,_,_,h,_,_=>by omega
 | n+1,S,y,t,a,s,h,hs,ha=>by
  unfold x4
  rw [loop_tells y (rowsN a) (fun s=>s),← rowsL_flat]
  ·cases foldF y (xT a t) s with
   | none=>rfl
   | some v=>rcases v with ⟨b,s'⟩;cases b <;> rfl
  ·intro i x s1 hx
   have hdp:=dep_mem hx
   have hds:=wX x
   rw [cloneString_is (by unfold vQ;omega),Option.bind_some,yg (by simp [vQ];omega)]
   rw [loop_tell y (fun l=>GRow.mk (a++[x.name]) l) (fun s=>Out.ret s)]
   ·rw [rowsN_eq,foldF_app]
    cases foldF y (x.leaves.map fun l=>GRow.mk (a++[x.name]) l) s1 with
    | none=>rfl
    | some v =>
     rcases v with ⟨b,s'⟩
     cases b
     ·rfl
     ·simp only [Option.map_some,if_true,lp_inr,Option.bind_some]
      unfold qd
      simp only [Option.bind_some]
      rw [rows_is (S:=Unit) n _ _ x.subs (a++[x.name]) (s',none) (by omega) (hs.subs hx) (by simp;omega),foldF_stp]
      cases foldF y (xT (a++[x.name]) x.subs) s' with
      | none=>rfl
      | some v=>rcases v with ⟨b,s2⟩;cases b <;> rfl
   ·intro j l s2 hl
    rw [cloneString_is (by simp [vQ];omega),Option.bind_some,pathsXown_is (hs.leaf hx hl),Option.bind_some]

theorem loop_keep {α β ρ:Type} (p:α→Bool) (g:α→β) {f:Nat→α→List β→Option (Out ρ (List β))}:∀ (L:List α) (i:Nat) (s:List β),s.length+L.length≤vQ→(∀ i x s,x ∈ L→s.length+1≤vQ→f i x s=if p x=true then some (.nxt (s++[g x])) else some (.nxt s)) →
  z8 f L i s=some (.inr (s++(L.filter p).map g))
 | [],_,s,_,_=>by simp [z8]
 | x::t,i,s,hl,h=>by
  simp only [List.length_cons] at hl
  simp only [z8,h i x s (List.mem_cons_self ..) (by omega),List.filter_cons]
  cases hp:p x
  ·simp only [Bool.false_eq_true,if_false]
   exact loop_keep p g t (i+1) s (by omega) fun i x s hx=>h i x s (List.mem_cons_of_mem _ hx)
  ·simp only [if_true]
   rw [loop_keep p g t (i+1) (s++[g x]) (by simp;omega) fun i x s hx=>h i x s (List.mem_cons_of_mem _ hx)]
   simp
theorem keep_len (is:List zM→Bool) (a:List zM) (t:List GNode):(wg is a t).length≤t.length:=by
 rw [keepL_filter];exact Nat.le_trans (List.length_filter_le _ _) (by simp)
theorem kept_is (is:List zM→Bool) (f:List zM→Option Bool) (hf:∀ p,f p=some (is p)):∀ (n:Nat) (t:List GNode) (a:List zM),GNode.deps t < n→Small t→a.length+GNode.deps t≤2000000→wT n t a f=some (wg is a t)
 | 0,_,_,h,_,_=>by omega
 | n+1,t,a,h,hs,ha=>by
  unfold wT
  have hl:=hs.len
  have key:∀ (L:List GNode) (i:Nat) (s:List GNode),(∀ x ∈ L,x ∈ t)→s.length+L.length≤1048576→∀ {F:Nat→GNode→List GNode→Option (Out (List GNode) (List GNode))},(∀ i x s,x ∈ t→s.length+1≤1048576→F i x s=some (.nxt (if ((wx is a x).leaves.isEmpty&&(wx is a x).subs.isEmpty)=true then s else s++[wx is a x]))) →
    z8 F L i s=some (.inr (s++wg is a L)):=by
   intro L
   induction L with
   | nil=>intro i s _ _ F _;simp [z8,wg]
   | cons x r ih =>
    intro i s hm hsl F hF
    simp only [List.length_cons] at hsl
    simp only [z8,hF i x s (hm x (by simp)) (by omega),wg]
    cases he:((wx is a x).leaves.isEmpty&&(wx is a x).subs.isEmpty)
    ·simp only [Bool.false_eq_true,if_false]
     rw [ih (i+1) _ (fun y hy=>hm y (by simp [hy])) (by simp;omega) hF];simp
    ·simp only [if_true]
     exact ih (i+1) s (fun y hy=>hm y (by simp [hy])) (by omega) hF
  rw [key t 0 [] (fun _ h=>h) (by simpa using hl)]
  ·simp
  ·intro i x s hx hsl
   have hdp:=dep_mem hx
   have hds:=wX x
   have hll:=hs.leaves hx
   have hsub:=(hs.subs hx).len
   rw [cloneString_is (by unfold vQ;omega),Option.bind_some,yg (by simp [vQ];omega),kept_is is f hf n x.subs (a++[x.name]) (by omega) (hs.subs hx) (by simp;omega),Option.bind_some]
   rw [loop_keep (fun _=>is (a++[x.name])) (fun l=>l) x.leaves 0 [] (by simp [vQ];omega)]
   ·simp only [lp_inr,List.nil_append,List.map_id_fun',id]
    have hkl:(x.leaves.filter fun _=>is (a++[x.name]))=(if is (a++[x.name])=true then x.leaves else []):=by
     cases is (a++[x.name]) <;> simp
    rw [hkl,← keepN_eq]
    have hk:=keep_len is (a++[x.name]) x.subs
    have hw:decide ((IntKind.wrap .i64 (((if is (a++[x.name])=true then x.leaves else []).length:Int)+((wg is (a++[x.name]) x.subs).length:Int))) > 0)=!((wx is a x).leaves.isEmpty&&(wx is a x).subs.isEmpty):=by
     rw [keepN_eq]
     have h1:(if is (a++[x.name])=true then x.leaves else []).length≤1048576:=by cases is (a++[x.name]) <;> simp [hll]
     rw [w64n (by omega)]
     cases hA:(if is (a++[x.name])=true then x.leaves else []) <;> cases hB:wg is (a++[x.name]) x.subs <;> simp <;> omega
    rw [hw]
    cases ((wx is a x).leaves.isEmpty&&(wx is a x).subs.isEmpty)
    ·simp only [Bool.not_false,if_true,Bool.false_eq_true,if_false]
     rw [yg (by simp [vQ];omega)]
    ·simp
   ·intro j l s2 hl2 hs2
    rw [hf,Option.bind_some,pathsXown_is (hs.leaf hx hl2),Option.bind_some,yg (by simpa using hs2)]
theorem deps_bks:∀ (n:Nat) (t:List GNode),GNode.deps t≤n→GNode.deps t≤GNode.bks t:=by
 intro n
 induction n with
 | zero=>intro t ht;omega
 | succ n ih =>
  intro t
  induction t with
  | nil=>intro _;simp [GNode.deps]
  | cons x r ihr =>
   intro ht
   simp only [GNode.deps] at ht ⊢
   simp only [GNode.bks]
   have h1:=ihr (by omega)
   have h2:=wX x
   have h3:=ih x.subs (by omega)
   have h4:=bk_node x
   omega
theorem Small.dep {t:List GNode} (h:Small t):GNode.deps t≤1048576:=Nat.le_trans (deps_bks _ t (Nat.le_refl _)) h.2
theorem keptAll_is (is:List zM→Bool) (f:List zM→Option Bool) (hf:∀ p,f p=some (is p)) {t:List GNode} (h:Small t):pathsXkept t [] f=some (wg is [] t):=by
 unfold pathsXkept
 have hb:=h.dep
 rw [anyN_of (GNode.deps t+1) fun n hn=>kept_is is f hf n t [] (by omega) h (by simp;omega)]
theorem rows_len:∀ (n:Nat) (t:List GNode) (a:List zM),GNode.deps t≤n→(xT a t).length≤GNode.bks t:=by
 intro n
 induction n with
 | zero =>
  intro t a h
  cases t with
  | nil=>simp [xT]
  | cons x r=>simp only [GNode.deps] at h;have:=wX x;omega
 | succ n ih =>
  intro t
  induction t with
  | nil=>intro a _;simp [xT]
  | cons x r ihr =>
   intro a ht
   simp only [GNode.deps] at ht
   simp only [GNode.bks,xT,List.length_append]
   have h1:=ihr a (by omega)
   have h2:=wX x
   have h3:=ih x.subs (a++[x.name]) (by omega)
   have h4:=bk_node x
   have h5:=sum_len (f:=GLeaf.bk) (fun x=>by unfold GLeaf.bk;omega) x.leaves
   rw [rowsN_eq]
   simp only [List.length_append,List.length_map]
   omega
theorem fold_app {X:Type}:∀ (xs s:List X),s.length+xs.length≤vQ→foldF (stp (fun (s1:List X) (x1:X)=>((vP (s1.length+([x1]:List X).length≤vQ) (some (true,((s1++[x1]),none)))):Option (Bool×(List X×Option Nat))))) xs (s,none)=some (true,(s++xs,none))
 | [],s,_=>by simp [foldF]
 | x::r,s,h=>by
  simp only [List.length_cons] at h
  simp only [foldF,stp]
  rw [yg (by simp;omega)]
  simp only [Option.bind_some,if_true]
  rw [fold_app r (s++[x]) (by simp;omega)]
  simp
theorem pathsRows_is {t:List GNode} (h:Small t):pathsRows t=some (if treeB 0 t=true then xT [] t else []):=by
 unfold pathsRows
 rw [treeMay_is h,Option.bind_some]
 cases treeB 0 t
 ·rfl
 ·have hd:=h.dep
  have hrl:=rows_len _ t [] (Nat.le_refl _)
  have hb:=h.2
  simp only [Bool.not_true,Bool.false_eq_true,if_false,if_true,qd,Option.bind_some,vd,wn,pathsXrowsC1]
  rw [anyN_of (r:=(xT [] t,none)) (GNode.deps t+1) fun n hn=>by
   rw [rows_is (S:=Unit) n _ _ t [] ([],none) (by omega) h (by simp;omega),fold_app _ _ (by simp [vQ];omega)];rfl]
  rfl

theorem less_trans:∀ {a b c:List UInt8},Op.bytesLess a b=true→Op.bytesLess b c=true→Op.bytesLess a c=true
 | _,[],_,h,_=>by cases ‹List UInt8› <;> simp [Op.bytesLess] at h
 | a,b::y,[],_,h=>by simp [Op.bytesLess] at h
 | [],b::y,c::z,_,_=>rfl
 | a::x,b::y,c::z,h1,h2=>by
  simp only [Op.bytesLess,Bool.or_eq_true,decide_eq_true_eq,Bool.and_eq_true,beq_iff_eq] at h1 h2 ⊢
  rcases h1 with h1 | ⟨rfl,h1⟩
  ·rcases h2 with h2 | ⟨rfl,h2⟩
   ·left;exact UInt8.lt_trans h1 h2
   ·left;exact h1
  ·rcases h2 with h2 | ⟨rfl,h2⟩
   ·left;exact h2
   ·right;exact ⟨rfl,less_trans h1 h2⟩
theorem upB_iff (t:List GNode):upB t=true ↔ t.Pairwise (fun x y=>Op.bytesLess x.name y.name=true):=by
 unfold upB
 rw [wC]
 constructor
 ·intro h
  rw [List.pairwise_iff_getElem]
  intro i j hi hj hij
  obtain ⟨k,rfl⟩:∃ k,j=i+1+k:=⟨j - i - 1,by omega⟩
  induction k with
  | zero =>
   have:=h (i+1) _ (List.getElem?_eq_getElem hj)
   simp only [Nat.add_sub_cancel,Bool.or_eq_true,decide_eq_true_eq] at this
   rcases this with h0 | h0
   ·omega
   ·rw [List.getD_eq_getElem?_getD,List.getElem?_eq_getElem hi] at h0;exact h0
  | succ k ih =>
   have h1:=ih (by omega) (by omega)
   have:=h (i+1+(k+1)) _ (List.getElem?_eq_getElem hj)
   simp only [Bool.or_eq_true,decide_eq_true_eq] at this
   rcases this with h0 | h0
   ·omega
   ·rw [show i+1+(k+1) - 1=i+1+k by omega,List.getD_eq_getElem?_getD,List.getElem?_eq_getElem (by omega:i+1+k < t.length)] at h0
    exact less_trans h1 h0
 ·intro h i x hx
  rcases i with _ | i
  ·rfl
  ·rw [List.pairwise_iff_getElem] at h
   obtain ⟨hi,rfl⟩:=List.getElem?_eq_some_iff.1 hx
   have:=h i (i+1) (by omega) hi (by omega)
   simp only [Nat.add_sub_cancel,Bool.or_eq_true]
   right
   rw [List.getD_eq_getElem?_getD,List.getElem?_eq_getElem (by omega:i < t.length)];exact this
section
variable (is:List zM→Bool)
theorem keep_up (a:List zM) {t:List GNode} (h:upB t=true):upB (wg is a t)=true:=by
 rw [upB_iff] at h ⊢
 rw [keepL_filter]
 refine List.Pairwise.filter _ ?_
 rw [List.pairwise_map]
 exact h.imp fun {x y} h=>by rw [keepN_eq,keepN_eq];exact h
theorem tree_ind {M:List GNode→Prop} (h0:M []) (h1:∀ x r,M x.subs→M r→M (x::r)):∀ t,M t:=by
 have key:∀ (n:Nat) (t:List GNode),GNode.deps t≤n→M t:=by
  intro n
  induction n with
  | zero =>
   intro t h
   cases t with
   | nil=>exact h0
   | cons x r=>simp only [GNode.deps] at h;have:=wX x;omega
  | succ n ih =>
   intro t
   induction t with
   | nil=>intro _;exact h0
   | cons x r ihr =>
    intro h
    simp only [GNode.deps] at h
    have:=wX x
    exact h1 x r (ih x.subs (by omega)) (ihr (by omega))
 exact fun t=>key _ t (Nat.le_refl _)
theorem keep_may:∀ (t:List GNode) (d:Nat) (a:List zM),treeB d t=true→treeB d (wg is a t)=true:=by
 intro t
 have key:∀ (t:List GNode),(∀ (d:Nat) (a:List zM),treeB d t=true→treeB d (wg is a t)=true)∧(∀ (d:Nat) (a:List zM),qf d t=true→qf d (wg is a t)=true):=by
  refine tree_ind ⟨fun d a h=>h,fun d a h=>h⟩ ?_
  intro x r hx hr
  have h2:∀ (d:Nat) (a:List zM),qf d (x::r)=true→qf d (wg is a (x::r))=true:=by
   intro d a h
   simp only [qf,Bool.and_eq_true] at h
   simp only [wg]
   cases he:((wx is a x).leaves.isEmpty&&(wx is a x).subs.isEmpty)
   ·simp only [Bool.false_eq_true,if_false,qf,Bool.and_eq_true]
    refine ⟨?_,hr.2 d a h.2⟩
    have hn:=h.1
    rw [nodeB_eq] at hn ⊢
    simp only [Bool.and_eq_true,Bool.not_eq_true'] at hn ⊢
    rw [keepN_eq] at he ⊢
    refine ⟨⟨⟨hn.1.1.1,he⟩,hx.1 (d+1) _ hn.1.2⟩,?_⟩
    show leavesB (if is (a++[x.name])=true then x.leaves else [])=true
    split
    ·exact hn.2
    ·rfl
   ·simp only [if_true];exact hr.2 d a h.2
  refine ⟨fun d a h=>?_,h2⟩
  unfold treeB at h ⊢
  simp only [Bool.and_eq_true] at h ⊢
  refine ⟨⟨?_,keep_up is a h.1.2⟩,h2 d a h.2⟩
  have:decide (d < 3)=true:=by simpa using h.1.1
  rw [this];simp
 exact (key t).1
theorem keep_rows:∀ (t:List GNode) (a:List zM),xT a (wg is a t)=(xT a t).filter fun r=>is r.path:=by
 refine tree_ind (fun a=>rfl) ?_
 intro x r hx hr a
 have hN:rowsN a (wx is a x)=(rowsN a x).filter fun r=>is r.path:=by
  rw [keepN_eq,rowsN_eq,rowsN_eq,List.filter_append,← hx]
  simp only
  congr 1
  cases h:is (a++[x.name])
  ·simp [h]
  ·simp only [if_true]
   rw [List.filter_eq_self.2]
   intro r hr
   obtain ⟨l,_,rfl⟩:=List.mem_map.1 hr
   exact h
 simp only [wg,xT,List.filter_append,← hr,← hN]
 cases he:((wx is a x).leaves.isEmpty&&(wx is a x).subs.isEmpty)
 ·simp [xT]
 ·simp only [if_true]
  simp only [Bool.and_eq_true,List.isEmpty_iff] at he
  rw [rowsN_eq,he.1,he.2];simp [xT]
theorem keep_small:∀ (t:List GNode) (a:List zM),(GNode.wfs t→GNode.wfs (wg is a t))∧GNode.bks (wg is a t)≤GNode.bks t:=by
 refine tree_ind (fun a=>⟨fun h=>h,Nat.le_refl _⟩) ?_
 intro x r hx hr a
 have hb:(wx is a x).bk≤x.bk:=by
  have:=(hx (a++[x.name])).2
  cases x with
  | mk nm ls sb =>
   simp only [wx,GNode.bk] at this ⊢
   have h2:((if is (a++[nm])=true then ls else []).map GLeaf.bk).sum≤(ls.map GLeaf.bk).sum:=by split <;> simp
   omega
 have hw:x.wf→(wx is a x).wf:=by
  have:=(hx (a++[x.name])).1
  cases x with
  | mk nm ls sb =>
   simp only [wx,GNode.wf] at this ⊢
   rintro ⟨h1,h2,h3⟩
   refine ⟨h1,?_,this h3⟩
   split
   ·exact h2
   ·exact ⟨by simp,fun y hy=>by cases hy⟩
 simp only [wg]
 split
 ·refine ⟨fun h=>(hr a).1 (by simp only [GNode.wfs] at h;exact h.2),?_⟩
  have:=(hr a).2;simp only [GNode.bks];omega
 ·refine ⟨fun h=>?_,?_⟩
  ·simp only [GNode.wfs] at h ⊢;exact ⟨hw h.1,(hr a).1 h.2⟩
  ·have:=(hr a).2;simp only [GNode.bks];omega
theorem Small.keep {t:List GNode} (h:Small t) (a:List zM):Small (wg is a t):=⟨(keep_small is t a).1 h.1,Nat.le_trans (keep_small is t a).2 h.2⟩
end
theorem pathsSelect_is {t:List GNode} (h:Small t) {p:List zM} (hp:p.length≤maxLen):qA t p=some (if (treeB 0 t&&patB p)=true then (wg (matchB p) [] t,0) else ([],2)):=by
 unfold qA
 rw [treeMay_is h,vD hp,keptAll_is (matchB p) _ (fun q=>by unfold qu;rw [pathsMatch_is hp];rfl) h]
 cases treeB 0 t <;> cases patB p <;> rfl
theorem small_of {t:List GNode} (h:t.length≤maxLen∧∀ y ∈ t,GNode.wf y) (hb:(t.map GNode.bk).sum≤1048576):Small t:=⟨(GNode.wfs_iff t).2 h.2,by rw [GNode.bks_eq];exact hb⟩
end Go.Vv
