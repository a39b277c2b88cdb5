/- Plain laws, joined. -/
import Derived.Test.YtdodjocbjapaeaaGreatD
import Derived.Test.YtdodjocbjapaeaaGreatVvQ
namespace Go.Vv
open Go
def alnum (b:UInt8):Bool:=(decide (97≤b.toNat)&&decide (b.toNat≤122)) || (decide (65≤b.toNat)&&decide (b.toNat≤90)) || (decide (48≤b.toNat)&&decide (b.toNat≤57))
def other (r:Int):Bool:=!((decide (97≤r)&&decide (r≤122)) || (decide (65≤r)&&decide (r≤90)) || (decide (48≤r)&&decide (r≤57)))
def runeIdx (q:Int→Bool) (s:List UInt8) (i:Nat):Int :=
 if h:i < s.length then (if q (dec s i).1 then i else if (dec s i).2=0 then -1 else runeIdx q s (i+(dec s i).2)) else -1
termination_by s.length - i
decreasing_by omega
theorem dec_width (s:List UInt8) (i:Nat) (h:i < s.length):1≤(dec s i).2:=by
 have hs:i < (⟨s.toArray⟩:ByteArray).size:=by simpa [ByteArray.size] using h
 by_cases ha:((⟨s.toArray⟩:ByteArray)[i]'hs).toNat < 128
 ·unfold dec;rw [decode_ascii _ i hs ha];exact Nat.le_refl _
 ·exact (decode_high _ i hs (by omega)).2
theorem dec_low {s:List UInt8} {i:Nat} {b:UInt8} (hb:s[i]?=some b) (h:b.toNat < 128):dec s i=(b.toNat,1):=by
 have hl:i < s.length:=(List.getElem?_eq_some_iff.1 hb).1;have hs:i < (⟨s.toArray⟩:ByteArray).size:=by simpa [ByteArray.size] using hl
 have e:((⟨s.toArray⟩:ByteArray)[i]'hs)=b:=by
  have h1:((⟨s.toArray⟩:ByteArray)[i]'hs)=s[i]:=rfl;rw [h1];rw [List.getElem?_eq_getElem hl] at hb;injection hb
 unfold dec;rw [decode_ascii _ i hs (by rw [e];exact h),e]
theorem dec_hi {s:List UInt8} {i:Nat} {b:UInt8} (hb:s[i]?=some b) (h:128≤b.toNat):128≤(dec s i).1:=by
 have hl:i < s.length:=(List.getElem?_eq_some_iff.1 hb).1;have hs:i < (⟨s.toArray⟩:ByteArray).size:=by simpa [ByteArray.size] using hl
 have e:((⟨s.toArray⟩:ByteArray)[i]'hs)=b:=by
  have h1:((⟨s.toArray⟩:ByteArray)[i]'hs)=s[i]:=rfl;rw [h1];rw [List.getElem?_eq_getElem hl] at hb;injection hb
 exact (decode_high _ i hs (by rw [e];exact h)).1
theorem other_alnum {b:UInt8}:other (b.toNat:Int)=!alnum b:=by
 unfold other alnum;congr 1;rw [Bool.eq_iff_iff];simp;omega
theorem rune_all {s:List UInt8} (h:s.all alnum=true):∀ (n i:Nat),s.length - i=n→runeIdx other s i=-1
 | n,i,hn=>by
  rw [runeIdx.eq_def];by_cases hi:i < s.length
  ·rw [dif_pos hi];have hb:s[i]?=some s[i]:=List.getElem?_eq_getElem hi;have ha:alnum s[i]=true:=by rw [List.all_eq_true] at h;exact h _ (List.getElem_mem hi)
   have hlow:s[i].toNat < 128:=by
    unfold alnum at ha;simp only [Bool.or_eq_true,Bool.and_eq_true,decide_eq_true_eq] at ha;omega
   rw [dec_low hb hlow];simp only [other_alnum,ha,Bool.not_true,Bool.false_eq_true,if_false,Nat.one_ne_zero];exact rune_all h (s.length - (i+1)) (i+1) rfl
  ·rw [dif_neg hi]
 termination_by n=>n
 decreasing_by omega
theorem rune_some {s:List UInt8} {k:Nat} {b:UInt8} (hk:s[k]?=some b) (hb:alnum b=false):∀ (n i:Nat),k - i=n→i≤k→0≤runeIdx other s i
 | n,i,hn,hik=>by
  have hl:k < s.length:=(List.getElem?_eq_some_iff.1 hk).1;have hi:i < s.length:=by omega
  rw [runeIdx.eq_def,dif_pos hi];by_cases ho:other ((dec s i).1:Nat)=true
  ·rw [if_pos ho];omega
  ·rw [if_neg ho];have hc:s[i]?=some s[i]:=List.getElem?_eq_getElem hi;have hlow:s[i].toNat < 128:=by
    refine Decidable.byContradiction fun hh=>ho ?_;have:=dec_hi hc (by omega);unfold other;simp;omega
   rw [dec_low hc hlow] at ho ⊢;rw [other_alnum] at ho;have hne:i ≠ k:=by
    rintro rfl
    rw [hc] at hk;injection hk with hk;subst hk;rw [hb] at ho;exact ho rfl
   simp only [Nat.one_ne_zero,if_false];exact rune_some hk hb (k - (i+1)) (i+1) rfl (by omega)
 termination_by n=>n
 decreasing_by omega

def nameB (s:zk):Bool:=decide (1≤s.length)&&decide (s.length≤12)&&s.all alnum
def vm (p:List zk):Bool:=decide (1≤p.length)&&decide (p.length≤3)&&p.all nameB
theorem bnd1 (n:Nat):decide ((n:Int) ≥ 1)=decide (1≤n):=decide_eq_decide.2 (by omega)
theorem bnd12 (n:Nat):decide ((n:Int)≤12)=decide (n≤12):=decide_eq_decide.2 (by omega)
theorem bnd3 (n:Nat):decide ((n:Int)≤3)=decide (n≤3):=decide_eq_decide.2 (by omega)
theorem ref04IsName_is (s:zk):vV s=some (nameB s):=by
 unfold vV nameB;rw [loopL_all alnum false]
 ·split
  ·rename_i h;simp only [Bool.or_eq_true,decide_eq_true_eq] at h;congr 1;rw [eq_comm,Bool.and_eq_false_iff,Bool.and_eq_false_iff];left;rcases h with h | h
   ·exact .inl (decide_eq_false (by omega))
   ·exact .inr (decide_eq_false (by omega))
  ·rename_i h;simp only [Bool.or_eq_true,decide_eq_true_eq] at h;have h1:1≤s.length:=by omega
   have h2:s.length≤12:=by omega
   cases ha:s.all alnum <;> simp [h1,h2]
 ·intro i x _;unfold alnum;have e:(((decide ((x.toNat:Int) ≥ 97))&&(decide ((x.toNat:Int)≤122)) || (decide ((x.toNat:Int) ≥ 65))&&(decide ((x.toNat:Int)≤90))) || (decide ((x.toNat:Int) ≥ 48))&&(decide ((x.toNat:Int)≤57))) =
    (decide (97≤x.toNat)&&decide (x.toNat≤122) || decide (65≤x.toNat)&&decide (x.toNat≤90) || decide (48≤x.toNat)&&decide (x.toNat≤57)):=by
   rw [Bool.eq_iff_iff];simp;omega
  rw [e];generalize (decide (97≤x.toNat)&&decide (x.toNat≤122) || decide (65≤x.toNat)&&decide (x.toNat≤90) || decide (48≤x.toNat)&&decide (x.toNat≤57))=b;cases b <;> rfl
theorem rune_loop (q:Int→Bool) (s:zk) {f:Nat→Option (Out Int Nat)} (hf:∀ i,f i=if i < s.length then (if q (dec s i).1=true then some (.ret (i:Int)) else some (.nxt (i+(dec s i).2))) else some (.brk i)) :
  ∀ (k i:Nat),s.length - i=k→lp (yr f i) (fun _=>some (-1:Int))=some (runeIdx q s i)
 | k,i,hk=>by
  rw [yS,runeIdx.eq_def,hf];by_cases h:i < s.length
  ·have hw:=dec_width s i h;rw [if_pos h,dif_pos h];by_cases hq:q (dec s i).1=true
   ·simp [hq]
   ·have h0:¬ (dec s i).2=0:=by omega
    simp only [if_neg hq,if_neg h0];exact rune_loop q s hf (s.length - (i+(dec s i).2)) _ rfl
  ·rw [if_neg h,dif_neg h];rfl
 termination_by k=>k
 decreasing_by omega
theorem stringsContains_other (s:zk):xl s (fun x=>qO x)=some (!s.all alnum):=by
 have e:(fun x=>qO x)=fun x=>some (other x):=by
  funext x;unfold qO other;congr 1;rw [Bool.eq_iff_iff];simp
 unfold xl wZ wF;rw [e,rune_loop other s (fun i=>by simp) _ 0 rfl];simp only [Option.bind_some];congr 1;cases h:s.all alnum with
 | true=>rw [rune_all h _ 0 rfl];rfl
 | false =>
  rw [List.all_eq_false] at h;obtain ⟨b,hb,hn⟩:=h;obtain ⟨k,hk,rfl⟩:=List.getElem_of_mem hb;have:=rune_some (List.getElem?_eq_getElem hk) (by simpa using hn) _ 0 rfl (Nat.zero_le _);simp [this]
theorem opIsName_is (s:zk):opIsName s=some (nameB s):=by
 unfold opIsName nameB;rw [stringsContains_other,bnd1,bnd12];cases h1:decide (1≤s.length) <;> cases h2:decide (s.length≤12) <;> simp
theorem contains_is {f:zk→Option Bool} {q:zk→Bool} (p:List zk) (hf:∀ x ∈ p,f x=some (q x)):yp p f=some (p.any q):=by
 unfold yp xH;rw [first_loop p hf];simp only [Option.bind_some,firstI_any]
theorem opMayPath_is (p:List zk):vZ p=some (vm p):=by
 unfold vZ vm;rw [contains_is (q:=fun s=>!nameB s) p (fun x _=>by unfold opMayPathC1;rw [opIsName_is];rfl),bnd1,bnd3];have e:p.any (fun s=>!nameB s)=!p.all nameB:=by rw [Bool.eq_iff_iff];simp
 rw [e];cases h1:decide (1≤p.length) <;> cases h2:decide (p.length≤3) <;> simp
def actorB (a:GActor):Bool:=decide (a.rep < 16)&&decide (a.inc ≥ 1)&&decide (a.inc≤4)
def xU (d:GDot):Bool:=actorB d.actor&&decide (d.seq ≥ 1)&&decide (d.seq≤1048576)
theorem dotMay_is (d:GDot):dotMay d=some (xU d):=rfl
theorem ref03MayActor_is (a:GActor):vl a=some (actorB a):=by
 unfold vl actorB;have:decide (a.rep≤15)=decide (a.rep < 16):=decide_eq_decide.2 (by omega);rw [this]
theorem ref03May_is (d:GDot):ql d=some (xU d):=by unfold ql;rw [ref03MayActor_is];rfl
def dotLt (a b:GDot):Bool:=if a.actor.rep ≠ b.actor.rep then decide (a.actor.rep < b.actor.rep) else if a.actor.inc ≠ b.actor.inc then decide (a.actor.inc < b.actor.inc) else decide (a.seq < b.seq)
theorem ref03Less_is (a b:GDot):vd a b=some (dotLt a b):=by
 unfold vd dotLt;by_cases h1:a.actor.rep=b.actor.rep <;> by_cases h2:a.actor.inc=b.actor.inc <;> simp [h1,h2]
def cmpI (a b:Int):Int:=if a < b then -1 else if b < a then 1 else 0
theorem cmpU8is (a b:Int):yV a b=some (cmpI a b):=by
 unfold yV wX cmpI;simp only [bne_self_eq_false,Option.bind_some,Bool.false_eq_true,if_false,decide_eq_true_eq,gt_iff_lt];split <;> (try split) <;> rfl
theorem cmpU32is (a b:Int):wi a b=some (cmpI a b):=by
 unfold wi wB cmpI;simp only [bne_self_eq_false,Option.bind_some,Bool.false_eq_true,if_false,decide_eq_true_eq,gt_iff_lt];split <;> (try split) <;> rfl
theorem cmpU64is (a b:Int):xz a b=some (cmpI a b):=by
 unfold xz wA cmpI;simp only [bne_self_eq_false,Option.bind_some,Bool.false_eq_true,if_false,decide_eq_true_eq,gt_iff_lt];split <;> (try split) <;> rfl
def or2 (a b:Int):Int:=if a ≠ 0 then a else b
theorem cmpOr2_is (a b:Int):cmpOrInt [a,b]=some (or2 a b):=by
 unfold cmpOrInt or2;by_cases h1:a=0 <;> by_cases h2:b=0 <;> simp [zr,h1,h2]
def actorCmp (a b:GActor):Int:=or2 (cmpI a.rep b.rep) (cmpI a.inc b.inc)
def dotCmp (a b:GDot):Int:=or2 (actorCmp a.actor b.actor) (cmpI a.seq b.seq)
theorem dotXcompare_is (a b:GActor):dotXcompare a b=some (actorCmp a b):=by
 unfold dotXcompare;rw [cmpU8is,cmpU32is];simp only [Option.bind_some];rw [cmpOr2_is];rfl
theorem dotCompare_is (a b:GDot):wt a b=some (dotCmp a b):=by
 unfold wt;rw [dotXcompare_is,cmpU64is];simp only [Option.bind_some];rw [cmpOr2_is];rfl
theorem dotCmp_lt (a b:GDot):decide (dotCmp a b ≥ 0)=!dotLt a b:=by
 unfold dotCmp actorCmp dotLt cmpI or2
 grind

def rising:List GDot→Bool
 | a::b::r=>dotLt a b&&rising (b::r)
 | _=>true
def yW (ds:List GDot) (i:Nat) (x:GDot):Bool:=decide (i=0) || dotLt (ds.getD (i - 1) default) x
theorem rising_loop (ds:List GDot) {g:Nat→GDot→Unit→Option (Out Bool Unit)}
  (hg:∀ i x,ds[i]?=some x→g i x ()=if (xU x&&yW ds i x)=true then some (.nxt ()) else some (.ret false)) :
  lp (zr g ds 0 ()) (fun _=>some true)=some (ds.all xU&&rising ds):=by
 have key:∀ (L pre:List GDot),ds=pre++L→lp (zr g L pre.length ()) (fun _=>some true)=some (L.all xU&&rising (match pre.getLast? with | some y=>y::L | none=>L)):=by
  intro L
  induction L with
  | nil=>intro pre h;cases hp:pre.getLast? <;> simp [zr,rising]
  | cons x t ih =>
   intro pre h;have hx:ds[pre.length]?=some x:=by rw [h];simp
   have ih':=ih (pre++[x]) (by rw [h];simp);simp only [List.length_append,List.length_cons,List.length_nil,Nat.zero_add,List.getLast?_append,List.getLast?_singleton,Option.some_or] at ih';simp only [zr,hg _ _ hx];cases hp:pre.getLast? with
   | none =>
    have hpre:pre=[]:=List.getLast?_eq_none_iff.1 hp;subst hpre;simp only [List.length_nil,Nat.zero_add] at ih' ⊢;cases hd:xU x <;> simp [yW,hd,ih']
   | some y =>
    have hne:pre ≠ []:=by rintro rfl;simp at hp
    have h0:0 < pre.length:=List.length_pos_iff.2 hne;have hy:ds.getD (pre.length - 1) default=y:=by
     rw [List.getD_eq_getElem?_getD,h,List.getElem?_append_left (by omega)];rw [List.getLast?_eq_getElem?] at hp;rw [hp];rfl
    have ha:yW ds pre.length x=dotLt y x:=by
     unfold yW;rw [hy];have:decide (pre.length=0)=false:=decide_eq_false (by omega);rw [this];rfl
    rw [ha];cases hd:xU x <;> cases hlt:dotLt y x <;> simp [hd,hlt,ih',rising]
 have:=key ds [] rfl;simpa using this
theorem same_loop {α:Type} [DecidableEq α] (M:List α) {eq:α→α→Bool} (he:∀ a b,eq a b=decide (a=b)) {f:Nat→α→Unit→Option (Out Bool Unit)} :
  ∀ (L:List α) (i:Nat),L.length+i=M.length→(∀ j x,L[j]?=some x→f (i+j) x ()=(yo M ((i+j:Nat):Int)).bind fun y=>if (!eq x y)=true then some (.ret false) else some (.nxt ())) →
  zr f L i ()=if L=M.drop i then some (.inr ()) else some (.inl false)
 | [],i,hl,_=>by
  rw [List.drop_of_length_le (by simp at hl;omega)];rfl
 | x::t,i,hl,h=>by
  simp only [List.length_cons] at hl;have hi:i < M.length:=by omega
  have h0:=h 0 x rfl;simp only [Nat.add_zero] at h0;rw [qv hi] at h0;have ih:=same_loop M he (f:=f) t (i+1) (by omega) (fun j y hj=>by have:=h (j+1) y hj;rw [show i+1+j=i+(j+1) by omega];exact this);have e:M.drop i=M[i]::M.drop (i+1):=(List.getElem_cons_drop hi).symm;simp only [zr,h0,Option.bind_some,he,e];by_cases hx:x=M[i]
  ·simp only [hx,decide_true,Bool.not_true,Bool.false_eq_true,if_false,ih,List.cons.injEq,true_and]
  ·have hne:¬ (x::t=M[i]::M.drop (i+1)):=fun hh=>hx (List.cons.inj hh).1;simp only [decide_eq_false hx,Bool.not_false,if_true,if_neg hne]
theorem dotEq (a b:GDot):(a.actor.rep==b.actor.rep&&(a.actor.inc==b.actor.inc&&(a.seq==b.seq&&true)))=decide (a=b):=by
 rcases a with ⟨⟨a1,a2⟩,a3⟩;rcases b with ⟨⟨b1,b2⟩,b3⟩
 rw [Bool.eq_iff_iff];simp [and_assoc]
theorem slicesEqualDot_is (L M:List GDot):wK L M=some (decide (L=M)):=by
 unfold wK;by_cases hl:L.length=M.length
 ·have e:((L.length:Int) != (M.length:Int))=false:=by simp;omega
  rw [e,same_loop M dotEq L 0 (by omega) (fun j x hj=>by simp)];by_cases h:L=M <;> simp [h]
 ·have e:((L.length:Int) != (M.length:Int))=true:=by simp;omega
  rw [e,decide_eq_false (fun h=>hl (by rw [h]))];rfl
section
variable {α ρ:Type}
def allI (g:Nat→α→Bool) (L:List α):Bool:=L.zipIdx.all fun p=>g p.2 p.1
theorem allI_iff {g:Nat→α→Bool} {L:List α}:allI g L=true ↔ ∀ i x,L[i]?=some x→g i x=true:=by
 unfold allI;rw [List.all_eq_true];constructor
 ·intro h i x hx;exact h (x,i) (List.mem_zipIdx_iff_getElem?.2 hx)
 ·rintro h ⟨x,i⟩ hx
  exact h i x (List.mem_zipIdx_iff_getElem?.1 hx)
theorem loopL_allI (g:Nat→α→Bool) {r:ρ} {f:Nat→α→Unit→Option (Out ρ Unit)}:∀ (L:List α) (k:Nat),(∀ i x,L[i]?=some x→f (k+i) x ()=if g (k+i) x=true then some (.nxt ()) else some (.ret r)) →
  zr f L k ()=if ((L.zipIdx k).all fun p=>g p.2 p.1)=true then some (.inr ()) else some (.inl r)
 | [],_,_=>rfl
 | x::t,k,h=>by
  have h0:=h 0 x rfl;simp only [Nat.add_zero] at h0;have ih:=loopL_allI g (f:=f) (r:=r) t (k+1) (fun i y hy=>by have:=h (i+1) y (by simpa using hy);rw [show k+1+i=k+(i+1) by omega];exact this);simp only [zr,h0,List.zipIdx_cons,List.all_cons];by_cases hg:g k x=true
  ·simp only [hg,if_true,ih,Bool.true_and]
  ·simp only [hg,Bool.false_eq_true,if_false,Bool.false_and]
theorem qs {σ:Type} (g:Nat→α→Bool) {r:σ} {L:List α} {f:Nat→α→Unit→Option (Out σ Unit)} {rest:Unit→Option σ} (hf:∀ i x,L[i]?=some x→f i x ()=if g i x=true then some (.nxt ()) else some (.ret r)) :
  lp (zr f L 0 ()) rest=if allI g L=true then rest () else some r:=by
 rw [loopL_allI g L 0 (fun i x hx=>by simpa using hf i x hx)];unfold allI;split <;> rfl
theorem lp_all0 {σ:Type} (g:α→Bool) {r:σ} {L:List α} {f:Nat→α→Unit→Option (Out σ Unit)} {rest:Unit→Option σ} (hf:∀ i x,L[i]?=some x→f i x ()=if g x=true then some (.nxt ()) else some (.ret r)) :
  lp (zr f L 0 ()) rest=if L.all g=true then rest () else some r:=by
 rw [qs (fun _=>g) hf];have:allI (fun _=>g) L=L.all g:=by
  rw [Bool.eq_iff_iff,allI_iff,List.all_eq_true];exact ⟨fun h x hx=>by obtain ⟨i,hi⟩:=List.mem_iff_getElem?.1 hx;exact h i x hi,fun h i x hx=>h x (List.mem_of_getElem? hx)⟩
 rw [this]
end
theorem vM {j:Nat} (hl:j+1≤maxLen):IntKind.wrap .i64 (((j+1:Nat):Int) - 1)=(j:Int):=by
 simp only [maxLen] at hl;rw [w64n (by omega)];omega
theorem wrap_add1 {j:Nat} (hl:j+1≤maxLen):IntKind.wrap .i64 ((j:Int)+1)=((j+1:Nat):Int):=by
 simp only [maxLen] at hl;rw [w64n (by omega)];omega
theorem pos_succ (j:Nat):decide (((j+1:Nat):Int) > 0)=true:=decide_eq_true (by omega)
def qf (n:Int):Bool:=decide (n ≥ 1)&&decide (n≤1099511627776)
def aheadI (a b:GItem):Bool:=if a.time ≠ b.time then decide (a.time < b.time) else dotLt a.dot b.dot
theorem leafXisTime_is (n:Int):leafXisTime n=some (qf n):=rfl
theorem leafXisText_is (s:zk):qa s=some (decide (s.length≤40)):=by unfold qa;rw [decide_eq_decide.2 (show ((s.length:Int)≤40) ↔ s.length≤40 by omega)]
theorem dotCmp_neg (a b:GDot):decide (dotCmp a b < 0)=dotLt a b:=by
 have h:=dotCmp_lt a b;have:decide (dotCmp a b < 0)=!decide (dotCmp a b ≥ 0):=by rw [Bool.eq_iff_iff];simp
 rw [this,h,Bool.not_not]
theorem leafAhead_is (a:Int) (d:GDot) (b:Int) (o:GDot):qT a d b o=some (if a ≠ b then decide (a < b) else dotLt d o):=by
 unfold qT ve;rw [cmpU64is,dotCompare_is];simp only [Option.bind_some,cmpOr2_is];congr 1;by_cases h:a=b
 ·subst h;have:cmpI a a=0:=by unfold cmpI;simp
  simp [or2,this,dotCmp_neg]
 ·have:cmpI a b ≠ 0:=by unfold cmpI;split <;> (try split) <;> omega
  simp only [or2,this,ne_eq,not_false_eq_true,if_true,h];unfold cmpI;rw [Bool.eq_iff_iff];simp only [decide_eq_true_eq];split <;> (try split) <;> omega
theorem ref05Ahead_is (a:Int) (d:GDot) (b:Int) (o:GDot):wN a d b o=some (if a ≠ b then decide (a < b) else dotLt d o):=by
 unfold wN;by_cases h:a=b <;> simp [h,ref03Less_is]
def prevI {α:Type} [Inhabited α] (L:List α) (i:Nat):α:=L.getD (i - 1) default
def wV (timed:Bool) (x:GItem):Bool:=xU x.dot&&decide (x.text.length≤40)&&(if timed then qf x.time else decide (x.time=0))
def riseB (L:List GItem):Bool:=allI (fun i x=>decide (i=0) || aheadI (prevI L i) x) L
def onceB (L:List GItem):Bool:=decide ((L.map (·.dot)).Nodup)
theorem eqb_iff (a b:GDot):GDot.eqb a b=decide (a=b):=by unfold GDot.eqb;exact dotEq a b
def qu (m:List (GDot×Int)):List GDot:=m.map (·.1)
theorem mput_keys (m:List (GDot×Int)) (k:GDot) (v:Int):qu (mput GDot.eqb m k v)=if k ∈ qu m then qu m else qu m++[k]:=by
 induction m with
 | nil=>simp [mput,qu]
 | cons e r ih =>
  simp only [mput,eqb_iff];by_cases h:k=e.1
  ·simp [h,qu]
  ·simp only [decide_eq_false h,Bool.false_eq_true,if_false,qu,List.map_cons,List.mem_cons] at ih ⊢;rw [ih];by_cases h2:k ∈ r.map (·.1) <;> simp [h,h2]
theorem twice_fold:∀ (L:List GItem) (m:List (GDot×Int)),(qu m).Nodup →
  (L.foldl (fun s x=>mput GDot.eqb s x.dot (IntKind.wrap .i64 ((x7 GDot.eqb 0 s x.dot)+1))) m).length≤m.length+L.length ∧
  ((L.foldl (fun s x=>mput GDot.eqb s x.dot (IntKind.wrap .i64 ((x7 GDot.eqb 0 s x.dot)+1))) m).length=m.length+L.length ↔ (qu m++L.map (·.dot)).Nodup)
 | [],m,h=>by simp [h]
 | x::t,m,h=>by
  simp only [List.foldl_cons];have hk:=mput_keys m x.dot (IntKind.wrap .i64 ((x7 GDot.eqb 0 m x.dot)+1));generalize hm:mput GDot.eqb m x.dot (IntKind.wrap .i64 ((x7 GDot.eqb 0 m x.dot)+1))=m' at hk;have hl:m'.length=(qu m').length:=by simp [qu]
  have hl0:m.length=(qu m).length:=by simp [qu]
  by_cases hx:x.dot ∈ qu m
  ·rw [if_pos hx] at hk;have ih:=twice_fold t m' (by rw [hk];exact h);rw [hk] at ih hl;refine ⟨by simp only [List.length_cons];omega,?_⟩;constructor
   ·intro he;simp only [List.length_cons] at he;omega
   ·intro hn;rw [List.nodup_append] at hn;exact absurd rfl (hn.2.2 _ hx _ (by simp))
  ·rw [if_neg hx] at hk;have hnd:(qu m++[x.dot]).Nodup:=by
    rw [List.nodup_append];refine ⟨h,by simp,fun a ha b hb=>?_⟩;simp at hb;subst hb;rintro rfl;exact hx ha
   have ih:=twice_fold t m' (by rw [hk];exact hnd);rw [hk] at ih hl;simp only [List.length_append,List.length_cons,List.length_nil] at hl;refine ⟨by simp only [List.length_cons];omega,?_⟩;have e:qu m++[x.dot]++t.map (·.dot)=qu m++(x::t).map (·.dot):=by simp
   rw [← e,← ih.2];simp only [List.length_cons];omega
theorem leafXtwice_is (L:List GItem):leafXtwice L=some (!onceB L):=by
 unfold leafXtwice;rw [loopL_fold (fun s x=>mput GDot.eqb s x.dot (IntKind.wrap .i64 ((x7 GDot.eqb 0 s x.dot)+1))) L 0 [] (fun _ _ _ _=>rfl)];have h:=twice_fold L [] (by simp [qu]);simp only [List.length_nil,Nat.zero_add,qu,List.map_nil,List.nil_append] at h;simp only [xd,onceB];congr 1;generalize List.length (List.foldl _ _ _)=n at h ⊢;by_cases hn:(L.map (·.dot)).Nodup
 ·have:=h.2.2 hn;rw [decide_eq_true hn,decide_eq_false (by omega)];rfl
 ·have h1:n ≠ L.length:=fun e=>hn (h.2.1 e);rw [decide_eq_false hn,decide_eq_true (by omega)];rfl
theorem leafXitems_is {L:List GItem} (hl:L.length≤maxLen) (timed:Bool):qS L timed=some (L.all (wV timed)&&riseB L&&onceB L):=by
 unfold qS;rw [qs (r:=false) (fun i x=>wV timed x&&(decide (i=0) || aheadI (prevI L i) x))]
 ·rw [leafXtwice_is];have e:allI (fun i x=>wV timed x&&(decide (i=0) || aheadI (prevI L i) x)) L=(L.all (wV timed)&&riseB L):=by
   rw [Bool.eq_iff_iff,Bool.and_eq_true,riseB,allI_iff,allI_iff,List.all_eq_true];constructor
   ·intro h;exact ⟨fun x hx=>by obtain ⟨i,hi⟩:=List.mem_iff_getElem?.1 hx;have:=h i x hi;simp only [Bool.and_eq_true] at this;exact this.1,fun i x hx=>by have:=h i x hx;simp only [Bool.and_eq_true] at this;exact this.2⟩
   ·rintro ⟨h1,h2⟩ i x hx
    simp only [Bool.and_eq_true];exact ⟨h1 x (List.mem_of_getElem? hx),h2 i x hx⟩
  rw [e];simp only [Option.bind_some,Bool.not_not];cases L.all (wV timed)&&riseB L <;> simp
 ·intro i x hx;have hi:i < L.length:=(List.getElem?_eq_some_iff.1 hx).1;simp only [dotMay_is,leafXisText_is,leafXisTime_is,Option.bind_some,leafAhead_is];have hb:wV timed x=(xU x.dot&&decide (x.text.length≤40)&&(timed==qf x.time)&&(timed || decide (x.time=0))):=by
   unfold wV;cases timed
   ·by_cases h0:x.time=0
    ·simp [h0,show qf 0=false from rfl]
    ·simp [h0]
   ·simp
  rw [hb];cases hd:xU x.dot
  ·simp
  cases ht:decide (x.text.length≤40)
  ·simp
  by_cases htt:timed=qf x.time
  ·have hz:(x.time != 0)=!decide (x.time=0):=by rw [Bool.eq_iff_iff];simp
   have e1:(timed==qf x.time)=true:=by simpa using htt
   rw [hz,e1];cases hzz:(timed || decide (x.time=0))
   ·have:(!timed&&!decide (x.time=0))=true:=by rw [← Bool.not_or,hzz];rfl
    simp [this]
   have:(!timed&&!decide (x.time=0))=false:=by rw [← Bool.not_or,hzz];rfl
   rw [this];rcases i with _ | j
   ·simp [yv,htt]
   ·rw [vM (by simp only [maxLen] at hl ⊢;omega),pos_succ];have hj:(j:Int) < (L.length:Int):=by omega
    simp [yv,hj,prevI,aheadI,htt];by_cases hq:(L[j]?.getD default).time=x.time
    ·cases hdl:dotLt (L[j]?.getD default).dot x.dot <;> simp [hq,hdl]
    ·by_cases hlt:(L[j]?.getD default).time < x.time
     ·simp [hq,hlt,Int.not_le.2 hlt]
     ·simp [hq,hlt,Int.not_lt.1 hlt]
  ·have e1:(timed==qf x.time)=false:=by simpa using htt
   rw [e1];simp [htt]

theorem itemEq (a b:GItem):(a.time==b.time&&(a.dot.actor.rep==b.dot.actor.rep&&(a.dot.actor.inc==b.dot.actor.inc&&(a.dot.seq==b.dot.seq&&(a.text==b.text&&true)))))=decide (a=b):=by
 rcases a with ⟨a0,⟨⟨a1,a2⟩,a3⟩,a4⟩;rcases b with ⟨b0,⟨⟨b1,b2⟩,b3⟩,b4⟩
 rw [Bool.eq_iff_iff];simp [and_assoc]
theorem slicesEqualItem_is (L M:List GItem):ww L M=some (decide (L=M)):=by
 unfold ww;by_cases hl:L.length=M.length
 ·have e:((L.length:Int) != (M.length:Int))=false:=by simp;omega
  rw [e,same_loop M itemEq L 0 (by omega) (fun j x hj=>by simp)];by_cases h:L=M <;> simp [h]
 ·have e:((L.length:Int) != (M.length:Int))=true:=by simp;omega
  rw [e,decide_eq_false (fun h=>hl (by rw [h]))];rfl
theorem leafSame_is (a b:GLeaf):wd a b=some (decide (a=b)):=by
 unfold wd;simp only [slicesEqualItem_is,slicesEqualDot_is,dotEq];rcases a with ⟨a0,a1,a2,a3,a4,a5,a6⟩;rcases b with ⟨b0,b1,b2,b3,b4,b5,b6⟩
 simp only [GLeaf.mk.injEq];by_cases h0:a0=b0 <;> by_cases h1:a1=b1 <;> by_cases h2:a2=b2 <;> by_cases h3:a3=b3 <;> by_cases h4:a4=b4 <;> by_cases h5:a5=b5 <;> by_cases h6:a6=b6 <;> simp [h0,h1,h2,h3,h4,h5,h6]
def dot0:GDot:=⟨⟨0,0⟩,0⟩
def zeroB (l:GLeaf):Bool:=decide (l.time=0)&&decide (l.dot=dot0)&&decide (l.text=[])
def tombsB (l:GLeaf):Bool:=l.tombs.all xU&&rising l.tombs&&l.tombs.all (fun d=>!l.items.any fun x=>decide (x.dot=d))
def leafB (l:GLeaf):Bool :=
 if l.typ=1 then zeroB l&&decide (l.items=[])&&decide (l.tombs=[])
 else if l.typ=2 then decide (l.n=0)&&decide (l.items=[])&&decide (l.tombs=[])&&(if l.time=0 then decide (l.dot=dot0)&&decide (l.text=[]) else qf l.time&&xU l.dot&&decide (l.text.length≤40))
 else if l.typ=3 then decide (l.n=0)&&zeroB l&&(l.items.all (wV false)&&riseB l.items&&onceB l.items)&&tombsB l
 else if l.typ=4 then decide (l.n=0)&&zeroB l&&decide (l.tombs=[])&&(l.items.all (wV true)&&riseB l.items&&onceB l.items)
 else false
theorem containsItem_is {f:GItem→Option Bool} {q:GItem→Bool} (p:List GItem) (hf:∀ x ∈ p,f x=some (q x)):yR p f=some (p.any q):=by
 unfold yR yf;rw [first_loop p hf,Option.bind_some,firstI_any]
theorem leafXhas_is (L:List GItem) (d:GDot):leafXhas L d=some (L.any fun x=>decide (x.dot=d)):=by
 unfold leafXhas;rw [containsItem_is (q:=fun x=>decide (x.dot=d)) L (fun x _=>by unfold leafXhasC1;rw [dotEq]),Option.bind_some]
theorem rising_allI (ds:List GDot):rising ds=allI (fun i x=>yW ds i x) ds:=by
 have h:=rising_loop ds (g:=fun i x _=>if (xU x&&yW ds i x)=true then some (.nxt ()) else some (.ret false)) (fun _ _ _=>rfl);have key:∀ (L pre:List GDot),ds=pre++L→rising (match pre.getLast? with | some y=>y::L | none=>L)=(L.zipIdx pre.length).all fun p=>yW ds p.2 p.1:=by
  intro L
  induction L with
  | nil=>intro pre _;cases pre.getLast? <;> simp [rising]
  | cons x t ih =>
   intro pre hd;have ih':=ih (pre++[x]) (by rw [hd];simp);simp only [List.length_append,List.length_cons,List.length_nil,Nat.zero_add,List.getLast?_append,List.getLast?_singleton,Option.some_or] at ih';simp only [List.zipIdx_cons,List.all_cons];cases hp:pre.getLast? with
   | none =>
    have hpre:pre=[]:=List.getLast?_eq_none_iff.1 hp;subst hpre;simp only [List.length_nil,Nat.zero_add] at ih' ⊢;rw [ih'];simp [yW]
   | some y =>
    have hne:pre ≠ []:=by rintro rfl;simp at hp
    have h0:0 < pre.length:=List.length_pos_iff.2 hne;have hy:ds.getD (pre.length - 1) default=y:=by
     rw [List.getD_eq_getElem?_getD,hd,List.getElem?_append_left (by omega)];rw [List.getLast?_eq_getElem?] at hp;rw [hp];rfl
    have ha:yW ds pre.length x=dotLt y x:=by
     unfold yW;rw [hy,decide_eq_false (by omega)];rfl
    rw [ha,← ih'];simp [rising]
 simpa [allI] using key ds [] rfl
theorem leafXtombs_is {l:GLeaf} (hl:l.tombs.length≤maxLen):leafXtombs l=some (tombsB l):=by
 unfold leafXtombs;rw [qs (r:=false) (fun i x=>xU x&&yW l.tombs i x&&!(l.items.any fun y=>decide (y.dot=x)))]
 ·have e:allI (fun i x=>xU x&&yW l.tombs i x&&!(l.items.any fun y=>decide (y.dot=x))) l.tombs=tombsB l:=by
   unfold tombsB;rw [Bool.eq_iff_iff,rising_allI,Bool.and_eq_true,Bool.and_eq_true,allI_iff,allI_iff,List.all_eq_true,List.all_eq_true];constructor
   ·intro h;refine ⟨⟨fun x hx=>?_,fun i x hx=>?_⟩,fun x hx=>?_⟩
    ·obtain ⟨i,hi⟩:=List.mem_iff_getElem?.1 hx;have:=h i x hi;simp only [Bool.and_eq_true] at this;exact this.1.1
    ·have:=h i x hx;simp only [Bool.and_eq_true] at this;exact this.1.2
    ·obtain ⟨i,hi⟩:=List.mem_iff_getElem?.1 hx;have:=h i x hi;simp only [Bool.and_eq_true] at this;exact this.2
   ·rintro ⟨⟨h1,h2⟩,h3⟩ i x hx
    have hm:=List.mem_of_getElem? hx;simp only [Bool.and_eq_true];exact ⟨⟨h1 x hm,h2 i x hx⟩,h3 x hm⟩
  rw [e];cases tombsB l <;> rfl
 ·intro i x hx;have hi:i < l.tombs.length:=(List.getElem?_eq_some_iff.1 hx).1;simp only [dotMay_is,Option.bind_some,dotCompare_is,leafXhas_is];cases hd:xU x
  ·simp [yv]
  rcases i with _ | j
  ·cases hh:(l.items.any fun y=>decide (y.dot=x)) <;> simp [yv,yW]
  ·rw [vM (by simp only [maxLen] at hl ⊢;omega),pos_succ];have hj:(j:Int) < (l.tombs.length:Int):=by omega
   have ha:yW l.tombs (j+1) x=dotLt (l.tombs.getD j default) x:=by unfold yW;simp
   have e:=dotCmp_lt (l.tombs.getD j default) x;rw [zo (by intro _;omega),ha,Int.toNat_natCast];generalize l.tombs.getD j default=y at e ⊢;simp only [Bool.not_true,BEq.rfl,Bool.true_and,if_true,Option.bind_some,e,Bool.false_or];cases hlt:dotLt y x
   ·simp
   ·cases hh:(l.items.any fun y=>decide (y.dot=x)) <;> simp
theorem leafMay_is {l:GLeaf} (hi:l.items.length≤maxLen) (ht:l.tombs.length≤maxLen):leafMay l=some (leafB l):=by
 unfold leafMay leafB;simp only [leafSame_is,leafXisTime_is,dotMay_is,leafXisText_is,leafXitems_is hi,leafXtombs_is ht,dotEq,Option.bind_some];rcases l with ⟨t,n,tm,d,tx,it,tb⟩
 simp only [GLeaf.mk.injEq,zeroB,beq_iff_eq,dot0];by_cases h1:t=1
 ·simp only [h1,if_true];congr 1;rw [Bool.eq_iff_iff];simp [and_assoc];intros;exact decide_eq_true_iff.symm
 by_cases h2:t=2
 ·subst h2;by_cases h0:tm=0
  ·subst h0;by_cases hd:d=⟨⟨0,0⟩,0⟩
   ·by_cases hx:tx=[]
    ·simp [hd,hx];rw [Bool.eq_iff_iff];simp [and_assoc]
    ·simp [hd,hx]
   ·have hz:((0:Int)==0&&!decide (d=⟨⟨0,0⟩,0⟩))=true:=by simp [hd]
    simp [hd];intro e1;rcases d with ⟨⟨d1,d2⟩,d3⟩
    simp_all
  ·cases htt:qf tm <;> cases hdd:xU d <;> cases hxx:decide (tx.length≤40) <;> simp_all [and_assoc];rw [Bool.eq_iff_iff];simp [and_assoc]
 by_cases h3:t=3
 ·subst h3;cases ha:(it.all (wV false)&&riseB it&&onceB it) <;> cases hb:tombsB ⟨3,n,tm,d,tx,it,tb⟩ <;> simp [and_assoc];rw [Bool.eq_iff_iff];simp [and_assoc];intros;exact decide_eq_true_iff.symm
 by_cases h4:t=4
 ·subst h4;cases ha:(it.all (wV true)&&riseB it&&onceB it) <;> simp [and_assoc];rw [Bool.eq_iff_iff];simp [and_assoc];intros;exact decide_eq_true_iff.symm
 simp [h1,h2,h3,h4]

theorem ref05Item_is (L:List GItem) (d:GDot):ref05Item L d=some (qw (fun x=>decide (x.dot=d)) L):=by
 unfold ref05Item;rw [loopL_first (fun x:GItem=>decide (x.dot=d)) (fun i _=>(i:Int)) _ _ (fun i x _=>by rw [dotEq])];unfold qw;cases h:L.findIdx? (fun x=>decide (x.dot=d)) with
 | none=>simp
 | some j =>
  obtain ⟨hj,_⟩:=List.findIdx?_eq_some_iff_getElem.1 h;simp [List.getElem?_eq_getElem hj]
theorem w9 (L:List GDot) (d:GDot):va L d=some (L.any fun x=>decide (x=d)):=by
 unfold va;rw [lp_all0 (r:=true) (fun x:GDot=>!decide (x=d)) (fun i x _=>by rw [dotEq];cases decide (x=d) <;> rfl)];have e:L.any (fun x=>decide (x=d))=!L.all (fun x=>!decide (x=d)):=by rw [Bool.eq_iff_iff];simp
 rw [e];cases L.all (fun x=>!decide (x=d)) <;> rfl
theorem first_nodup (L:List GItem):(∀ (i:Nat) (x:GItem),L[i]?=some x→qw (fun y:GItem=>decide (y.dot=x.dot)) L=(i:Int)) ↔ (L.map (·.dot)).Nodup:=by
 constructor
 ·intro h;rw [List.nodup_iff_pairwise_ne,List.pairwise_iff_getElem];intro i j hi hj hij e;simp only [List.length_map] at hi hj;simp only [List.getElem_map] at e;have h1:=h i _ (List.getElem?_eq_getElem hi);have h2:=h j _ (List.getElem?_eq_getElem hj);rw [e] at h1;rw [h1] at h2;omega
 ·intro h i x hx;obtain ⟨hi,rfl⟩:=List.getElem?_eq_some_iff.1 hx;unfold qw;have:L.findIdx? (fun y=>decide (y.dot=L[i].dot))=some i:=by
   rw [List.findIdx?_eq_some_iff_getElem];refine ⟨hi,by simp,fun j hj=>?_⟩;have hjl:j < L.length:=by omega
   simp only [decide_eq_true_eq];intro e;rw [List.nodup_iff_pairwise_ne,List.pairwise_iff_getElem] at h;exact h j i (by simpa using hjl) (by simpa using hi) hj (by simpa using e)
  rw [this]
def itemR (t:Int) (x:GItem):Bool:=xU x.dot&&decide (x.text.length≤40)&&(decide (t ≠ 3) || decide (x.time=0))&&(decide (t ≠ 4) || qf x.time)
def tailB (l:GLeaf):Bool:=l.items.all (itemR l.typ)&&onceB l.items&&l.items.all (fun x=>!(l.tombs.any fun y=>decide (y=x.dot)))&&riseB l.items&&(l.tombs.all xU&&rising l.tombs)
theorem items_allI (l:GLeaf):allI (fun i x=>itemR l.typ x&&(decide (qw (fun y:GItem=>decide (y.dot=x.dot)) l.items=(i:Int))&&(!(l.tombs.any fun y=>decide (y=x.dot))&&(decide (i=0) || aheadI (prevI l.items i) x)))) l.items =
  (l.items.all (itemR l.typ)&&onceB l.items&&l.items.all (fun x=>!(l.tombs.any fun y=>decide (y=x.dot)))&&riseB l.items):=by
 rw [Bool.eq_iff_iff,allI_iff];simp only [Bool.and_eq_true,decide_eq_true_eq,onceB,riseB,allI_iff,List.all_eq_true,← first_nodup];constructor
 ·intro h;refine ⟨⟨⟨fun x hx=>?_,fun i x hx=>(h i x hx).2.1⟩,fun x hx=>?_⟩,fun i x hx=>(h i x hx).2.2.2⟩
  ·obtain ⟨i,hi⟩:=List.mem_iff_getElem?.1 hx;exact (h i x hi).1
  ·obtain ⟨i,hi⟩:=List.mem_iff_getElem?.1 hx;exact (h i x hi).2.2.1
 ·rintro ⟨⟨⟨h1,h2⟩,h3⟩,h4⟩ i x hx
  have hm:=List.mem_of_getElem? hx;exact ⟨h1 x hm,h2 i x hx,h3 x hm,h4 i x hx⟩
theorem tombs_allI (ds:List GDot):allI (fun i x=>xU x&&yW ds i x) ds=(ds.all xU&&rising ds):=by
 rw [Bool.eq_iff_iff,allI_iff,rising_allI];simp only [Bool.and_eq_true,allI_iff,List.all_eq_true];constructor
 ·intro h;exact ⟨fun x hx=>by obtain ⟨i,hi⟩:=List.mem_iff_getElem?.1 hx;exact (h i x hi).1,fun i x hx=>(h i x hx).2⟩
 ·rintro ⟨h1,h2⟩ i x hx
  exact ⟨h1 x (List.mem_of_getElem? hx),h2 i x hx⟩
theorem ref05May_is {l:GLeaf} (hi:l.items.length≤maxLen) (ht:l.tombs.length≤maxLen) (h0:0≤l.time):ref05May l=some (leafB l):=by
 unfold ref05May;simp only [ref03May_is,ref05Item_is,w9,ref05Ahead_is,ref03Less_is,Option.bind_some,dotEq];generalize hT:lp (zr _ l.items 0 ()) _=T;have a1:decide ((l.items.length:Int) > 0)=!decide (l.items=[]):=by cases l.items <;> simp
 have a2:decide ((l.tombs.length:Int) > 0)=!decide (l.tombs=[]):=by cases l.tombs <;> simp
 have hT2:T=some (tailB l):=by
  rw [← hT,qs (r:=false) (fun i x=>itemR l.typ x&&(decide (qw (fun y:GItem=>decide (y.dot=x.dot)) l.items=(i:Int))&&(!(l.tombs.any fun y=>decide (y=x.dot))&&(decide (i=0) || aheadI (prevI l.items i) x))))]
  ·rw [qs (r:=false) (fun i x=>xU x&&yW l.tombs i x)]
   ·rw [items_allI,tombs_allI];unfold tailB;cases (l.items.all (itemR l.typ)&&onceB l.items&&l.items.all (fun x=>!(l.tombs.any fun y=>decide (y=x.dot)))&&riseB l.items) <;> cases (l.tombs.all xU&&rising l.tombs) <;> simp
   ·intro i x hx;have hil:i < l.tombs.length:=(List.getElem?_eq_some_iff.1 hx).1;have hxe:l.tombs.getD i default=x:=by rw [List.getD_eq_getElem?_getD,hx];rfl
    rcases i with _ | j
    ·cases hd:xU x <;> simp [yv,yW]
    ·rw [vM (by simp only [maxLen] at ht ⊢;omega),pos_succ,Int.toNat_natCast,Int.toNat_natCast,hxe];have ha:yW l.tombs (j+1) x=dotLt (l.tombs.getD j default) x:=by unfold yW;simp
     rw [zo (by intro _;omega),zo (by intro _;omega),ha];generalize l.tombs.getD j default=y;cases hd:xU x <;> cases hlt:dotLt y x <;> simp
  ·intro i x hx;have hil:i < l.items.length:=(List.getElem?_eq_some_iff.1 hx).1;have b1:decide ((x.text.length:Int) > 40)=!decide (x.text.length≤40):=by rw [Bool.eq_iff_iff];simp;omega
   have b2:(((l.typ==4)&&(decide (x.time < 1) || decide (x.time > 1099511627776))))=!(decide (l.typ ≠ 4) || qf x.time):=by
    rw [Bool.eq_iff_iff];simp [qf]
   have b3:((l.typ==3)&&(x.time != 0))=!(decide (l.typ ≠ 3) || decide (x.time=0)):=by rw [Bool.eq_iff_iff];simp
   rw [b1,b2,b3];have hc:(((!xU x.dot || !decide (x.text.length≤40)) || !(decide (l.typ ≠ 3) || decide (x.time=0))) || !(decide (l.typ ≠ 4) || qf x.time))=!itemR l.typ x:=by unfold itemR;simp only [Bool.not_and]
   rw [hc];have b4:(qw (fun y:GItem=>decide (y.dot=x.dot)) l.items != (i:Int))=!decide (qw (fun y:GItem=>decide (y.dot=x.dot)) l.items=(i:Int)):=by rw [Bool.eq_iff_iff];simp
   cases hr:itemR l.typ x
   ·simp
   simp only [Bool.not_true,BEq.rfl,if_true,Option.bind_some,Bool.false_or];rw [b4];cases hf:decide (qw (fun y:GItem=>decide (y.dot=x.dot)) l.items=(i:Int))
   ·simp
   cases htb:l.tombs.any fun y=>decide (y=x.dot)
   ·rcases i with _ | j
    ·simp [yv]
    ·rw [vM (by simp only [maxLen] at hi ⊢;omega),pos_succ,Int.toNat_natCast];rw [zo (by intro _;omega),zo (by intro _;omega)];have ha:(if (l.items.getD j default).time ≠ x.time then decide ((l.items.getD j default).time < x.time) else dotLt (l.items.getD j default).dot x.dot)=aheadI (prevI l.items (j+1)) x:=rfl;rw [ha];cases aheadI (prevI l.items (j+1)) x <;> simp
   ·simp
 subst hT2;clear hT;rw [a1,a2];have z1:(l.time != 0)=!decide (l.time=0):=by rw [Bool.eq_iff_iff];simp
 have z2:(l.time==0)=decide (l.time=0):=by rw [Bool.eq_iff_iff];simp
 have z3:(l.text==([]:zk))=decide (l.text=[]):=by rw [Bool.eq_iff_iff];simp
 have z4:decide (l.time > 1099511627776)=!decide (l.time≤1099511627776):=by rw [Bool.eq_iff_iff];simp
 have z5:decide ((l.text.length:Int) > 40)=!decide (l.text.length≤40):=by rw [Bool.eq_iff_iff];simp;omega
 have hz:zeroB l=(decide (l.time=0)&&decide (l.dot=dot0)&&decide (l.text=[])):=rfl;have z6:(l.dot.actor.rep==0&&(l.dot.actor.inc==0&&(l.dot.seq==0&&true)))=decide (l.dot=dot0):=dotEq l.dot dot0;rw [z1,z2,z3,z4,z5,z6];by_cases h1:l.typ=1
 ·have hi:decide (l.items=[])=true→tailB l=(l.tombs.all xU&&rising l.tombs):=by
   intro h;have:=of_decide_eq_true h;unfold tailB;rw [this];simp [onceB,riseB,allI]
  unfold leafB;simp only [h1,if_true,hz];cases hi2:decide (l.items=[])
  ·simp
  ·rw [hi hi2];cases ht2:decide (l.tombs=[])
   ·simp
   ·have:=of_decide_eq_true ht2;rw [this];cases decide (l.time=0) <;> cases decide (l.dot=dot0) <;> cases decide (l.text=[]) <;> simp [rising]
 by_cases h2:l.typ=2
 ·have hi:decide (l.items=[])=true→tailB l=(l.tombs.all xU&&rising l.tombs):=by
   intro h;have:=of_decide_eq_true h;unfold tailB;rw [this];simp [onceB,riseB,allI]
  unfold leafB;have ht40:qf l.time=(!decide (l.time=0)&&decide (l.time≤1099511627776)):=by
   unfold qf;rw [Bool.eq_iff_iff];simp;omega
  simp only [h2,if_true,ht40];cases hn:decide (l.n=0)
  ·have:(l.n != 0)=true:=by simpa using hn
   simp [this]
  ·have hn':l.n=0:=of_decide_eq_true hn;cases hi2:decide (l.items=[])
   ·simp [hn']
   ·rw [hi hi2];cases ht2:decide (l.tombs=[])
    ·simp [hn']
    ·have:=of_decide_eq_true ht2;rw [this];by_cases ht0:l.time=0
     ·cases hdd:decide (l.dot=dot0) <;> cases htx:decide (l.text=[]) <;> simp [hn',ht0,rising]
     ·cases hm:decide (l.time≤1099511627776) <;> cases hdd:xU l.dot <;> cases htx:decide (l.text.length≤40) <;> simp [hn',ht0,rising]
 by_cases h3:l.typ=3
 ·have e1:(fun x=>itemR 3 x)=wV false:=by
   funext x;unfold itemR wV;simp
  have e2:tailB l=(l.items.all (wV false)&&riseB l.items&&onceB l.items&&tombsB l):=by
   unfold tailB tombsB;rw [h3,show itemR 3=wV false from e1];have e3:l.items.all (fun x=>!(l.tombs.any fun y=>decide (y=x.dot)))=l.tombs.all (fun d=>!l.items.any fun x=>decide (x.dot=d)):=by
    rw [Bool.eq_iff_iff];simp only [List.all_eq_true,Bool.not_eq_true',List.any_eq_false,decide_eq_true_eq];exact ⟨fun h d hd x hx e=>h x hx d hd e.symm,fun h x hx d hd e=>h d hd x hx e.symm⟩
   rw [e3];cases l.items.all (wV false) <;> cases onceB l.items <;> cases riseB l.items <;> cases l.tombs.all xU <;> cases rising l.tombs <;> cases l.tombs.all (fun d=>!l.items.any fun x=>decide (x.dot=d)) <;> rfl
  unfold leafB;simp only [h3,e2,hz];cases hn:decide (l.n=0)
  ·have:(l.n != 0)=true:=by simpa using hn
   simp [this]
  ·have hn':l.n=0:=of_decide_eq_true hn;cases decide (l.time=0) <;> cases decide (l.dot=dot0) <;> cases decide (l.text=[]) <;> simp [hn']
 by_cases h4:l.typ=4
 ·have e1:(fun x=>itemR 4 x)=wV true:=by
   funext x;unfold itemR wV;simp
  have e2:decide (l.tombs=[])=true→tailB l=(l.items.all (wV true)&&riseB l.items&&onceB l.items):=by
   intro h;have:=of_decide_eq_true h;unfold tailB;rw [h4,show itemR 4=wV true from e1,this];cases l.items.all (wV true) <;> cases onceB l.items <;> cases riseB l.items <;> simp [rising]
  unfold leafB;simp only [h4,hz];cases hn:decide (l.n=0)
  ·have:(l.n != 0)=true:=by simpa using hn
   simp [this]
  ·have hn':l.n=0:=of_decide_eq_true hn;cases ht2:decide (l.tombs=[])
   ·simp [hn']
   ·rw [e2 ht2];cases decide (l.time=0) <;> cases decide (l.dot=dot0) <;> cases decide (l.text=[]) <;> simp [hn']
 have hlt:l.typ < 1 ∨ 4 < l.typ:=by omega
 have:(decide (l.typ < 1) || decide (l.typ > 4))=true:=by simp;omega
 unfold leafB;rw [this,if_neg h1,if_neg h2,if_neg h3,if_neg h4];simp

mutual
def GNode.dep:GNode→Nat
 | ⟨_,_,sb⟩=>GNode.deps sb+1
def GNode.deps:List GNode→Nat
 | []=>0
 | x::r=>max x.dep (GNode.deps r)
end
theorem dep_mem {x:GNode}:∀ {t:List GNode},x ∈ t→x.dep≤GNode.deps t
 | [],h=>by cases h
 | y::r,h=>by
  simp only [GNode.deps];rcases List.mem_cons.1 h with rfl | h
  ·omega
  ·have:=dep_mem h;omega
theorem xV (x:GNode):GNode.deps x.subs+1=x.dep:=by cases x;simp [GNode.dep]
def Small (t:List GNode):Prop:=GNode.wfs t∧GNode.bks t≤16777216
theorem bk_pos (x:GNode):1≤x.bk:=by cases x;simp only [GNode.bk];omega
theorem len_bks:∀ t:List GNode,t.length≤GNode.bks t
 | []=>by simp [GNode.bks]
 | x::r=>by have:=len_bks r;have:=bk_pos x;simp only [GNode.bks,List.length_cons];omega
theorem bk_mem {x:GNode}:∀ {t:List GNode},x ∈ t→x.bk≤GNode.bks t
 | [],h=>by cases h
 | y::r,h=>by
  simp only [GNode.bks];rcases List.mem_cons.1 h with rfl | h
  ·omega
  ·have:=bk_mem h;omega
theorem sum_len {α:Type} {f:α→Nat} (h:∀ x,1≤f x):∀ l:List α,l.length≤(l.map f).sum
 | []=>by simp
 | x::r=>by have:=sum_len h r;have:=h x;simp only [List.length_cons,List.map_cons,List.sum_cons];omega
theorem sum_mem {α:Type} {f:α→Nat} {x:α}:∀ {l:List α},x ∈ l→f x≤(l.map f).sum
 | [],h=>by cases h
 | y::r,h=>by
  simp only [List.map_cons,List.sum_cons];rcases List.mem_cons.1 h with rfl | h
  ·omega
  ·have:=sum_mem (f:=f) h;omega
theorem bk_node (x:GNode):x.name.length+1+((x.leaves.map GLeaf.bk).sum+1)+(GNode.bks x.subs+1)≤x.bk:=by cases x;simp only [GNode.bk];omega
theorem Small.subs {t:List GNode} (h:Small t) {x:GNode} (hx:x ∈ t):Small x.subs:=by
 refine ⟨?_,by have:=bk_mem hx;have:=bk_node x;have:=h.2;omega⟩;have:=(GNode.wfs_iff t).1 h.1 x hx;cases x;simp only [GNode.wf] at this;exact this.2.2
theorem Small.len {t:List GNode} (h:Small t):t.length≤16777216:=Nat.le_trans (len_bks t) h.2
structure LeafOk (l:GLeaf):Prop where
 items:l.items.length≤16777216
 tombs:l.tombs.length≤16777216
 time:0≤l.time
theorem Small.leaf {t:List GNode} (h:Small t) {x:GNode} (hx:x ∈ t) {l:GLeaf} (hl:l ∈ x.leaves):LeafOk l:=by
 have h1:=bk_mem hx;have h2:=bk_node x;have h3:=h.2;have h4:l.bk≤_:=sum_mem (f:=GLeaf.bk) hl;have h5:(l.items.map GItem.bk).sum+1+((l.tombs.map GDot.bk).sum+1)≤l.bk:=by unfold GLeaf.bk;omega
 have h6:=sum_len (f:=GItem.bk) (fun x=>by unfold GItem.bk;omega) l.items;have h7:=sum_len (f:=GDot.bk) (fun x=>by unfold GDot.bk;omega) l.tombs;refine ⟨by omega,by omega,?_⟩;have:=(GNode.wfs_iff t).1 h.1 x hx;cases x;simp only [GNode.wf] at this;have:=this.2.1.2 l hl;unfold GLeaf.wf at this;have:=this.2.2.1;unfold InK at this;simp [IntKind.min,IntKind.max,IntKind.signed,IntKind.bits] at this;omega
theorem Small.leaves {t:List GNode} (h:Small t) {x:GNode} (hx:x ∈ t):x.leaves.length≤16777216:=by
 have h1:=bk_mem hx;have h2:=bk_node x;have h3:=h.2;have h6:=sum_len (f:=GLeaf.bk) (fun x=>by unfold GLeaf.bk;omega) x.leaves;omega
def upB (t:List GNode):Bool:=allI (fun i x=>decide (i=0) || Op.bytesLess (t.getD (i - 1) default).name x.name) t
def leavesB (ls:List GLeaf):Bool:=allI (fun i l=>leafB l&&(decide (i=0) || decide ((ls.getD (i - 1) default).typ < l.typ))) ls
mutual
def nodeB (d:Nat):GNode→Bool
 | ⟨nm,ls,sb⟩=>nameB nm&&!(ls.isEmpty&&sb.isEmpty)&&((sb.isEmpty || decide (d+1 < 3))&&upB sb&&xE (d+1) sb)&&leavesB ls
def xE (d:Nat):List GNode→Bool
 | []=>true
 | x::r=>nodeB d x&&xE d r
end
def treeB (d:Nat) (t:List GNode):Bool:=(t.isEmpty || decide (d < 3))&&upB t&&xE d t
theorem yN (d:Nat):∀ t,xE d t=t.all (nodeB d)
 | []=>rfl
 | x::r=>by simp only [xE,List.all_cons,yN d r]
theorem nodeB_eq (d:Nat) (x:GNode):nodeB d x=(nameB x.name&&!(x.leaves.isEmpty&&x.subs.isEmpty)&&treeB (d+1) x.subs&&leavesB x.leaves):=by cases x;rfl
theorem up_nodes (d:Nat) (t:List GNode):allI (fun i x=>nodeB d x&&(decide (i=0) || Op.bytesLess (t.getD (i - 1) default).name x.name)) t=(upB t&&xE d t):=by
 rw [Bool.eq_iff_iff,allI_iff,yN];simp only [Bool.and_eq_true,upB,allI_iff,List.all_eq_true];constructor
 ·intro h;exact ⟨fun i x hx=>(h i x hx).2,fun x hx=>by obtain ⟨i,hi⟩:=List.mem_iff_getElem?.1 hx;exact (h i x hi).1⟩
 ·rintro ⟨h1,h2⟩ i x hx
  exact ⟨h2 x (List.mem_of_getElem? hx),h1 i x hx⟩
theorem lenE {α:Type} (l:List α):((l.length:Int)==0)=l.isEmpty:=by cases l <;> simp;omega
theorem treeXmayN_is:∀ (n:Nat) (t:List GNode) (d:Nat),GNode.deps t < n→d≤3→Small t→vN n t (d:Int)=some (treeB d t)
 | 0,_,_,h,_,_=>by omega
 | n+1,t,d,h,hd,hs=>by
  unfold vN;by_cases hc:(decide ((t.length:Int) > 0)&&((d:Int)==3))=true
  ·rw [if_pos hc];simp only [Bool.and_eq_true,decide_eq_true_eq,beq_iff_eq] at hc;have:t.isEmpty=false:=by cases t <;> simp at hc ⊢
   have hd3:decide (d < 3)=false:=decide_eq_false (by omega);simp [treeB,this,hd3]
  ·rw [if_neg hc];have hte:(t.isEmpty || decide (d < 3))=true:=by
    simp only [Bool.and_eq_true,decide_eq_true_eq,beq_iff_eq] at hc;cases t with
    | nil=>rfl
    | cons x r=>simp at hc ⊢;omega
   have hl:=hs.len;rw [qs (r:=false) (fun i x=>nodeB d x&&(decide (i=0) || Op.bytesLess (t.getD (i - 1) default).name x.name)),up_nodes]
   ·unfold treeB;rw [hte,Bool.true_and];cases upB t&&xE d t <;> rfl
   ·intro i x hx;have hi:i < t.length:=(List.getElem?_eq_some_iff.1 hx).1;have hm:=List.mem_of_getElem? hx;have hdp:=dep_mem hm;have hds:=xV x;have hne:0 < t.length:=by omega
    have hd3:d < 3:=by
     simp only [Bool.and_eq_true,decide_eq_true_eq,beq_iff_eq] at hc;omega
    have hw:IntKind.wrap .i64 ((d:Int)+1)=((d+1:Nat):Int):=by rw [w64n (by omega)];omega
    have ih:=treeXmayN_is n x.subs (d+1) (by omega) (by omega) (hs.subs hm);have hll:=hs.leaves hm;have hsl:=(hs.subs hm).len;have hw2:IntKind.wrap .i64 ((x.leaves.length:Int)+(x.subs.length:Int))=((x.leaves.length+x.subs.length:Nat):Int):=by rw [w64n (by omega)];omega
    have hz:((((x.leaves.length+x.subs.length:Nat):Int))==0)=(x.leaves.isEmpty&&x.subs.isEmpty):=by
     cases h1:x.leaves <;> cases h2:x.subs <;> simp <;> omega
    rw [opIsName_is,hw,ih,hw2,hz,nodeB_eq];have hlv:lp (zr (fun (n2:Nat) (x2:GLeaf) (s2:Unit)=>(((leafMay x2).bind fun v43=>(yv ((((!v43)==false)&&((decide ((n2:Int) > (0:Int)))==true))=true→0≤(IntKind.wrap .i64 ((n2:Int) - (1:Int)))∧(IntKind.wrap .i64 ((n2:Int) - (1:Int))) < ((x.leaves).length:Int)) ((if ((!v43) || ((decide ((n2:Int) > (0:Int)))&&(decide (((x.leaves).getD (IntKind.wrap .i64 ((n2:Int) - (1:Int))).toNat default).typ ≥ x2.typ))))=true then some (.ret (.ret false)) else some (.nxt ()))))):Option (Out (Out Bool Unit) Unit))) x.leaves 0 ()) (fun (s2:Unit)=>some (.nxt ()))=if leavesB x.leaves=true then some (.nxt ()) else some (.ret false):=by
     rw [qs (r:=.ret false) (fun i l=>leafB l&&(decide (i=0) || decide ((x.leaves.getD (i - 1) default).typ < l.typ)))]
     ·rfl
     ·intro j l hjl;have hjx:j < x.leaves.length:=(List.getElem?_eq_some_iff.1 hjl).1;have hlo:=hs.leaf hm (List.mem_of_getElem? hjl);rw [leafMay_is (by have:=hlo.items;simp only [maxLen];omega) (by have:=hlo.tombs;simp only [maxLen];omega)];simp only [Option.bind_some];rcases j with _ | j
      ·cases leafB l <;> simp [yv]
      ·rw [vM (by simp only [maxLen];omega),pos_succ,Int.toNat_natCast,zo (by intro _;omega)];have e:decide ((x.leaves.getD j default).typ ≥ l.typ)=!decide ((x.leaves.getD j default).typ < l.typ):=by rw [Bool.eq_iff_iff];simp
       rw [e,Nat.add_sub_cancel];generalize (x.leaves.getD j default)=y;cases leafB l <;> cases decide (y.typ < l.typ) <;> simp
    rw [hlv];simp only [Option.bind_some];rcases i with _ | j
    ·cases nameB x.name <;> cases (x.leaves.isEmpty&&x.subs.isEmpty) <;> cases treeB (d+1) x.subs <;> cases leavesB x.leaves <;> simp [yv]
    ·rw [vM (by simp only [maxLen];omega),pos_succ,Int.toNat_natCast,zo (by intro _;omega),Nat.add_sub_cancel];generalize (t.getD j default)=y;cases nameB x.name <;> cases (x.leaves.isEmpty&&x.subs.isEmpty) <;> cases treeB (d+1) x.subs <;> cases leavesB x.leaves <;> cases Op.bytesLess y.name x.name <;> simp
theorem wJ {t:List GNode} (h:Small t):vz t=some (treeB 0 t):=by
 unfold vz treeXmay;have:=anyN_of (g:=fun n=>vN n t 0) (r:=treeB 0 t) (GNode.deps t+1) (fun n hn=>by have:=treeXmayN_is n t 0 (by omega) (by omega) h;simpa using this);rw [this];rfl
theorem ref07XmayN_is:∀ (n:Nat) (t:List GNode) (d:Nat),GNode.deps t < n→d≤3→Small t→wM n t (d:Int)=some (treeB d t)
 | 0,_,_,h,_,_=>by omega
 | n+1,t,d,h,hd,hs=>by
  unfold wM;have hl:=hs.len;rw [qs (r:=false) (fun i x=>decide (d < 3)&&(nodeB d x&&(decide (i=0) || Op.bytesLess (t.getD (i - 1) default).name x.name)))]
  ·have e:allI (fun i x=>decide (d < 3)&&(nodeB d x&&(decide (i=0) || Op.bytesLess (t.getD (i - 1) default).name x.name))) t=treeB d t:=by
    unfold treeB;rw [Bool.and_assoc,← up_nodes];cases hd3:decide (d < 3)
    ·cases t with
     | nil=>rfl
     | cons x r=>simp [allI]
    ·simp
   rw [e];cases treeB d t <;> rfl
  ·intro i x hx;have hi:i < t.length:=(List.getElem?_eq_some_iff.1 hx).1;have hm:=List.mem_of_getElem? hx;have hdp:=dep_mem hm;have hds:=xV x;have hg3:decide ((d:Int) ≥ 3)=!decide (d < 3):=by rw [Bool.eq_iff_iff];simp;omega
   rw [hg3];by_cases hd3:d < 3
   ·have hw:IntKind.wrap .i64 ((d:Int)+1)=((d+1:Nat):Int):=by rw [w64n (by omega)];omega
    have ih:=ref07XmayN_is n x.subs (d+1) (by omega) (by omega) (hs.subs hm);have hll:=hs.leaves hm;rw [ref04IsName_is,hw,ih,nodeB_eq,lenE,lenE];have hlv:lp (zr (fun (n2:Nat) (x2:GLeaf) (s2:Unit)=>(((ref05May x2).bind fun v50=>(yv ((((!v50)==false)&&((decide ((n2:Int) > (0:Int)))==true))=true→0≤(IntKind.wrap .i64 ((n2:Int) - (1:Int)))∧(IntKind.wrap .i64 ((n2:Int) - (1:Int))) < ((x.leaves).length:Int)) ((yv ((((!v50)==false)&&((decide ((n2:Int) > (0:Int)))==true))=true→0≤(n2:Int)∧(n2:Int) < ((x.leaves).length:Int)) ((if ((!v50) || ((decide ((n2:Int) > (0:Int)))&&(decide (((x.leaves).getD (IntKind.wrap .i64 ((n2:Int) - (1:Int))).toNat default).typ ≥ ((x.leaves).getD (n2:Int).toNat default).typ))))=true then some (.ret (.ret false)) else some (.nxt ()))))))):Option (Out (Out Bool Unit) Unit))) x.leaves 0 ()) (fun (s2:Unit)=>some (.nxt ()))=if leavesB x.leaves=true then some (.nxt ()) else some (.ret false):=by
     rw [qs (r:=.ret false) (fun i l=>leafB l&&(decide (i=0) || decide ((x.leaves.getD (i - 1) default).typ < l.typ)))]
     ·rfl
     ·intro j l hjl;have hjx:j < x.leaves.length:=(List.getElem?_eq_some_iff.1 hjl).1;have hle:x.leaves.getD j default=l:=by rw [List.getD_eq_getElem?_getD,hjl];rfl
      have hlo:=hs.leaf hm (List.mem_of_getElem? hjl);rw [ref05May_is (by have:=hlo.items;simp only [maxLen];omega) (by have:=hlo.tombs;simp only [maxLen];omega) hlo.time];simp only [Option.bind_some];rcases j with _ | j
      ·cases leafB l <;> simp [yv]
      ·rw [vM (by simp only [maxLen];omega),pos_succ,Int.toNat_natCast,Int.toNat_natCast,hle,zo (by intro _;omega),zo (by intro _;omega)];have e:decide ((x.leaves.getD j default).typ ≥ l.typ)=!decide ((x.leaves.getD j default).typ < l.typ):=by rw [Bool.eq_iff_iff];simp
       rw [e,Nat.add_sub_cancel];generalize (x.leaves.getD j default)=y;cases leafB l <;> cases decide (y.typ < l.typ) <;> simp
    rw [hlv,decide_eq_true hd3];simp only [Option.bind_some,Bool.not_true,Bool.false_or,Bool.true_and,BEq.rfl,if_true];rcases i with _ | j
    ·cases nameB x.name <;> cases (x.leaves.isEmpty&&x.subs.isEmpty) <;> cases treeB (d+1) x.subs <;> cases leavesB x.leaves <;> simp [yv]
    ·rw [vM (by simp only [maxLen];omega),pos_succ,Int.toNat_natCast,zo (by intro _;omega),Nat.add_sub_cancel];generalize (t.getD j default)=y;cases nameB x.name <;> cases (x.leaves.isEmpty&&x.subs.isEmpty) <;> cases treeB (d+1) x.subs <;> cases leavesB x.leaves <;> cases Op.bytesLess y.name x.name <;> simp
   ·rw [decide_eq_false hd3];simp [yv]
theorem ref07May_is {t:List GNode} (h:Small t):ref07May t=some (treeB 0 t):=by
 unfold ref07May ref07Xmay;have:=anyN_of (g:=fun n=>wM n t 0) (r:=treeB 0 t) (GNode.deps t+1) (fun n hn=>by have:=ref07XmayN_is n t 0 (by omega) (by omega) h;simpa using this);rw [this];rfl

theorem loopW_end {σ ρ:Type} {f:σ→Option (Out ρ σ)} (inv:σ→Prop) (μ:σ→Nat) (h:∀ s,inv s→(∃ s',f s=some (.brk s')) ∨ ∃ s',f s=some (.nxt s')∧inv s'∧μ s' < μ s):∀ (k:Nat) (s:σ),μ s=k→inv s→∃ s',yr f s=some (.inr s'):=by
 intro k
 induction k using Nat.strongRecOn with
 | _ k ih =>
  intro s hk hi;rw [yS];rcases h s hi with ⟨s',e⟩ | ⟨s',e,h1,h2⟩
  ·exact ⟨s',by rw [e]⟩
  ·rw [e];exact ih (μ s') (by omega) s' rfl h1
theorem lpW_end {σ ρ:Type} {f:σ→Option (Out ρ σ)} {rest:σ→Option ρ} (inv:σ→Prop) (μ:σ→Nat) (hr:∀ s,∃ v,rest s=some v) (s0:σ) (hi:inv s0) (h:∀ s,inv s→(∃ s',f s=some (.brk s')) ∨ ∃ s',f s=some (.nxt s')∧inv s'∧μ s' < μ s):∃ v,lp (yr f s0) rest=some v:=by
 obtain ⟨s',e⟩:=loopW_end inv μ h _ s0 rfl hi;rw [e];exact hr s'
theorem idx_mem {α:Type} {L:List α} {i:Int} {x:α} (h:yo L i=some x):x ∈ L:=by
 unfold yo at h;split at h
 ·exact List.mem_of_getElem? h
 ·cases h
theorem size_tot:∀ (n:Nat) (t:List GNode) (d:Int),GNode.deps t < n→Small t→∃ v,xc n t d=some v
 | 0,_,_,h,_=>by omega
 | n+1,t,d,h,hs=>by
  unfold xc;have hl:=hs.len;refine lpW_end (fun s=>0≤s.2∧s.2≤(t.length:Int)) (fun s=>(t.length - s.2.toNat)) (fun _=>⟨_,rfl⟩) _ ⟨by simp,by simp⟩ (fun s hi=>?_);rcases s with ⟨a,i⟩
  obtain ⟨k,rfl⟩:∃ k:Nat,i=(k:Int):=⟨i.toNat,by have:=hi.1;simp at this;omega⟩
  by_cases hc:(decide ((k:Int) < (t.length:Int))&&decide (d < 10))=true
  ·right;simp only [Bool.and_eq_true,decide_eq_true_eq] at hc;have hk:k < t.length:=by omega
   have hm:t[k] ∈ t:=List.getElem_mem hk;have hdp:=dep_mem hm;have hds:=xV t[k];obtain ⟨v,hv⟩:=size_tot n t[k].subs (IntKind.wrap .i64 (d+1)) (by omega) (hs.subs hm);have hll:=hs.leaves hm;obtain ⟨s2,e2⟩:=loopW_end (ρ:=Out Int (Int×Int)) (σ:=Int×Int) (f:=fun s2:Int×Int=>(((yo t (k:Int)).bind fun y102=>(if decide (s2.2 < ((y102.leaves).length:Int))=true then ((yo t (k:Int)).bind fun y105=>((yo y105.leaves s2.2).bind fun y106=>(lp (zr (fun (n3:Nat) (x3:GItem) (s3:Int)=>(some (.nxt (IntKind.wrap .i64 ((IntKind.wrap .i64 (s3+(1:Int)))+((x3.text).length:Int)))):Option (Out _ Int))) y106.items 0 (IntKind.wrap .i64 ((IntKind.wrap .i64 ((IntKind.wrap .i64 (s2.1+(1:Int)))+((y106.text).length:Int)))+((y106.tombs).length:Int)))) fun (s3:Int)=>some (.nxt (s3,(IntKind.wrap .i64 (s2.2+(1:Int)))))))) else some (.brk (s2.1,s2.2)))):Option (Out (Out Int (Int×Int)) (Int×Int))))
    (fun s=>0≤s.2∧s.2≤(t[k].leaves.length:Int)) (fun s=>(t[k].leaves.length - s.2.toNat)) (fun s hi=>by
     rcases s with ⟨b,i⟩
     obtain ⟨q,rfl⟩:∃ q:Nat,i=(q:Int):=⟨i.toNat,by have:=hi.1;simp at this;omega⟩
     simp only [qv hk,Option.bind_some];by_cases hq:q < t[k].leaves.length
     ·right;have hq2:decide ((q:Int) < (t[k].leaves.length:Int))=true:=by simpa using hq
      simp only [hq2,if_true,qv hq,Option.bind_some];rw [loopL_fold (fun (s3:Int) (x3:GItem)=>IntKind.wrap .i64 ((IntKind.wrap .i64 (s3+(1:Int)))+((x3.text).length:Int))) _ 0 _ (fun _ _ _ _=>rfl),xd];refine ⟨_,rfl,?_,?_⟩
      ·simp only;rw [w64n (by omega)];omega
      ·simp only;rw [w64n (by omega)];omega
     ·left;have hq2:decide ((q:Int) < (t[k].leaves.length:Int))=false:=by simp;omega
      simp only [hq2];exact ⟨_,rfl⟩) _ ((IntKind.wrap .i64 ((IntKind.wrap .i64 ((IntKind.wrap .i64 (a+(1:Int)))+((t[k].name).length:Int)))+v)),(0:Int)) rfl ⟨by simp,by simp⟩
   refine ⟨(s2.1,IntKind.wrap .i64 ((k:Int)+1)),?_,?_,?_⟩
   ·simp only [hc,decide_true,Bool.and_self,if_true,qv hk,Option.bind_some,hv];simp only [qv hk,Option.bind_some] at e2;rw [e2];rfl
   ·simp only;rw [w64n (by omega)];omega
   ·simp only;rw [w64n (by omega)];omega
  ·left;refine ⟨(a,(k:Int)),?_⟩;simp only at hc ⊢;rw [if_neg hc]
theorem size_fuel:∀ (n m:Nat) (t:List GNode) (d:Int),GNode.deps t < n→GNode.deps t < m→xc n t d=xc m t d
 | 0,_,_,_,h,_=>by omega
 | _+1,0,_,_,_,h=>by omega
 | n+1,m+1,t,d,h1,h2=>by
  unfold xc;congr 2;funext s;split
  ·cases hx:yo t s.2 with
   | none=>rfl
   | some y =>
    have hdp:=dep_mem (idx_mem hx);have hds:=xV y;simp only [Option.bind_some];rw [size_fuel n m y.subs _ (by omega) (by omega)]
  ·rfl
theorem ref07Great_tot {t:List GNode} (h:Small t):∃ b,ref07Great t=some b:=by
 unfold ref07Great ref07Xsize;obtain ⟨v,hv⟩:∃ v,∀ n,GNode.deps t+1≤n→xc n t 0=some v:=by
  obtain ⟨v,hv⟩:=size_tot (GNode.deps t+1) t 0 (by omega) h;exact ⟨v,fun n hn=>by rw [size_fuel n (GNode.deps t+1) t 0 (by omega) (by omega)];exact hv⟩
 rw [anyN_of (GNode.deps t+1) hv];exact ⟨_,rfl⟩

def endsB (p:List zk):Bool:=p.getLast?==some [42,42]
def xJ (p:List zk):List zk:=if endsB p then p.dropLast else p
def agreeB:List zk→List zk→Bool
 | [],_=>true
 | x::t,y::r=>(x==[42] || x==y)&&agreeB t r
 | _::_,[]=>false
def patB (p:List zk):Bool:=(decide (0 < (xJ p).length) || endsB p)&&decide ((xJ p).length≤3)&&(xJ p).all (fun s=>s==[42] || nameB s)
def matchB (p path:List zk):Bool:=patB p&&vm path&&decide ((xJ p).length≤path.length)&&(endsB p || decide (path.length≤(xJ p).length))&&agreeB (xJ p) path
theorem wrapLen {n:Nat} (h0:0 < n) (h:n≤maxLen):IntKind.wrap .i64 ((n:Int) - 1)=((n - 1:Nat):Int):=by
 simp only [maxLen] at h;rw [w64n (by omega)];omega
theorem last_getD {p:List zk} (h0:0 < p.length):(p.getD (p.length - 1) default==[42,42])=endsB p:=by
 unfold endsB;rw [List.getLast?_eq_getElem?,List.getD_eq_getElem?_getD,List.getElem?_eq_getElem (by omega)];rw [Bool.eq_iff_iff];simp
theorem slc_init {p:List zk} (h0:0 < p.length):slc p 0 ((p.length - 1:Nat):Int)=some p.dropLast:=by
 rw [slc_at (by omega)];simp [List.dropLast_eq_take]
theorem pathsXparts_is {p:List zk} (h:p.length≤maxLen):vX p=some (xJ p,endsB p):=by
 unfold vX xJ;by_cases h0:0 < p.length
 ·rw [wrapLen h0 h,zo (by intro _;omega)];have e:decide ((p.length:Int) > 0)=true:=by simpa using h0
  rw [e,Int.toNat_natCast,last_getD h0,slc_init h0];cases endsB p <;> rfl
 ·have:p=[]:=List.eq_nil_of_length_eq_zero (by omega);subst this;rfl
theorem vF {p:List zk} (h:p.length≤maxLen):xj p=some (patB p):=by
 unfold xj patB;rw [pathsXparts_is h];simp only [Option.bind_some];rw [contains_is (q:=fun s=>!(s==[42] || nameB s)) _ (fun x _=>by
  unfold wH;rw [opIsName_is];cases h1:(x==([42]:zk)) <;> simp)]
 have e:(xJ p).any (fun s=>!(s==[42] || nameB s))=!(xJ p).all (fun s=>s==[42] || nameB s):=by rw [Bool.eq_iff_iff];simp
 have e1:decide (((xJ p).length:Int) > 0)=decide (0 < (xJ p).length):=decide_eq_decide.2 (by omega);rw [e,bnd3,e1];cases ((decide (0 < (xJ p).length) || endsB p)&&decide ((xJ p).length≤3)) <;> simp
theorem agree_loop (path:List zk) {f:Nat→zk→Unit→Option (Out Bool Unit)} (hf:∀ i x,i < path.length→f i x ()=if (!(x==([42]:zk))&&!(x==path.getD i default))=true then some (.ret false) else some (.nxt ())) :
  ∀ (L:List zk) (i:Nat),L.length+i≤path.length→zr f L i ()=if agreeB L (path.drop i)=true then some (.inr ()) else some (.inl false)
 | [],i,_=>by cases path.drop i <;> rfl
 | x::t,i,h=>by
  simp only [List.length_cons] at h;have hi:i < path.length:=by omega
  have ih:=agree_loop path hf t (i+1) (by omega);have e:path.drop i=path[i]::path.drop (i+1):=(List.getElem_cons_drop hi).symm;have e2:path.getD i default=path[i]:=by rw [List.getD_eq_getElem?_getD,List.getElem?_eq_getElem hi];rfl
  simp only [zr,hf i x hi,e,agreeB,e2];cases h1:(x==([42]:zk)) <;> cases h2:(x==path[i]) <;> simp [ih]
theorem pathsMatch_is {p path:List zk} (h:p.length≤maxLen):qM p path=some (matchB p path):=by
 unfold qM matchB;rw [pathsXparts_is h,vF h];simp only [Option.bind_some,opMayPath_is];cases hp:patB p
 ·simp
 ·cases hq:vm path
  ·simp
  ·by_cases hl:(xJ p).length≤path.length
   ·have e1:decide ((path.length:Int) < ((xJ p).length:Int))=false:=decide_eq_false (by omega);have e2:decide ((path.length:Int) > ((xJ p).length:Int))=!decide (path.length≤(xJ p).length):=by
     rw [Bool.eq_iff_iff];simp
    rw [e1,e2,agree_loop path (fun i x hi=>by rw [zo (by intro _;omega),Int.toNat_natCast]) _ 0 (by omega)];simp only [List.drop_zero,decide_eq_true hl];cases decide (path.length≤(xJ p).length) <;> cases endsB p <;> cases agreeB (xJ p) path <;> simp
   ·have e1:decide ((path.length:Int) < ((xJ p).length:Int))=true:=decide_eq_true (by omega);rw [e1,decide_eq_false hl];simp

section
variable {S X:Type}
def foldF (y:S→X→Option (Bool×S)):List X→S→Option (Bool×S)
 | [],s=>some (true,s)
 | x::r,s=>(y s x).bind fun v=>if v.1=true then foldF y r v.2 else some (false,v.2)
theorem foldF_app (y:S→X→Option (Bool×S)):∀ (a b:List X) (s:S),foldF y (a++b) s=(foldF y a s).bind fun v=>if v.1=true then foldF y b v.2 else some v
 | [],b,s=>by simp [foldF]
 | x::r,b,s=>by
  simp only [List.cons_append,foldF];cases y s x with
  | none=>rfl
  | some v =>
   simp only [Option.bind_some];cases hv:v.1
   ·simp
   ·simp only [if_true];exact foldF_app y r b v.2
theorem foldF_stp (y:S→X→Option (Bool×S)):∀ (xs:List X) (s:S),
  foldF (stp (fun (s3:S) (x3:X)=>(((y s3 x3).bind fun v=>(if (!v.1)=true then some (false,(v.2,some 0)) else some (true,(v.2,none)))):Option (Bool×(S×Option Nat))))) xs (s,none)=(foldF y xs s).map fun v=>(v.1,(v.2,if v.1=true then none else some 0))
 | [],s=>rfl
 | x::r,s=>by
  simp only [foldF,stp];cases y s x with
  | none=>rfl
  | some v =>
   rcases v with ⟨b,s'⟩
   cases b
   ·simp
   ·simp only [Bool.not_true,Bool.false_eq_true,if_false,Option.bind_some,if_true];exact foldF_stp y r s'
theorem loop_tell {ρ α:Type} (y:S→X→Option (Bool×S)) (g:α→X) (r:S→ρ) {f:Nat→α→S→Option (Out ρ S)}:∀ (L:List α) (i:Nat) (s:S),(∀ i x s,x ∈ L→f i x s=(y s (g x)).bind fun v=>if (!v.1)=true then some (.ret (r v.2)) else some (.nxt v.2)) →
  zr f L i s=(foldF y (L.map g) s).map fun v=>if v.1=true then .inr v.2 else .inl (r v.2)
 | [],_,_,_=>rfl
 | x::t,i,s,h=>by
  simp only [zr,h i x s (List.mem_cons_self ..),List.map_cons,foldF];cases y s (g x) with
  | none=>rfl
  | some v =>
   rcases v with ⟨b,s'⟩
   cases b
   ·rfl
   ·simp only [Bool.not_true,Bool.false_eq_true,if_false,Option.bind_some,if_true];exact loop_tell y g r t (i+1) s' fun i x s hx=>h i x s (List.mem_cons_of_mem _ hx)
theorem loop_tells {ρ α:Type} (y:S→X→Option (Bool×S)) (g:α→List X) (r:S→ρ) {f:Nat→α→S→Option (Out ρ S)}:∀ (L:List α) (i:Nat) (s:S),(∀ i x s,x ∈ L→f i x s=(foldF y (g x) s).map fun v=>if v.1=true then .nxt v.2 else .ret (r v.2)) →
  zr f L i s=(foldF y (L.flatMap g) s).map fun v=>if v.1=true then .inr v.2 else .inl (r v.2)
 | [],_,_,_=>rfl
 | x::t,i,s,h=>by
  simp only [zr,h i x s (List.mem_cons_self ..),List.flatMap_cons,foldF_app];cases foldF y (g x) s with
  | none=>rfl
  | some v =>
   rcases v with ⟨b,s'⟩
   cases b
   ·rfl
   ·simp only [Option.map_some,if_true,Option.bind_some];exact loop_tells y g r t (i+1) s' fun i x s hx=>h i x s (List.mem_cons_of_mem _ hx)
end
theorem clone_is {α:Type} {L:List α} (h:L.length≤yM):(nilq L fun b1=>(if b1=true then some ([]:List α) else (yv ((([]:List α)).length+L.length≤yM) (some (([]:List α)++L)))))=some L:=by
 refine nilq_of ?_ fun e=>by subst e;rfl
 rw [zo (by simpa using h)];simp
theorem cloneString_is {L:List zk} (h:L.length≤yM):xi L=some L:=clone_is h
theorem qz {L:List GItem} (h:L.length≤yM):ym L=some L:=clone_is h
theorem cloneDot_is {L:List GDot} (h:L.length≤yM):yz L=some L:=clone_is h
theorem pathsXown_is {l:GLeaf} (h:LeafOk l):pathsXown l=some l:=by
 unfold pathsXown;rw [qz (by have:=h.items;unfold yM;omega),cloneDot_is (by have:=h.tombs;unfold yM;omega)];rfl
mutual
def qk (a:List zk):GNode→List GRow
 | ⟨nm,ls,sb⟩=>ls.map (fun l=>GRow.mk (a++[nm]) l)++zn (a++[nm]) sb
def zn (a:List zk):List GNode→List GRow
 | []=>[]
 | x::r=>qk a x++zn a r
end
mutual
def wz (is:List zk→Bool) (a:List zk):GNode→GNode
 | ⟨nm,ls,sb⟩=>⟨nm,if is (a++[nm])=true then ls else [],x8 is (a++[nm]) sb⟩
def x8 (is:List zk→Bool) (a:List zk):List GNode→List GNode
 | []=>[]
 | x::r=>if (wz is a x).leaves.isEmpty&&(wz is a x).subs.isEmpty then x8 is a r else wz is a x::x8 is a r
end
theorem yL (a:List zk) (x:GNode):qk a x=x.leaves.map (fun l=>GRow.mk (a++[x.name]) l)++zn (a++[x.name]) x.subs:=by cases x;rfl
theorem yA (a:List zk):∀ t,zn a t=t.flatMap (qk a)
 | []=>rfl
 | x::r=>by simp only [zn,List.flatMap_cons,yA a r]
theorem keepN_eq (is:List zk→Bool) (a:List zk) (x:GNode):wz is a x=⟨x.name,if is (a++[x.name])=true then x.leaves else [],x8 is (a++[x.name]) x.subs⟩:=by cases x;rfl
theorem keepL_filter (is:List zk→Bool) (a:List zk):∀ t,x8 is a t=(t.map (wz is a)).filter fun y=>!(y.leaves.isEmpty&&y.subs.isEmpty)
 | []=>rfl
 | x::r=>by
  simp only [x8,List.map_cons,List.filter_cons,keepL_filter is a r];cases ((wz is a x).leaves.isEmpty&&(wz is a x).subs.isEmpty) <;> simp
theorem rows_is {S:Type}:∀ (n:Nat) (S:Type) (y:S→GRow→Option (Bool×S)) (t:List GNode) (a:List zk) (s:S),GNode.deps t < n→Small t→a.length+GNode.deps t≤40000000→xY n S y t a s=(foldF y (zn a t) s).map (·.2)
 | 0,_,_,_,_,_,h,_,_=>by omega
 | n+1,S,y,t,a,s,h,hs,ha=>by
  unfold xY;rw [loop_tells y (qk a) (fun s=>s),← yA]
  ·cases foldF y (zn a t) s with
   | none=>rfl
   | some v=>rcases v with ⟨b,s'⟩;cases b <;> rfl
  ·intro i x s1 hx;have hdp:=dep_mem hx;have hds:=xV x;rw [cloneString_is (by unfold yM;omega),Option.bind_some,zo (by simp [yM];omega)];rw [loop_tell y (fun l=>GRow.mk (a++[x.name]) l) (fun s=>Out.ret s)]
   ·rw [yL,foldF_app];cases foldF y (x.leaves.map fun l=>GRow.mk (a++[x.name]) l) s1 with
    | none=>rfl
    | some v =>
     rcases v with ⟨b,s'⟩
     cases b
     ·rfl
     ·simp only [Option.map_some,if_true,xd,Option.bind_some];unfold qL;simp only [Option.bind_some];rw [rows_is (S:=Unit) n _ _ x.subs (a++[x.name]) (s',none) (by omega) (hs.subs hx) (by simp;omega),foldF_stp];cases foldF y (zn (a++[x.name]) x.subs) s' with
      | none=>rfl
      | some v=>rcases v with ⟨b,s2⟩;cases b <;> rfl
   ·intro j l s2 hl;rw [cloneString_is (by simp [yM];omega),Option.bind_some,pathsXown_is (hs.leaf hx hl),Option.bind_some]

theorem qQ {α β ρ:Type} (p:α→Bool) (g:α→β) {f:Nat→α→List β→Option (Out ρ (List β))}:∀ (L:List α) (i:Nat) (s:List β),s.length+L.length≤yM→(∀ i x s,x ∈ L→s.length+1≤yM→f i x s=if p x=true then some (.nxt (s++[g x])) else some (.nxt s)) →
  zr f L i s=some (.inr (s++(L.filter p).map g))
 | [],_,s,_,_=>by simp [zr]
 | x::t,i,s,hl,h=>by
  simp only [List.length_cons] at hl;simp only [zr,h i x s (List.mem_cons_self ..) (by omega),List.filter_cons];cases hp:p x
  ·simp only [Bool.false_eq_true,if_false];exact qQ p g t (i+1) s (by omega) fun i x s hx=>h i x s (List.mem_cons_of_mem _ hx)
  ·simp only [if_true];rw [qQ p g t (i+1) (s++[g x]) (by simp;omega) fun i x s hx=>h i x s (List.mem_cons_of_mem _ hx)];simp
theorem keep_len (is:List zk→Bool) (a:List zk) (t:List GNode):(x8 is a t).length≤t.length:=by
 rw [keepL_filter];exact Nat.le_trans (List.length_filter_le _ _) (by simp)
theorem kept_is (is:List zk→Bool) (f:List zk→Option Bool) (hf:∀ p,f p=some (is p)):∀ (n:Nat) (t:List GNode) (a:List zk),GNode.deps t < n→Small t→a.length+GNode.deps t≤40000000→wP n t a f=some (x8 is a t)
 | 0,_,_,h,_,_=>by omega
 | n+1,t,a,h,hs,ha=>by
  unfold wP;have hl:=hs.len;have key:∀ (L:List GNode) (i:Nat) (s:List GNode),(∀ x ∈ L,x ∈ t)→s.length+L.length≤16777216→∀ {F:Nat→GNode→List GNode→Option (Out (List GNode) (List GNode))},(∀ i x s,x ∈ t→s.length+1≤16777216→F i x s=some (.nxt (if ((wz is a x).leaves.isEmpty&&(wz is a x).subs.isEmpty)=true then s else s++[wz is a x]))) →
    zr F L i s=some (.inr (s++x8 is a L)):=by
   intro L
   induction L with
   | nil=>intro i s _ _ F _;simp [zr,x8]
   | cons x r ih =>
    intro i s hm hsl F hF;simp only [List.length_cons] at hsl;simp only [zr,hF i x s (hm x (by simp)) (by omega),x8];cases he:((wz is a x).leaves.isEmpty&&(wz is a x).subs.isEmpty)
    ·simp only [Bool.false_eq_true,if_false];rw [ih (i+1) _ (fun y hy=>hm y (by simp [hy])) (by simp;omega) hF];simp
    ·simp only [if_true];exact ih (i+1) s (fun y hy=>hm y (by simp [hy])) (by omega) hF
  rw [key t 0 [] (fun _ h=>h) (by simpa using hl)]
  ·simp
  ·intro i x s hx hsl;have hdp:=dep_mem hx;have hds:=xV x;have hll:=hs.leaves hx;have hsub:=(hs.subs hx).len;rw [cloneString_is (by unfold yM;omega),Option.bind_some,zo (by simp [yM];omega),kept_is is f hf n x.subs (a++[x.name]) (by omega) (hs.subs hx) (by simp;omega),Option.bind_some];rw [qQ (fun _=>is (a++[x.name])) (fun l=>l) x.leaves 0 [] (by simp [yM];omega)]
   ·simp only [xd,List.nil_append,List.map_id_fun',id];have hkl:(x.leaves.filter fun _=>is (a++[x.name]))=(if is (a++[x.name])=true then x.leaves else []):=by
     cases is (a++[x.name]) <;> simp
    rw [hkl,← keepN_eq];have hk:=keep_len is (a++[x.name]) x.subs;have hw:decide ((IntKind.wrap .i64 (((if is (a++[x.name])=true then x.leaves else []).length:Int)+((x8 is (a++[x.name]) x.subs).length:Int))) > 0)=!((wz is a x).leaves.isEmpty&&(wz is a x).subs.isEmpty):=by
     rw [keepN_eq];have h1:(if is (a++[x.name])=true then x.leaves else []).length≤16777216:=by cases is (a++[x.name]) <;> simp [hll]
     rw [w64n (by omega)];cases hA:(if is (a++[x.name])=true then x.leaves else []) <;> cases hB:x8 is (a++[x.name]) x.subs <;> simp <;> omega
    rw [hw];cases ((wz is a x).leaves.isEmpty&&(wz is a x).subs.isEmpty)
    ·simp only [Bool.not_false,if_true,Bool.false_eq_true,if_false];rw [zo (by simp [yM];omega)]
    ·simp
   ·intro j l s2 hl2 hs2;rw [hf,Option.bind_some,pathsXown_is (hs.leaf hx hl2),Option.bind_some,zo (by simpa using hs2)]
theorem deps_bks:∀ (n:Nat) (t:List GNode),GNode.deps t≤n→GNode.deps t≤GNode.bks t:=by
 intro n
 induction n with
 | zero=>intro t ht;omega
 | succ n ih =>
  intro t
  induction t with
  | nil=>intro _;simp [GNode.deps]
  | cons x r ihr =>
   intro ht;simp only [GNode.deps] at ht ⊢;simp only [GNode.bks];have h1:=ihr (by omega);have h2:=xV x;have h3:=ih x.subs (by omega);have h4:=bk_node x;omega
theorem Small.dep {t:List GNode} (h:Small t):GNode.deps t≤16777216:=Nat.le_trans (deps_bks _ t (Nat.le_refl _)) h.2
theorem keptAll_is (is:List zk→Bool) (f:List zk→Option Bool) (hf:∀ p,f p=some (is p)) {t:List GNode} (h:Small t):pathsXkept t [] f=some (x8 is [] t):=by
 unfold pathsXkept;have hb:=h.dep;rw [anyN_of (GNode.deps t+1) fun n hn=>kept_is is f hf n t [] (by omega) h (by simp;omega)]
theorem rows_len:∀ (n:Nat) (t:List GNode) (a:List zk),GNode.deps t≤n→(zn a t).length≤GNode.bks t:=by
 intro n
 induction n with
 | zero =>
  intro t a h;cases t with
  | nil=>simp [zn]
  | cons x r=>simp only [GNode.deps] at h;have:=xV x;omega
 | succ n ih =>
  intro t
  induction t with
  | nil=>intro a _;simp [zn]
  | cons x r ihr =>
   intro a ht;simp only [GNode.deps] at ht;simp only [GNode.bks,zn,List.length_append];have h1:=ihr a (by omega);have h2:=xV x;have h3:=ih x.subs (a++[x.name]) (by omega);have h4:=bk_node x;have h5:=sum_len (f:=GLeaf.bk) (fun x=>by unfold GLeaf.bk;omega) x.leaves;rw [yL];simp only [List.length_append,List.length_map];omega
theorem fold_app {X:Type}:∀ (xs s:List X),s.length+xs.length≤yM→foldF (stp (fun (s1:List X) (x1:X)=>((yv (s1.length+([x1]:List X).length≤yM) (some (true,((s1++[x1]),none)))):Option (Bool×(List X×Option Nat))))) xs (s,none)=some (true,(s++xs,none))
 | [],s,_=>by simp [foldF]
 | x::r,s,h=>by
  simp only [List.length_cons] at h;simp only [foldF,stp];rw [zo (by simp;omega)];simp only [Option.bind_some,if_true];rw [fold_app r (s++[x]) (by simp;omega)];simp
theorem pathsRows_is {t:List GNode} (h:Small t):pathsRows t=some (if treeB 0 t=true then zn [] t else []):=by
 unfold pathsRows;rw [wJ h,Option.bind_some];cases treeB 0 t
 ·rfl
 ·have hd:=h.dep;have hrl:=rows_len _ t [] (Nat.le_refl _);have hb:=h.2;simp only [Bool.not_true,Bool.false_eq_true,if_false,if_true,qL,Option.bind_some,w8,wn,pathsXrowsC1];rw [anyN_of (r:=(zn [] t,none)) (GNode.deps t+1) fun n hn=>by
   rw [rows_is (S:=Unit) n _ _ t [] ([],none) (by omega) h (by simp;omega),fold_app _ _ (by simp [yM];omega)];rfl]
  rfl

theorem vH:∀ {a b c:List UInt8},Op.bytesLess a b=true→Op.bytesLess b c=true→Op.bytesLess a c=true
 | _,[],_,h,_=>by cases ‹List UInt8› <;> simp [Op.bytesLess] at h
 | a,b::y,[],_,h=>by simp [Op.bytesLess] at h
 | [],b::y,c::z,_,_=>rfl
 | a::x,b::y,c::z,h1,h2=>by
  simp only [Op.bytesLess,Bool.or_eq_true,decide_eq_true_eq,Bool.and_eq_true,beq_iff_eq] at h1 h2 ⊢;rcases h1 with h1 | ⟨rfl,h1⟩
  ·rcases h2 with h2 | ⟨rfl,h2⟩
   ·left;exact UInt8.lt_trans h1 h2
   ·left;exact h1
  ·rcases h2 with h2 | ⟨rfl,h2⟩
   ·left;exact h2
   ·right;exact ⟨rfl,vH h1 h2⟩
theorem upB_iff (t:List GNode):upB t=true ↔ t.Pairwise (fun x y=>Op.bytesLess x.name y.name=true):=by
 unfold upB;rw [allI_iff];constructor
 ·intro h;rw [List.pairwise_iff_getElem];intro i j hi hj hij;obtain ⟨k,rfl⟩:∃ k,j=i+1+k:=⟨j - i - 1,by omega⟩
  induction k with
  | zero =>
   have:=h (i+1) _ (List.getElem?_eq_getElem hj);simp only [Nat.add_sub_cancel,Bool.or_eq_true,decide_eq_true_eq] at this;rcases this with h0 | h0
   ·omega
   ·rw [List.getD_eq_getElem?_getD,List.getElem?_eq_getElem hi] at h0;exact h0
  | succ k ih =>
   have h1:=ih (by omega) (by omega);have:=h (i+1+(k+1)) _ (List.getElem?_eq_getElem hj);simp only [Bool.or_eq_true,decide_eq_true_eq] at this;rcases this with h0 | h0
   ·omega
   ·rw [show i+1+(k+1) - 1=i+1+k by omega,List.getD_eq_getElem?_getD,List.getElem?_eq_getElem (by omega:i+1+k < t.length)] at h0;exact vH h1 h0
 ·intro h i x hx;rcases i with _ | i
  ·rfl
  ·rw [List.pairwise_iff_getElem] at h;obtain ⟨hi,rfl⟩:=List.getElem?_eq_some_iff.1 hx;have:=h i (i+1) (by omega) hi (by omega);simp only [Nat.add_sub_cancel,Bool.or_eq_true];right;rw [List.getD_eq_getElem?_getD,List.getElem?_eq_getElem (by omega:i < t.length)];exact this
section
variable (is:List zk→Bool)
theorem keep_up (a:List zk) {t:List GNode} (h:upB t=true):upB (x8 is a t)=true:=by
 rw [upB_iff] at h ⊢;rw [keepL_filter];refine List.Pairwise.filter _ ?_;rw [List.pairwise_map];exact h.imp fun {x y} h=>by rw [keepN_eq,keepN_eq];exact h
theorem xO {M:List GNode→Prop} (h0:M []) (h1:∀ x r,M x.subs→M r→M (x::r)):∀ t,M t:=by
 have key:∀ (n:Nat) (t:List GNode),GNode.deps t≤n→M t:=by
  intro n
  induction n with
  | zero =>
   intro t h;cases t with
   | nil=>exact h0
   | cons x r=>simp only [GNode.deps] at h;have:=xV x;omega
  | succ n ih =>
   intro t
   induction t with
   | nil=>intro _;exact h0
   | cons x r ihr =>
    intro h;simp only [GNode.deps] at h;have:=xV x;exact h1 x r (ih x.subs (by omega)) (ihr (by omega))
 exact fun t=>key _ t (Nat.le_refl _)
theorem keep_may:∀ (t:List GNode) (d:Nat) (a:List zk),treeB d t=true→treeB d (x8 is a t)=true:=by
 intro t;have key:∀ (t:List GNode),(∀ (d:Nat) (a:List zk),treeB d t=true→treeB d (x8 is a t)=true)∧(∀ (d:Nat) (a:List zk),xE d t=true→xE d (x8 is a t)=true):=by
  refine xO ⟨fun d a h=>h,fun d a h=>h⟩ ?_;intro x r hx hr;have h2:∀ (d:Nat) (a:List zk),xE d (x::r)=true→xE d (x8 is a (x::r))=true:=by
   intro d a h;simp only [xE,Bool.and_eq_true] at h;simp only [x8];cases he:((wz is a x).leaves.isEmpty&&(wz is a x).subs.isEmpty)
   ·simp only [Bool.false_eq_true,if_false,xE,Bool.and_eq_true];refine ⟨?_,hr.2 d a h.2⟩;have hn:=h.1;rw [nodeB_eq] at hn ⊢;simp only [Bool.and_eq_true,Bool.not_eq_true'] at hn ⊢;rw [keepN_eq] at he ⊢;refine ⟨⟨⟨hn.1.1.1,he⟩,hx.1 (d+1) _ hn.1.2⟩,?_⟩;show leavesB (if is (a++[x.name])=true then x.leaves else [])=true;split
    ·exact hn.2
    ·rfl
   ·simp only [if_true];exact hr.2 d a h.2
  refine ⟨fun d a h=>?_,h2⟩;unfold treeB at h ⊢;simp only [Bool.and_eq_true] at h ⊢;refine ⟨⟨?_,keep_up is a h.1.2⟩,h2 d a h.2⟩;have:decide (d < 3)=true:=by simpa using h.1.1
  rw [this];simp
 exact (key t).1
theorem keep_rows:∀ (t:List GNode) (a:List zk),zn a (x8 is a t)=(zn a t).filter fun r=>is r.path:=by
 refine xO (fun a=>rfl) ?_;intro x r hx hr a;have hN:qk a (wz is a x)=(qk a x).filter fun r=>is r.path:=by
  rw [keepN_eq,yL,yL,List.filter_append,← hx];simp only;congr 1;cases h:is (a++[x.name])
  ·simp [h]
  ·simp only [if_true];rw [List.filter_eq_self.2];intro r hr;obtain ⟨l,_,rfl⟩:=List.mem_map.1 hr;exact h
 simp only [x8,zn,List.filter_append,← hr,← hN];cases he:((wz is a x).leaves.isEmpty&&(wz is a x).subs.isEmpty)
 ·simp [zn]
 ·simp only [if_true];simp only [Bool.and_eq_true,List.isEmpty_iff] at he;rw [yL,he.1,he.2];simp [zn]
theorem keep_small:∀ (t:List GNode) (a:List zk),(GNode.wfs t→GNode.wfs (x8 is a t))∧GNode.bks (x8 is a t)≤GNode.bks t:=by
 refine xO (fun a=>⟨fun h=>h,Nat.le_refl _⟩) ?_;intro x r hx hr a;have hb:(wz is a x).bk≤x.bk:=by
  have:=(hx (a++[x.name])).2;cases x with
  | mk nm ls sb =>
   simp only [wz,GNode.bk] at this ⊢;have h2:((if is (a++[nm])=true then ls else []).map GLeaf.bk).sum≤(ls.map GLeaf.bk).sum:=by split <;> simp
   omega
 have hw:x.wf→(wz is a x).wf:=by
  have:=(hx (a++[x.name])).1;cases x with
  | mk nm ls sb =>
   simp only [wz,GNode.wf] at this ⊢
   rintro ⟨h1,h2,h3⟩
   refine ⟨h1,?_,this h3⟩;split
   ·exact h2
   ·exact ⟨by simp,fun y hy=>by cases hy⟩
 simp only [x8];split
 ·refine ⟨fun h=>(hr a).1 (by simp only [GNode.wfs] at h;exact h.2),?_⟩;have:=(hr a).2;simp only [GNode.bks];omega
 ·refine ⟨fun h=>?_,?_⟩
  ·simp only [GNode.wfs] at h ⊢;exact ⟨hw h.1,(hr a).1 h.2⟩
  ·have:=(hr a).2;simp only [GNode.bks];omega
theorem Small.keep {t:List GNode} (h:Small t) (a:List zk):Small (x8 is a t):=⟨(keep_small is t a).1 h.1,Nat.le_trans (keep_small is t a).2 h.2⟩
end
theorem ref05Same_refl (l:GLeaf):ref05Same l l=some true:=by
 unfold ref05Same;simp only [dotEq,itemEq];rw [if_neg (by simp),qs (r:=false) (fun _ _=>true),qs (r:=false) (fun _ _=>true)]
 ·simp [allI]
 ·intro i x hx;have hi:=(List.getElem?_eq_some_iff.1 hx).1;have he:l.tombs[i]=x:=(List.getElem?_eq_some_iff.1 hx).2;rw [qv hi,he];simp
 ·intro i x hx;have hi:=(List.getElem?_eq_some_iff.1 hx).1;have he:l.items[i]=x:=(List.getElem?_eq_some_iff.1 hx).2;rw [qv hi,he];simp
theorem ref07SameN_refl:∀ (n:Nat) (t:List GNode),GNode.deps t < n→vE n t t=some true
 | 0,_,h=>by omega
 | n+1,t,h=>by
  unfold vE;rw [if_neg (by simp),qs (r:=false) (fun _ _=>true)]
  ·simp [allI]
  ·intro i x hx;have hi:=(List.getElem?_eq_some_iff.1 hx).1;have he:t[i]=x:=(List.getElem?_eq_some_iff.1 hx).2;have hd:t.getD i default=x:=by rw [List.getD_eq_getElem?_getD,hx];rfl
   have hdp:=dep_mem (List.mem_of_getElem? hx);have hds:=xV x;rw [qv hi,he];simp only [Option.bind_some,Int.toNat_natCast,hd,ref07SameN_refl n x.subs (by omega)];rw [zo (by intro _;omega),zo (by intro _;omega),zo (by intro _;omega),zo (by intro _;omega)];rw [qs (r:=.ret false) (fun _ _=>true)]
   ·simp [allI]
   ·intro j l hl;have hj:=(List.getElem?_eq_some_iff.1 hl).1;have he2:x.leaves[j]=l:=(List.getElem?_eq_some_iff.1 hl).2;rw [qv hj,he2];simp [ref05Same_refl]
theorem ref07Same_refl (t:List GNode):ref07Same t t=some true:=by
 unfold ref07Same;exact anyN_of (GNode.deps t+1) fun n hn=>ref07SameN_refl n t (by omega)

theorem pathsSelect_is {t:List GNode} (h:Small t) {p:List zk} (hp:p.length≤maxLen):wQ t p=some (if (treeB 0 t&&patB p)=true then (x8 (matchB p) [] t,0) else ([],2)):=by
 unfold wQ;rw [wJ h,vF hp,keptAll_is (matchB p) _ (fun q=>by unfold pathsSelectC1;rw [pathsMatch_is hp];rfl) h];cases treeB 0 t <;> cases patB p <;> rfl
theorem small_of {t:List GNode} (h:t.length≤maxLen∧∀ y ∈ t,GNode.wf y) (hb:(t.map GNode.bk).sum≤16777216):Small t:=⟨(GNode.wfs_iff t).2 h.2,by rw [GNode.bks_eq];exact hb⟩
theorem half_mid {lo hi:Nat} (h:lo < hi) (hl:hi≤4611686018427387904):IntKind.wrap .i64 (Int.fdiv (IntKind.wrap .u64 (IntKind.wrap .i64 ((lo:Int)+(hi:Int)))) (2 ^ (min (1:Int).toNat (IntKind.bits .u64))))=(((lo+hi) / 2:Nat):Int):=by
 have e1:IntKind.wrap .i64 ((lo:Int)+(hi:Int))=((lo+hi:Nat):Int):=by rw [w64n (by omega)];omega
 have e2:IntKind.wrap .u64 (((lo+hi:Nat):Int))=((lo+hi:Nat):Int):=by rw [IntKind.wrap_u64];omega
 have e3:(2:Int) ^ (min (1:Int).toNat (IntKind.bits .u64))=2:=by decide
 rw [e1,e2,e3,Int.fdiv_eq_ediv_of_nonneg _ (by decide)];have e4:((lo+hi:Nat):Int) / 2=(((lo+hi) / 2:Nat):Int):=by omega
 rw [e4,w64n (by omega)]
theorem bs_loop {cmp:GNode→zk→Option Int} {x:List GNode} {s:zk} {c:Nat} (hx:x.length≤16777216) (h1:∀ i n,x[i]?=some n→∃ v,cmp n s=some v∧(i < c→v < 0)∧(c≤i→0≤v)) :
  ∀ (k lo hi:Nat),hi - lo≤k→lo≤c→c≤hi→hi≤x.length→yr (ρ:=Int×Bool) (fun (s1:Int×Int)=>((if (decide (s1.1 < s1.2))=true then ((yo x (IntKind.wrap .i64 ((Int.fdiv (IntKind.wrap .u64 ((IntKind.wrap .i64 (s1.1+s1.2)))) (2 ^ (min (1:Int).toNat (IntKind.bits .u64))))))).bind fun y9=>((cmp y9 s).bind fun v10=>(if (decide (v10 < (0:Int)))=true then some (.nxt ((IntKind.wrap .i64 ((IntKind.wrap .i64 ((Int.fdiv (IntKind.wrap .u64 ((IntKind.wrap .i64 (s1.1+s1.2)))) (2 ^ (min (1:Int).toNat (IntKind.bits .u64))))))+(1:Int))),s1.2)) else some (.nxt (s1.1,(IntKind.wrap .i64 ((Int.fdiv (IntKind.wrap .u64 ((IntKind.wrap .i64 (s1.1+s1.2)))) (2 ^ (min (1:Int).toNat (IntKind.bits .u64))))))))))) else some (.brk (s1.1,s1.2))):Option (Out _ (Int×Int)))) ((lo:Int),(hi:Int))=some (.inr ((c:Int),(c:Int))):=by
 intro k
 induction k with
 | zero =>
  intro lo hi hk hl hc hh;obtain rfl:lo=hi:=by omega
  obtain rfl:lo=c:=by omega
  rw [yS];simp
 | succ k ih =>
  intro lo hi hk hl hc hh;rw [yS];by_cases hlt:lo < hi
  ·have hd:decide ((lo:Int) < (hi:Int))=true:=decide_eq_true (by omega);simp only [hd,if_true,half_mid hlt (by omega)];have hm:(lo+hi) / 2 < x.length:=by omega
   rw [qv hm,Option.bind_some];obtain ⟨v,hv,h2,h3⟩:=h1 ((lo+hi) / 2) _ (List.getElem?_eq_getElem hm);rw [hv,Option.bind_some];by_cases hcm:(lo+hi) / 2 < c
   ·rw [decide_eq_true (h2 hcm),if_pos rfl];simp only;have e:IntKind.wrap .i64 ((((lo+hi) / 2:Nat):Int)+1)=(((lo+hi) / 2+1:Nat):Int):=by rw [w64n (by omega)];omega
    rw [e];exact ih _ _ (by omega) (by omega) hc hh
   ·rw [decide_eq_false (by have:=h3 (by omega);omega)];simp only [Bool.false_eq_true,if_false];exact ih _ _ (by omega) hl (by omega) (by omega)
  ·obtain rfl:lo=hi:=by omega
   obtain rfl:lo=c:=by omega
   simp
theorem bs_is {cmp:GNode→zk→Option Int} {x:List GNode} {s:zk} {c:Nat} (hx:x.length≤16777216) (hc:c≤x.length) (h1:∀ i n,x[i]?=some n→∃ v,cmp n s=some v∧(i < c→v < 0)∧(c≤i→0≤v)) :
  zj x s cmp=(if c < x.length then cmp (x.getD c default) s else some 1).bind fun v=>some ((c:Int),(decide (c < x.length)&&(v==0))):=by
 unfold zj;have:=bs_loop hx h1 x.length 0 x.length (by omega) (Nat.zero_le _) hc (Nat.le_refl _);simp only [Int.natCast_zero] at this;rw [show ((0:Int),(x.length:Int))=(((0:Nat):Int),(x.length:Int)) from rfl] at *;rw [this];simp only [lp];by_cases h:c < x.length
 ·have hd:decide ((c:Int) < (x.length:Int))=true:=decide_eq_true (by omega);simp only [hd,h,if_true,Int.toNat_natCast,beq_self_eq_true,decide_true,Bool.true_and];rw [zo (by intro _;omega)]
 ·have hd:decide ((c:Int) < (x.length:Int))=false:=decide_eq_false (by omega);simp only [hd,h,if_false,decide_false,Bool.false_and,Option.bind_some];rw [zo (by intro hh;cases hh)];simp
theorem cmp_less {a b:List UInt8}:Lib.compareBytes a b < 0 ↔ Op.bytesLess a b=true:=by
 induction a generalizing b with
 | nil=>cases b <;> simp [Lib.compareBytes,Op.bytesLess]
 | cons x a ih =>
  cases b with
  | nil=>simp [Lib.compareBytes,Op.bytesLess]
  | cons y b =>
   simp only [Lib.compareBytes,Op.bytesLess];by_cases h1:x < y
   ·simp [h1]
   ·by_cases h2:y < x
    ·have:¬ x=y:=by rintro rfl;exact h1 h2
     simp [h1,h2,this]
    ·have:x=y:=UInt8.le_antisymm (UInt8.not_lt.1 h2) (UInt8.not_lt.1 h1);simp [h1,h2,this,ih]
theorem cmp_self (a:List UInt8):Lib.compareBytes a a=0:=by
 induction a with
 | nil=>rfl
 | cons x a ih=>simp [Lib.compareBytes,ih]
theorem layC1_is (n:GNode) (s:zk):yO n s=some (Lib.compareBytes n.name s):=rfl
theorem cloneLeaf_is {L:List GLeaf} (h:L.length≤yM):yU L=some L:=clone_is h
theorem cloneNode_is {L:List GNode} (h:L.length≤yM):yg L=some L:=clone_is h
theorem yG {n:Nat} (h:n≤16777217):n≤yM:=Nat.le_trans h (by decide)
theorem own_is {l:GLeaf} (h:LeafOk l):diffXown l=some l:=by
 unfold diffXown;rw [qz (yG (Nat.le_succ_of_le h.items)),Option.bind_some,cloneDot_is (yG (Nat.le_succ_of_le h.tombs)),Option.bind_some]
def preR (a:List zk) (r:GRow):GRow:=⟨a++r.path,r.leaf⟩
theorem rows_pre:∀ (t:List GNode) (a b:List zk),zn (a++b) t=(zn b t).map (preR a):=by
 refine xO (fun _ _=>rfl) ?_;intro x r hx hr a b;rw [yA,yA,List.flatMap_cons,List.flatMap_cons,← yA,← yA,hr,List.map_append];congr 1;rw [yL,yL,List.append_assoc,hx,List.map_append,List.map_map];rfl
theorem rows_path:∀ (t:List GNode) (a:List zk) (r:GRow),r ∈ zn a t→a.length < r.path.length∧r.path.length≤a.length+GNode.deps t:=by
 refine xO (fun _ _ h=>by simp [zn] at h) ?_;intro x r hx hr a q hq;rw [yA,List.flatMap_cons,List.mem_append,← yA] at hq;have h1:x.dep≤GNode.deps (x::r):=dep_mem (by simp);have h2:=xV x;have h3:GNode.deps r≤GNode.deps (x::r):=by
  simp only [GNode.deps];omega
 rcases hq with hq | hq
 ·rw [yL,List.mem_append,List.mem_map] at hq;rcases hq with ⟨l,_,rfl⟩ | hq
  ·simp;omega
  ·have:=hx _ _ hq;simp only [List.length_append,List.length_cons,List.length_nil] at this;omega
 ·have:=hr _ _ hq;omega
theorem leaf_typ {l:GLeaf} (h:leafB l=true):1≤l.typ∧l.typ≤4:=by
 unfold leafB at h;split at h
 ·omega
 split at h
 ·omega
 split at h
 ·omega
 split at h
 ·omega
 ·cases h
theorem qR {ls:List GLeaf} (h:leavesB ls=true):ls.Pairwise (fun x y=>x.typ < y.typ)∧∀ l ∈ ls,leafB l=true:=by
 unfold leavesB at h;rw [allI_iff] at h;have h1:∀ l ∈ ls,leafB l=true:=fun l hl=>by
  obtain ⟨i,hi⟩:=List.mem_iff_getElem?.1 hl;have:=h i l hi;simp only [Bool.and_eq_true] at this;exact this.1
 refine ⟨?_,h1⟩;have step:∀ i,(hi:i+1 < ls.length)→ls[i].typ < ls[i+1].typ:=fun i hi=>by
  have:=h (i+1) _ (List.getElem?_eq_getElem hi);simp only [Nat.add_eq_zero_iff,Nat.one_ne_zero,and_false,decide_false,Bool.false_or,Bool.and_eq_true,decide_eq_true_eq,Nat.add_sub_cancel] at this;have e:ls.getD i default=ls[i]:=by simp [List.getD_eq_getElem?_getD,List.getElem?_eq_getElem (show i < ls.length by omega)]
  rw [e] at this;exact this.2
 rw [List.pairwise_iff_getElem];intro i j hi hj hij;obtain ⟨k,rfl⟩:∃ k,j=i+1+k:=⟨j - (i+1),by omega⟩
 clear hij
 induction k with
 | zero=>exact step i hj
 | succ k ih=>exact Int.lt_trans (ih (by omega)) (step (i+1+k) hj)
theorem Small.tail {x:GNode} {r:List GNode} (h:Small (x::r)):Small r:=by
 refine ⟨(GNode.wfs_iff r).2 fun y hy=>(GNode.wfs_iff _).1 h.1 y (by simp [hy]),?_⟩;have:=h.2;simp only [GNode.bks] at this;omega
def pathLt (a b:List zk):Prop:=(∃ y q,b=a++y::q) ∨ ∃ p x y a' b',a=p++x::a'∧b=p++y::b'∧Op.bytesLess x y=true
theorem less_irr:∀ (a:List UInt8),Op.bytesLess a a=false
 | []=>rfl
 | x::a=>by simp [Op.bytesLess,less_irr a]
theorem less_ne {a b:List UInt8} (h:Op.bytesLess a b=true):a ≠ b:=by
 rintro rfl;rw [less_irr] at h;cases h
theorem cmpS_self (x:zk):yq x x=some 0:=by
 unfold yq xk;simp [less_irr]
theorem cmpS_less {x y:zk} (h:Op.bytesLess x y=true):yq x y=some (-1):=by
 unfold yq xk;simp [h]
noncomputable def cmpF (s2:List zk):Nat→zk→Unit→Option (Out Int Unit):=fun n x _=>if (decide ((n:Int) ≥ ((s2).length:Int)))=true then some (.ret (1:Int)) else ((yo s2 (n:Int)).bind fun y12=>((yq x y12).bind fun v13=>(if (v13 != (0:Int))=true then some (.ret v13) else some (.nxt ()))))
theorem cmpP_eq (a b:List zk):yF a b=lp (zr (cmpF b) a 0 ()) fun _=>(if (decide (((a).length:Int) < ((b).length:Int)))=true then some (-1:Int) else some (0:Int)):=rfl
theorem cmp_pre {s2:List zk}:∀ (p a:List zk) (q b:List zk),s2=q++(p++b)→zr (cmpF s2) (p++a) q.length ()=zr (cmpF s2) a (q.length+p.length) ()
 | [],a,q,b,_=>rfl
 | x::p,a,q,b,h=>by
  have hl:q.length < s2.length:=by rw [h];simp
  have hx:yo s2 (q.length:Int)=some x:=zz (by rw [h];simp);have e:cmpF s2 q.length x ()=some (.nxt ()):=by
   unfold cmpF;rw [decide_eq_false (by omega)];simp only [Bool.false_eq_true,if_false,hx,Option.bind_some,cmpS_self,bne_self_eq_false]
  simp only [List.cons_append,zr,e];have:=cmp_pre (s2:=s2) p a (q++[x]) b (by rw [h];simp);rw [List.length_append,List.length_singleton] at this;rw [this];congr 1;simp only [List.length_cons];omega
theorem cmpP_lt {a b:List zk} (h:pathLt a b):yF a b=some (-1):=by
 rw [cmpP_eq];rcases h with ⟨y,q,rfl⟩ | ⟨p,x,y,a',b',rfl,rfl,h⟩
 ·have:=cmp_pre (s2:=a++y::q) a [] [] (y::q) rfl;rw [List.append_nil,List.length_nil] at this;rw [this];simp only [zr,xd];rw [if_pos (decide_eq_true (by simp only [List.length_append,List.length_cons];omega))]
 ·have:=cmp_pre (s2:=p++y::b') p (x::a') [] (y::b') rfl;rw [List.length_nil] at this;rw [this];have hx:yo (p++y::b') ((0+p.length:Nat):Int)=some y:=zz (by simp);have e:cmpF (p++y::b') (0+p.length) x ()=some (.ret (-1)):=by
   unfold cmpF;rw [decide_eq_false (by simp only [List.length_append,List.length_cons];omega)];simp only [Bool.false_eq_true,if_false,hx,Option.bind_some,cmpS_less h];rfl
  simp only [zr,e,lp_inl]
theorem cmpP_self (a:List zk):yF a a=some 0:=by
 rw [cmpP_eq];have:=cmp_pre (s2:=a) a [] [] [] (by simp);rw [List.append_nil,List.length_nil] at this;rw [this];simp only [zr,xd];rw [if_neg (by simp)]
def rowLt (r q:GRow):Prop:=pathLt r.path q.path ∨ (r.path=q.path∧r.leaf.typ < q.leaf.typ)
def leaf0:GLeaf:=GLeaf.mk (0:Int) (0:Int) (0:Int) (GDot.mk (GActor.mk (0:Int) (0:Int)) (0:Int)) ([]:zk) ([]:List GItem) ([]:List GDot)
theorem qG {t:List GNode} {a:List zk} {r:GRow} (h:r ∈ zn a t):∃ x ∈ t,∃ w,r.path=a++x.name::w:=by
 rw [yA,List.mem_flatMap] at h;obtain ⟨x,hx,h⟩:=h;refine ⟨x,hx,?_⟩;rw [yL,List.mem_append,List.mem_map] at h;rcases h with ⟨l,_,rfl⟩ | h
 ·exact ⟨[],rfl⟩
 ·have:=rows_pre x.subs (a++[x.name]) [];rw [List.append_nil] at this;rw [this,List.mem_map] at h;obtain ⟨q,_,rfl⟩:=h;exact ⟨q.path,by simp [preR]⟩
theorem rows_lt:∀ (t:List GNode) (d:Nat) (a:List zk),upB t=true→xE d t=true→(zn a t).Pairwise rowLt:=by
 refine xO (fun _ _ _ _=>List.Pairwise.nil) ?_;intro x r hx hr d a hu hn;rw [yA,List.flatMap_cons,← yA];rw [upB_iff,List.pairwise_cons] at hu;simp only [xE,Bool.and_eq_true] at hn;obtain ⟨hnx,hnr⟩:=hn;rw [nodeB_eq] at hnx;simp only [Bool.and_eq_true] at hnx;obtain ⟨⟨⟨_,_⟩,hsub⟩,hlv⟩:=hnx;simp only [treeB,Bool.and_eq_true] at hsub;obtain ⟨hpw,_⟩:=qR hlv;rw [List.pairwise_append];refine ⟨?_,hr d a (upB_iff r |>.2 hu.2) hnr,fun q hq q' hq'=>?_⟩
 ·rw [yL,List.pairwise_append];refine ⟨?_,hx (d+1) _ hsub.1.2 hsub.2,fun q hq q' hq'=>?_⟩
  ·rw [List.pairwise_map];exact hpw.imp fun h=>.inr ⟨rfl,h⟩
  ·rw [List.mem_map] at hq;obtain ⟨l,_,rfl⟩:=hq;obtain ⟨y,_,w,e⟩:=qG hq';exact .inl (.inl ⟨y.name,w,e⟩)
 ·have h1:∃ w,q.path=a++x.name::w:=by
   have:q ∈ zn a [x]:=by rw [yA];simpa using hq
   obtain ⟨z,hz,w,e⟩:=qG this;simp only [List.mem_singleton] at hz;subst hz;exact ⟨w,e⟩
  obtain ⟨w,e1⟩:=h1;obtain ⟨y,hy,w',e2⟩:=qG hq';exact .inl (.inr ⟨a,x.name,y.name,w,w',e1,e2,hu.1 y hy⟩)
structure RowOk' (r:GRow):Prop where
 path:vm r.path=true
 leaf:leafB r.leaf=true
 ok:LeafOk r.leaf
theorem rows_ok:∀ (t:List GNode) (d:Nat) (a:List zk),Small t→treeB d t=true→a.length=d→a.all nameB=true→∀ r ∈ zn a t,RowOk' r:=by
 have key:∀ (t:List GNode),(∀ (d:Nat) (a:List zk),Small t→xE d t=true→d < 3→a.length=d→a.all nameB=true→∀ r ∈ zn a t,RowOk' r):=by
  refine xO (fun _ _ _ _ _ _ _ _ h=>by simp [zn] at h) ?_;intro x r hx hr d a hs hn hd hl ha q hq;rw [yA,List.flatMap_cons,List.mem_append,← yA] at hq;simp only [xE,Bool.and_eq_true] at hn;obtain ⟨hnx,hnr⟩:=hn;rcases hq with hq | hq
  ·rw [nodeB_eq] at hnx;simp only [Bool.and_eq_true] at hnx;obtain ⟨⟨⟨hnm,_⟩,hsub⟩,hlv⟩:=hnx;have ha':(a++[x.name]).all nameB=true:=by rw [List.all_append,ha];simpa using hnm
   rw [yL,List.mem_append,List.mem_map] at hq;rcases hq with ⟨l,hl',rfl⟩ | hq
   ·refine ⟨?_,(qR hlv).2 l hl',hs.leaf (by simp) hl'⟩;simp only [vm,ha',Bool.and_true,List.length_append,List.length_cons,List.length_nil,Bool.and_eq_true,decide_eq_true_eq];omega
   ·simp only [treeB,Bool.and_eq_true,Bool.or_eq_true,List.isEmpty_iff,decide_eq_true_eq] at hsub;rcases hsub.1.1 with h0 | h0
    ·rw [h0] at hq;simp [zn] at hq
    ·exact hx (d+1) _ (hs.subs (by simp)) hsub.2 h0 (by simp [hl]) ha' q hq
  ·exact hr d a hs.tail hnr hd hl ha q hq
 intro t d a hs ht hl ha r hr;simp only [treeB,Bool.and_eq_true,Bool.or_eq_true,List.isEmpty_iff,decide_eq_true_eq] at ht;rcases ht.1.1 with h0 | h0
 ·rw [h0] at hr;simp [zn] at hr
 ·exact key t d a hs ht.2 h0 hl ha r hr
theorem side0 (k:Int):wh false leaf0 k=some true:=by
 unfold wh;simp only [Bool.not_false,if_true];have:=leafSame_is leaf0 leaf0;unfold leaf0 at this ⊢;rw [this];simp
theorem side1 {l:GLeaf} (h:leafB l=true) (ho:LeafOk l):wh true l l.typ=some true:=by
 unfold wh;have hm:leafMay l=some true:=by
  rw [leafMay_is (Nat.le_trans ho.items (by decide)) (Nat.le_trans ho.tombs (by decide)),h]
 simp [hm]
theorem small_nil:Small []:=⟨(GNode.wfs_iff []).2 (by simp),by simp [GNode.bks]⟩
theorem tree_nil (d:Nat):treeB d []=true:=by simp [treeB,xE,upB,allI]
theorem leafNew_tot (k:Int):∃ v,vC k=some v:=by unfold vC;split <;> exact ⟨_,rfl⟩
theorem pathB_ne {p:List zk} (h:vm p=true):p ≠ []:=by
 rintro rfl
 simp [vm] at h
theorem pathAll {p:List zk} {f:zk→Option Bool} (hf:∀ x,f x=some (nameB x)):(lp (zr (fun (_:Nat) (x1:zk) (_:Unit)=>(((f x1).bind fun v9=>(if (!v9)=true then some (.ret false) else some (.nxt ()))):Option (Out _ Unit))) p 0 ()) fun (_:Unit)=>some ((decide (((p).length:Int) ≥ (1:Int)))&&(decide (((p).length:Int)≤(3:Int)))))=some (vm p):=by
 rw [loopL_all nameB false _ _ (fun i x _=>by rw [hf];cases nameB x <;> rfl),bnd1,bnd3];unfold vm;cases h:p.all nameB <;> simp
theorem ref04MayPath_is (p:List zk):ref04MayPath p=some (vm p):=pathAll ref04IsName_is
def x6 (k:Int):Int:=if k=1 then 1 else if k=2 then 2 else if k=3 ∨ k=4 then 3 else if k=5 then 4 else 0
def opB (o:GOp):Bool:=decide (1≤o.kind)&&decide (o.kind≤5)&&vm o.path&&decide (o.text.length≤40)&&decide (o.dots.length≤64) &&
 (if o.kind=1 then decide (-1000000≤o.n)&&decide (o.n≤1000000)&&(o.text==[])&&decide (o.dots.length=0)
   else decide (o.n=0)&&(decide (o.kind=4) || decide (o.dots.length=0))&&(o.dots.all xU&&rising o.dots))
theorem ref04Type_is (k:Int):qK k=some (x6 k):=by unfold qK x6;grind
theorem opType_is (k:Int):opType k=some (x6 k):=by
 unfold opType opXof x6;by_cases h:k < 1 ∨ 5 < k
 ·have h':(decide (k < 1) || decide (k > 5))=true:=by simp;omega
  rw [if_pos h'];grind
 ·have h':¬ (decide (k < 1) || decide (k > 5))=true:=by simp;omega
  rw [if_neg h'];rcases (show k=1 ∨ k=2 ∨ k=3 ∨ k=4 ∨ k=5 by omega) with rfl | rfl | rfl | rfl | rfl <;> rfl
theorem wrap_pred {i:Nat} (h0:0 < i) (hl:i≤9223372036854775807):(IntKind.wrap .i64 ((i:Int) - 1))=((i - 1:Nat):Int):=by rw [w64n (by omega)];omega
theorem opXdrops_is (o:GOp):opXdrops o=some (decide (o.n=0)&&decide (o.text.length≤40)&&decide (o.dots.length≤64)&&(o.dots.all xU&&rising o.dots)):=by
 unfold opXdrops;by_cases hc:o.n ≠ 0 ∨ 40 < o.text.length ∨ 64 < o.dots.length
 ·have h':((o.n != 0 || decide (((o.text).length:Int) > 40)) || decide (((o.dots).length:Int) > 64))=true:=by simp;omega
  rw [if_pos h'];congr 1;rw [eq_comm,Bool.and_eq_false_iff,Bool.and_eq_false_iff,Bool.and_eq_false_iff];left;rcases hc with hc | hc | hc
  ·exact .inl (.inl (decide_eq_false hc))
  ·exact .inl (.inr (decide_eq_false (by omega)))
  ·exact .inr (decide_eq_false (by omega))
 ·have h':¬ ((o.n != 0 || decide (((o.text).length:Int) > 40)) || decide (((o.dots).length:Int) > 64))=true:=by simp;omega
  rw [if_neg h',rising_loop]
  ·have h1:o.n=0:=by omega
   have h2:o.text.length≤40:=by omega
   have h3:o.dots.length≤64:=by omega
   simp [h1,h2,h3]
  ·intro i x hx;have hi:i < o.dots.length:=(List.getElem?_eq_some_iff.1 hx).1;simp only [dotMay_is,Option.bind_some];by_cases h0:i=0
   ·subst h0;cases hd:xU x <;> simp [yv,yW,hd]
   ·have h1:decide ((i:Int) > 0)=true:=by simp;omega
    have hw:=wrap_pred (i:=i) (by omega) (by omega);rw [hw,Int.toNat_natCast];have ha:yW o.dots i x=dotLt (o.dots.getD (i - 1) default) x:=by unfold yW;rw [decide_eq_false h0];rfl
    rw [zo (by intro _;omega),h1,ha];generalize o.dots.getD (i - 1) default=y;cases hd:xU x
    ·simp
    ·have e:=dotCmp_lt y x;simp only [dotCompare_is,Bool.not_true,Bool.false_or,Bool.true_and,BEq.rfl,if_true,Option.bind_some,e];cases dotLt y x <;> rfl
theorem nil_rises {ds:List GDot} (h:ds.length=0):(ds.all xU&&rising ds)=true:=by
 have:ds=[]:=List.eq_nil_of_length_eq_zero h;subst this;rfl
theorem lenB {α:Type} (l:List α):((l.length:Int)==0)=decide (l.length=0):=by
 rw [Bool.eq_iff_iff];simp
theorem opMay_is (o:GOp):opMay o=some (opB o):=by
 unfold opMay opXof opB;by_cases h:o.kind < 1 ∨ 5 < o.kind
 ·have h':(decide (o.kind < 1) || decide (o.kind > 5))=true:=by simp;omega
  rw [if_pos h'];have h2:(decide (1≤o.kind)&&decide (o.kind≤5))=false:=by rw [Bool.and_eq_false_iff];simp;omega
  simp [h2]
 ·have h':¬ (decide (o.kind < 1) || decide (o.kind > 5))=true:=by simp;omega
  rw [if_neg h',opMayPath_is];have hl:=nil_rises (ds:=o.dots);rcases (show o.kind=1 ∨ o.kind=2 ∨ o.kind=3 ∨ o.kind=4 ∨ o.kind=5 by omega) with hk | hk | hk | hk | hk <;> rw [hk] <;>
   simp only [yo,Int.toNat,Option.bind_some,callOp,opXadds,opXplain,opXdrops_is,lenB] <;> generalize (o.dots.all xU&&rising o.dots)=R at hl ⊢ <;> cases hp:vm o.path <;> simp [hk] <;> grind
theorem ref04May_is (o:GOp):ref04May o=some (opB o):=by
 unfold ref04May opB;rw [ref04Type_is];simp only [Option.bind_some,ref04MayPath_is];have hl:=nil_rises (ds:=o.dots);by_cases h:o.kind < 1 ∨ 5 < o.kind
 ·have h2:(decide (1≤o.kind)&&decide (o.kind≤5))=false:=by rw [Bool.and_eq_false_iff];simp;omega
  have h3:x6 o.kind=0:=by unfold x6;grind
  simp [h2,h3]
 ·have h3:(x6 o.kind==0)=false:=by unfold x6;grind
  have h4:(decide (1≤o.kind)&&decide (o.kind≤5))=true:=by simp;omega
  by_cases hb:40 < o.text.length ∨ 64 < o.dots.length
  ·have e1:(decide ((o.text.length:Int) > 40) || decide ((o.dots.length:Int) > 64))=true:=by simp;omega
   have e2:(decide (o.text.length≤40)&&decide (o.dots.length≤64))=false:=by rw [Bool.and_eq_false_iff];simp;omega
   rw [h3,h4];cases hp:vm o.path <;> simp at e1 e2 ⊢ <;> grind
  ·rw [rising_loop]
   ·have e1:decide ((o.text.length:Int) > 40)=false:=decide_eq_false (by omega);have e2:decide ((o.dots.length:Int) > 64)=false:=decide_eq_false (by omega);have e3:decide (o.text.length≤40)=true:=decide_eq_true (by omega);have e4:decide (o.dots.length≤64)=true:=decide_eq_true (by omega);have e5:decide ((o.dots.length:Int) > 0)=!decide (o.dots.length=0):=by
     by_cases hd:o.dots.length=0
     ·rw [decide_eq_true hd,decide_eq_false (by omega)];rfl
     ·rw [decide_eq_false hd,decide_eq_true (by omega)];rfl
    rw [h3,h4,e1,e2,e3,e4,e5,lenB];generalize (o.dots.all xU&&rising o.dots)=R at hl ⊢;cases hp:vm o.path
    ·simp
    ·by_cases k1:o.kind=1
     ·simp [k1]
     ·by_cases n0:o.n=0 <;> by_cases k4:o.kind=4 <;> by_cases d0:o.dots.length=0 <;> simp [k1,n0,k4,d0]
   ·intro i x hx;have hi:i < o.dots.length:=(List.getElem?_eq_some_iff.1 hx).1;simp only [ref03May_is,Option.bind_some];by_cases h0:i=0
    ·subst h0;cases hd:xU x <;> simp [yv,yW]
    ·have h1:decide ((i:Int) > 0)=true:=by simp;omega
     have hw:=wrap_pred (i:=i) (by omega) (by omega);rw [hw,Int.toNat_natCast,Int.toNat_natCast];have ha:yW o.dots i x=dotLt (o.dots.getD (i - 1) default) x:=by unfold yW;rw [decide_eq_false h0];rfl
     have hx':o.dots.getD i default=x:=by rw [List.getD_eq_getElem?_getD,hx];rfl
     rw [zo (by intro _;omega),zo (by intro _;omega),h1,ha,hx'];generalize o.dots.getD (i - 1) default=y;cases hd:xU x
     ·simp
     ·simp only [ref03Less_is,Bool.not_true,Bool.false_or,Bool.true_and,BEq.rfl,if_true,Option.bind_some];cases dotLt y x <;> rfl
def xZ (e:GEvent):Bool:=xU e.dot&&decide (e.time ≥ 1)&&decide (e.time≤1099511627776)&&opB e.op
theorem opMayEvent_is (e:GEvent):vG e=some (xZ e):=by
 unfold vG xZ;rw [dotMay_is,opMay_is];simp only [Option.bind_some];cases (xU e.dot&&decide (e.time ≥ 1)&&decide (e.time≤1099511627776)) <;> rfl
theorem ref04MayEvent_is (e:GEvent):wC e=some (xZ e):=by
 unfold wC xZ;rw [ref03May_is,ref04May_is];simp only [Option.bind_some];cases (xU e.dot&&decide (e.time ≥ 1)&&decide (e.time≤1099511627776)) <;> rfl
theorem loopL_tot {α ρ σ:Type} {f:Nat→α→σ→Option (Out ρ σ)}:∀ (L:List α) (i:Nat) (s:σ),(∀ i x s,x ∈ L→∃ o,f i x s=some o)→∃ v,zr f L i s=some v
 | [],_,_,_=>⟨_,rfl⟩
 | x::t,i,s,h=>by
  obtain ⟨o,ho⟩:=h i x s (List.mem_cons_self ..);simp only [zr,ho];cases o with
  | ret r=>exact ⟨_,rfl⟩
  | brk s=>exact ⟨_,rfl⟩
  | nxt s=>exact loopL_tot t (i+1) s fun i y s hy=>h i y s (List.mem_cons_of_mem _ hy)
theorem lp_totL {α ρ σ:Type} {f:Nat→α→σ→Option (Out ρ σ)} {rest:σ→Option ρ} {L:List α} {i:Nat} {s:σ} (h:∀ i x s,x ∈ L→∃ o,f i x s=some o) (hr:∀ s,∃ v,rest s=some v):∃ v,lp (zr f L i s) rest=some v:=by
 obtain ⟨v,hv⟩:=loopL_tot L i s h;rw [hv];cases v with
 | inl r=>exact ⟨_,rfl⟩
 | inr s=>exact hr s

end Go.Vv
namespace Go.Vv
open Go
theorem loopW_inv {σ ρ:Type} {f:σ→Option (Out ρ σ)} (inv post:σ→Prop) (μ:σ→Nat) (h:∀ s,inv s→(∃ s',f s=some (.brk s')∧post s') ∨ ∃ s',f s=some (.nxt s')∧inv s'∧μ s' < μ s):∀ (k:Nat) (s:σ),μ s=k→inv s→∃ s',yr f s=some (.inr s')∧post s':=by
 intro k
 induction k using Nat.strongRecOn with
 | _ k ih =>
  intro s hk hi;rw [yS];rcases h s hi with ⟨s',e,hp⟩ | ⟨s',e,h1,h2⟩
  ·exact ⟨s',by rw [e],hp⟩
  ·rw [e];exact ih (μ s') (by omega) s' rfl h1
theorem idxF_is {q:GLeaf→Bool} {del:GLeaf→Option Bool}:∀ (L:List GLeaf) (n:Nat),(∀ x ∈ L,del x=some (q x)) →
  (zr (fun (n1:Nat) (x1:GLeaf) (_:Unit)=>(((del x1).bind fun v7=>(if v7=true then some (.ret (n1:Int)) else some (.nxt ()))):Option (Out Int Unit))) L n ()=some (.inr ())∧∀ x ∈ L,q x=false) ∨
  ∃ A x B,L=A++x::B∧q x=true∧(∀ y ∈ A,q y=false)∧zr (fun (n1:Nat) (x1:GLeaf) (_:Unit)=>(((del x1).bind fun v7=>(if v7=true then some (.ret (n1:Int)) else some (.nxt ()))):Option (Out Int Unit))) L n ()=some (.inl ((n+A.length:Nat):Int))
 | [],n,_=>.inl ⟨rfl,by simp⟩
 | x::r,n,h=>by
  have hx:=h x (by simp);cases hq:q x with
  | true=>exact .inr ⟨[],x,r,rfl,hq,by simp,by simp [zr,hx,hq]⟩
  | false =>
   rcases idxF_is r (n+1) (fun y hy=>h y (by simp [hy])) with ⟨e,h2⟩ | ⟨A,y,B,rfl,h1,h2,e⟩
   ·refine .inl ⟨by simp only [zr,hx,hq,Option.bind_some];exact e,?_⟩;intro y hy;rcases List.mem_cons.1 hy with rfl | hy
    ·exact hq
    ·exact h2 y hy
   ·refine .inr ⟨x::A,y,B,rfl,h1,?_,?_⟩
    ·intro z hz;rcases List.mem_cons.1 hz with rfl | hz
     ·exact hq
     ·exact h2 z hz
    ·simp only [zr,hx,hq,Option.bind_some];rw [show n+(x::A).length=n+1+A.length by simp only [List.length_cons];omega];exact e
theorem wE {a:Nat} (h:a≤16777216):IntKind.wrap .i64 ((a:Int)+1)=((a+1:Nat):Int):=wrap_add1 (Nat.le_trans (Nat.succ_le_succ h) (by decide))
noncomputable def delF (del:GLeaf→Option Bool) (n:Nat):Int×Int×(List GLeaf)→Option (Out (List GLeaf) (Int×Int×(List GLeaf))):=fun s1=>((yv ((s1.2.2).length=n) ((if (decide (s1.2.1 < ((n:Nat):Int)))=true then ((yo s1.2.2 s1.2.1).bind fun y14=>((del y14).bind fun v15=>(if (!v15)=true then ((yo s1.2.2 s1.1).bind fun y17=>some (.nxt ((IntKind.wrap .i64 (s1.1+(1:Int))),(IntKind.wrap .i64 (s1.2.1+(1:Int))),(s1.2.2.set s1.1.toNat y14)))) else some (.nxt (s1.1,(IntKind.wrap .i64 (s1.2.1+(1:Int))),s1.2.2))))) else some (.brk (s1.1,s1.2.1,s1.2.2))))))
theorem delR_eq (s0:List GLeaf) (del1:GLeaf→Option Bool):yK s0 del1=((zU s0 del1).bind fun v1=>(if (v1==(-1:Int))=true then some s0 else (lp (yr (delF del1 s0.length) (v1,(IntKind.wrap .i64 (v1+(1:Int))),s0)) fun (s1:Int×Int×(List GLeaf))=>(yv (0≤s1.1∧s1.1≤((s0.length:Nat):Int)) (((slc (s1.2.2.take s1.1.toNat++List.replicate (s0.length - s1.1.toNat) zLf) (0:Int) s1.1).bind fun m19=>some m19)))))):=rfl
theorem delF_run {q:GLeaf→Bool} {del:GLeaf→Option Bool} {L0:List GLeaf} (hl:L0.length≤16777216) (h:∀ x ∈ L0,del x=some (q x)) {a0 b0:Nat} (h1:a0 < b0) (h2:b0≤L0.length) (h3:L0.take a0=(L0.take b0).filter fun x=>!q x) :
  ∃ s',yr (delF del L0.length) ((a0:Int),(b0:Int),L0)=some (.inr s')∧∃ a:Nat,s'.1=(a:Int)∧a < L0.length∧s'.2.2.length=L0.length∧s'.2.2.take a=L0.filter fun x=>!q x:=by
 refine loopW_inv (f:=delF del L0.length) (fun s=>∃ a b:Nat,s.1=(a:Int)∧s.2.1=(b:Int)∧a < b∧b≤L0.length∧s.2.2.length=L0.length∧s.2.2.take a=(L0.take b).filter (fun x=>!q x)∧s.2.2.drop b=L0.drop b)
  _ (fun s=>L0.length - s.2.1.toNat) ?_ _ _ rfl ⟨a0,b0,rfl,rfl,h1,h2,rfl,h3,rfl⟩
 rintro ⟨i,j,M⟩ ⟨a,b,q1,q2,q3,q4,q5,q6,q7⟩
 simp only at q1 q2 q5 q6 q7;subst q1 q2;simp only [delF,yv,q5,if_true];by_cases hb:b < L0.length
 ·right;have hy:M[b]?=L0[b]?:=by
   have:=congrArg (fun l=>l[0]?) q7;simpa [List.getElem?_drop] using this
  have hyy:L0[b]?=some L0[b]:=List.getElem?_eq_getElem hb;have hd:=h L0[b] (List.getElem_mem hb);have hidx:yo M (b:Int)=some L0[b]:=by simp [yo,hy]
  have hidxa:yo M (a:Int)=some (M[a]'(by omega)):=by simp [yo]
  rw [if_pos (by simp;omega),hidx,Option.bind_some,hd,Option.bind_some];have htk:L0.take (b+1)=L0.take b++[L0[b]]:=by rw [List.take_add_one,hyy];rfl
  cases hq:q L0[b] with
  | true =>
   refine ⟨((a:Int),((b+1:Nat):Int),M),by simp [wE (Nat.le_trans q4 hl)],⟨a,b+1,rfl,rfl,by omega,by omega,q5,?_,?_⟩,by simp;omega⟩
   ·rw [q6,htk,List.filter_append];simp [hq]
   ·have:=congrArg (fun l=>l.drop 1) q7;simpa [List.drop_drop] using this
  | false =>
   refine ⟨(((a+1:Nat):Int),((b+1:Nat):Int),M.set a L0[b]),by simp [hidxa,wE (Nat.le_trans q4 hl),wE (show a≤16777216 by omega)],⟨a+1,b+1,rfl,rfl,by omega,by omega,by simpa using q5,?_,?_⟩,by simp;omega⟩
   ·rw [List.take_add_one,List.take_set_of_le (Nat.le_refl _),q6,htk,List.filter_append,List.getElem?_set_self (by omega)];simp [hq]
   ·have:=congrArg (fun l=>l.drop 1) q7;rw [List.drop_set_of_lt (by omega)];simpa [List.drop_drop] using this
 ·left;have hb':b=L0.length:=by omega
  rw [if_neg (by simp;omega)];exact ⟨_,rfl,a,rfl,by omega,q5,by rw [q6,hb',List.take_length]⟩
theorem deleteR_is {q:GLeaf→Bool} {del:GLeaf→Option Bool} {L0:List GLeaf} (hl:L0.length≤16777216) (h:∀ x ∈ L0,del x=some (q x)):yK L0 del=some (L0.filter fun x=>!q x):=by
 rw [delR_eq];unfold zU;rcases idxF_is L0 0 h with ⟨e,h2⟩ | ⟨A,x,B,hL,h1,h2,e⟩
 ·rw [e];simp only [lp,Option.bind_some,beq_self_eq_true,if_true];rw [List.filter_eq_self.2 (fun x hx=>by rw [h2 x hx];rfl)]
 ·rw [e];have hlen:L0.length=A.length+1+B.length:=by rw [hL];simp;omega
  simp only [lp,Option.bind_some,Nat.zero_add];rw [if_neg (by simp <;> omega),wE (by omega)];obtain ⟨s',e1,a,r1,r2,r3,r4⟩:=delF_run hl h (a0:=A.length) (b0:=A.length+1) (by omega) (by omega) (by
   rw [hL,List.take_left,List.take_append,List.take_of_length_le (by omega),show A.length+1 - A.length=1 by omega,List.filter_append];simp only [List.take_succ_cons,List.take_zero,List.filter_cons,h1,List.filter_nil];rw [List.filter_eq_self.2 (fun y hy=>by rw [h2 y hy];rfl)];simp)
  rw [e1];simp only [yv];rw [if_pos (by rw [r1];omega),r1];have hs:slc (s'.2.2.take ((a:Int)).toNat++List.replicate (L0.length - ((a:Int)).toNat) zLf) (0:Int) (a:Int)=some (s'.2.2.take a):=by
   unfold slc;rw [if_pos (by simp;omega)];simp only [Int.toNat_natCast,Int.toNat_zero,List.drop_zero];rw [List.take_append_of_le_length (by simp;omega),List.take_take,Nat.min_self]
  rw [hs,Option.bind_some,r4]

theorem less_tot:∀ (a b:List UInt8),a=b ∨ Op.bytesLess a b=true ∨ Op.bytesLess b a=true
 | [],[]=>.inl rfl
 | [],_::_=>.inr (.inl rfl)
 | _::_,[]=>.inr (.inr rfl)
 | x::a,y::b=>by
  by_cases h:x=y
  ·subst h;rcases less_tot a b with rfl | h | h
   ·exact .inl rfl
   ·exact .inr (.inl (by simp [Op.bytesLess,h]))
   ·exact .inr (.inr (by simp [Op.bytesLess,h]))
  ·have h':x.toNat ≠ y.toNat:=fun e=>h (UInt8.toNat_inj.1 e);rcases Nat.lt_or_gt_of_ne h' with h | h
   ·exact .inr (.inl (by simp [Op.bytesLess,UInt8.lt_iff_toNat_lt,h]))
   ·exact .inr (.inr (by simp [Op.bytesLess,UInt8.lt_iff_toNat_lt,h]))
def pltB:List zk→List zk→Bool
 | _,[]=>false
 | [],_::_=>true
 | x::a,y::b=>Op.bytesLess x y || (decide (x=y)&&pltB a b)
theorem plt_irr:∀ a,pltB a a=false
 | []=>rfl
 | x::a=>by simp [pltB,less_irr,plt_irr a]
theorem plt_trans:∀ {a b c:List zk},pltB a b=true→pltB b c=true→pltB a c=true
 | _,[],_,h,_=>by cases ‹List zk› <;> simp [pltB] at h
 | _,_::_,[],_,h=>by simp [pltB] at h
 | [],_::_,_::_,_,_=>rfl
 | x::a,y::b,z::c,h1,h2=>by
  simp only [pltB,Bool.or_eq_true,Bool.and_eq_true,decide_eq_true_eq] at *;rcases h1 with h1 | ⟨rfl,h1⟩
  ·rcases h2 with h2 | ⟨rfl,h2⟩
   ·exact .inl (vH h1 h2)
   ·exact .inl h1
  ·rcases h2 with h2 | ⟨rfl,h2⟩
   ·exact .inl h2
   ·exact .inr ⟨rfl,plt_trans h1 h2⟩
theorem plt_tot:∀ (a b:List zk),a=b ∨ pltB a b=true ∨ pltB b a=true
 | [],[]=>.inl rfl
 | [],_::_=>.inr (.inl rfl)
 | _::_,[]=>.inr (.inr rfl)
 | x::a,y::b=>by
  rcases less_tot x y with rfl | h | h
  ·rcases plt_tot a b with rfl | h | h
   ·exact .inl rfl
   ·exact .inr (.inl (by simp [pltB,h]))
   ·exact .inr (.inr (by simp [pltB,h]))
  ·exact .inr (.inl (by simp [pltB,h]))
  ·exact .inr (.inr (by simp [pltB,h]))
theorem plt_path:∀ {a b:List zk},pltB a b=true→pathLt a b
 | _,[],h=>by cases ‹List zk› <;> simp [pltB] at h
 | [],y::b,_=>.inl ⟨y,b,rfl⟩
 | x::a,y::b,h=>by
  simp only [pltB,Bool.or_eq_true,Bool.and_eq_true,decide_eq_true_eq] at h;rcases h with h | ⟨rfl,h⟩
  ·exact .inr ⟨[],x,y,a,b,rfl,rfl,h⟩
  ·rcases plt_path h with ⟨z,q,rfl⟩ | ⟨p,u,v,a',b',rfl,rfl,h3⟩
   ·exact .inl ⟨z,q,rfl⟩
   ·exact .inr ⟨x::p,u,v,a',b',rfl,rfl,h3⟩
theorem path_plt {a b:List zk} (h:pathLt a b):pltB a b=true:=by
 rcases h with ⟨y,q,rfl⟩ | ⟨p,x,y,a',b',rfl,rfl,h⟩
 ·induction a with
  | nil=>rfl
  | cons x a ih=>simp [pltB,ih]
 ·induction p with
  | nil=>simp [pltB,h]
  | cons x a ih=>simp [pltB,ih]
theorem cmpS_gt {x y:zk} (h:Op.bytesLess y x=true):yq x y=some 1:=by
 have h2:Op.bytesLess x y=false:=by
  cases e:Op.bytesLess x y
  ·rfl
  ·have:=vH h e;rw [less_irr] at this;cases this
 unfold yq xk;have h3:¬ x=y:=fun e=>less_ne h e.symm;simp [h,h2,h3]
theorem cmpP_gt {a b:List zk} (h:pathLt b a):yF a b=some 1:=by
 rw [cmpP_eq];rcases h with ⟨y,q,rfl⟩ | ⟨p,x,y,a',b',rfl,rfl,h⟩
 ·have:=cmp_pre (s2:=b) b (y::q) [] [] (by simp);rw [List.length_nil] at this;rw [this];have e:cmpF b (0+b.length) y ()=some (.ret 1):=by
   unfold cmpF;rw [if_pos (decide_eq_true (by omega))]
  simp only [zr,e,lp_inl]
 ·have:=cmp_pre (s2:=p++x::a') p (y::b') [] (x::a') rfl;rw [List.length_nil] at this;rw [this];have hx:yo (p++x::a') ((0+p.length:Nat):Int)=some x:=zz (by simp);have e:cmpF (p++x::a') (0+p.length) y ()=some (.ret 1):=by
   unfold cmpF;rw [decide_eq_false (by simp only [List.length_append,List.length_cons];omega)];simp only [Bool.false_eq_true,if_false,hx,Option.bind_some,cmpS_gt h];rfl
  simp only [zr,e,lp_inl]
def Key:=List zk×Int
def kltB (a b:Key):Bool:=pltB a.1 b.1 || (decide (a.1=b.1)&&decide (a.2 < b.2))
theorem klt_irr (a:Key):kltB a a=false:=by simp [kltB,plt_irr]
theorem klt_trans {a b c:Key} (h1:kltB a b=true) (h2:kltB b c=true):kltB a c=true:=by
 simp only [kltB,Bool.or_eq_true,Bool.and_eq_true,decide_eq_true_eq] at *;rcases h1 with h1 | ⟨e1,h1⟩
 ·rcases h2 with h2 | ⟨e2,h2⟩
  ·exact .inl (plt_trans h1 h2)
  ·rw [e2] at h1;exact .inl h1
 ·rcases h2 with h2 | ⟨e2,h2⟩
  ·rw [← e1] at h2;exact .inl h2
  ·exact .inr ⟨e1.trans e2,by omega⟩
def ekey (e:GEdit):Key:=(e.path,e.typ)
def xI (r:GRow):Key:=(r.path,r.leaf.typ)
def ordI (a b:GEdit):Int:=if kltB (ekey a) (ekey b)=true then -1 else if kltB (ekey b) (ekey a)=true then 1 else 0
theorem plt_asym {a b:List zk} (h:pltB a b=true):pltB b a=false:=by
 cases e:pltB b a
 ·rfl
 ·have:=plt_trans h e;rw [plt_irr] at this;cases this
theorem order_is (a b:GEdit):qV a b=some (ordI a b):=by
 unfold qV ordI kltB ekey;rcases plt_tot a.path b.path with h | h | h
 ·simp only [h,cmpP_self,cmpU8is,Option.bind_some,cmpOr2_is,plt_irr,Bool.false_or,decide_true,Bool.true_and,decide_eq_true_eq,or2,cmpI];simp
 ·have h2:a.path ≠ b.path:=fun e=>by rw [e,plt_irr] at h;cases h
  simp only [cmpP_lt (plt_path h),cmpU8is,Option.bind_some,cmpOr2_is,h,or2];simp
 ·have h2:a.path ≠ b.path:=fun e=>by rw [e,plt_irr] at h;cases h
  simp only [cmpP_gt (plt_path h),cmpU8is,Option.bind_some,cmpOr2_is,h,plt_asym h,or2];simp [h2]
theorem ordI_lt {a b:GEdit}:ordI a b < 0 ↔ kltB (ekey a) (ekey b)=true:=by
 unfold ordI;split
 ·rename_i h;simp [h]
 ·rename_i h;split
  ·simp [h]
  ·simp [h]
theorem sortO_lt {α:Type} {c:α→α→Option Int} {cf:α→α→Int} {lt:α→α→Prop} {L R:List α} (hc:∀ x ∈ L,∀ y ∈ L,c x y=some (cf x y)) (hlt:∀ x y,cf x y < 0 ↔ lt x y) (irr:∀ x,¬ lt x x) (tr:∀ x y z,lt x y→lt y z→lt x z)
  (tot:∀ x ∈ L,∀ y ∈ L,x=y ∨ lt x y ∨ lt y x) (hp:R.Perm L) (hs:R.Pairwise lt) (hl:L.length≤yM):sortO c L=some R:=by
 unfold sortO;rw [if_pos (fun x hx y hy=>by rw [hc x hx y hy];rfl)];have hd:∀ x ∈ L,∀ y ∈ L,(c x y).getD 0 < 0 ↔ lt x y:=fun x hx y hy=>by rw [hc x hx y hy];exact hlt x y
 have hasym:∀ x y,lt x y→¬ lt y x:=fun x y h1 h2=>irr x (tr _ _ _ h1 h2);have hR:R.Pairwise fun a b=>¬ (c b a).getD 0 < 0:=by
  have:R.Pairwise fun a b=>a ∈ L∧b ∈ L∧lt a b:=by
   refine List.Pairwise.imp_of_mem ?_ hs;intro a b ha hb h;exact ⟨hp.subset ha,hp.subset hb,h⟩
  refine this.imp ?_
  rintro a b ⟨ha,hb,h⟩ h2
  exact hasym _ _ h ((hd b hb a ha).1 h2)
 refine sortF_of ⟨fun x hx h=>irr x ((hd x hx x hx).1 h),fun x y z hx hy hz h1 h2=>(hd x hx z hz).2 (tr _ _ _ ((hd x hx y hy).1 h1) ((hd y hy z hz).1 h2)),fun x y z hx hy hz h1 h2 h3=>?_⟩ hl ⟨hp,hR⟩ ?_
 ·have h3:=(hd x hx z hz).1 h3;rcases tot x hx y hy with rfl | h | h
  ·exact h2 ((hd _ hy z hz).2 h3)
  ·exact h1 ((hd x hx y hy).2 h)
  ·exact h2 ((hd y hy z hz).2 (tr _ _ _ h h3))
 ·rintro M ⟨hm,hM⟩
  refine sorted_one (hm.trans hp.symm) hM hR fun x y hx hy h1 h2=>?_;have hx:=hm.subset hx;have hy:=hm.subset hy;rcases tot x hx y hy with e | h | h
  ·exact e
  ·exact (h1 ((hd x hx y hy).2 h)).elim
  ·exact (h2 ((hd y hy x hx).2 h)).elim
theorem cmp_pos:∀ {a b:List UInt8},Op.bytesLess b a=true→0 < Lib.compareBytes a b
 | [],b,h=>by cases b <;> simp [Op.bytesLess] at h
 | _::_,[],_=>by simp [Lib.compareBytes]
 | x::a,y::b,h=>by
  simp only [Op.bytesLess,Bool.or_eq_true,Bool.and_eq_true,decide_eq_true_eq,beq_iff_eq] at h;rcases h with h | ⟨rfl,h⟩
  ·have h':y.toNat < x.toNat:=UInt8.lt_iff_toNat_lt.1 h;have h1:¬ x < y:=fun e=>by have:=UInt8.lt_iff_toNat_lt.1 e;omega
   simp [Lib.compareBytes,h,h1]
  ·have:=cmp_pos h;simp [Lib.compareBytes,this]
def NLt (s:zk) (A:List GNode):Prop:=∀ y ∈ A,Op.bytesLess y.name s=true
def NGt (s:zk) (B:List GNode):Prop:=∀ y ∈ B,Op.bytesLess s y.name=true
theorem split_up {t:List GNode} (s:zk) (h:upB t=true):(∃ A B,t=A++B∧NLt s A∧NGt s B) ∨ ∃ A x B,t=A++x::B∧x.name=s∧NLt s A∧NGt s B:=by
 rw [upB_iff] at h
 induction t with
 | nil=>exact .inl ⟨[],[],rfl,fun _ h=>by simp at h,fun _ h=>by simp at h⟩
 | cons x t ih =>
  obtain ⟨h1,h2⟩:=List.pairwise_cons.1 h;rcases less_tot x.name s with e | e | e
  ·exact .inr ⟨[],x,t,rfl,e,fun _ h=>by simp at h,fun y hy=>by rw [← e];exact h1 y hy⟩
  ·rcases ih h2 with ⟨A,B,rfl,ha,hb⟩ | ⟨A,z,B,rfl,hz,ha,hb⟩
   ·refine .inl ⟨x::A,B,rfl,fun y hy=>?_,hb⟩;rcases List.mem_cons.1 hy with rfl | hy
    ·exact e
    ·exact ha y hy
   ·refine .inr ⟨x::A,z,B,rfl,hz,fun y hy=>?_,hb⟩;rcases List.mem_cons.1 hy with rfl | hy
    ·exact e
    ·exact ha y hy
  ·refine .inl ⟨[],x::t,rfl,fun _ h=>by simp at h,fun y hy=>?_⟩;rcases List.mem_cons.1 hy with rfl | hy
   ·exact e
   ·exact vH e (h1 y hy)
theorem bs_none {A B:List GNode} {s:zk} (hx:(A++B).length≤16777216) (ha:NLt s A) (hb:NGt s B):zj (A++B) s (fun x0 x1=>yO x0 x1)=some ((A.length:Int),false):=by
 rw [bs_is (c:=A.length) hx (by simp) fun i m hi=>⟨_,layC1_is m s,fun hc=>by
   rw [List.getElem?_append_left hc] at hi;exact cmp_less.2 (ha m (List.mem_of_getElem? hi)),fun hc=>by
   rw [List.getElem?_append_right hc] at hi;exact Int.le_of_lt (cmp_pos (hb m (List.mem_of_getElem? hi)))⟩]
 cases B with
 | nil=>simp
 | cons y B =>
  have e:(A++y::B).getD A.length default=y:=by simp
  have:=cmp_pos (hb y (by simp));rw [if_pos (by simp),e,layC1_is];have e2:(Lib.compareBytes y.name s==0)=false:=by simp;omega
  simp [e2]
theorem bs_some {A B:List GNode} {x:GNode} {s:zk} (hx:(A++x::B).length≤16777216) (hs:x.name=s) (ha:NLt s A) (hb:NGt s B):zj (A++x::B) s (fun x0 x1=>yO x0 x1)=some ((A.length:Int),true):=by
 subst hs;rw [bs_is (c:=A.length) hx (by simp) fun i m hi=>⟨_,layC1_is m x.name,fun hc=>by
   rw [List.getElem?_append_left hc] at hi;exact cmp_less.2 (ha m (List.mem_of_getElem? hi)),fun hc=>by
   rw [List.getElem?_append_right hc] at hi;rcases List.mem_cons.1 (List.mem_of_getElem? hi) with rfl | hm
   ·rw [cmp_self];exact Int.le_refl _
   ·exact Int.le_of_lt (cmp_pos (hb m hm))⟩]
 have e:(A++x::B).getD A.length default=x:=by simp
 rw [if_pos (by simp),e,layC1_is,cmp_self];simp
noncomputable def layIn (n:Nat) (path1:List zk) (kind2:Int) (l3:GLeaf) (there4:Bool) (s1:zk×(List GLeaf)×(List GNode)):Option (List GNode ⊕ ((List GLeaf)×(List GNode))):=((if (decide (((path1).length:Int) > (1:Int)))=true then ((slc path1 (1:Int) ((path1).length:Int)).bind fun m20=>((yQ n s1.2.2 m20 kind2 l3 there4).bind fun v21=>some (.inr (s1.2.1,v21)))) else ((yU s1.2.1).bind fun v22=>((yK v22 (fun x0=>diffXlayC2 x0 kind2)).bind fun v23=>(if there4=true then ((diffXown l3).bind fun v25=>(yv ((v23).length+(([v25]:List GLeaf)).length≤yM) (((sortO (fun x y=>qW x y) (v23++([v25]:List GLeaf))).bind fun v27=>some (.inr (v27,s1.2.2)))))) else some (.inr (v23,s1.2.2)))))):Option (_ ⊕ ((List GLeaf)×(List GNode))))
noncomputable def layRest (t0:List GNode) (i:Int) (f:Bool) (nm:zk) (s2:(List GLeaf)×(List GNode)):Option (List GNode):=((slc t0 (0:Int) i).bind fun m28=>((yg m28).bind fun v29=>(if (decide ((IntKind.wrap .i64 (((s2.1).length:Int)+((s2.2).length:Int))) > (0:Int)))=true then (yv ((v29).length+(([(GNode.mk nm s2.1 s2.2)]:List GNode)).length≤yM) ((if f=true then ((slc t0 (IntKind.wrap .i64 (i+(1:Int))) ((t0).length:Int)).bind fun m35=>(yv (((v29++([(GNode.mk nm s2.1 s2.2)]:List GNode))).length+(m35).length≤yM) (some ((v29++([(GNode.mk nm s2.1 s2.2)]:List GNode))++m35)))) else ((slc t0 i ((t0).length:Int)).bind fun m37=>(yv (((v29++([(GNode.mk nm s2.1 s2.2)]:List GNode))).length+(m37).length≤yM) (some ((v29++([(GNode.mk nm s2.1 s2.2)]:List GNode))++m37))))))) else (if f=true then ((slc t0 (IntKind.wrap .i64 (i+(1:Int))) ((t0).length:Int)).bind fun m40=>(yv ((v29).length+(m40).length≤yM) (some (v29++m40)))) else ((slc t0 i ((t0).length:Int)).bind fun m42=>(yv ((v29).length+(m42).length≤yM) (some (v29++m42))))))))
theorem layN_eq (n:Nat) (t0:List GNode) (path1:List zk) (kind2:Int) (l3:GLeaf) (there4:Bool):yQ (n+1) t0 path1 kind2 l3 there4=((yo path1 (0:Int)).bind fun y1=>((zj t0 y1 (fun x0 x1=>yO x0 x1)).bind fun v2=>((yo path1 (0:Int)).bind fun y3=>(lp ((if v2.2=true then ((yo t0 v2.1).bind fun y7=>some (.inr (y7.name,y7.leaves,y7.subs))) else some (.inr (y3,([]:List GLeaf),([]:List GNode)))):Option (_ ⊕ (zk×(List GLeaf)×(List GNode)))) fun (s1:zk×(List GLeaf)×(List GNode))=>(lp (layIn n path1 kind2 l3 there4 s1) fun (s2:(List GLeaf)×(List GNode))=>layRest t0 v2.1 v2.2 s1.1 s2))))):=rfl
def qb (k:Int) (l:GLeaf) (there:Bool) (ls:List GLeaf):List GLeaf:=if there=true then ls.filter (fun x=>decide (x.typ < k))++[l]++ls.filter (fun x=>decide (k < x.typ)) else ls.filter (fun x=>!decide (x.typ=k))
theorem ups_inj {ls:List GLeaf} (h:ls.Pairwise fun x y=>x.typ < y.typ) {x y:GLeaf} (hx:x ∈ ls) (hy:y ∈ ls) (e:x.typ=y.typ):x=y:=by
 induction ls with
 | nil=>simp at hx
 | cons z r ih =>
  obtain ⟨h1,h2⟩:=List.pairwise_cons.1 h;rcases List.mem_cons.1 hx with ex | hx' <;> rcases List.mem_cons.1 hy with ey | hy'
  ·rw [ex,ey]
  ·have:=h1 y hy';rw [← ex] at this;omega
  ·have:=h1 x hx';rw [← ey] at this;omega
  ·exact ih h2 hx' hy'
theorem layLs_up {k:Int} {l:GLeaf} {there:Bool} {ls:List GLeaf} (hk:there=true→l.typ=k) (h:ls.Pairwise fun x y=>x.typ < y.typ):(qb k l there ls).Pairwise fun x y=>x.typ < y.typ:=by
 unfold qb;split
 ·rename_i ht;have hk:=hk ht;rw [List.pairwise_append,List.pairwise_append];refine ⟨⟨h.filter _,by simp,fun x hx y hy=>?_⟩,h.filter _,fun x hx y hy=>?_⟩
  ·have hx:=(List.mem_filter.1 hx).2;simp at hx hy;subst hy;omega
  ·have hy:=(List.mem_filter.1 hy).2;simp at hy;rcases List.mem_append.1 hx with hx | hx
   ·have hx:=(List.mem_filter.1 hx).2;simp at hx;omega
   ·simp at hx;subst hx;omega
 ·exact h.filter _
theorem sortLs_is {k:Int} {l:GLeaf} {ls:List GLeaf} (hk:l.typ=k) (hl:ls.length≤16777216) (h:ls.Pairwise fun x y=>x.typ < y.typ):sortO (fun x y=>qW x y) (ls.filter (fun x=>!decide (x.typ=k))++[l])=some (qb k l true ls):=by
 have hf:=List.length_filter_le (fun x:GLeaf=>!decide (x.typ=k)) ls;refine sortO_lt (α:=GLeaf) (cf:=fun x y=>cmpI x.typ y.typ) (lt:=fun x y=>x.typ < y.typ) (fun x _ y _=>by unfold qW;rw [cmpU8is];rfl) (fun x y=>by unfold cmpI;split <;> (try split) <;> omega) (fun x h=>by omega) (fun x y z h1 h2=>by omega) ?_ ?_ (layLs_up (fun _=>hk) h) (yG (by simp;omega))
 ·intro x hx y hy;rcases Int.lt_trichotomy x.typ y.typ with e | e | e
  ·exact .inr (.inl e)
  ·left;rcases List.mem_append.1 hx with hx | hx <;> rcases List.mem_append.1 hy with hy | hy
   ·exact ups_inj h (List.mem_filter.1 hx).1 (List.mem_filter.1 hy).1 e
   ·have hx:=(List.mem_filter.1 hx).2;simp at hx hy;subst hy;omega
   ·have hy:=(List.mem_filter.1 hy).2;simp at hx hy;subst hx;omega
   ·simp at hx hy;rw [hx,hy]
  ·exact .inr (.inr e)
 ·unfold qb;rw [if_pos rfl];have h1:(ls.filter (fun x=>decide (x.typ < k))++ls.filter (fun x=>decide (k < x.typ))).Perm (ls.filter fun x=>!decide (x.typ=k)):=by
   have:=List.filter_append_perm (fun x:GLeaf=>decide (x.typ < k)) (ls.filter fun x=>!decide (x.typ=k));rw [List.filter_filter,List.filter_filter] at this;refine List.Perm.trans (.of_eq ?_) this;congr 1 <;> refine List.filter_congr fun x _=>?_ <;> rw [Bool.eq_iff_iff] <;> simp <;> omega
  rw [List.append_assoc];refine List.Perm.trans (List.Perm.append_left _ List.perm_append_comm) ?_;rw [← List.append_assoc];exact h1.append_right _
theorem layIn_leaf {n:Nat} {s:zk} {k:Int} {l:GLeaf} {there:Bool} {nm:zk} {ls:List GLeaf} {sb:List GNode} (hk:there=true→l.typ=k∧LeafOk l) (hl:ls.length≤16777216) (h:ls.Pairwise fun x y=>x.typ < y.typ) :
  layIn n [s] k l there (nm,ls,sb)=some (.inr (qb k l there ls,sb)):=by
 unfold layIn;have e1:decide (((([s]:List zk).length:Int)) > 1)=false:=rfl;have hf:=List.length_filter_le (fun x:GLeaf=>!decide (x.typ=k)) ls;simp only [e1,Bool.false_eq_true,if_false];rw [cloneLeaf_is (yG (by omega)),Option.bind_some,deleteR_is (q:=fun x=>decide (x.typ=k)) hl (fun x _=>by unfold diffXlayC2;rfl),Option.bind_some];cases there with
 | false=>simp [qb]
 | true =>
  obtain ⟨h1,h2⟩:=hk rfl;simp only [if_true];rw [own_is h2,Option.bind_some,zo (yG (by simp;omega)),sortLs_is h1 hl h,Option.bind_some]
theorem layIn_sub {n:Nat} {s a:zk} {r:List zk} {k:Int} {l:GLeaf} {there:Bool} {nm:zk} {ls:List GLeaf} {sb sb':List GNode} (hr:(s::a::r).length≤16777216) (h:yQ n sb (a::r) k l there=some sb'):layIn n (s::a::r) k l there (nm,ls,sb)=some (.inr (ls,sb')):=by
 unfold layIn;have e1:decide ((((s::a::r).length:Int)) > 1)=true:=decide_eq_true (by simp only [List.length_cons];omega);simp only [e1,if_true];rw [slc_at ⟨by omega,by simp only [List.length_cons];omega,Int.le_refl _⟩,Option.bind_some];have e2:((s::a::r).take (((s::a::r).length:Int)).toNat).drop (1:Int).toNat=a::r:=by rw [Int.toNat_natCast,List.take_length];rfl
 rw [e2,h,Option.bind_some]
def fitN (nm:zk) (ls:List GLeaf) (sb:List GNode):List GNode:=if ls.length+sb.length=0 then [] else [⟨nm,ls,sb⟩]
theorem layRest_is {A B:List GNode} {m:List GNode} {nm:zk} {ls:List GLeaf} {sb:List GNode} {f:Bool} (hm:m.length=if f=true then 1 else 0) (ht:(A++m++B).length≤16777216) (h1:ls.length≤16777216) (h2:sb.length≤16777217) :
  layRest (A++m++B) (A.length:Int) f nm (ls,sb)=some (A++fitN nm ls sb++B):=by
 simp only [List.length_append] at ht;unfold layRest;rw [slc_at ⟨Int.le_refl _,by omega,by simp;omega⟩,Option.bind_some];have e1:((A++m++B).take ((A.length:Int)).toNat).drop (0:Int).toNat=A:=by simp
 rw [e1,cloneNode_is (yG (by omega)),Option.bind_some];have e3:∀ (c:List GNode),c.length≤A.length+1→((if f=true then ((slc (A++m++B) (IntKind.wrap .i64 ((A.length:Int)+(1:Int))) ((A++m++B).length:Int)).bind fun m35=>(yv (c.length+(m35).length≤yM) (some (c++m35)))) else ((slc (A++m++B) (A.length:Int) ((A++m++B).length:Int)).bind fun m37=>(yv (c.length+(m37).length≤yM) (some (c++m37))))):Option (List GNode))=some (c++B):=by
  intro c hc;cases f with
  | true =>
   simp only [if_true] at hm ⊢;rw [w64n (by omega),slc_at ⟨by omega,by simp;omega,Int.le_refl _⟩,Option.bind_some];have e:((A++m++B).take (((A++m++B).length:Int)).toNat).drop ((A.length:Int)+1).toNat=B:=by
    rw [Int.toNat_natCast,List.take_length,show ((A.length:Int)+1).toNat=(A++m).length by simp;omega,List.drop_left]
   rw [e,zo (yG (by omega))]
  | false =>
   simp only [Bool.false_eq_true,if_false] at hm ⊢;obtain rfl:=List.eq_nil_of_length_eq_zero hm;rw [slc_at ⟨by omega,by simp;omega,Int.le_refl _⟩,Option.bind_some];have e:((A++[]++B).take (((A++[]++B).length:Int)).toNat).drop ((A.length:Int)).toNat=B:=by
    simp only [Int.toNat_natCast];rw [List.take_length,List.append_nil,List.drop_left]
   rw [e,zo (yG (by omega))]
 unfold fitN;have e5:IntKind.wrap .i64 ((ls.length:Int)+(sb.length:Int))=(ls.length:Int)+(sb.length:Int):=w64n (by omega);simp only [e5];by_cases h0:ls.length+sb.length=0
 ·rw [if_pos h0,if_neg (by simp;omega),List.append_nil];exact e3 A (by omega)
 ·rw [if_neg h0,if_pos (by simp;omega),zo (yG (by simp;omega))];exact e3 (A++[⟨nm,ls,sb⟩]) (by simp)

theorem leaves_of {ls:List GLeaf} (h:ls.Pairwise fun x y=>x.typ < y.typ) (hb:∀ l ∈ ls,leafB l=true):leavesB ls=true:=by
 unfold leavesB;rw [allI_iff];intro i x hx;have h1:=hb x (List.mem_of_getElem? hx);simp only [h1,Bool.true_and];rcases i with _ | i
 ·rfl
 ·obtain ⟨hi,rfl⟩:=List.getElem?_eq_some_iff.1 hx;have:=List.pairwise_iff_getElem.1 h i (i+1) (by omega) hi (by omega);simp only [Nat.add_sub_cancel,Bool.or_eq_true,decide_eq_true_eq];right;rw [List.getD_eq_getElem?_getD,List.getElem?_eq_getElem (by omega:i < ls.length)];exact this
theorem vU (a:List zk) (A B:List GNode):zn a (A++B)=zn a A++zn a B:=by rw [yA,yA,yA,List.flatMap_append]
theorem rowsN_mem {a:List zk} {x:GNode} {r:GRow}:r ∈ qk a x ↔ (∃ l ∈ x.leaves,r=⟨a++[x.name],l⟩) ∨ r ∈ zn (a++[x.name]) x.subs:=by
 rw [yL,List.mem_append,List.mem_map];constructor
 ·rintro (⟨l,h1,rfl⟩ | h)
  ·exact .inl ⟨l,h1,rfl⟩
  ·exact .inr h
 ·rintro (⟨l,h1,rfl⟩ | h)
  ·exact .inl ⟨l,h1,rfl⟩
  ·exact .inr h
theorem qj {a:List zk} {x:GNode}:zn a [x]=qk a x:=by simp [zn]
theorem fit_mem {a:List zk} {nm:zk} {ls:List GLeaf} {sb:List GNode} {r:GRow}:r ∈ zn a (fitN nm ls sb) ↔ (∃ l ∈ ls,r=⟨a++[nm],l⟩) ∨ r ∈ zn (a++[nm]) sb:=by
 unfold fitN;split
 ·rename_i h;have h1:ls=[]:=List.eq_nil_of_length_eq_zero (by omega);have h2:sb=[]:=List.eq_nil_of_length_eq_zero (by omega);subst h1 h2;simp [zn]
 ·rw [qj,rowsN_mem]
theorem len_rows (t:List GNode) (a b:List zk):(zn a t).length=(zn b t).length:=by
 have h1:=rows_pre t a [];have h2:=rows_pre t b [];rw [List.append_nil] at h1 h2;rw [h1,h2,List.length_map,List.length_map]
theorem wy:∀ (t:List GNode) (d:Nat),xE d t=true→t.length≤(zn [] t).length:=by
 refine xO (fun _ _=>Nat.zero_le _) ?_;intro x r hx hr d hn;simp only [xE,Bool.and_eq_true] at hn;have h1:=hr d hn.2;have h2:=hn.1;rw [nodeB_eq] at h2;simp only [Bool.and_eq_true,treeB,Bool.not_eq_true',Bool.and_eq_false_iff] at h2;have h3:=hx (d+1) h2.1.2.2;rw [show x::r=[x]++r from rfl,vU,qj,yL];simp only [List.length_append,List.length_map,List.length_cons,List.length_nil];rw [len_rows x.subs ([]++[x.name]) []];rcases h2.1.1.2 with h | h
 ·cases hl:x.leaves with
  | nil=>rw [hl] at h;cases h
  | cons l ls=>simp only [List.length_cons];omega
 ·cases hl:x.subs with
  | nil=>rw [hl] at h;cases h
  | cons l ls=>rw [hl] at h3;simp only [List.length_cons] at h3;omega
theorem qr {t:List GNode} {x:GNode} (hx:x ∈ t):x.leaves.length+(zn [] x.subs).length≤(zn [] t).length:=by
 obtain ⟨A,B,rfl⟩:=List.append_of_mem hx;rw [vU,show x::B=[x]++B from rfl,vU,qj,yL];simp only [List.length_append,List.length_map];rw [len_rows x.subs ([]++[x.name]) []];omega
theorem zK {d:Nat} {t:List GNode} (h:treeB d t=true):upB t=true∧∀ x ∈ t,nodeB d x=true:=by
 simp only [treeB,Bool.and_eq_true,yN,List.all_eq_true] at h;exact ⟨h.1.2,h.2⟩
theorem treeB_of {d:Nat} {t:List GNode} (hd:d < 3) (h1:upB t=true) (h2:∀ x ∈ t,nodeB d x=true):treeB d t=true:=by
 simp only [treeB,Bool.and_eq_true,yN,List.all_eq_true,h1,hd,decide_true,Bool.or_true,true_and];exact h2
theorem xT {d:Nat} {x:GNode} (h:nodeB d x=true):nameB x.name=true∧treeB (d+1) x.subs=true∧leavesB x.leaves=true:=by
 rw [nodeB_eq] at h;simp only [Bool.and_eq_true] at h;exact ⟨h.1.1.1,h.1.2,h.2⟩
theorem find_node {d:Nat} {t:List GNode} (s:zk) (h:treeB d t=true) (hw:(zn [] t).length≤16777215):∃ A m B f ls sb,t=A++m++B∧NLt s A∧NGt s B∧m.length=(if f=true then 1 else 0)∧zj t s (fun x0 x1=>yO x0 x1)=some ((A.length:Int),f) ∧
  ((if f=true then ((yo t (A.length:Int)).bind fun y7=>some (.inr (y7.name,y7.leaves,y7.subs))) else some (.inr (s,([]:List GLeaf),([]:List GNode)))):Option (List GNode ⊕ (zk×(List GLeaf)×(List GNode))))=some (.inr (s,ls,sb))∧treeB (d+1) sb=true∧leavesB ls=true ∧
  ls.length+(zn [] sb).length≤(zn [] t).length∧∀ a r,r ∈ zn a m ↔ (∃ l ∈ ls,r=⟨a++[s],l⟩) ∨ r ∈ zn (a++[s]) sb:=by
 obtain ⟨h1,h2⟩:=zK h;have hl:t.length≤16777215:=Nat.le_trans (wy t d (by rw [yN];exact List.all_eq_true.2 h2)) hw;rcases split_up s h1 with ⟨A,B,rfl,ha,hb⟩ | ⟨A,x,B,rfl,hx,ha,hb⟩
 ·refine ⟨A,[],B,false,[],[],by simp,ha,hb,rfl,bs_none (by omega) ha hb,rfl,tree_nil _,rfl,by simp [zn],fun a r=>by simp [zn]⟩
 ·obtain ⟨n1,n2,n3⟩:=xT (h2 x (by simp));refine ⟨A,[x],B,true,x.leaves,x.subs,by simp,ha,hb,rfl,bs_some (by omega) hx ha hb,?_,n2,n3,qr (by simp),fun a r=>?_⟩
  ·rw [if_pos rfl,zz (x:=x) (by simp),Option.bind_some,hx]
  ·rw [qj,rowsN_mem,hx]
theorem rows_off {s:zk} {A:List GNode} (h:∀ y ∈ A,y.name ≠ s) {a q:List zk} {r:GRow} (hr:r ∈ zn a A):r.path ≠ a++s::q:=by
 obtain ⟨x,hx,w,e⟩:=qG hr;rw [e];intro e2;have:=List.append_cancel_left e2;injection this with e3 _;exact h x hx e3
theorem NLt.ne {s:zk} {A:List GNode} (h:NLt s A):∀ y ∈ A,y.name ≠ s:=fun y hy=>less_ne (h y hy)
theorem NGt.ne {s:zk} {A:List GNode} (h:NGt s A):∀ y ∈ A,y.name ≠ s:=fun y hy=>(less_ne (h y hy)).symm
theorem lay_fin {d:Nat} {A m B:List GNode} {s:zk} {ls:List GLeaf} {sb:List GNode} (hd:d < 3) (h:treeB d (A++m++B)=true) (ha:NLt s A) (hb:NGt s B) (hs:nameB s=true) (h1:leavesB ls=true) (h2:treeB (d+1) sb=true):treeB d (A++fitN s ls sb++B)=true:=by
 obtain ⟨u,n⟩:=zK h;rw [upB_iff,List.pairwise_append,List.pairwise_append] at u;have hAB:∀ x ∈ A,∀ y ∈ B,Op.bytesLess x.name y.name=true:=fun x hx y hy=>vH (ha x hx) (hb y hy);have hf:∀ x ∈ fitN s ls sb,x=⟨s,ls,sb⟩∧¬ ls.length+sb.length=0:=fun x hx=>by
  unfold fitN at hx;split at hx
  ·simp at hx
  ·rename_i h0;simp at hx;exact ⟨hx,h0⟩
 refine treeB_of hd ?_ ?_
 ·rw [upB_iff,List.pairwise_append,List.pairwise_append];refine ⟨⟨u.1.1,?_,fun x hx y hy=>by rw [(hf y hy).1];exact ha x hx⟩,u.2.1,fun x hx y hy=>?_⟩
  ·unfold fitN;split <;> simp
  ·rcases List.mem_append.1 hx with hx | hx
   ·exact hAB x hx y hy
   ·rw [(hf x hx).1];exact hb y hy
 ·intro x hx;rcases List.mem_append.1 hx with hx | hx
  ·rcases List.mem_append.1 hx with hx | hx
   ·exact n x (by simp [hx])
   ·obtain ⟨rfl,h0⟩:=hf x hx;rw [nodeB_eq];simp only [hs,h1,h2,Bool.and_true,Bool.true_and,Bool.not_eq_true',Bool.and_eq_false_iff];cases ls with
    | cons _ _=>exact .inl rfl
    | nil=>cases sb with
     | cons _ _=>exact .inr rfl
     | nil=>simp at h0
  ·exact n x (by simp [hx])
theorem fit_len (s:zk) (ls:List GLeaf) (sb:List GNode):(fitN s ls sb).length≤1:=by unfold fitN;split <;> simp
theorem layLs_mem {k:Int} {l:GLeaf} {there:Bool} {ls:List GLeaf} {x:GLeaf}:x ∈ qb k l there ls ↔ (x ∈ ls∧x.typ ≠ k) ∨ (there=true∧x=l):=by
 unfold qb;cases there with
 | false=>simp
 | true =>
  simp only [if_true,List.mem_append,List.mem_filter,List.mem_singleton,decide_eq_true_eq,true_and];constructor
  ·rintro ((⟨h,h2⟩ | h) | ⟨h,h2⟩)
   ·exact .inl ⟨h,by omega⟩
   ·exact .inr h
   ·exact .inl ⟨h,by omega⟩
  ·rintro (⟨h,h2⟩ | h)
   ·rcases Int.lt_or_gt_of_ne h2 with h3 | h3
    ·exact .inl (.inl ⟨h,h3⟩)
    ·exact .inr ⟨h,h3⟩
   ·exact .inl (.inr h)
theorem lay_is {k:Int} {l:GLeaf} {there:Bool} (hk:there=true→l.typ=k∧leafB l=true∧LeafOk l):∀ (p:List zk) (t:List GNode) (d n:Nat),p ≠ []→p.all nameB=true→d+p.length≤3→treeB d t=true→(zn [] t).length≤16777215→p.length < n →
  ∃ t',yQ n t p k l there=some t'∧treeB d t'=true∧t'.length≤t.length+1∧∀ a r,r ∈ zn a t' ↔ (r ∈ zn a t∧xI r ≠ (a++p,k)) ∨ (there=true∧r=⟨a++p,l⟩)
 | [],_,_,_,h,_,_,_,_,_=>absurd rfl h
 | _::_,_,_,0,_,_,_,_,_,h=>by omega
 | s::q,t,d,n+1,_,hp,hd,ht,hw,hn=>by
  simp only [List.all_cons,Bool.and_eq_true,List.length_cons] at hp hd hn;obtain ⟨A,m,B,f,ls,sb,rfl,ha,hb,hm,hbs,hst,hsb,hls,hlen,hrow⟩:=find_node s ht hw;have hix:yo (s::q) (0:Int)=some s:=rfl;obtain ⟨hup,hlb⟩:=qR hls;have hl3:(A++m++B).length≤16777215:=Nat.le_trans (wy _ d (by rw [yN];exact List.all_eq_true.2 (zK ht).2)) hw;have hfl:=fun ls' sb'=>fit_len s ls' sb';have hlen2:∀ ls' sb',(A++fitN s ls' sb'++B).length≤(A++m++B).length+1:=fun ls' sb'=>by
   have:=fit_len s ls' sb';simp only [List.length_append];omega
  rw [layN_eq,hix,Option.bind_some,hbs,Option.bind_some,Option.bind_some];simp only [];rw [hst,xd];cases q with
  | nil =>
   rw [layIn_leaf (fun h=>⟨(hk h).1,(hk h).2.2⟩) (by omega) hup,xd,layRest_is hm (by omega) (by
    have:(qb k l there ls).length≤ls.length+1:=by
     unfold qb;split
     ·have h1:=List.filter_append_perm (fun x:GLeaf=>decide (x.typ < k)) ls;have h2:=h1.length_eq;have h3:(ls.filter fun x=>decide (k < x.typ)).length≤(ls.filter fun x=>!decide (x.typ < k)).length:=by
       have:(ls.filter fun x=>decide (k < x.typ))=(ls.filter fun x=>!decide (x.typ < k)).filter (fun x=>decide (k < x.typ)):=by
        rw [List.filter_filter];refine List.filter_congr fun x _=>?_;rw [Bool.eq_iff_iff];simp;omega
       rw [this];exact List.length_filter_le _ _
      simp only [List.length_append,List.length_cons,List.length_nil] at h2 ⊢;omega
     ·exact Nat.le_succ_of_le (List.length_filter_le _ _)
    omega) (by have:=wy sb (d+1) (by rw [yN];exact List.all_eq_true.2 (zK hsb).2);omega)]
   refine ⟨_,rfl,lay_fin (by omega) ht ha hb hp.1 (leaves_of (layLs_up (fun h=>(hk h).1) hup) fun x hx=>?_) hsb,hlen2 _ _,fun a r=>?_⟩
   ·rcases layLs_mem.1 hx with h | ⟨h,rfl⟩
    ·exact hlb x h.1
    ·exact (hk h).2.1
   ·simp only [vU,List.mem_append,fit_mem,hrow];have oA:r ∈ zn a A→xI r ≠ (a++[s],k):=fun h e=>rows_off ha.ne h (congrArg Prod.fst e);have oB:r ∈ zn a B→xI r ≠ (a++[s],k):=fun h e=>rows_off hb.ne h (congrArg Prod.fst e);have oS:r ∈ zn (a++[s]) sb→xI r ≠ (a++[s],k):=fun h e=>by
     have:=(rows_path sb _ r h).1;rw [show r.path=a++[s] from congrArg Prod.fst e] at this;omega
    constructor
    ·rintro ((h | ⟨x,hx,rfl⟩ | h) | h)
     ·exact .inl ⟨.inl (.inl h),oA h⟩
     ·rcases layLs_mem.1 hx with ⟨h1,h2⟩ | ⟨h1,rfl⟩
      ·exact .inl ⟨.inl (.inr (.inl ⟨x,h1,rfl⟩)),fun e=>h2 (congrArg Prod.snd e)⟩
      ·exact .inr ⟨h1,rfl⟩
     ·exact .inl ⟨.inl (.inr (.inr h)),oS h⟩
     ·exact .inl ⟨.inr h,oB h⟩
    ·rintro (⟨(h | ⟨x,hx,rfl⟩ | h) | h,h2⟩ | ⟨h1,rfl⟩)
     ·exact .inl (.inl h)
     ·exact .inl (.inr (.inl ⟨x,layLs_mem.2 (.inl ⟨hx,fun e=>h2 (by rw [← e];rfl)⟩),rfl⟩))
     ·exact .inl (.inr (.inr h))
     ·exact .inr h
     ·exact .inl (.inr (.inl ⟨l,layLs_mem.2 (.inr ⟨h1,rfl⟩),rfl⟩))
  | cons c q =>
   obtain ⟨sb',e1,e2,e3,e4⟩:=lay_is hk (c::q) sb (d+1) n (by simp) hp.2 (by simp only [List.length_cons] at hd ⊢;omega) hsb (by omega) (by omega);have hsl:=wy sb (d+1) (by rw [yN];exact List.all_eq_true.2 (zK hsb).2);rw [layIn_sub (by simp only [List.length_cons] at hd ⊢;omega) e1,xd,layRest_is hm (by omega) (by omega) (by omega)];refine ⟨_,rfl,lay_fin (by omega) ht ha hb hp.1 hls e2,hlen2 _ _,fun a r=>?_⟩;simp only [vU,List.mem_append,fit_mem,hrow,e4];have ea:a++[s]++c::q=a++s::c::q:=by simp
   rw [ea];have oA:r ∈ zn a A→xI r ≠ (a++s::c::q,k):=fun h e=>rows_off ha.ne h (congrArg Prod.fst e);have oB:r ∈ zn a B→xI r ≠ (a++s::c::q,k):=fun h e=>rows_off hb.ne h (congrArg Prod.fst e);have oS:∀ x,r=⟨a++[s],x⟩→xI r ≠ (a++s::c::q,k):=fun x h e=>by
    rw [h] at e;have:=congrArg List.length (congrArg Prod.fst e);simp [xI] at this
   constructor
   ·rintro ((h | ⟨x,hx,h⟩ | (h | h)) | h)
    ·exact .inl ⟨.inl (.inl h),oA h⟩
    ·exact .inl ⟨.inl (.inr (.inl ⟨x,hx,h⟩)),oS x h⟩
    ·exact .inl ⟨.inl (.inr (.inr h.1)),h.2⟩
    ·exact .inr h
    ·exact .inl ⟨.inr h,oB h⟩
   ·rintro (⟨(h | ⟨x,hx,h⟩ | h) | h,h2⟩ | h)
    ·exact .inl (.inl h)
    ·exact .inl (.inr (.inl ⟨x,hx,h⟩))
    ·exact .inl (.inr (.inr (.inl ⟨h,h2⟩)))
    ·exact .inr h
    ·exact .inl (.inr (.inr (.inr h)))

theorem rowLt_iff {r q:GRow}:rowLt r q ↔ kltB (xI r) (xI q)=true:=by
 unfold rowLt kltB xI;simp only [Bool.or_eq_true,Bool.and_eq_true,decide_eq_true_eq];constructor
 ·rintro (h | h)
  ·exact .inl (path_plt h)
  ·exact .inr h
 ·rintro (h | h)
  ·exact .inl (plt_path h)
  ·exact .inr h
theorem sorted_ext {α:Type} {lt:α→α→Prop} (irr:∀ x,¬ lt x x) (tr:∀ x y z,lt x y→lt y z→lt x z):∀ {L M:List α},L.Pairwise lt→M.Pairwise lt→(∀ x,x ∈ L ↔ x ∈ M)→L=M
 | [],[],_,_,_=>rfl
 | [],y::M,_,_,h=>by have:=(h y).2 (by simp);simp at this
 | x::L,[],_,_,h=>by have:=(h x).1 (by simp);simp at this
 | x::L,y::M,h1,h2,h=>by
  obtain ⟨a1,a2⟩:=List.pairwise_cons.1 h1;obtain ⟨b1,b2⟩:=List.pairwise_cons.1 h2;have e:x=y:=by
   rcases List.mem_cons.1 ((h x).1 (by simp)) with e | hx
   ·exact e
   ·rcases List.mem_cons.1 ((h y).2 (by simp)) with e | hy
    ·exact e.symm
    ·exact (irr x (tr _ _ _ (a1 y hy) (b1 x hx))).elim
  subst e;rw [sorted_ext irr tr a2 b2 fun z=>?_];constructor
  ·intro hz;rcases List.mem_cons.1 ((h z).1 (by simp [hz])) with e | hz2
   ·subst e;exact (irr _ (a1 _ hz)).elim
   ·exact hz2
  ·intro hz;rcases List.mem_cons.1 ((h z).2 (by simp [hz])) with e | hz2
   ·subst e;exact (irr _ (b1 _ hz)).elim
   ·exact hz2
theorem filter_app_left {α:Type} {P:α→Bool} {A B:List α} (h1:∀ x ∈ A,P x=true) (h2:∀ x ∈ B,P x=false):(A++B).filter P=A∧(A++B).filter (fun x=>!P x)=B:=by
 rw [List.filter_append,List.filter_append,List.filter_eq_self.2 h1,List.filter_eq_nil_iff.2 (fun x hx=>by simp [h2 x hx]),List.filter_eq_nil_iff.2 (fun x hx=>by simp [h1 x hx]),List.filter_eq_self.2 (fun x hx=>by simp [h2 x hx])];simp
theorem app_split {α:Type} {P:α→Bool} {A B C D:List α} (h:A++B=C++D) (h1:∀ x ∈ A,P x=true) (h2:∀ x ∈ B,P x=false) (h3:∀ x ∈ C,P x=true) (h4:∀ x ∈ D,P x=false):A=C∧B=D:=by
 obtain ⟨a,b⟩:=filter_app_left h1 h2;obtain ⟨c,d⟩:=filter_app_left h3 h4;exact ⟨by rw [← a,← c,h],by rw [← b,← d,h]⟩
theorem rowsN_head {a:List zk} {x:GNode} {r:GRow} (h:r ∈ qk a x):∃ w,r.path=a++x.name::w:=by
 rw [← qj] at h;obtain ⟨y,hy,w,e⟩:=qG h;simp only [List.mem_singleton] at hy;subst hy;exact ⟨w,e⟩
theorem rowsN_ne {d:Nat} {x:GNode} (h:nodeB d x=true) (a:List zk):∃ r L,qk a x=r::L:=by
 have h1:=wy [x] d (by simp [xE,h]);rw [len_rows [x] [] a,qj] at h1;cases e:qk a x with
 | nil=>rw [e] at h1;simp at h1
 | cons r L=>exact ⟨r,L,rfl⟩
def hasN (n:Nat) (s:zk) (r:GRow):Bool:=decide ((r.path.drop n).head?=some s)
theorem hasN_is (a w:List zk) (s nm:zk) {r:GRow} (h:r.path=a++nm::w):hasN a.length s r=decide (nm=s):=by
 unfold hasN;rw [h,List.drop_left];simp
theorem rows_inj:∀ (t:List GNode) (d:Nat) (a:List zk) (t':List GNode),treeB d t=true→treeB d t'=true→zn a t=zn a t'→t=t':=by
 have key:∀ (t:List GNode) (d:Nat) (a:List zk) (t':List GNode),(∀ x ∈ t,nodeB d x=true)→upB t=true→(∀ x ∈ t',nodeB d x=true)→upB t'=true→zn a t=zn a t'→t=t':=by
  refine xO ?_ ?_
  ·intro d a t' _ _ h _ e;cases t' with
   | nil=>rfl
   | cons y r =>
    obtain ⟨q,L,e2⟩:=rowsN_ne (h y (by simp)) a;rw [zn,zn,e2] at e;simp at e
  ·intro x r hx hr d a t' n1 u1 n2 u2 e;cases t' with
   | nil =>
    obtain ⟨q,L,e2⟩:=rowsN_ne (n1 x (by simp)) a;rw [zn,zn,e2] at e;simp at e
   | cons y s =>
    rw [upB_iff,List.pairwise_cons] at u1 u2;have e:qk a x++zn a r=qk a y++zn a s:=e;have hxy:x.name=y.name:=by
     obtain ⟨q,L,e2⟩:=rowsN_ne (n1 x (by simp)) a;obtain ⟨q',L',e3⟩:=rowsN_ne (n2 y (by simp)) a;have e4:=e;rw [e2,e3] at e4;injection e4 with e5 _;subst e5;obtain ⟨w,h1⟩:=rowsN_head (a:=a) (x:=x) (r:=q) (by rw [e2];simp);obtain ⟨w',h2⟩:=rowsN_head (a:=a) (x:=y) (r:=q) (by rw [e3];simp);rw [h1] at h2;have:=List.append_cancel_left h2;injection this
    obtain ⟨e6,e7⟩:=app_split (P:=hasN a.length x.name) e
     (fun q hq=>by obtain ⟨w,h⟩:=rowsN_head hq;rw [hasN_is a w _ _ h];simp)
     (fun q hq=>by
      obtain ⟨z,hz,w,h⟩:=qG hq;rw [hasN_is a w _ _ h];exact decide_eq_false (less_ne (u1.1 z hz)).symm)
     (fun q hq=>by obtain ⟨w,h⟩:=rowsN_head hq;rw [hasN_is a w _ _ h,hxy];simp)
     (fun q hq=>by
      obtain ⟨z,hz,w,h⟩:=qG hq;rw [hasN_is a w _ _ h,hxy];exact decide_eq_false (less_ne (u2.1 z hz)).symm)
    have e8:=hr d a s (fun z hz=>n1 z (by simp [hz])) ((upB_iff r).2 u1.2) (fun z hz=>n2 z (by simp [hz])) ((upB_iff s).2 u2.2) e7;rw [yL,yL,← hxy] at e6;obtain ⟨e9,e10⟩:=app_split (P:=fun q=>decide (q.path.length=a.length+1)) e6
     (fun q hq=>by obtain ⟨l,_,rfl⟩:=List.mem_map.1 hq;simp)
     (fun q hq=>by have:=(rows_path _ _ q hq).1;simp at this;exact decide_eq_false (by omega))
     (fun q hq=>by obtain ⟨l,_,rfl⟩:=List.mem_map.1 hq;simp)
     (fun q hq=>by have:=(rows_path _ _ q hq).1;simp at this;exact decide_eq_false (by omega))
    have e11:x.leaves=y.leaves:=by
     have:=congrArg (List.map (·.leaf)) e9;simpa [List.map_map,Function.comp_def] using this
    obtain ⟨_,p2,_⟩:=xT (n1 x (by simp));obtain ⟨_,q2,_⟩:=xT (n2 y (by simp));have e12:=hx (d+1) (a++[x.name]) y.subs (zK p2).2 (zK p2).1 (zK q2).2 (zK q2).1 e10;cases x;cases y;simp only at hxy e11 e12;rw [hxy,e11,e12,e8]
 intro t d a t' h1 h2 e;exact key t d a t' (zK h1).2 (zK h1).1 (zK h2).2 (zK h2).1 e
theorem wl {d:Nat} {t:List GNode} (h:treeB d t=true) (a:List zk):(zn a t).Pairwise fun r q=>kltB (xI r) (xI q)=true:=by
 have:=rows_lt t d a (zK h).1 (by rw [yN];exact List.all_eq_true.2 (zK h).2);exact this.imp fun h=>rowLt_iff.1 h
theorem rows_ext {t t':List GNode} (h1:treeB 0 t=true) (h2:treeB 0 t'=true) (h:∀ r,r ∈ zn [] t ↔ r ∈ zn [] t'):t=t' :=
 rows_inj t 0 [] t' h1 h2 (sorted_ext (lt:=fun r q=>kltB (xI r) (xI q)=true) (fun x h=>by rw [klt_irr] at h;cases h) (fun _ _ _=>klt_trans) (wl h1 []) (wl h2 []) h)
theorem sorted_key {α:Type} {key:α→Key} {L:List α} (h:L.Pairwise fun r q=>kltB (key r) (key q)=true) {x y:α} (hx:x ∈ L) (hy:y ∈ L) (e:key x=key y):x=y:=by
 induction L with
 | nil=>simp at hx
 | cons z r ih =>
  obtain ⟨h1,h2⟩:=List.pairwise_cons.1 h;rcases List.mem_cons.1 hx with ex | hx' <;> rcases List.mem_cons.1 hy with ey | hy'
  ·rw [ex,ey]
  ·have:=h1 y hy';rw [← ex,e,klt_irr] at this;cases this
  ·have:=h1 x hx';rw [← ey,e,klt_irr] at this;cases this
  ·exact ih h2 hx' hy'

theorem first_is {α:Type} {q:α→Bool} {del:α→Option Bool}:∀ (L:List α) (n:Nat),(∀ x ∈ L,del x=some (q x)) →
  (zr (fun (n1:Nat) (x1:α) (_:Unit)=>(((del x1).bind fun v7=>(if v7=true then some (.ret (n1:Int)) else some (.nxt ()))):Option (Out Int Unit))) L n ()=some (.inr ())∧∀ x ∈ L,q x=false) ∨
  ∃ A x B,L=A++x::B∧q x=true∧(∀ y ∈ A,q y=false)∧zr (fun (n1:Nat) (x1:α) (_:Unit)=>(((del x1).bind fun v7=>(if v7=true then some (.ret (n1:Int)) else some (.nxt ()))):Option (Out Int Unit))) L n ()=some (.inl ((n+A.length:Nat):Int))
 | [],n,_=>.inl ⟨rfl,by simp⟩
 | x::r,n,h=>by
  have hx:=h x (by simp);cases hq:q x with
  | true=>exact .inr ⟨[],x,r,rfl,hq,by simp,by simp [zr,hx,hq]⟩
  | false =>
   rcases first_is r (n+1) (fun y hy=>h y (by simp [hy])) with ⟨e,h2⟩ | ⟨A,y,B,rfl,h1,h2,e⟩
   ·refine .inl ⟨by simp only [zr,hx,hq,Option.bind_some];exact e,?_⟩;intro y hy;rcases List.mem_cons.1 hy with rfl | hy
    ·exact hq
    ·exact h2 y hy
   ·refine .inr ⟨x::A,y,B,rfl,h1,?_,?_⟩
    ·intro z hz;rcases List.mem_cons.1 hz with rfl | hz
     ·exact hq
     ·exact h2 z hz
    ·simp only [zr,hx,hq,Option.bind_some];rw [show n+(x::A).length=n+1+A.length by simp only [List.length_cons];omega];exact e
def node0:GNode:=GNode.mk ([]:zk) ([]:List GLeaf) ([]:List GNode)
def nodeOf (t:List GNode) (s:zk):Option GNode:=t.find? fun x=>x.name==s
theorem linear_is (t:List GNode) (s:zk):vO t s=some (match nodeOf t s with | some x=>(x,true) | none=>(node0,false)):=by
 unfold vO xg;rcases first_is (q:=fun x:GNode=>x.name==s) (del:=fun x0=>qY x0 s) t 0 (fun x _=>rfl) with ⟨e,h⟩ | ⟨A,x,B,rfl,h1,h2,e⟩
 ·rw [e];have:nodeOf t s=none:=List.find?_eq_none.2 fun x hx=>by rw [h x hx];simp
  rw [this];rfl
 ·rw [e];have:nodeOf (A++x::B) s=some x:=by
   unfold nodeOf;rw [List.find?_append,List.find?_eq_none.2 (fun y hy=>by rw [h2 y hy];simp),List.find?_cons,h1];rfl
  rw [this];simp only [lp,Option.bind_some,Nat.zero_add];rw [if_neg (by simp),zz (x:=x) (by simp)];rfl
def wq:List GNode→List zk→Option GNode
 | _,[]=>none
 | t,[s]=>nodeOf t s
 | t,s::c::q=>(nodeOf t s).bind fun x=>wq x.subs (c::q)
noncomputable def tlF:Nat→zk→(List GNode)×Bool×zk×(List GLeaf)×(List GNode)→Option (Out ((GLeaf×Bool) ⊕ (Bool×zk×(List GLeaf)×(List GNode))) ((List GNode)×Bool×zk×(List GLeaf)×(List GNode))):=(fun (_:Nat) (x2:zk) (s2:(List GNode)×Bool×zk×(List GLeaf)×(List GNode))=>(((vO s2.1 x2).bind fun v47=>(if (!v47.2)=true then some (.brk (s2.1,v47.2,v47.1.name,v47.1.leaves,v47.1.subs)) else some (.nxt (v47.1.subs,v47.2,v47.1.name,v47.1.leaves,v47.1.subs))))))
noncomputable def tlR (kind2:Int) (s1:Bool×zk×(List GLeaf)×(List GNode)):Option (GLeaf×Bool):=((zU s1.2.2.1 (fun x0=>treeLeafC1 x0 kind2)).bind fun v49=>((if (((!s1.1) || (decide (v49 < (0:Int))))==false)=true then vC kind2 else some default).bind fun v50=>(if (((!s1.1) || (decide (v49 < (0:Int)))) || (v50.typ==(0:Int)))=true then ((vC kind2).bind fun v52=>some (v52,false)) else ((yo s1.2.2.1 v49).bind fun y53=>((ym y53.items).bind fun v54=>((yz y53.tombs).bind fun v55=>some ((GLeaf.mk y53.typ y53.n y53.time y53.dot y53.text v54 v55),true)))))))
theorem tl_eq (t0:List GNode) (path1:List zk) (kind2:Int):xA t0 path1 kind2=(lp ((lp (zr tlF path1 0 (t0,(decide (((path1).length:Int) > (0:Int))),([]:zk),([]:List GLeaf),([]:List GNode))) fun (s2:(List GNode)×Bool×zk×(List GLeaf)×(List GNode))=>some (.inr (s2.2.1,s2.2.2.1,s2.2.2.2.1,s2.2.2.2.2))):Option ((GLeaf×Bool) ⊕ (Bool×zk×(List GLeaf)×(List GNode)))) (tlR kind2)):=rfl
theorem tl_walk:∀ (p:List zk) (n:Nat) (t:List GNode) (z:Bool×zk×(List GLeaf)×(List GNode)),p ≠ [] →
  match wq t p with
  | some x=>zr tlF p n (t,z)=some (.inr (x.subs,true,x.name,x.leaves,x.subs))
  | none=>∃ u,zr tlF p n (t,z)=some (.inr (u,false,([]:zk),([]:List GLeaf),([]:List GNode)))
 | [],_,_,_,h=>absurd rfl h
 | [s],n,t,z,_=>by
  simp only [wq,zr,tlF,linear_is,Option.bind_some];cases nodeOf t s with
  | none=>exact ⟨t,rfl⟩
  | some x=>rfl
 | s::c::q,n,t,z,_=>by
  have ih:=fun u z=>tl_walk (c::q) (n+1) u z (by simp);simp only [wq];cases e:nodeOf t s with
  | none=>exact ⟨t,by rw [zr];simp only [tlF,linear_is,e,Option.bind_some];rfl⟩
  | some x =>
   have e2:tlF n s (t,z)=some (.nxt (x.subs,true,x.name,x.leaves,x.subs)):=by simp only [tlF,linear_is,e,Option.bind_some];rfl
   have:=ih x.subs (true,x.name,x.leaves,x.subs);rw [zr,e2,Option.bind_some];exact this
theorem nodeOf_split {t:List GNode} (s:zk) (h:upB t=true):(nodeOf t s=none∧∀ y ∈ t,y.name ≠ s) ∨ ∃ A x B,t=A++x::B∧nodeOf t s=some x∧x.name=s∧(∀ y ∈ A,y.name ≠ s)∧∀ y ∈ B,y.name ≠ s:=by
 rcases split_up s h with ⟨A,B,rfl,ha,hb⟩ | ⟨A,x,B,rfl,hx,ha,hb⟩
 ·left;have:∀ y ∈ A++B,y.name ≠ s:=fun y hy=>by
   rcases List.mem_append.1 hy with hy | hy
   ·exact ha.ne y hy
   ·exact hb.ne y hy
  exact ⟨List.find?_eq_none.2 fun y hy=>by simp [this y hy],this⟩
 ·refine .inr ⟨A,x,B,rfl,?_,hx,ha.ne,hb.ne⟩;unfold nodeOf;rw [List.find?_append,List.find?_eq_none.2 (fun y hy=>by simp [ha.ne y hy]),List.find?_cons];simp [hx]
theorem row_at:∀ (p:List zk) (t:List GNode) (d:Nat) (a:List zk) (l:GLeaf),p ≠ []→treeB d t=true→(GRow.mk (a++p) l ∈ zn a t ↔ ∃ x,wq t p=some x∧l ∈ x.leaves)
 | [],_,_,_,_,h,_=>absurd rfl h
 | s::q,t,d,a,l,_,h=>by
  obtain ⟨hu,hn⟩:=zK h;rcases nodeOf_split s hu with ⟨e,h1⟩ | ⟨A,x,B,rfl,e,hx,ha,hb⟩
  ·have e2:wq t (s::q)=none:=by cases q <;> simp [wq,e]
   rw [e2];constructor
   ·intro hr;exact (rows_off h1 hr rfl).elim
   ·rintro ⟨x,h,_⟩;cases h
  ·rw [vU,show x::B=[x]++B from rfl,vU,qj,List.mem_append,List.mem_append,rowsN_mem,hx];have oA:¬ GRow.mk (a++s::q) l ∈ zn a A:=fun hr=>rows_off ha hr rfl;have oB:¬ GRow.mk (a++s::q) l ∈ zn a B:=fun hr=>rows_off hb hr rfl;have hsub:=(xT (hn x (by simp))).2.1;cases q with
   | nil =>
    have oS:¬ GRow.mk (a++[s]) l ∈ zn (a++[s]) x.subs:=fun hr=>by
     have:=(rows_path _ _ _ hr).1;simp at this
    have e2:wq (A++x::B) [s]=some x:=e;have e3:wq (A++([x]++B)) [s]=some x:=e;rw [e3];constructor
    ·rintro (h | (⟨y,hy,h⟩ | h) | h)
     ·exact (oA h).elim
     ·injection h with _ h;subst h;exact ⟨x,rfl,hy⟩
     ·exact (oS h).elim
     ·exact (oB h).elim
    ·rintro ⟨y,h,hl⟩
     injection h with h;subst h;exact .inr (.inl (.inl ⟨l,hl,rfl⟩))
   | cons c q =>
    have ih:=row_at (c::q) x.subs (d+1) (a++[s]) l (by simp) hsub;have ea:a++[s]++c::q=a++s::c::q:=by simp
    rw [ea] at ih;have e3:wq (A++([x]++B)) (s::c::q)=wq x.subs (c::q):=by
     show (nodeOf (A++x::B) s).bind _=_;rw [e];rfl
    rw [e3,ih];constructor
    ·rintro (h | (⟨y,hy,h⟩ | h) | h)
     ·exact (oA h).elim
     ·injection h with h _;have:=congrArg List.length h;simp at this
     ·exact h
     ·exact (oB h).elim
    ·intro h;exact .inr (.inl (.inr h))
theorem row_mk {r:GRow} {p:List zk} {k:Int} (h:xI r=(p,k)):r=GRow.mk ([]++p) r.leaf:=by
 have e:r.path=p:=congrArg Prod.fst h;cases r;simp only at e;rw [e];rfl
theorem leafNew_typ {k:Int} (h:1≤k∧k≤4):∃ v,vC k=some v∧v.typ=k:=by
 unfold vC;rw [if_neg (by simp;omega)];exact ⟨_,rfl,rfl⟩
theorem tlR_none {k:Int} (s:zk):∃ v,tlR k (false,s,([]:List GLeaf),([]:List GNode))=some (v,false):=by
 obtain ⟨v,e⟩:=leafNew_tot k;refine ⟨v,?_⟩;unfold tlR zU;simp [zr,lp,e]
theorem treeLeaf_is {t:List GNode} (h:treeB 0 t=true) (hok:∀ r ∈ zn [] t,LeafOk r.leaf) {p:List zk} (hp:p ≠ []) {k:Int} (hk:1≤k∧k≤4) :
  (∃ l,GRow.mk p l ∈ zn [] t∧l.typ=k∧xA t p k=some (l,true)) ∨ ((∀ r ∈ zn [] t,xI r ≠ (p,k))∧∃ v,xA t p k=some (v,false)):=by
 have hw:=tl_walk p 0 t (decide ((p.length:Int) > 0),([]:zk),([]:List GLeaf),([]:List GNode)) hp;have hr:=fun l=>row_at p t 0 [] l hp h;rw [tl_eq];cases e:wq t p with
 | none =>
  rw [e] at hw;obtain ⟨u,hw⟩:=hw;right;refine ⟨fun r hr2 e2=>?_,?_⟩
  ·have:=row_mk e2;rw [this] at hr2;obtain ⟨x,h1,_⟩:=(hr _).1 hr2;rw [e] at h1;cases h1
  ·rw [hw];exact tlR_none []
 | some x =>
  rw [e] at hw;simp only at hw;rw [hw];simp only [xd];obtain ⟨v0,n1,n2⟩:=leafNew_typ hk;unfold tlR zU;rcases first_is (q:=fun y:GLeaf=>y.typ==k) (del:=fun x0=>treeLeafC1 x0 k) x.leaves 0 (fun x _=>rfl) with ⟨e1,h1⟩ | ⟨A,y,B,hxl,h1,h2,e1⟩
  ·right;refine ⟨fun r hr2 e2=>?_,v0,?_⟩
   ·have:=row_mk e2;rw [this] at hr2;obtain ⟨x',h3,h4⟩:=(hr _).1 hr2;rw [e] at h3;injection h3 with h3;subst h3;have:=h1 _ h4;simp only [beq_eq_false_iff_ne] at this;exact this (congrArg Prod.snd e2)
   ·simp only [];rw [e1];simp [lp,n1]
  ·left;have hy:y ∈ x.leaves:=by rw [hxl];simp
   have hmem:GRow.mk ([]++p) y ∈ zn [] t:=(hr y).2 ⟨x,e,hy⟩;have hyk:y.typ=k:=by simpa using h1
   have ho:=hok _ hmem;refine ⟨y,hmem,hyk,?_⟩;simp only [];rw [e1];simp only [lp,Option.bind_some,Nat.zero_add];have c1:((!true) || (decide (((A.length:Nat):Int) < (0:Int))))=false:=by simp
   rw [c1];simp only [beq_self_eq_true,if_true,n1,Option.bind_some,Bool.false_or,n2];rw [if_neg (by simp;omega),hxl,zz (x:=y) (by simp),Option.bind_some,qz (yG (Nat.le_succ_of_le ho.items)),Option.bind_some,cloneDot_is (yG (Nat.le_succ_of_le ho.tombs)),Option.bind_some]

structure EOk (e:GEdit):Prop where
 path:vm e.path=true
 typ:1≤e.typ∧e.typ≤4
 any:e.had=true ∨ e.has=true
 ne:e.had=true→e.has=true→e.was ≠ e.is
 was1:e.had=true→leafB e.was=true∧LeafOk e.was∧e.was.typ=e.typ
 was0:e.had=false→e.was=leaf0
 is1:e.has=true→leafB e.is=true∧LeafOk e.is∧e.is.typ=e.typ
 is0:e.has=false→e.is=leaf0
def eLt (a b:GEdit):Prop:=kltB (ekey a) (ekey b)=true
theorem side_is {there:Bool} {l:GLeaf} {k:Int} (h1:there=true→leafB l=true∧LeafOk l∧l.typ=k) (h0:there=false→l=leaf0):wh there l k=some true:=by
 cases there with
 | false=>rw [h0 rfl];exact side0 k
 | true=>obtain ⟨a,b,rfl⟩:=h1 rfl;exact side1 a b
theorem diffMay_is {es:List GEdit} (hlen:es.length≤16777216) (hok:∀ e ∈ es,EOk e) (hlt:es.Pairwise eLt):diffMay es=some true:=by
 unfold diffMay;rw [qs (r:=false) (fun _ _=>true) (fun i x hx=>?_)]
 ·have:allI (fun _ _=>true) es=true:=allI_iff.2 fun _ _ _=>rfl;rw [if_pos this]
 ·have hi:=(List.getElem?_eq_some_iff.1 hx).1;have ho:=hok x (List.mem_of_getElem? hx);have e1:decide (x.typ ≥ 1)=true:=decide_eq_true ho.typ.1;have e2:decide (x.typ≤4)=true:=decide_eq_true ho.typ.2;have e3:vZ x.path=some true:=by rw [opMayPath_is,ho.path]
  have eo:∃ v,(if ((decide ((i:Int) > (0:Int)))==true)=true then qV (es.getD (IntKind.wrap .i64 ((i:Int) - (1:Int))).toNat default) x else some default)=some v∧((decide ((i:Int) > 0))&&(decide (v ≥ 0)))=false:=by
   by_cases h0:0 < i
   ·have ew:IntKind.wrap .i64 ((i:Int) - 1)=((i - 1:Nat):Int):=by rw [w64n (by omega)];omega
    have hp:es[i - 1]?=some es[i - 1]:=List.getElem?_eq_getElem (by omega);have h2:ordI es[i - 1] x < 0:=ordI_lt.2 (by
     have:=List.pairwise_iff_getElem.1 hlt (i - 1) i (by omega) hi (by omega)
     rwa [(List.getElem?_eq_some_iff.1 hx).2] at this)
    have eg:es.getD (i - 1) default=es[i - 1]:=by
     rw [List.getD_eq_getElem?_getD,hp];rfl
    rw [decide_eq_true (by omega:(i:Int) > 0),ew,Int.toNat_natCast,eg,order_is];exact ⟨_,rfl,by rw [decide_eq_false (by omega)];rfl⟩
   ·rw [decide_eq_false (by omega:¬ (i:Int) > 0)];exact ⟨default,rfl,rfl⟩
  obtain ⟨v,ev1,ev2⟩:=eo;have ec:((decide ((i:Int) > (0:Int)))==true)=true→0≤(IntKind.wrap .i64 ((i:Int) - (1:Int)))∧(IntKind.wrap .i64 ((i:Int) - (1:Int))) < ((es).length:Int):=by
   intro h;simp only [beq_iff_eq,decide_eq_true_eq] at h;rw [w64n (by omega)];omega
  obtain ⟨z,ez,ez2⟩:∃ z,(if ((x.had&&x.has)==true)=true then wd x.was x.is else some default)=some z∧((x.had&&x.has)&&z)=false:=by
   cases h1:x.had with
   | false=>exact ⟨default,rfl,rfl⟩
   | true =>
    cases h2:x.has with
    | false=>exact ⟨default,rfl,rfl⟩
    | true=>exact ⟨false,by rw [if_pos (by rfl),leafSame_is,decide_eq_false (ho.ne h1 h2)],rfl⟩
  have s1:wh x.had x.was x.typ=some true:=side_is ho.was1 ho.was0;have s2:wh x.has x.is x.typ=some true:=side_is ho.is1 ho.is0;have ea:((!x.had)&&(!x.has))=false:=by
   rcases ho.any with h | h <;> simp [h]
  rw [ez,Option.bind_some,e3,Option.bind_some,e1,e2];have q1:((((!true) || (!(true&&true))) || ((!x.had)&&(!x.has))) || ((x.had&&x.has)&&z))=false:=by rw [ea,ez2];rfl
  rw [q1,if_pos (by rfl),s1,Option.bind_some];have q2:((false || (!true))==false)=true:=rfl;rw [if_pos q2,s2,Option.bind_some];have q3:((false || (!true)) || (!true))=false:=rfl;rw [q3,if_neg (by decide),zo ec,ev1,Option.bind_some,ev2];simp
noncomputable def patF (t0:List GNode):Nat→GEdit→List GNode→Option (Out (List GNode×Int) (List GNode)):=(fun (n1:Nat) (x1:GEdit) (s1:(List GNode))=>(((xA t0 x1.path x1.typ).bind fun v14=>((if (((!(v14.2==x1.had))==false)&&(v14.2==true))=true then wd v14.1 x1.was else some default).bind fun v15=>(if ((!(v14.2==x1.had)) || (v14.2&&(!v15)))=true then some (.ret (([]:List GNode),(16:Int))) else ((diffXlay s1 x1.path x1.typ x1.is x1.has).bind fun v17=>some (.nxt v17))))):Option (Out _ (List GNode))))
theorem patch_eq (t0:List GNode) (l1:List GEdit):diffPatch t0 l1=((vz t0).bind fun v1=>((if ((!v1)==false)=true then diffMay l1 else some default).bind fun v2=>(if ((!v1) || (!v2))=true then some (([]:List GNode),(2:Int)) else ((wQ t0 ([([42,42]:zk)]:List zk)).bind fun v4=>(lp (zr (patF t0) l1 0 v4.1) fun (s1:(List GNode))=>some (s1,(0:Int))))))):=rfl
theorem sub_len {α:Type} {lt:α→α→Prop} (irr:∀ x,¬ lt x x):∀ (L M:List α),L.Pairwise lt→(∀ x ∈ L,x ∈ M)→L.length≤M.length
 | [],_,_,_=>Nat.zero_le _
 | x::L,M,h,hs=>by
  obtain ⟨h1,h2⟩:=List.pairwise_cons.1 h;obtain ⟨A,B,rfl⟩:=List.append_of_mem (hs x (by simp));have:=sub_len irr L (A++B) h2 fun y hy=>by
   have hy2:=hs y (by simp [hy]);have hne:y ≠ x:=fun e=>irr x (by have:=h1 y hy;rwa [e] at this);simp only [List.mem_append,List.mem_cons] at hy2 ⊢;rcases hy2 with h | h | h
   ·exact .inl h
   ·exact (hne h).elim
   ·exact .inr h
  simp only [List.length_append,List.length_cons] at this ⊢;omega
theorem wR {p:List zk} (h:vm p=true):p ≠ []∧p.length≤3∧p.all nameB=true:=by
 refine ⟨pathB_ne h,?_⟩;simp only [vm,Bool.and_eq_true,decide_eq_true_eq] at h;exact ⟨h.1.2,h.2⟩
theorem lay_all {k:Int} {l:GLeaf} {there:Bool} {p:List zk} {t:List GNode} (hk:there=true→l.typ=k∧leafB l=true∧LeafOk l) (hp:vm p=true) (ht:treeB 0 t=true) (hw:(zn [] t).length≤16777215) :
  ∃ t',diffXlay t p k l there=some t'∧treeB 0 t'=true∧(zn [] t').length≤(zn [] t).length+1∧∀ r,r ∈ zn [] t' ↔ (r ∈ zn [] t∧xI r ≠ (p,k)) ∨ (there=true∧r=⟨p,l⟩):=by
 obtain ⟨p1,p2,p3⟩:=wR hp;obtain ⟨t',e1,e2,_,e4⟩:=lay_is hk p t 0 (p.length+1) p1 p3 (by omega) ht hw (by omega);have e4:=e4 [];simp only [List.nil_append] at e4;refine ⟨t',anyN_of (p.length+1) fun n hn=>?_,e2,?_,e4⟩
 ·obtain ⟨u,f1,f2,_,f4⟩:=lay_is hk p t 0 n p1 p3 (by omega) ht hw (by omega);have f4:=f4 [];simp only [List.nil_append] at f4;rw [f1,rows_ext f2 e2 fun r=>by rw [f4,e4]]
 ·have:=sub_len (lt:=fun r q=>kltB (xI r) (xI q)=true) (fun x h=>by rw [klt_irr] at h;cases h) (zn [] t') (zn [] t++[⟨p,l⟩]) (wl e2 []) fun r hr=>by
   rcases (e4 r).1 hr with h | h
   ·simp [h.1]
   ·simp [h.2]
  simpa using this
structure EFits (t:List GNode) (e:GEdit):Prop where
 had:e.had=true→GRow.mk e.path e.was ∈ zn [] t
 new:e.had=false→∀ r ∈ zn [] t,xI r ≠ ekey e
theorem patF_is {t s:List GNode} {e:GEdit} (ht:treeB 0 t=true) (hok:∀ r ∈ zn [] t,LeafOk r.leaf) (he:EOk e) (hf:EFits t e) (hs:treeB 0 s=true) (hw:(zn [] s).length≤16777215) (n:Nat) :
  ∃ u,patF t n e s=some (.nxt u)∧treeB 0 u=true∧(zn [] u).length≤(zn [] s).length+1∧∀ r,r ∈ zn [] u ↔ (r ∈ zn [] s∧xI r ≠ ekey e) ∨ (e.has=true∧r=⟨e.path,e.is⟩):=by
 obtain ⟨u,u1,u2,u3,u4⟩:=lay_all (k:=e.typ) (l:=e.is) (there:=e.has) (fun h=>⟨(he.is1 h).2.2,(he.is1 h).1,(he.is1 h).2.1⟩) he.path hs hw;refine ⟨u,?_,u2,u3,u4⟩;unfold patF;rcases treeLeaf_is ht hok (wR he.path).1 he.typ with ⟨l,h1,h2,h3⟩ | ⟨h1,v,h3⟩
 ·have hh:e.had=true:=by
   cases h:e.had with
   | true=>rfl
   | false=>exact (hf.new h _ h1 (by unfold xI ekey;rw [h2])).elim
  have:(GRow.mk e.path l)=GRow.mk e.path e.was:=sorted_key (wl ht []) h1 (hf.had hh) (by unfold xI;rw [h2,(he.was1 hh).2.2]);injection this with _ hl;rw [h3,hh,hl];simp only [Option.bind_some,leafSame_is,u1];simp
 ·have hh:e.had=false:=by
   cases h:e.had with
   | false=>rfl
   | true=>exact (h1 _ (hf.had h) (by unfold xI;rw [(he.was1 h).2.2])).elim
  rw [h3,hh];simp only [Option.bind_some,u1];simp
theorem pat_loop {t:List GNode} (ht:treeB 0 t=true) (hok:∀ r ∈ zn [] t,LeafOk r.leaf):∀ (es:List GEdit) (n:Nat) (s:List GNode),(∀ e ∈ es,EOk e∧EFits t e)→es.Pairwise eLt→treeB 0 s=true→(zn [] s).length+es.length≤16777215 →
  ∃ u,zr (patF t) es n s=some (.inr u)∧treeB 0 u=true∧∀ r,r ∈ zn [] u ↔ (r ∈ zn [] s∧∀ e ∈ es,xI r ≠ ekey e) ∨ ∃ e ∈ es,e.has=true∧r=⟨e.path,e.is⟩
 | [],n,s,_,_,hs,_=>⟨s,rfl,hs,fun r=>by simp⟩
 | e::es,n,s,h,hp,hs,hw=>by
  obtain ⟨p1,p2⟩:=List.pairwise_cons.1 hp;simp only [List.length_cons] at hw;obtain ⟨ho,hf⟩:=h e (by simp);obtain ⟨u1,a1,a2,a3,a4⟩:=patF_is ht hok ho hf hs (by omega) n;obtain ⟨u,b1,b2,b3⟩:=pat_loop ht hok es (n+1) u1 (fun x hx=>h x (by simp [hx])) p2 a2 (by omega);refine ⟨u,by rw [zr,a1];exact b1,b2,fun r=>?_⟩;rw [b3,a4];have hkey:e.has=true→∀ x ∈ es,xI ⟨e.path,e.is⟩ ≠ ekey x:=fun hh x hx e2=>by
   have:=p1 x hx;unfold eLt at this;rw [← e2] at this;have e3:xI ⟨e.path,e.is⟩=ekey e:=by unfold xI ekey;rw [(ho.is1 hh).2.2]
   rw [e3,klt_irr] at this;cases this
  constructor
  ·rintro (⟨h1 | h1,h2⟩ | ⟨x,hx,h1⟩)
   ·refine .inl ⟨h1.1,fun x hx=>?_⟩;rcases List.mem_cons.1 hx with rfl | hx
    ·exact h1.2
    ·exact h2 x hx
   ·exact .inr ⟨e,by simp,h1⟩
   ·exact .inr ⟨x,by simp [hx],h1⟩
  ·rintro (⟨h1,h2⟩ | ⟨x,hx,h1⟩)
   ·exact .inl ⟨.inl ⟨h1,h2 e (by simp)⟩,fun x hx=>h2 x (by simp [hx])⟩
   ·rcases List.mem_cons.1 hx with rfl | hx
    ·exact .inl ⟨.inr h1,fun y hy=>by rw [h1.2];exact hkey h1.1 y hy⟩
    ·exact .inr ⟨x,hx,h1⟩
theorem select_all {t:List GNode} (hs:Small t) (ht:treeB 0 t=true):wQ t [[42,42]]=some (t,0):=by
 have hp:patB [[42,42]]=true:=by decide
 rw [pathsSelect_is hs (by simp [maxLen]),ht,hp];have:x8 (matchB [[42,42]]) [] t=t:=by
  refine rows_ext (keep_may _ t 0 [] ht) ht fun r=>?_;rw [keep_rows,List.mem_filter];refine ⟨fun h=>h.1,fun h=>⟨h,?_⟩⟩;have hb:=(rows_ok t 0 [] hs ht rfl rfl r h).path;unfold matchB;rw [hb,hp];simp [xJ,endsB,agreeB]
 simp [this]
theorem patch_is {t:List GNode} (hs:Small t) (ht:treeB 0 t=true) {es:List GEdit} (hw:(zn [] t).length+es.length≤16777215) (h:∀ e ∈ es,EOk e∧EFits t e) (hp:es.Pairwise eLt) :
  ∃ u,diffPatch t es=some (u,0)∧treeB 0 u=true∧∀ r,r ∈ zn [] u ↔ (r ∈ zn [] t∧∀ e ∈ es,xI r ≠ ekey e) ∨ ∃ e ∈ es,e.has=true∧r=⟨e.path,e.is⟩:=by
 have hok:=fun r hr=>(rows_ok t 0 [] hs ht rfl rfl r hr).ok;obtain ⟨u,a1,a2,a3⟩:=pat_loop ht hok es 0 t h hp ht hw;refine ⟨u,?_,a2,a3⟩;rw [patch_eq,wJ hs,ht,Option.bind_some,if_pos (show ((!true)==false)=true from rfl),diffMay_is (by omega) (fun e he=>(h e he).1) hp,Option.bind_some,if_neg (by decide),select_all hs ht,Option.bind_some,a1,xd]

end Go.Vv
namespace Go.Vv
open Go
theorem idxI_is {q:GItem→Bool} {del:GItem→Option Bool}:∀ (L:List GItem) (n:Nat),(∀ x ∈ L,del x=some (q x)) →
  (zr (fun (n1:Nat) (x1:GItem) (_:Unit)=>(((del x1).bind fun v7=>(if v7=true then some (.ret (n1:Int)) else some (.nxt ()))):Option (Out Int Unit))) L n ()=some (.inr ())∧∀ x ∈ L,q x=false) ∨
  ∃ A x B,L=A++x::B∧q x=true∧(∀ y ∈ A,q y=false)∧zr (fun (n1:Nat) (x1:GItem) (_:Unit)=>(((del x1).bind fun v7=>(if v7=true then some (.ret (n1:Int)) else some (.nxt ()))):Option (Out Int Unit))) L n ()=some (.inl ((n+A.length:Nat):Int))
 | [],n,_=>.inl ⟨rfl,by simp⟩
 | x::r,n,h=>by
  have hx:=h x (by simp);cases hq:q x with
  | true=>exact .inr ⟨[],x,r,rfl,hq,by simp,by simp [zr,hx,hq]⟩
  | false =>
   rcases idxI_is r (n+1) (fun y hy=>h y (by simp [hy])) with ⟨e,h2⟩ | ⟨A,y,B,rfl,h1,h2,e⟩
   ·refine .inl ⟨by simp only [zr,hx,hq,Option.bind_some];exact e,?_⟩;intro y hy;rcases List.mem_cons.1 hy with rfl | hy
    ·exact hq
    ·exact h2 y hy
   ·refine .inr ⟨x::A,y,B,rfl,h1,?_,?_⟩
    ·intro z hz;rcases List.mem_cons.1 hz with rfl | hz
     ·exact hq
     ·exact h2 z hz
    ·simp only [zr,hx,hq,Option.bind_some];rw [show n+(x::A).length=n+1+A.length by simp only [List.length_cons];omega];exact e
noncomputable def delI (del:GItem→Option Bool) (n:Nat):Int×Int×(List GItem)→Option (Out (List GItem) (Int×Int×(List GItem))):=fun s1=>((yv ((s1.2.2).length=n) ((if (decide (s1.2.1 < ((n:Nat):Int)))=true then ((yo s1.2.2 s1.2.1).bind fun y14=>((del y14).bind fun v15=>(if (!v15)=true then ((yo s1.2.2 s1.1).bind fun y17=>some (.nxt ((IntKind.wrap .i64 (s1.1+(1:Int))),(IntKind.wrap .i64 (s1.2.1+(1:Int))),(s1.2.2.set s1.1.toNat y14)))) else some (.nxt (s1.1,(IntKind.wrap .i64 (s1.2.1+(1:Int))),s1.2.2))))) else some (.brk (s1.1,s1.2.1,s1.2.2))))))
theorem delRI_eq (s0:List GItem) (del1:GItem→Option Bool):yY s0 del1=((yf s0 del1).bind fun v1=>(if (v1==(-1:Int))=true then some s0 else (lp (yr (delI del1 s0.length) (v1,(IntKind.wrap .i64 (v1+(1:Int))),s0)) fun (s1:Int×Int×(List GItem))=>(yv (0≤s1.1∧s1.1≤((s0.length:Nat):Int)) (((slc (s1.2.2.take s1.1.toNat++List.replicate (s0.length - s1.1.toNat) (GItem.mk (0:Int) (GDot.mk (GActor.mk (0:Int) (0:Int)) (0:Int)) ([]:zk))) (0:Int) s1.1).bind fun m19=>some m19)))))):=rfl
theorem delI_run {q:GItem→Bool} {del:GItem→Option Bool} {L0:List GItem} (hl:L0.length≤16777216) (h:∀ x ∈ L0,del x=some (q x)) {a0 b0:Nat} (h1:a0 < b0) (h2:b0≤L0.length) (h3:L0.take a0=(L0.take b0).filter fun x=>!q x) :
  ∃ s',yr (delI del L0.length) ((a0:Int),(b0:Int),L0)=some (.inr s')∧∃ a:Nat,s'.1=(a:Int)∧a < L0.length∧s'.2.2.length=L0.length∧s'.2.2.take a=L0.filter fun x=>!q x:=by
 refine loopW_inv (f:=delI del L0.length) (fun s=>∃ a b:Nat,s.1=(a:Int)∧s.2.1=(b:Int)∧a < b∧b≤L0.length∧s.2.2.length=L0.length∧s.2.2.take a=(L0.take b).filter (fun x=>!q x)∧s.2.2.drop b=L0.drop b)
  _ (fun s=>L0.length - s.2.1.toNat) ?_ _ _ rfl ⟨a0,b0,rfl,rfl,h1,h2,rfl,h3,rfl⟩
 rintro ⟨i,j,M⟩ ⟨a,b,q1,q2,q3,q4,q5,q6,q7⟩
 simp only at q1 q2 q5 q6 q7;subst q1 q2;simp only [delI,yv,q5,if_true];by_cases hb:b < L0.length
 ·right;have hy:M[b]?=L0[b]?:=by
   have:=congrArg (fun l=>l[0]?) q7;simpa [List.getElem?_drop] using this
  have hyy:L0[b]?=some L0[b]:=List.getElem?_eq_getElem hb;have hd:=h L0[b] (List.getElem_mem hb);have hidx:yo M (b:Int)=some L0[b]:=by simp [yo,hy]
  have hidxa:yo M (a:Int)=some (M[a]'(by omega)):=by simp [yo]
  rw [if_pos (by simp;omega),hidx,Option.bind_some,hd,Option.bind_some];have htk:L0.take (b+1)=L0.take b++[L0[b]]:=by rw [List.take_add_one,hyy];rfl
  cases hq:q L0[b] with
  | true =>
   refine ⟨((a:Int),((b+1:Nat):Int),M),by simp [wE (Nat.le_trans q4 hl)],⟨a,b+1,rfl,rfl,by omega,by omega,q5,?_,?_⟩,by simp;omega⟩
   ·rw [q6,htk,List.filter_append];simp [hq]
   ·have:=congrArg (fun l=>l.drop 1) q7;simpa [List.drop_drop] using this
  | false =>
   refine ⟨(((a+1:Nat):Int),((b+1:Nat):Int),M.set a L0[b]),by simp [hidxa,wE (Nat.le_trans q4 hl),wE (show a≤16777216 by omega)],⟨a+1,b+1,rfl,rfl,by omega,by omega,by simpa using q5,?_,?_⟩,by simp;omega⟩
   ·rw [List.take_add_one,List.take_set_of_le (Nat.le_refl _),q6,htk,List.filter_append,List.getElem?_set_self (by omega)];simp [hq]
   ·have:=congrArg (fun l=>l.drop 1) q7;rw [List.drop_set_of_lt (by omega)];simpa [List.drop_drop] using this
 ·left;have hb':b=L0.length:=by omega
  rw [if_neg (by simp;omega)];exact ⟨_,rfl,a,rfl,by omega,q5,by rw [q6,hb',List.take_length]⟩
theorem deleteI_is {q:GItem→Bool} {del:GItem→Option Bool} {L0:List GItem} (hl:L0.length≤16777216) (h:∀ x ∈ L0,del x=some (q x)):yY L0 del=some (L0.filter fun x=>!q x):=by
 rw [delRI_eq];unfold yf;rcases idxI_is L0 0 h with ⟨e,h2⟩ | ⟨A,x,B,hL,h1,h2,e⟩
 ·rw [e];simp only [lp,Option.bind_some,beq_self_eq_true,if_true];rw [List.filter_eq_self.2 (fun x hx=>by rw [h2 x hx];rfl)]
 ·rw [e];have hlen:L0.length=A.length+1+B.length:=by rw [hL];simp;omega
  simp only [lp,Option.bind_some,Nat.zero_add];rw [if_neg (by simp <;> omega),wE (by omega)];obtain ⟨s',e1,a,r1,r2,r3,r4⟩:=delI_run hl h (a0:=A.length) (b0:=A.length+1) (by omega) (by omega) (by
   rw [hL,List.take_left,List.take_append,List.take_of_length_le (by omega),show A.length+1 - A.length=1 by omega,List.filter_append];simp only [List.take_succ_cons,List.take_zero,List.filter_cons,h1,List.filter_nil];rw [List.filter_eq_self.2 (fun y hy=>by rw [h2 y hy];rfl)];simp)
  rw [e1];simp only [yv];rw [if_pos (by rw [r1];omega),r1];have hs:slc (s'.2.2.take ((a:Int)).toNat++List.replicate (L0.length - ((a:Int)).toNat) (GItem.mk (0:Int) (GDot.mk (GActor.mk (0:Int) (0:Int)) (0:Int)) ([]:zk))) (0:Int) (a:Int)=some (s'.2.2.take a):=by
   unfold slc;rw [if_pos (by simp;omega)];simp only [Int.toNat_natCast,Int.toNat_zero,List.drop_zero];rw [List.take_append_of_le_length (by simp;omega),List.take_take,Nat.min_self]
  rw [hs,Option.bind_some,r4]
theorem bsI_loop {cmp:GItem→GItem→Option Int} {x:List GItem} {s:GItem} {c:Nat} (hx:x.length≤1048576) (h1:∀ i n,x[i]?=some n→∃ v,cmp n s=some v∧(i < c→v < 0)∧(c≤i→0≤v)) :
  ∀ (k lo hi:Nat),hi - lo≤k→lo≤c→c≤hi→hi≤x.length→yr (ρ:=Int×Bool) (fun (s1:Int×Int)=>((if (decide (s1.1 < s1.2))=true then ((yo x (IntKind.wrap .i64 ((Int.fdiv (IntKind.wrap .u64 ((IntKind.wrap .i64 (s1.1+s1.2)))) (2 ^ (min (1:Int).toNat (IntKind.bits .u64))))))).bind fun y9=>((cmp y9 s).bind fun v10=>(if (decide (v10 < (0:Int)))=true then some (.nxt ((IntKind.wrap .i64 ((IntKind.wrap .i64 ((Int.fdiv (IntKind.wrap .u64 ((IntKind.wrap .i64 (s1.1+s1.2)))) (2 ^ (min (1:Int).toNat (IntKind.bits .u64))))))+(1:Int))),s1.2)) else some (.nxt (s1.1,(IntKind.wrap .i64 ((Int.fdiv (IntKind.wrap .u64 ((IntKind.wrap .i64 (s1.1+s1.2)))) (2 ^ (min (1:Int).toNat (IntKind.bits .u64))))))))))) else some (.brk (s1.1,s1.2))):Option (Out _ (Int×Int)))) ((lo:Int),(hi:Int))=some (.inr ((c:Int),(c:Int))):=by
 intro k
 induction k with
 | zero =>
  intro lo hi hk hl hc hh;obtain rfl:lo=hi:=by omega
  obtain rfl:lo=c:=by omega
  rw [yS];simp
 | succ k ih =>
  intro lo hi hk hl hc hh;rw [yS];by_cases hlt:lo < hi
  ·have hd:decide ((lo:Int) < (hi:Int))=true:=decide_eq_true (by omega);simp only [hd,if_true,half_mid hlt (by omega)];have hm:(lo+hi) / 2 < x.length:=by omega
   rw [qv hm,Option.bind_some];obtain ⟨v,hv,h2,h3⟩:=h1 ((lo+hi) / 2) _ (List.getElem?_eq_getElem hm);rw [hv,Option.bind_some];by_cases hcm:(lo+hi) / 2 < c
   ·rw [decide_eq_true (h2 hcm),if_pos rfl];simp only;have e:IntKind.wrap .i64 ((((lo+hi) / 2:Nat):Int)+1)=(((lo+hi) / 2+1:Nat):Int):=by rw [w64n (by omega)];omega
    rw [e];exact ih _ _ (by omega) (by omega) hc hh
   ·rw [decide_eq_false (by have:=h3 (by omega);omega)];simp only [Bool.false_eq_true,if_false];exact ih _ _ (by omega) hl (by omega) (by omega)
  ·obtain rfl:lo=hi:=by omega
   obtain rfl:lo=c:=by omega
   simp
theorem bsI_is {cmp:GItem→GItem→Option Int} {x:List GItem} {s:GItem} {c:Nat} (hx:x.length≤1048576) (hc:c≤x.length) (h1:∀ i n,x[i]?=some n→∃ v,cmp n s=some v∧(i < c→v < 0)∧(c≤i→0≤v)) :
  zL x s cmp=(if c < x.length then cmp (x.getD c default) s else some 1).bind fun v=>some ((c:Int),(decide (c < x.length)&&(v==0))):=by
 unfold zL;have:=bsI_loop hx h1 x.length 0 x.length (by omega) (Nat.zero_le _) hc (Nat.le_refl _);simp only [Int.natCast_zero] at this;rw [show ((0:Int),(x.length:Int))=(((0:Nat):Int),(x.length:Int)) from rfl] at *;rw [this];simp only [lp];by_cases h:c < x.length
 ·have hd:decide ((c:Int) < (x.length:Int))=true:=decide_eq_true (by omega);simp only [hd,h,if_true,Int.toNat_natCast,beq_self_eq_true,decide_true,Bool.true_and];rw [zo (by intro _;omega)]
 ·have hd:decide ((c:Int) < (x.length:Int))=false:=decide_eq_false (by omega);simp only [hd,h,if_false,decide_false,Bool.false_and,Option.bind_some];rw [zo (by intro hh;cases hh)];simp

def dd:List GDot→List GDot
 | []=>[]
 | [x]=>[x]
 | x::y::r=>if x=y then dd (y::r) else x::dd (y::r)
theorem dd_snoc:∀ (A:List GDot) (x y:GDot),dd (A++[x,y])=if x=y then dd (A++[x]) else dd (A++[x])++[y]
 | [],x,y=>by by_cases h:x=y <;> simp [dd,h]
 | [a],x,y=>by
  by_cases h:x=y
  ·subst h;by_cases h2:a=x <;> simp [dd,h2]
  ·by_cases h2:a=x <;> simp [dd,h2,h]
 | a::b::A,x,y=>by
  have ih:=dd_snoc (b::A) x y;simp only [List.cons_append] at ih ⊢;simp only [dd];rw [ih];by_cases h:a=b <;> by_cases h2:x=y <;> simp [h,h2]
theorem dd_mem:∀ (L:List GDot) (d:GDot),d ∈ dd L ↔ d ∈ L
 | [],_=>by simp [dd]
 | [x],_=>by simp [dd]
 | x::y::r,d=>by
  simp only [dd];split
  ·rename_i h;subst h;rw [dd_mem (x::r) d];simp
  ·rw [List.mem_cons,dd_mem (y::r) d];simp
theorem dd_strict {lt:GDot→GDot→Prop} (tot:∀ a b,¬ lt b a→a=b ∨ lt a b) (tr:∀ a b c,lt a b→lt b c→lt a c):∀ (L:List GDot),L.Pairwise (fun a b=>¬ lt b a)→(dd L).Pairwise lt
 | [],_=>by simp [dd]
 | [x],_=>by simp [dd]
 | x::y::r,h=>by
  have h2:=(List.pairwise_cons.1 h).2;have ih:=dd_strict tot tr (y::r) h2;simp only [dd];split
  ·exact ih
  ·rename_i hne;refine List.pairwise_cons.2 ⟨fun z hz=>?_,ih⟩;rw [dd_mem] at hz;have hxy:lt x y:=(tot x y ((List.pairwise_cons.1 h).1 y (by simp))).resolve_left hne;rcases List.mem_cons.1 hz with rfl | hz
   ·exact hxy
   ·rcases tot y z ((List.pairwise_cons.1 h2).1 z hz) with rfl | h3
    ·exact hxy
    ·exact tr _ _ _ hxy h3
def nn (L:List GDot):Prop:=∀ i a b,L[i]?=some a→L[i+1]?=some b→a ≠ b
theorem take_snoc2 {L:List GDot} {n:Nat} {a b:GDot} (ha:L[n]?=some a) (hb:L[n+1]?=some b):L.take (n+2)=L.take n++[a,b]:=by
 rw [List.take_add_one,List.take_add_one,ha,hb];simp
theorem dd_step {L:List GDot} {n:Nat} {a b:GDot} (ha:L[n]?=some a) (hb:L[n+1]?=some b):dd (L.take (n+2))=if a=b then dd (L.take (n+1)) else dd (L.take (n+1))++[b]:=by
 rw [take_snoc2 ha hb,dd_snoc,List.take_add_one,ha];rfl
noncomputable def cmpIn (n:Nat) (s1:Int):Int×Int×(List GDot)→Option (Out (Out (List GDot) Int) (Int×Int×(List GDot))):=fun (s2:Int×Int×(List GDot))=>((yv ((s2.2.2).length=n) ((if (decide (s2.2.1 < ((n - s1.toNat:Nat):Int)))=true then ((yo (s2.2.2.drop s1.toNat) s2.2.1).bind fun y51=>((yo (s2.2.2.drop s1.toNat) (IntKind.wrap .i64 (s2.2.1 - (1:Int)))).bind fun y52=>(if (!(y51.actor.rep==y52.actor.rep&&(y51.actor.inc==y52.actor.inc&&(y51.seq==y52.seq&&true))))=true then ((yo (s2.2.2.drop s1.toNat) s2.2.1).bind fun y54=>((yo s2.2.2 s2.1).bind fun y55=>some (.nxt ((IntKind.wrap .i64 (s2.1+(1:Int))),(IntKind.wrap .i64 (s2.2.1+(1:Int))),(s2.2.2.set s2.1.toNat y54))))) else some (.nxt (s2.1,(IntKind.wrap .i64 (s2.2.1+(1:Int))),s2.2.2))))) else some (.brk (s2.1,s2.2.1,s2.2.2))))))
theorem wrap_p1 {i:Nat} (h0:0 < i) (hl:i≤9223372036854775807):(IntKind.wrap .i64 ((i:Int) - 1))=((i - 1:Nat):Int):=wrap_pred h0 hl
theorem cmpIn_run {L:List GDot} (hl:L.length≤16777216) {k0:Nat} (hk0:0 < k0) (hk:k0 < L.length) {a:GDot} (h1:L[k0 - 1]?=some a) (h2:L[k0]?=some a) (h3:dd (L.take k0)=L.take k0) :
  ∃ s',yr (cmpIn L.length (k0:Int)) ((k0:Int),1,L)=some (.inr s')∧∃ m:Nat,s'.1=(m:Int)∧m≤L.length∧s'.2.2.length=L.length∧s'.2.2.take m=dd L:=by
 refine loopW_inv (f:=cmpIn L.length (k0:Int)) (fun s=>∃ m b:Nat,s.1=(m:Int)∧s.2.1=(b:Int)∧1≤b∧k0+b≤L.length∧m+1≤k0+b∧s.2.2.length=L.length∧s.2.2.take m=dd (L.take (k0+b))∧s.2.2.drop (k0+b - 1)=L.drop (k0+b - 1))
  _ (fun s=>L.length - s.2.1.toNat) ?_ _ _ rfl ⟨k0,1,rfl,rfl,Nat.le_refl _,by omega,by omega,rfl,?_,by simp⟩
 ·rintro ⟨i,j,M⟩ ⟨m,b,q1,q2,q3,q4,q5,q6,q7,q8⟩
  simp only at q1 q2 q6 q7 q8;subst q1 q2;simp only [cmpIn,yv,q6,if_true,Int.toNat_natCast];by_cases hb:k0+b < L.length
  ·right;have at1:∀ t,k0+b - 1≤t→M[t]?=L[t]?:=fun t ht=>by
    have:=congrArg (fun l=>l[t - (k0+b - 1)]?) q8;simp only [List.getElem?_drop] at this
    rwa [show k0+b - 1+(t - (k0+b - 1))=t by omega] at this
   have e1:L[k0+b]?=some L[k0+b]:=List.getElem?_eq_getElem hb;have hb1:k0+b - 1 < L.length:=by omega
   have e2:L[k0+b - 1]?=some (L[k0+b - 1]'hb1):=List.getElem?_eq_getElem hb1;have i1:yo (M.drop k0) (b:Int)=some L[k0+b]:=by simp only [yo,Int.toNat_natCast,List.getElem?_drop];rw [if_pos (by omega),at1 _ (by omega),e1]
   have i2:yo (M.drop k0) (IntKind.wrap .i64 ((b:Int) - 1))=some (L[k0+b - 1]'hb1):=by
    rw [wrap_p1 (by omega) (by omega)];simp only [yo,Int.toNat_natCast,List.getElem?_drop];rw [if_pos (by omega),show k0+(b - 1)=k0+b - 1 by omega,at1 _ (by omega),e2]
   have i3:yo M (m:Int)=some (M[m]'(by omega)):=by simp [yo]
   have hst:=dd_step (L:=L) (n:=k0+b - 1) e2 (by rw [show k0+b - 1+1=k0+b by omega];exact e1);rw [show k0+b - 1+2=k0+(b+1) by omega,show k0+b - 1+1=k0+b by omega] at hst;have hd1:M.drop (k0+(b+1) - 1)=L.drop (k0+(b+1) - 1):=by
    have:=congrArg (fun l=>l.drop 1) q8;simp only [List.drop_drop] at this
    rwa [show k0+b - 1+1=k0+(b+1) - 1 by omega] at this
   rw [if_pos (by simp;omega),i1,Option.bind_some,i2,Option.bind_some];rw [dotEq];by_cases he:L[k0+b]=L[k0+b - 1]'hb1
   ·refine ⟨((m:Int),((b+1:Nat):Int),M),by simp [he,wE (show b≤16777216 by omega)],⟨m,b+1,rfl,rfl,by omega,by omega,by omega,q6,?_,hd1⟩,by simp;omega⟩;rw [hst,if_pos he.symm];exact q7
   ·refine ⟨(((m+1:Nat):Int),((b+1:Nat):Int),M.set m L[k0+b]),?_,⟨m+1,b+1,rfl,rfl,by omega,by omega,by omega,by simpa using q6,?_,?_⟩,by simp;omega⟩
    ·simp [he,i1,i3,wE (show b≤16777216 by omega),wE (show m≤16777216 by omega)]
    ·rw [hst,if_neg (fun e=>he e.symm),← q7,List.take_add_one,List.take_set_of_le (Nat.le_refl _),List.getElem?_set_self (by omega)];rfl
    ·rw [List.drop_set_of_lt (by omega)];exact hd1
  ·left;have hb':k0+b=L.length:=by omega
   rw [if_neg (by simp;omega)];exact ⟨_,rfl,m,rfl,by omega,q6,by rw [q7,hb',List.take_length]⟩
 ·have:=dd_step (L:=L) (n:=k0 - 1) h1 (by rw [show k0 - 1+1=k0 by omega];exact h2);rw [show k0 - 1+2=k0+1 by omega,show k0 - 1+1=k0 by omega,if_pos rfl] at this;rw [this,h3]
noncomputable def cmpOut (s0:List GDot):Int→Option (Out (List GDot) Int):=fun (s1:Int)=>((if (decide (s1 < ((s0).length:Int)))=true then ((yo s0 s1).bind fun y35=>((yo s0 (IntKind.wrap .i64 (s1 - (1:Int)))).bind fun y36=>(if (y35.actor.rep==y36.actor.rep&&(y35.actor.inc==y36.actor.inc&&(y35.seq==y36.seq&&true)))=true then (yv (0≤s1∧s1≤((s0.length:Nat):Int)) ((lp (yr (cmpIn s0.length s1) (s1,(1:Int),s0)) fun (s2:Int×Int×(List GDot))=>(yv (0≤s2.1∧s2.1≤((s0.length:Nat):Int)) (((slc (s2.2.2.take s2.1.toNat++List.replicate (s0.length - s2.1.toNat) (GDot.mk (GActor.mk (0:Int) (0:Int)) (0:Int))) (0:Int) s2.1).bind fun m57=>some (.ret m57))))))) else some (.nxt (IntKind.wrap .i64 (s1+(1:Int))))))) else some (.brk s1)))
theorem compact_eq (s0:List GDot):xP s0=(if (decide (((s0).length:Int) < (2:Int)))=true then some s0 else (lp (yr (cmpOut s0) (1:Int)) fun (_:Int)=>some s0)):=rfl
theorem cmpOut_run {L:List GDot} (hl:L.length≤16777216):∀ (n k:Nat),L.length - k=n→0 < k→k≤L.length→dd (L.take k)=L.take k→lp (yr (cmpOut L) (k:Int)) (fun (_:Int)=>some L)=some (dd L):=by
 intro n
 induction n with
 | zero =>
  intro k hn h0 hk hd;have:k=L.length:=by omega
  subst this;rw [yS];simp only [cmpOut];rw [if_neg (by simp)];simp only [lp];rw [List.take_length] at hd;rw [hd]
 | succ n ih =>
  intro k hn h0 hk hd;have hlt:k < L.length:=by omega
  have e1:L[k]?=some L[k]:=List.getElem?_eq_getElem hlt;have hk1:k - 1 < L.length:=by omega
  have e2:L[k - 1]?=some (L[k - 1]'hk1):=List.getElem?_eq_getElem hk1;rw [yS];have i1:yo L (k:Int)=some L[k]:=by simp [yo]
  have i2:yo L (IntKind.wrap .i64 ((k:Int) - 1))=some (L[k - 1]'hk1):=by
   rw [wrap_p1 h0 (by omega)];simp only [yo,Int.toNat_natCast];rw [if_pos (by omega),e2]
  have hst:=dd_step (L:=L) (n:=k - 1) e2 (by rw [show k - 1+1=k by omega];exact e1);rw [show k - 1+2=k+1 by omega,show k - 1+1=k by omega] at hst;by_cases he:L[k]=L[k - 1]'hk1
  ·obtain ⟨s',r1,m,r2,r3,r4,r5⟩:=cmpIn_run hl h0 hlt (a:=L[k]) (by rw [he];exact e2) e1 hd;have hs:slc (s'.2.2.take ((m:Int)).toNat++List.replicate (L.length - ((m:Int)).toNat) (GDot.mk (GActor.mk (0:Int) (0:Int)) (0:Int))) (0:Int) (m:Int)=some (s'.2.2.take m):=by
    unfold slc;rw [if_pos (by simp;omega)];simp only [Int.toNat_natCast,Int.toNat_zero,List.drop_zero];rw [List.take_append_of_le_length (by simp;omega),List.take_take,Nat.min_self]
   have:cmpOut L (k:Int)=some (.ret (dd L)):=by
    simp only [cmpOut];rw [if_pos (by simp;omega),i1,Option.bind_some,i2,Option.bind_some,dotEq,if_pos (by simp [he])];rw [zo (by omega),r1];simp only [lp];rw [zo (by rw [r2];omega),r2,hs,Option.bind_some,r5]
   rw [this];rfl
  ·have:cmpOut L (k:Int)=some (.nxt ((k+1:Nat):Int)):=by
    simp only [cmpOut];rw [if_pos (by simp;omega),i1,Option.bind_some,i2,Option.bind_some,dotEq,if_neg (by simp [he]),wE (by omega)]
   rw [this];refine ih (k+1) (by omega) (by omega) (by omega) ?_;rw [hst,if_neg (fun e=>he e.symm),hd,List.take_add_one,e1];rfl
theorem compact_is {L:List GDot} (hl:L.length≤16777216):xP L=some (dd L):=by
 rw [compact_eq];by_cases h:L.length < 2
 ·rw [if_pos (by simp;omega)]
  match L,h with
  | [],_=>rfl
  | [x],_=>rfl
  | _::_::_,h=>simp at h;omega
 ·rw [if_neg (by simp;omega)];have:=cmpOut_run hl (L.length - 1) 1 rfl (by omega) (by omega) (by
   match L,h with
   | x::y::r,_=>rfl
   | [],h=>simp at h
   | [x],h=>simp at h)
  exact this

theorem dlt_irr (a:GDot):dotLt a a=false:=by simp [dotLt]
theorem dlt_tr {a b c:GDot} (h1:dotLt a b=true) (h2:dotLt b c=true):dotLt a c=true:=by
 unfold dotLt at *;grind
theorem dlt_tot (a b:GDot):a=b ∨ dotLt a b=true ∨ dotLt b a=true:=by
 rcases a with ⟨⟨a1,a2⟩,a3⟩;rcases b with ⟨⟨b1,b2⟩,b3⟩
 simp only [dotLt,GDot.mk.injEq,GActor.mk.injEq];grind
theorem ilt_tr {a b c:GItem} (h1:aheadI a b=true) (h2:aheadI b c=true):aheadI a c=true:=by
 unfold aheadI dotLt at *;grind
theorem ahead_pre {α:Type} {lt:α→α→Bool} (tr:∀ a b c,lt a b=true→lt b c=true→lt a c=true) (x:α):∀ (L:List α),L.Pairwise (fun a b=>lt a b=true)→∀ (i:Nat) (y:α),L[i]?=some y→(lt y x=true ↔ i < (L.takeWhile fun y=>lt y x).length)
 | [],_,i,y,h=>by simp at h
 | z::r,hs,i,y,h=>by
  obtain ⟨h1,h2⟩:=List.pairwise_cons.1 hs;cases i with
  | zero =>
   simp only [List.getElem?_cons_zero,Option.some.injEq] at h;subst h;cases hz:lt z x <;> simp [List.takeWhile_cons,hz]
  | succ i =>
   simp only [List.getElem?_cons_succ] at h;have ih:=ahead_pre tr x r h2 i y h;cases hz:lt z x with
   | true=>simp [List.takeWhile_cons,hz,ih]
   | false =>
    simp only [List.takeWhile_cons,hz,Bool.false_eq_true,if_false,List.length_nil,Nat.not_lt_zero,iff_false];intro hy;have:=tr _ _ _ (h1 y (List.mem_of_getElem? h)) hy;rw [hz] at this;cases this
theorem take_tw {α:Type} (p:α→Bool):∀ L:List α,L.take (L.takeWhile p).length=L.takeWhile p
 | []=>rfl
 | x::r=>by cases h:p x <;> simp [List.takeWhile_cons,h,take_tw p r]
theorem drop_tw {α:Type} (p:α→Bool):∀ L:List α,L.drop (L.takeWhile p).length=L.dropWhile p
 | []=>rfl
 | x::r=>by cases h:p x <;> simp [List.takeWhile_cons,List.dropWhile_cons,h,drop_tw p r]
theorem tw_le {α:Type} (p:α→Bool):∀ L:List α,(L.takeWhile p).length≤L.length
 | []=>by simp
 | x::r=>by have:=tw_le p r;cases h:p x <;> simp [List.takeWhile_cons,h] <;> omega
theorem tw_add {α:Type} (p:α→Bool) (L:List α):(L.takeWhile p).length+(L.dropWhile p).length=L.length:=by
 rw [← List.length_append,List.takeWhile_append_dropWhile]
theorem tw_all {α:Type} (p:α→Bool):∀ (L:List α),∀ y ∈ L.takeWhile p,p y=true
 | [],y,h=>by simp at h
 | x::r,y,h=>by
  cases hx:p x with
  | true =>
   rw [List.takeWhile_cons,if_pos hx] at h;rcases List.mem_cons.1 h with rfl | h
   ·exact hx
   ·exact tw_all p r y h
  | false=>rw [List.takeWhile_cons,if_neg (by simp [hx])] at h;simp at h
theorem pw_of_next {α:Type} {lt:α→α→Prop} (tr:∀ a b c,lt a b→lt b c→lt a c):∀ (L:List α),(∀ i a b,L[i]?=some a→L[i+1]?=some b→lt a b)→L.Pairwise lt
 | [],_=>.nil
 | [x],_=>by simp
 | x::y::r,h=>by
  have ih:=pw_of_next tr (y::r) fun i a b h1 h2=>h (i+1) a b (by simpa using h1) (by simpa using h2);have h0:=h 0 x y rfl rfl;refine List.pairwise_cons.2 ⟨fun z hz=>?_,ih⟩;rcases List.mem_cons.1 hz with rfl | hz
  ·exact h0
  ·exact tr _ _ _ h0 ((List.pairwise_cons.1 ih).1 z hz)
theorem rise_pw {L:List GItem} (h:riseB L=true):L.Pairwise fun a b=>aheadI a b=true:=by
 refine pw_of_next (lt:=fun a b=>aheadI a b=true) (fun _ _ _=>ilt_tr) L fun i a b h1 h2=>?_;have:=allI_iff.1 h (i+1) b h2;simp only [Nat.succ_ne_zero,decide_false,Bool.false_or,prevI,Nat.add_sub_cancel,List.getD_eq_getElem?_getD,h1,Option.getD_some] at this;exact this
theorem rising_pw {L:List GDot} (h:rising L=true):L.Pairwise fun a b=>dotLt a b=true:=by
 rw [rising_allI] at h;refine pw_of_next (lt:=fun a b=>dotLt a b=true) (fun _ _ _=>dlt_tr) L fun i a b h1 h2=>?_;have:=allI_iff.1 h (i+1) b h2;simp only [yW,Nat.succ_ne_zero,decide_false,Bool.false_or,Nat.add_sub_cancel,List.getD_eq_getElem?_getD,h1,Option.getD_some] at this;exact this
theorem strict_ext {α:Type} {lt:α→α→Prop} (irr:∀ a,¬ lt a a) (tr:∀ a b c,lt a b→lt b c→lt a c):∀ (A B:List α),A.Pairwise lt→B.Pairwise lt→(∀ x,x ∈ A ↔ x ∈ B)→A=B
 | [],[],_,_,_=>rfl
 | [],b::B,_,_,h=>by have:=(h b).2 (by simp);simp at this
 | a::A,[],_,_,h=>by have:=(h a).1 (by simp);simp at this
 | a::A,b::B,hA,hB,h=>by
  obtain ⟨a1,a2⟩:=List.pairwise_cons.1 hA;obtain ⟨b1,b2⟩:=List.pairwise_cons.1 hB;have hab:a=b:=by
   rcases List.mem_cons.1 ((h a).1 (by simp)) with e | h1
   ·exact e
   ·rcases List.mem_cons.1 ((h b).2 (by simp)) with e | h2
    ·exact e.symm
    ·exact (irr _ (tr _ _ _ (a1 b h2) (b1 a h1))).elim
  subst hab;rw [strict_ext irr tr A B a2 b2 fun x=>?_];have hx:=h x;simp only [List.mem_cons] at hx;constructor
  ·intro h1;rcases hx.1 (.inr h1) with rfl | h2
   ·exact (irr _ (a1 _ h1)).elim
   ·exact h2
  ·intro h1;rcases hx.2 (.inr h1) with rfl | h2
   ·exact (irr _ (b1 _ h1)).elim
   ·exact h2
def layP (L:List GItem) (x:GItem):List GItem:=if (L.any fun y=>decide (y.dot=x.dot))=true then L else L.takeWhile (fun y=>aheadI y x)++([x]++L.dropWhile fun y=>aheadI y x)
def burP (L:List GDot) (d:GDot):List GDot:=if (L.any fun y=>decide (y=d))=true then L else L.takeWhile (fun y=>dotLt y d)++([d]++L.dropWhile fun y=>dotLt y d)
theorem firstI_pos {α:Type} (p:α→Bool) (L:List α):decide (qw p L ≥ 0)=L.any p:=firstI_any p L
theorem slcT {α:Type} (L:List α) (n:Nat) (h:n≤L.length):slc L (n:Int) (L.length:Int)=some (L.drop n):=by
 unfold slc;rw [if_pos (by omega)];simp
theorem tw_loop {α:Type} {L:List α} (p:α→Bool) {f:List α×Int→Option (Out (List α) (List α×Int))} (h1:∀ (A:List α) (i:Nat) (y:α),A.length=i→L[i]?=some y→f (A,(i:Int))=if p y=true then some (.nxt (A++[y],((i+1:Nat):Int))) else some (.brk (A,(i:Int))))
  (h2:∀ A:List α,f (A,(L.length:Int))=some (.brk (A,(L.length:Int)))):∀ (n i:Nat),L.length - i=n→i≤(L.takeWhile p).length →
  yr f (L.take i,(i:Int))=some (.inr (L.takeWhile p,((L.takeWhile p).length:Int))):=by
 intro n
 induction n with
 | zero =>
  intro i hn hi;have h2':=tw_le p L;have hi':i=L.length:=by omega
  subst hi';rw [yS,h2];have h3:(L.takeWhile p).length=L.length:=by omega
  have h4:=take_tw p L;rw [h3] at h4 ⊢;rw [h4]
 | succ n ih =>
  intro i hn hi;have hlt:i < L.length:=by omega
  have hg:L[i]?=some L[i]:=List.getElem?_eq_getElem hlt;have htk:L.takeWhile p=L.take i++(L.drop i).takeWhile p:=by
   have h1:L.take i=(L.takeWhile p).take i:=by
    conv=>lhs;rw [← List.takeWhile_append_dropWhile (p:=p) (l:=L)]
    rw [List.take_append_of_le_length hi]
   have h2:∀ y ∈ L.take i,p y=true:=by
    rw [h1];intro y hy;exact tw_all _ _ _ (List.mem_of_mem_take hy)
   conv=>lhs;rw [← List.take_append_drop i L]
   rw [List.takeWhile_append_of_pos h2]
  have hdi:L.drop i=L[i]::L.drop (i+1):=(List.getElem_cons_drop hlt).symm;have hlen:(L.take i).length=i:=by simp;omega
  rw [yS,h1 _ _ _ hlen hg];cases ha:p L[i] with
  | true =>
   simp only [if_true];have e:L.take i++[L[i]]=L.take (i+1):=by rw [List.take_add_one,hg];rfl
   rw [e];refine ih (i+1) (by omega) ?_;rw [htk,hdi,List.takeWhile_cons,if_pos ha];simp;omega
  | false =>
   simp only [Bool.false_eq_true,if_false];have e:L.takeWhile p=L.take i:=by rw [htk,hdi,List.takeWhile_cons,if_neg (by simp [ha])];simp
   rw [e,hlen]
noncomputable def layF (L:List GItem) (x:GItem):(List GItem)×Int→Option (Out (List GItem) ((List GItem)×Int)):=(fun (s1:(List GItem)×Int)=>((yv (((decide (s1.2 < ((L).length:Int)))==true)=true→0≤s1.2∧s1.2 < ((L).length:Int)) ((yv (((decide (s1.2 < ((L).length:Int)))==true)=true→0≤s1.2∧s1.2 < ((L).length:Int)) (((if ((decide (s1.2 < ((L).length:Int)))==true)=true then wN (((L).getD s1.2.toNat default).time) (((L).getD s1.2.toNat default).dot) x.time x.dot else some default).bind fun v21=>(if ((decide (s1.2 < ((L).length:Int)))&&v21)=true then ((yo L s1.2).bind fun y23=>(yv ((s1.1).length+(([y23]:List GItem)).length≤yM) (some (.nxt ((s1.1++([y23]:List GItem)),(IntKind.wrap .i64 (s1.2+(1:Int)))))))) else some (.brk (s1.1,s1.2)))))))):Option (Out _ ((List GItem)×Int))))
theorem lay_loop {L:List GItem} (hl:L.length≤16777216) (x:GItem):yr (layF L x) ([],0)=some (.inr (L.takeWhile (fun y=>aheadI y x),((L.takeWhile fun y=>aheadI y x).length:Int))):=by
 refine tw_loop (fun y=>aheadI y x) (f:=layF L x) (fun A i y hA hg=>?_) (fun A=>?_) L.length 0 (by omega) (Nat.zero_le _)
 ·have hlt:i < L.length:=(List.getElem?_eq_some_iff.1 hg).1;have hd:decide ((i:Int) < (L.length:Int))=true:=decide_eq_true (by omega);have hgd:L.getD i default=y:=by simp [List.getD_eq_getElem?_getD,hg]
  have hix:yo L (i:Int)=some y:=by simp [yo,hg]
  simp only [layF,hd];rw [zo (by intro _;omega),zo (by intro _;omega)];simp only [beq_self_eq_true,if_true,Int.toNat_natCast,hgd,ref05Ahead_is,Option.bind_some,Bool.true_and];have hal:(if y.time ≠ x.time then decide (y.time < x.time) else dotLt y.dot x.dot)=aheadI y x:=rfl;rw [hal];cases ha:aheadI y x with
  | true=>simp only [if_true];rw [hix,Option.bind_some,zo (by simp [yM];omega),wE (by omega)]
  | false=>rfl
 ·have hd:decide ((L.length:Int) < (L.length:Int))=false:=decide_eq_false (by omega);simp only [layF,hd];rw [zo (by simp),zo (by simp)];simp
theorem refLay_is {L:List GItem} (hl:L.length≤16777215) (x:GItem):ref05Lay L x=some (layP L x):=by
 unfold ref05Lay;rw [ref05Item_is,Option.bind_some,firstI_pos];unfold layP;cases h:L.any fun y=>decide (y.dot=x.dot) with
 | true=>simp only [if_true];rw [zo (by simp [yM];omega)];rfl
 | false =>
  simp only [Bool.false_eq_true,if_false];have h1:=lay_loop (L:=L) (by omega) x;unfold layF at h1;have h2:=tw_le (fun y=>aheadI y x) L;have h3:=tw_add (fun y=>aheadI y x) L;rw [h1];simp only [lp];rw [zo (by simp [yM];omega),slcT _ _ h2,Option.bind_some,drop_tw,zo (by simp [yM];omega)];simp
noncomputable def burF (L:List GDot) (x:GDot):(List GDot)×Int→Option (Out (List GDot) ((List GDot)×Int)):=(fun (s1:(List GDot)×Int)=>((yv (((decide (s1.2 < ((L).length:Int)))==true)=true→0≤s1.2∧s1.2 < ((L).length:Int)) (((if ((decide (s1.2 < ((L).length:Int)))==true)=true then vd ((L).getD s1.2.toNat default) x else some default).bind fun v16=>(if ((decide (s1.2 < ((L).length:Int)))&&v16)=true then ((yo L s1.2).bind fun y18=>(yv ((s1.1).length+(([y18]:List GDot)).length≤yM) (some (.nxt ((s1.1++([y18]:List GDot)),(IntKind.wrap .i64 (s1.2+(1:Int)))))))) else some (.brk (s1.1,s1.2)))))):Option (Out _ ((List GDot)×Int))))
theorem bury_loop {L:List GDot} (hl:L.length≤16777216) (x:GDot):yr (burF L x) ([],0)=some (.inr (L.takeWhile (fun y=>dotLt y x),((L.takeWhile fun y=>dotLt y x).length:Int))):=by
 refine tw_loop (fun y=>dotLt y x) (f:=burF L x) (fun A i y hA hg=>?_) (fun A=>?_) L.length 0 (by omega) (Nat.zero_le _)
 ·have hlt:i < L.length:=(List.getElem?_eq_some_iff.1 hg).1;have hd:decide ((i:Int) < (L.length:Int))=true:=decide_eq_true (by omega);have hgd:L.getD i default=y:=by simp [List.getD_eq_getElem?_getD,hg]
  have hix:yo L (i:Int)=some y:=by simp [yo,hg]
  simp only [burF,hd];rw [zo (by intro _;omega)];simp only [beq_self_eq_true,if_true,Int.toNat_natCast,hgd,ref03Less_is,Option.bind_some,Bool.true_and];cases ha:dotLt y x with
  | true=>simp only [if_true];rw [hix,Option.bind_some,zo (by simp [yM];omega),wE (by omega)]
  | false=>rfl
 ·have hd:decide ((L.length:Int) < (L.length:Int))=false:=decide_eq_false (by omega);simp only [burF,hd];rw [zo (by simp)];simp
theorem refBury_is {L:List GDot} (hl:L.length≤16777215) (x:GDot):ref05Bury L x=some (burP L x):=by
 unfold ref05Bury;rw [w9,Option.bind_some];unfold burP;cases h:L.any fun y=>decide (y=x) with
 | true=>simp only [if_true]
 | false =>
  simp only [Bool.false_eq_true,if_false];have h1:=bury_loop (L:=L) (by omega) x;unfold burF at h1;have h2:=tw_le (fun y=>dotLt y x) L;have h3:=tw_add (fun y=>dotLt y x) L;rw [h1];simp only [lp];rw [zo (by simp [yM];omega),slcT _ _ h2,Option.bind_some,drop_tw,zo (by simp [yM];omega)];simp

theorem sortO_le {α:Type} {c:α→α→Option Int} {cf:α→α→Int} {lt:α→α→Prop} {L R:List α} (hc:∀ x ∈ L,∀ y ∈ L,c x y=some (cf x y)) (hlt:∀ x y,cf x y < 0 ↔ lt x y) (irr:∀ x,¬ lt x x) (tr:∀ x y z,lt x y→lt y z→lt x z)
  (tot:∀ x ∈ L,∀ y ∈ L,x=y ∨ lt x y ∨ lt y x) (hp:R.Perm L) (hs:R.Pairwise fun a b=>¬ lt b a) (hl:L.length≤yM):sortO c L=some R:=by
 unfold sortO;rw [if_pos (fun x hx y hy=>by rw [hc x hx y hy];rfl)];have hd:∀ x ∈ L,∀ y ∈ L,(c x y).getD 0 < 0 ↔ lt x y:=fun x hx y hy=>by rw [hc x hx y hy];exact hlt x y
 have hasym:∀ x y,lt x y→¬ lt y x:=fun x y h1 h2=>irr x (tr _ _ _ h1 h2);have hR:R.Pairwise fun a b=>¬ (c b a).getD 0 < 0:=by
  have:R.Pairwise fun a b=>a ∈ L∧b ∈ L∧¬ lt b a:=by
   refine List.Pairwise.imp_of_mem ?_ hs;intro a b ha hb h;exact ⟨hp.subset ha,hp.subset hb,h⟩
  refine this.imp ?_
  rintro a b ⟨ha,hb,h⟩ h2
  exact h ((hd b hb a ha).1 h2)
 refine sortF_of ⟨fun x hx h=>irr x ((hd x hx x hx).1 h),fun x y z hx hy hz h1 h2=>(hd x hx z hz).2 (tr _ _ _ ((hd x hx y hy).1 h1) ((hd y hy z hz).1 h2)),fun x y z hx hy hz h1 h2 h3=>?_⟩ hl ⟨hp,hR⟩ ?_
 ·have h3:=(hd x hx z hz).1 h3;rcases tot x hx y hy with rfl | h | h
  ·exact h2 ((hd _ hy z hz).2 h3)
  ·exact h1 ((hd x hx y hy).2 h)
  ·exact h2 ((hd y hy z hz).2 (tr _ _ _ h h3))
 ·rintro M ⟨hm,hM⟩
  refine sorted_one (hm.trans hp.symm) hM hR fun x y hx hy h1 h2=>?_;have hx:=hm.subset hx;have hy:=hm.subset hy;rcases tot x hx y hy with e | h | h
  ·exact e
  ·exact (h1 ((hd x hx y hy).2 h)).elim
  ·exact (h2 ((hd y hy x hx).2 h)).elim
theorem dotCmp_iff (a b:GDot):dotCmp a b < 0 ↔ dotLt a b=true:=by rw [← dotCmp_neg];simp
def srt (L:List GDot):List GDot:=L.mergeSort fun a b=>!dotLt b a
theorem srt_pw (L:List GDot):(srt L).Pairwise fun a b=>¬ dotLt b a=true:=by
 have:=List.pairwise_mergeSort (le:=fun a b=>!dotLt b a) (fun a b c h1 h2=>by
  simp only [Bool.not_eq_true'] at *;cases h:dotLt c a with
  | false=>rfl
  | true =>
   rcases dlt_tot a b with rfl | h3 | h3
   ·rw [h2] at h;cases h
   ·rw [dlt_tr h h3] at h2;cases h2
   ·rw [h1] at h3;cases h3) (fun a b=>by
  cases h:dotLt b a with
  | false=>rfl
  | true =>
   cases h2:dotLt a b with
   | false=>rfl
   | true=>have:=dlt_tr h h2;rw [dlt_irr] at this;cases this) L
 refine this.imp fun {a b} h=>?_;simpa using h
theorem srt_perm (L:List GDot):(srt L).Perm L:=List.mergeSort_perm ..
theorem sortDots_is {L:List GDot} (hl:L.length≤yM):sortO (fun x y=>wt x y) L=some (srt L) :=
 sortO_le (cf:=dotCmp) (lt:=fun a b=>dotLt a b=true) (fun x _ y _=>dotCompare_is x y) dotCmp_iff (fun x=>by simp [dlt_irr]) (fun _ _ _=>dlt_tr) (fun x _ y _=>dlt_tot x y) (srt_perm L) (srt_pw L) hl
theorem bur_mem (L:List GDot) (d x:GDot):x ∈ burP L d ↔ x=d ∨ x ∈ L:=by
 unfold burP;split
 ·rename_i h;rw [List.any_eq_true] at h;obtain ⟨y,hy,e⟩:=h;have e:=of_decide_eq_true e;subst e;constructor
  ·exact .inr
  ·rintro (rfl | h)
   ·exact hy
   ·exact h
 ·have h:x ∈ L ↔ x ∈ L.takeWhile (fun y=>dotLt y d) ∨ x ∈ L.dropWhile (fun y=>dotLt y d):=by
   rw [← List.mem_append,List.takeWhile_append_dropWhile]
  rw [h];simp only [List.mem_append,List.mem_singleton];constructor
  ·rintro (h | h | h)
   ·exact .inr (.inl h)
   ·exact .inl h
   ·exact .inr (.inr h)
  ·rintro (h | h | h)
   ·exact .inr (.inl h)
   ·exact .inl h
   ·exact .inr (.inr h)
theorem dw_not {α:Type} {lt:α→α→Bool} (tr:∀ a b c,lt a b=true→lt b c=true→lt a c=true) (x:α) {L:List α} (hs:L.Pairwise (fun a b=>lt a b=true)):∀ y ∈ L.dropWhile (fun y=>lt y x),lt y x=false:=by
 intro y hy;rw [← drop_tw] at hy;obtain ⟨j,hj⟩:=List.mem_iff_getElem?.1 hy;rw [List.getElem?_drop] at hj;have:=ahead_pre tr x L hs _ y hj;cases h:lt y x with
 | false=>rfl
 | true=>have:=this.1 h;omega
theorem ins_pw {α:Type} {lt:α→α→Bool} (tr:∀ a b c,lt a b=true→lt b c=true→lt a c=true) {x:α} {L:List α} (hs:L.Pairwise (fun a b=>lt a b=true)) (hx:∀ y ∈ L,lt y x=true ∨ lt x y=true):(L.takeWhile (fun y=>lt y x)++([x]++L.dropWhile fun y=>lt y x)).Pairwise fun a b=>lt a b=true:=by
 have hsp:=hs;rw [← List.takeWhile_append_dropWhile (p:=fun y=>lt y x) (l:=L)] at hsp;obtain ⟨p1,p2,p3⟩:=List.pairwise_append.1 hsp;have hd:∀ y ∈ L.dropWhile (fun y=>lt y x),lt x y=true:=fun y hy=>by
  rcases hx y (List.dropWhile_sublist _ |>.subset hy) with h | h
  ·rw [dw_not tr x hs y hy] at h;cases h
  ·exact h
 refine List.pairwise_append.2 ⟨p1,List.pairwise_append.2 ⟨by simp,p2,fun a ha b hb=>?_⟩,fun a ha b hb=>?_⟩
 ·rw [List.mem_singleton] at ha;subst ha;exact hd b hb
 ·rcases List.mem_append.1 hb with hb | hb
  ·rw [List.mem_singleton] at hb;subst hb;exact tw_all (fun y=>lt y b) _ _ ha
  ·exact p3 a ha b hb
theorem bur_pw {L:List GDot} (d:GDot) (h:L.Pairwise fun a b=>dotLt a b=true):(burP L d).Pairwise fun a b=>dotLt a b=true:=by
 unfold burP;split
 ·exact h
 ·rename_i hn;refine ins_pw (lt:=dotLt) (fun _ _ _=>dlt_tr) h fun y hy=>?_;rcases dlt_tot y d with rfl | h1 | h1
  ·exfalso;apply hn;rw [List.any_eq_true];exact ⟨y,hy,by simp⟩
  ·exact .inl h1
  ·exact .inr h1
theorem bur_len (L:List GDot) (d:GDot):(burP L d).length≤L.length+1:=by
 unfold burP;split
 ·omega
 ·have:=tw_add (fun y=>dotLt y d) L;simp;omega
def burs (L ds:List GDot):List GDot:=ds.foldl burP L
theorem burs_mem:∀ (ds L:List GDot) (x:GDot),x ∈ burs L ds ↔ x ∈ ds ∨ x ∈ L
 | [],L,x=>by simp [burs]
 | d::ds,L,x=>by
  have:=burs_mem ds (burP L d) x;simp only [burs,List.foldl_cons] at this ⊢;rw [this,bur_mem];simp only [List.mem_cons];constructor
  ·rintro (h | h | h)
   ·exact .inl (.inr h)
   ·exact .inl (.inl h)
   ·exact .inr h
  ·rintro ((h | h) | h)
   ·exact .inr (.inl h)
   ·exact .inl h
   ·exact .inr (.inr h)
theorem burs_pw:∀ (ds:List GDot) {L:List GDot},L.Pairwise (fun a b=>dotLt a b=true)→(burs L ds).Pairwise fun a b=>dotLt a b=true
 | [],_,h=>h
 | d::ds,_,h=>burs_pw ds (bur_pw d h)
theorem burs_len:∀ (ds L:List GDot),(burs L ds).length≤L.length+ds.length
 | [],L=>by simp [burs]
 | d::ds,L=>by
  have h1:=burs_len ds (burP L d);have h2:=bur_len L d;simp only [burs,List.foldl_cons,List.length_cons] at h1 ⊢;omega
theorem burs_eq {L ds:List GDot} (h:L.Pairwise fun a b=>dotLt a b=true):dd (srt (L++ds))=burs L ds:=by
 refine strict_ext (lt:=fun a b=>dotLt a b=true) (fun a=>by simp [dlt_irr]) (fun _ _ _=>dlt_tr) _ _ (dd_strict (lt:=fun a b=>dotLt a b=true) (fun a b hn=>?_) (fun _ _ _=>dlt_tr) _ (srt_pw _)) (burs_pw ds h) fun x=>?_
 ·rcases dlt_tot a b with e | e | e
  ·exact .inl e
  ·exact .inr e
  ·exact (hn e).elim
 ·rw [dd_mem,(srt_perm _).mem_iff,burs_mem,List.mem_append];exact Or.comm
theorem layC_is (a b:GItem):∃ v,yw a b=some v∧(v < 0 ↔ aheadI a b=true):=by
 have h:=leafAhead_is a.time a.dot b.time b.dot;unfold qT at h;unfold yw;cases hc:ve a.time a.dot b.time b.dot with
 | none=>rw [hc] at h;cases h
 | some v =>
  rw [hc] at h;simp only [Option.bind_some,Option.some.injEq] at h;refine ⟨v,rfl,?_⟩;have:aheadI a b=decide (v < 0):=h.symm;rw [this];simp
theorem searchI {L:List GItem} (hl:L.length≤1048576) (hs:L.Pairwise fun a b=>aheadI a b=true) (x:GItem):∃ b,zL L x (fun x0 x1=>yw x0 x1)=some (((L.takeWhile fun y=>aheadI y x).length:Int),b):=by
 have hc:=tw_le (fun y=>aheadI y x) L;have h1:∀ i n,L[i]?=some n→∃ v,yw n x=some v∧(i < (L.takeWhile fun y=>aheadI y x).length→v < 0)∧((L.takeWhile fun y=>aheadI y x).length≤i→0≤v):=fun i n hi=>by
  obtain ⟨v,e,hv⟩:=layC_is n x;have hp:=ahead_pre (lt:=aheadI) (fun _ _ _=>ilt_tr) x L hs i n hi;refine ⟨v,e,fun h=>hv.2 (hp.2 h),fun h=>?_⟩;rcases Int.lt_or_le v 0 with h2 | h2
  ·have:=hp.1 (hv.1 h2);omega
  ·exact h2
 rw [bsI_is hl hc h1];by_cases h:(L.takeWhile fun y=>aheadI y x).length < L.length
 ·rw [if_pos h];obtain ⟨v,e,_⟩:=layC_is (L.getD (L.takeWhile fun y=>aheadI y x).length default) x;rw [e];exact ⟨_,rfl⟩
 ·rw [if_neg h];exact ⟨_,rfl⟩
theorem insO_is {L:List GItem} (hl:L.length≤1048576) (x:GItem) {n:Nat} (hn:n≤L.length):insO L (n:Int) [x]=some (L.take n++([x]++L.drop n)):=by
 unfold insO;rw [if_pos ⟨⟨by omega,by omega⟩,by simp,by simp [yM];omega⟩,Int.toNat_natCast]
theorem progLay_is {L:List GItem} (hl:L.length≤1048576) (hs:L.Pairwise fun a b=>aheadI a b=true) (x:GItem) :
  ((leafXhas L x.dot).bind fun v36=>(if v36=true then some L else ((zL L x (fun x0 x1=>yw x0 x1)).bind fun v38=>((insO L v38.1 ([x]:List GItem)).bind fun v39=>some v39))))=some (layP L x):=by
 rw [leafXhas_is,Option.bind_some];unfold layP;cases h:L.any fun y=>decide (y.dot=x.dot) with
 | true=>rfl
 | false =>
  simp only [Bool.false_eq_true,if_false];obtain ⟨b,e⟩:=searchI hl hs x;rw [e,Option.bind_some,insO_is hl x (tw_le _ _),Option.bind_some,take_tw,drop_tw]
theorem containsDot_is (L:List GDot) (d:GDot):xh L d=some (L.any fun y=>decide (y=d)):=by
 unfold xh qg;have:=first_loop (α:=GDot) (f:=fun x=>some (decide (x=d))) (q:=fun x=>decide (x=d)) L (fun _ _=>rfl);have e:∀ (n1:Nat) (x1:GDot),(if (d.actor.rep==x1.actor.rep&&(d.actor.inc==x1.actor.inc&&(d.seq==x1.seq&&true)))=true then some (.ret (n1:Int)) else some (.nxt ()):Option (Out Int Unit))=((some (decide (x1=d)):Option Bool).bind fun v=>if v=true then some (.ret (n1:Int)) else some (.nxt ())):=fun n1 x1=>by
  rw [dotEq,Option.bind_some];have:decide (d=x1)=decide (x1=d):=decide_eq_decide.2 eq_comm;rw [this]
 simp only [e];rw [this,Option.bind_some,firstI_pos]
theorem dropC_is (x:GItem) (e:GEvent):xF x e=some (e.op.dots.any fun y=>decide (y=x.dot)):=by
 unfold xF;rw [containsDot_is];rfl

def yE (l:GLeaf) (e:GEvent):GLeaf :=
 if e.op.kind=1 then { l with n:=IntKind.wrap .i64 (l.n+e.op.n) }
 else if e.op.kind=2 then (if (decide (l.time=0) || (if l.time ≠ e.time then decide (l.time < e.time) else dotLt l.dot e.dot))=true then { l with time:=e.time,dot:=e.dot,text:=e.op.text } else l)
 else if e.op.kind=3 then (if (l.tombs.any fun y=>decide (y=e.dot))=true then l else { l with items:=layP l.items ⟨0,e.dot,e.op.text⟩ })
 else if e.op.kind=4 then { l with items:=l.items.filter (fun x=>!(e.op.dots.any fun y=>decide (y=x.dot))),tombs:=burs l.tombs e.op.dots }
 else { l with items:=layP l.items ⟨e.time,e.dot,e.op.text⟩ }
def zeroLf:GLeaf:=GLeaf.mk (0:Int) (0:Int) (0:Int) (GDot.mk (GActor.mk (0:Int) (0:Int)) (0:Int)) ([]:zk) ([]:List GItem) ([]:List GDot)
def applyW (l:GLeaf) (e:GEvent):GLeaf×Int:=if (!leafB l || !xZ e)=true then (zeroLf,2) else if x6 e.op.kind ≠ l.typ then (zeroLf,15) else (yE l e,0)
theorem riseB_of {l:GLeaf} (h:leafB l=true):l.items.Pairwise fun a b=>aheadI a b=true:=by
 unfold leafB at h;split at h
 ·simp only [Bool.and_eq_true,decide_eq_true_eq] at h;rw [h.1.2];exact .nil
 ·split at h
  ·simp only [Bool.and_eq_true,decide_eq_true_eq] at h;rw [h.1.1.2];exact .nil
  ·split at h
   ·simp only [Bool.and_eq_true] at h;exact rise_pw h.1.2.1.2
   ·split at h
    ·simp only [Bool.and_eq_true] at h;exact rise_pw h.2.1.2
    ·cases h
theorem tombs_of {l:GLeaf} (h:leafB l=true):l.tombs.Pairwise fun a b=>dotLt a b=true:=by
 unfold leafB at h;split at h
 ·simp only [Bool.and_eq_true,decide_eq_true_eq] at h;rw [h.2];exact .nil
 ·split at h
  ·simp only [Bool.and_eq_true,decide_eq_true_eq] at h;rw [h.1.2];exact .nil
  ·split at h
   ·simp only [Bool.and_eq_true,tombsB] at h;exact rising_pw h.2.1.2
   ·split at h
    ·simp only [Bool.and_eq_true,decide_eq_true_eq] at h;rw [h.1.2];exact .nil
    ·cases h
theorem apart_of_leaf {l:GLeaf} (h:leafB l=true):∀ x ∈ l.items,∀ d ∈ l.tombs,d ≠ x.dot:=by
 intro x hx d hd;unfold leafB at h;split at h
 ·simp only [Bool.and_eq_true,decide_eq_true_eq] at h;rw [h.2] at hd;simp at hd
 ·split at h
  ·simp only [Bool.and_eq_true,decide_eq_true_eq] at h;rw [h.1.2] at hd;simp at hd
  ·split at h
   ·simp only [Bool.and_eq_true,tombsB] at h;have:=List.all_eq_true.1 h.2.2 d hd
    rintro rfl
    simp only [Bool.not_eq_true',List.any_eq_false,decide_eq_true_eq] at this;exact this x hx rfl
   ·split at h
    ·simp only [Bool.and_eq_true,decide_eq_true_eq] at h;rw [h.1.2] at hd;simp at hd
    ·cases h
theorem kind_of {e:GEvent} (h:xZ e=true):1≤e.op.kind∧e.op.kind≤5:=by
 simp only [xZ,opB,Bool.and_eq_true,decide_eq_true_eq] at h;exact ⟨h.2.1.1.1.1.1,h.2.1.1.1.1.2⟩
theorem dots_of {e:GEvent} (h:xZ e=true):e.op.dots.length≤64:=by
 simp only [xZ,opB,Bool.and_eq_true,decide_eq_true_eq] at h;exact h.2.1.2
theorem leafApply_is {l:GLeaf} (e:GEvent) (hi:l.items.length≤1048576) (ht:l.tombs.length≤1048576):leafApply l e=some (applyW l e):=by
 unfold leafApply applyW;rw [leafMay_is (by unfold maxLen;omega) (by unfold maxLen;omega),Option.bind_some];cases hl:leafB l with
 | false=>simp [zeroLf]
 | true =>
  simp only [Bool.not_true,Bool.false_or,beq_self_eq_true,if_true,opMayEvent_is,Option.bind_some];cases he:xZ e with
  | false=>simp [zeroLf]
  | true =>
   simp only [Bool.not_true,Bool.false_eq_true,if_false,opType_is,Option.bind_some];by_cases hk:x6 e.op.kind=l.typ
   ·rw [if_neg (show ¬ (x6 e.op.kind != l.typ)=true by simp [hk]),if_neg (show ¬ x6 e.op.kind ≠ l.typ by simp [hk])];rw [qz (by unfold yM;omega),Option.bind_some,cloneDot_is (by unfold yM;omega),Option.bind_some];unfold yE;by_cases h1:e.op.kind=1
    ·simp only [h1,if_true,Option.bind_some]
    simp only [h1,if_false];by_cases h2:e.op.kind=2
    ·simp only [h2,if_true,leafAhead_is,Option.bind_some];have e0:(l.time==(0:Int))=decide (l.time=0):=by rw [Bool.eq_iff_iff];simp
     rw [e0];cases h0:decide (l.time=0) with
     | true=>simp
     | false =>
      simp only [beq_self_eq_true,if_true,Option.bind_some,Bool.false_or];generalize (if l.time ≠ e.time then decide (l.time < e.time) else dotLt l.dot e.dot)=b;cases b <;> rfl
    simp only [h2,if_false];by_cases h3:e.op.kind=3
    ·simp only [h3,if_true,containsDot_is,Option.bind_some];have:=progLay_is hi (riseB_of hl) ⟨0,e.dot,e.op.text⟩;simp only at this;rw [this];cases l.tombs.any (fun y=>decide (y=e.dot)) <;> rfl
    simp only [h3,if_false];have hd:=dots_of he;by_cases h4:e.op.kind=4
    ·simp only [h4,if_true];rw [zo (by unfold yM;omega),sortDots_is (by simp [yM];omega),Option.bind_some,compact_is (by rw [(srt_perm _).length_eq];simp;omega),Option.bind_some,
      deleteI_is (q:=fun x=>e.op.dots.any fun y=>decide (y=x.dot)) (by omega) (fun x _=>dropC_is x e),Option.bind_some,burs_eq (tombs_of hl)]
     rfl
    simp only [h4,if_false];have h5:e.op.kind=5:=by have:=kind_of he;omega
    simp only [h5,if_true];have:=progLay_is hi (riseB_of hl) ⟨e.time,e.dot,e.op.text⟩;simp only at this;rw [this];rfl
   ·have hne:(x6 e.op.kind != l.typ)=true:=by simp [hk]
    simp only [hne,if_true,hk,ne_eq,not_false_eq_true,Bool.false_eq_true,if_false,zeroLf]
theorem refTombs_fold:∀ (ds L:List GDot) (n:Nat),L.length+ds.length≤16777215→zr (fun (n1:Nat) (x1:GDot) (s1:(List GDot))=>(((ref05Bury s1 x1).bind fun v49=>some (.nxt v49)):Option (Out (GLeaf×Int) (List GDot)))) ds n L=some (.inr (burs L ds))
 | [],L,n,_=>rfl
 | d::ds,L,n,h=>by
  simp only [List.length_cons] at h;have h2:=bur_len L d;simp only [zr];rw [refBury_is (by omega),Option.bind_some];exact refTombs_fold ds (burP L d) (n+1) (by omega)
theorem refLeft_is (L:List GItem) (T:List GDot) (hl:L.length≤16777215):ref05Left L T=some (L.filter fun x=>!(T.any fun y=>decide (y=x.dot))):=by
 unfold ref05Left;have:∀ (L s:List GItem) (n:Nat),s.length+L.length≤16777215→zr (fun (n1:Nat) (x1:GItem) (s1:(List GItem))=>(((va T x1.dot).bind fun v12=>(if (!v12)=true then (yv ((s1).length+(([x1]:List GItem)).length≤yM) (some (.nxt (s1++([x1]:List GItem))))) else some (.nxt s1))):Option (Out (List GItem) (List GItem)))) L n s=some (.inr (s++L.filter fun x=>!(T.any fun y=>decide (y=x.dot)))):=by
  intro L
  induction L with
  | nil=>intro s n _;simp [zr]
  | cons x r ih =>
   intro s n h;simp only [List.length_cons] at h;simp only [zr,w9,Option.bind_some];cases hx:T.any fun y=>decide (y=x.dot) with
   | true =>
    simp only [Bool.not_true,Bool.false_eq_true,if_false];rw [List.filter_cons,if_neg (by simp [hx])];have:=ih s (n+1) (by omega);simp only [w9,Option.bind_some] at this;exact this
   | false =>
    simp only [Bool.not_false,if_true];rw [zo (by simp [yM];omega),List.filter_cons,if_pos (by simp [hx])];have:=ih (s++[x]) (n+1) (by simp;omega);simp only [w9,Option.bind_some,List.append_assoc,List.singleton_append] at this;exact this
 rw [this L [] 0 (by simpa using hl)];rfl
theorem refApply_is {l:GLeaf} (e:GEvent) (hi:l.items.length≤1048576) (ht:l.tombs.length≤1048576) (h0:0≤l.time):ref05Apply l e=some (applyW l e):=by
 unfold ref05Apply applyW;rw [ref05May_is (by unfold maxLen;omega) (by unfold maxLen;omega) h0,Option.bind_some];cases hl:leafB l with
 | false=>simp [zeroLf]
 | true =>
  simp only [Bool.not_true,Bool.false_or,beq_self_eq_true,if_true,ref04MayEvent_is,Option.bind_some];cases he:xZ e with
  | false=>simp [zeroLf]
  | true =>
   simp only [Bool.not_true,Bool.false_eq_true,if_false,ref04Type_is,Option.bind_some];by_cases hk:x6 e.op.kind=l.typ
   ·rw [if_neg (show ¬ (x6 e.op.kind != l.typ)=true by simp [hk]),if_neg (show ¬ x6 e.op.kind ≠ l.typ by simp [hk])];unfold yE;by_cases h1:e.op.kind=1
    ·simp only [h1,beq_self_eq_true,if_true]
    have n1:(e.op.kind==(1:Int))=false:=by simp [h1]
    simp only [h1,n1,Bool.false_eq_true,if_false];by_cases h2:e.op.kind=2
    ·simp only [h2,beq_self_eq_true,if_true,ref05Ahead_is,Option.bind_some];have e0:(l.time==(0:Int))=decide (l.time=0):=by rw [Bool.eq_iff_iff];simp
     rw [e0];cases h0:decide (l.time=0) with
     | true=>simp
     | false =>
      simp only [beq_self_eq_true,if_true,Option.bind_some,Bool.false_or];generalize (if l.time ≠ e.time then decide (l.time < e.time) else dotLt l.dot e.dot)=b;cases b <;> rfl
    have n2:(e.op.kind==(2:Int))=false:=by simp [h2]
    simp only [h2,n2,Bool.false_eq_true,if_false];by_cases h3:e.op.kind=3
    ·simp only [h3,beq_self_eq_true,if_true,w9,Option.bind_some];cases l.tombs.any (fun y=>decide (y=e.dot)) with
     | true=>rfl
     | false=>simp only [Bool.not_false,if_true,Bool.false_eq_true,if_false];rw [refLay_is (by omega)];rfl
    have n3:(e.op.kind==(3:Int))=false:=by simp [h3]
    simp only [h3,n3,Bool.false_eq_true,if_false];have hd:=dots_of he;by_cases h4:e.op.kind=4
    ·simp only [h4,beq_self_eq_true,if_true];rw [refTombs_fold _ _ _ (by omega)];simp only [lp];rw [refLeft_is _ _ (by omega),Option.bind_some];congr 3;refine List.filter_congr fun x hx=>?_;congr 1;rw [Bool.eq_iff_iff,List.any_eq_true,List.any_eq_true];constructor
     ·rintro ⟨d,hd,h⟩
      have h:=of_decide_eq_true h;rcases (burs_mem _ _ _).1 hd with h3 | h3
      ·exact ⟨d,h3,by simp [h]⟩
      ·exact (apart_of_leaf hl x hx d h3 h).elim
     ·rintro ⟨d,hd,h⟩
      exact ⟨d,(burs_mem _ _ _).2 (.inl hd),h⟩
    have n4:(e.op.kind==(4:Int))=false:=by simp [h4]
    simp only [h4,n4,Bool.false_eq_true,if_false];have h5:e.op.kind=5:=by have:=kind_of he;omega
    simp only [h5,beq_self_eq_true,if_true];rw [refLay_is (by omega)];rfl
   ·have hne:(x6 e.op.kind != l.typ)=true:=by simp [hk]
    simp only [hne,if_true,hk,ne_eq,not_false_eq_true,Bool.false_eq_true,if_false,zeroLf]

end Go.Vv
