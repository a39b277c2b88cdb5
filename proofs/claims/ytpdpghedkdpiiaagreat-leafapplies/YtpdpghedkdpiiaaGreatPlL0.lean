/- Plain laws, as far as they are leaned on. -/
import Derived.Test.YtpdpghedkdpiiaaGreatD
import Derived.Test.YtpdpghedkdpiiaaGreatVvQ
namespace Go.Vv
set_option linter.unusedVariables false
set_option linter.unusedSimpArgs false
open Go
def alnum (b:UInt8):Bool:=(decide (97≤b.toNat)&&decide (b.toNat≤122)) || (decide (65≤b.toNat)&&decide (b.toNat≤90)) || (decide (48≤b.toNat)&&decide (b.toNat≤57))
def other (r:Int):Bool:=!((decide (97≤r)&&decide (r≤122)) || (decide (65≤r)&&decide (r≤90)) || (decide (48≤r)&&decide (r≤57)))
def runeIdx (q:Int→Bool) (s:List UInt8) (i:Nat):Int :=
 if h:i < s.length then (if q (dec s i).1 then i else if (dec s i).2=0 then -1 else runeIdx q s (i+(dec s i).2)) else -1
termination_by s.length - i
decreasing_by omega
theorem dec_width (s:List UInt8) (i:Nat) (h:i < s.length):1≤(dec s i).2:=by
 have hs:i < (⟨s.toArray⟩:ByteArray).size:=by simpa [ByteArray.size] using h
 by_cases ha:((⟨s.toArray⟩:ByteArray)[i]'hs).toNat < 128
 ·unfold dec;rw [decode_ascii _ i hs ha];exact Nat.le_refl _
 ·exact (decode_high _ i hs (by omega)).2
theorem dec_low {s:List UInt8} {i:Nat} {b:UInt8} (hb:s[i]?=some b) (h:b.toNat < 128):dec s i=(b.toNat,1):=by
 have hl:i < s.length:=(List.getElem?_eq_some_iff.1 hb).1
 have hs:i < (⟨s.toArray⟩:ByteArray).size:=by simpa [ByteArray.size] using hl
 have e:((⟨s.toArray⟩:ByteArray)[i]'hs)=b:=by
  have h1:((⟨s.toArray⟩:ByteArray)[i]'hs)=s[i]:=rfl
  rw [h1];rw [List.getElem?_eq_getElem hl] at hb;injection hb
 unfold dec
 rw [decode_ascii _ i hs (by rw [e];exact h),e]
theorem dec_hi {s:List UInt8} {i:Nat} {b:UInt8} (hb:s[i]?=some b) (h:128≤b.toNat):128≤(dec s i).1:=by
 have hl:i < s.length:=(List.getElem?_eq_some_iff.1 hb).1
 have hs:i < (⟨s.toArray⟩:ByteArray).size:=by simpa [ByteArray.size] using hl
 have e:((⟨s.toArray⟩:ByteArray)[i]'hs)=b:=by
  have h1:((⟨s.toArray⟩:ByteArray)[i]'hs)=s[i]:=rfl
  rw [h1];rw [List.getElem?_eq_getElem hl] at hb;injection hb
 exact (decode_high _ i hs (by rw [e];exact h)).1
theorem other_alnum {b:UInt8}:other (b.toNat:Int)=!alnum b:=by
 unfold other alnum
 congr 1
 rw [Bool.eq_iff_iff]
 simp
 omega
theorem rune_all {s:List UInt8} (h:s.all alnum=true):∀ (n i:Nat),s.length - i=n→runeIdx other s i=-1
 | n,i,hn=>by
  rw [runeIdx.eq_def]
  by_cases hi:i < s.length
  ·rw [dif_pos hi]
   have hb:s[i]?=some s[i]:=List.getElem?_eq_getElem hi
   have ha:alnum s[i]=true:=by rw [List.all_eq_true] at h;exact h _ (List.getElem_mem hi)
   have hlow:s[i].toNat < 128:=by
    unfold alnum at ha
    simp only [Bool.or_eq_true,Bool.and_eq_true,decide_eq_true_eq] at ha
    omega
   rw [dec_low hb hlow]
   simp only [other_alnum,ha,Bool.not_true,Bool.false_eq_true,if_false,Nat.one_ne_zero]
   exact rune_all h (s.length - (i+1)) (i+1) rfl
  ·rw [dif_neg hi]
 termination_by n=>n
 decreasing_by omega
theorem rune_some {s:List UInt8} {k:Nat} {b:UInt8} (hk:s[k]?=some b) (hb:alnum b=false):∀ (n i:Nat),k - i=n→i≤k→0≤runeIdx other s i
 | n,i,hn,hik=>by
  have hl:k < s.length:=(List.getElem?_eq_some_iff.1 hk).1
  have hi:i < s.length:=by omega
  rw [runeIdx.eq_def,dif_pos hi]
  by_cases ho:other ((dec s i).1:Nat)=true
  ·rw [if_pos ho];omega
  ·rw [if_neg ho]
   have hc:s[i]?=some s[i]:=List.getElem?_eq_getElem hi
   have hlow:s[i].toNat < 128:=by
    refine Decidable.byContradiction fun hh=>ho ?_
    have:=dec_hi hc (by omega)
    unfold other
    simp
    omega
   rw [dec_low hc hlow] at ho ⊢
   rw [other_alnum] at ho
   have hne:i ≠ k:=by
    rintro rfl
    rw [hc] at hk;injection hk with hk;subst hk
    rw [hb] at ho;exact ho rfl
   simp only [Nat.one_ne_zero,if_false]
   exact rune_some hk hb (k - (i+1)) (i+1) rfl (by omega)
 termination_by n=>n
 decreasing_by omega

def nameB (s:yn):Bool:=decide (1≤s.length)&&decide (s.length≤12)&&s.all alnum
def pathB (p:List yn):Bool:=decide (1≤p.length)&&decide (p.length≤3)&&p.all nameB
theorem bnd1 (n:Nat):decide ((n:Int) ≥ 1)=decide (1≤n):=decide_eq_decide.2 (by omega)
theorem bnd12 (n:Nat):decide ((n:Int)≤12)=decide (n≤12):=decide_eq_decide.2 (by omega)
theorem bnd3 (n:Nat):decide ((n:Int)≤3)=decide (n≤3):=decide_eq_decide.2 (by omega)
theorem ref04IsName_is (s:yn):ref04IsName s=some (nameB s):=by
 unfold ref04IsName nameB
 rw [loopL_all alnum false]
 ·split
  ·rename_i h
   simp only [Bool.or_eq_true,decide_eq_true_eq] at h
   congr 1
   rw [eq_comm,Bool.and_eq_false_iff,Bool.and_eq_false_iff]
   left
   rcases h with h | h
   ·exact .inl (decide_eq_false (by omega))
   ·exact .inr (decide_eq_false (by omega))
  ·rename_i h
   simp only [Bool.or_eq_true,decide_eq_true_eq] at h
   have h1:1≤s.length:=by omega
   have h2:s.length≤12:=by omega
   cases ha:s.all alnum <;> simp [h1,h2]
 ·intro i x _
  unfold alnum
  have e:(((decide ((x.toNat:Int) ≥ 97))&&(decide ((x.toNat:Int)≤122)) || (decide ((x.toNat:Int) ≥ 65))&&(decide ((x.toNat:Int)≤90))) || (decide ((x.toNat:Int) ≥ 48))&&(decide ((x.toNat:Int)≤57))) =
    (decide (97≤x.toNat)&&decide (x.toNat≤122) || decide (65≤x.toNat)&&decide (x.toNat≤90) || decide (48≤x.toNat)&&decide (x.toNat≤57)):=by
   rw [Bool.eq_iff_iff];simp;omega
  rw [e]
  generalize (decide (97≤x.toNat)&&decide (x.toNat≤122) || decide (65≤x.toNat)&&decide (x.toNat≤90) || decide (48≤x.toNat)&&decide (x.toNat≤57))=b
  cases b <;> rfl
theorem rune_loop (q:Int→Bool) (s:yn) {f:Nat→Option (Out Int Nat)} (hf:∀ i,f i=if i < s.length then (if q (dec s i).1=true then some (.ret (i:Int)) else some (.nxt (i+(dec s i).2))) else some (.brk i)) :
  ∀ (k i:Nat),s.length - i=k→lp (wP f i) (fun _=>some (-1:Int))=some (runeIdx q s i)
 | k,i,hk=>by
  rw [loopW_eq,runeIdx.eq_def,hf]
  by_cases h:i < s.length
  ·have hw:=dec_width s i h
   rw [if_pos h,dif_pos h]
   by_cases hq:q (dec s i).1=true
   ·simp [hq]
   ·have h0:¬ (dec s i).2=0:=by omega
    simp only [if_neg hq,if_neg h0]
    exact rune_loop q s hf (s.length - (i+(dec s i).2)) _ rfl
  ·rw [if_neg h,dif_neg h];rfl
 termination_by k=>k
 decreasing_by omega
theorem stringsContains_other (s:yn):wo s (fun x=>qU x)=some (!s.all alnum):=by
 have e:(fun x=>qU x)=fun x=>some (other x):=by
  funext x
  unfold qU other
  congr 1
  rw [Bool.eq_iff_iff];simp
 unfold wo vY vK
 rw [e,rune_loop other s (fun i=>by simp) _ 0 rfl]
 simp only [Option.bind_some]
 congr 1
 cases h:s.all alnum with
 | true=>rw [rune_all h _ 0 rfl];rfl
 | false =>
  rw [List.all_eq_false] at h
  obtain ⟨b,hb,hn⟩:=h
  obtain ⟨k,hk,rfl⟩:=List.getElem_of_mem hb
  have:=rune_some (List.getElem?_eq_getElem hk) (by simpa using hn) _ 0 rfl (Nat.zero_le _)
  simp [this]
theorem opIsName_is (s:yn):opIsName s=some (nameB s):=by
 unfold opIsName nameB
 rw [stringsContains_other,bnd1,bnd12]
 cases h1:decide (1≤s.length) <;> cases h2:decide (s.length≤12) <;> simp
theorem pathAll {p:List yn} {f:yn→Option Bool} (hf:∀ x,f x=some (nameB x)):(lp (yu (fun (_:Nat) (x1:yn) (_:Unit)=>(((f x1).bind fun v9=>(if (!v9)=true then some (.ret false) else some (.nxt ()))):Option (Out _ Unit))) p 0 ()) fun (_:Unit)=>some ((decide (((p).length:Int) ≥ (1:Int)))&&(decide (((p).length:Int)≤(3:Int)))))=some (pathB p):=by
 rw [loopL_all nameB false _ _ (fun i x _=>by rw [hf];cases nameB x <;> rfl),bnd1,bnd3]
 unfold pathB
 cases h:p.all nameB <;> simp
theorem ref04MayPath_is (p:List yn):ref04MayPath p=some (pathB p):=pathAll ref04IsName_is
theorem contains_is {f:yn→Option Bool} {q:yn→Bool} (p:List yn) (hf:∀ x ∈ p,f x=some (q x)):xH p f=some (p.any q):=by
 unfold xH wF
 rw [first_loop p hf];simp only [Option.bind_some,firstI_any]
theorem opMayPath_is (p:List yn):opMayPath p=some (pathB p):=by
 unfold opMayPath pathB
 rw [contains_is (q:=fun s=>!nameB s) p (fun x _=>by unfold opMayPathC1;rw [opIsName_is];rfl),bnd1,bnd3]
 have e:p.any (fun s=>!nameB s)=!p.all nameB:=by rw [Bool.eq_iff_iff];simp
 rw [e]
 cases h1:decide (1≤p.length) <;> cases h2:decide (p.length≤3) <;> simp
def actorB (a:GActor):Bool:=decide (a.rep < 16)&&decide (a.inc ≥ 1)&&decide (a.inc≤4)
def vd (d:GDot):Bool:=actorB d.actor&&decide (d.seq ≥ 1)&&decide (d.seq≤1048576)
theorem dotMay_is (d:GDot):dotMay d=some (vd d):=rfl
theorem ref03MayActor_is (a:GActor):qi a=some (actorB a):=by
 unfold qi actorB
 have:decide (a.rep≤15)=decide (a.rep < 16):=decide_eq_decide.2 (by omega)
 rw [this]
theorem ref03May_is (d:GDot):qH d=some (vd d):=by unfold qH;rw [ref03MayActor_is];rfl
def dotLt (a b:GDot):Bool:=if a.actor.rep ≠ b.actor.rep then decide (a.actor.rep < b.actor.rep) else if a.actor.inc ≠ b.actor.inc then decide (a.actor.inc < b.actor.inc) else decide (a.seq < b.seq)
theorem ref03Less_is (a b:GDot):qc a b=some (dotLt a b):=by
 unfold qc dotLt
 by_cases h1:a.actor.rep=b.actor.rep <;> by_cases h2:a.actor.inc=b.actor.inc <;> simp [h1,h2]
def cmpI (a b:Int):Int:=if a < b then -1 else if b < a then 1 else 0
theorem cmpU8is (a b:Int):vG a b=some (cmpI a b):=by
 unfold vG vW cmpI;simp only [bne_self_eq_false,Option.bind_some,Bool.false_eq_true,if_false,decide_eq_true_eq,gt_iff_lt]
 split <;> (try split) <;> rfl
theorem cmpU32is (a b:Int):vq a b=some (cmpI a b):=by
 unfold vq vF cmpI;simp only [bne_self_eq_false,Option.bind_some,Bool.false_eq_true,if_false,decide_eq_true_eq,gt_iff_lt]
 split <;> (try split) <;> rfl
theorem cmpU64is (a b:Int):wx a b=some (cmpI a b):=by
 unfold wx vE cmpI;simp only [bne_self_eq_false,Option.bind_some,Bool.false_eq_true,if_false,decide_eq_true_eq,gt_iff_lt]
 split <;> (try split) <;> rfl
def or2 (a b:Int):Int:=if a ≠ 0 then a else b
theorem cmpOr2_is (a b:Int):cmpOrInt [a,b]=some (or2 a b):=by
 unfold cmpOrInt or2
 by_cases h1:a=0 <;> by_cases h2:b=0 <;> simp [yu,h1,h2]
def actorCmp (a b:GActor):Int:=or2 (cmpI a.rep b.rep) (cmpI a.inc b.inc)
def dotCmp (a b:GDot):Int:=or2 (actorCmp a.actor b.actor) (cmpI a.seq b.seq)
theorem dotXcompare_is (a b:GActor):dotXcompare a b=some (actorCmp a b):=by
 unfold dotXcompare;rw [cmpU8is,cmpU32is];simp only [Option.bind_some];rw [cmpOr2_is];rfl
theorem dotCompare_is (a b:GDot):vw a b=some (dotCmp a b):=by
 unfold vw;rw [dotXcompare_is,cmpU64is];simp only [Option.bind_some];rw [cmpOr2_is];rfl
theorem dotCmp_lt (a b:GDot):decide (dotCmp a b ≥ 0)=!dotLt a b:=by
 unfold dotCmp actorCmp dotLt cmpI or2
 grind

def rising:List GDot→Bool
 | a::b::r=>dotLt a b&&rising (b::r)
 | _=>true
def typeB (k:Int):Int:=if k=1 then 1 else if k=2 then 2 else if k=3 ∨ k=4 then 3 else if k=5 then 4 else 0
def opB (o:GOp):Bool:=decide (1≤o.kind)&&decide (o.kind≤5)&&pathB o.path&&decide (o.text.length≤40)&&decide (o.dots.length≤64) &&
 (if o.kind=1 then decide (-1000000≤o.n)&&decide (o.n≤1000000)&&(o.text==[])&&decide (o.dots.length=0)
   else decide (o.n=0)&&(decide (o.kind=4) || decide (o.dots.length=0))&&(o.dots.all vd&&rising o.dots))
theorem ref04Type_is (k:Int):ref04Type k=some (typeB k):=by unfold ref04Type typeB;grind
theorem opType_is (k:Int):opType k=some (typeB k):=by
 unfold opType opXof typeB
 by_cases h:k < 1 ∨ 5 < k
 ·have h':(decide (k < 1) || decide (k > 5))=true:=by simp;omega
  rw [if_pos h'];grind
 ·have h':¬ (decide (k < 1) || decide (k > 5))=true:=by simp;omega
  rw [if_neg h']
  rcases (show k=1 ∨ k=2 ∨ k=3 ∨ k=4 ∨ k=5 by omega) with rfl | rfl | rfl | rfl | rfl <;> rfl
def x9 (ds:List GDot) (i:Nat) (x:GDot):Bool:=decide (i=0) || dotLt (ds.getD (i - 1) default) x
theorem rising_loop (ds:List GDot) {g:Nat→GDot→Unit→Option (Out Bool Unit)}
  (hg:∀ i x,ds[i]?=some x→g i x ()=if (vd x&&x9 ds i x)=true then some (.nxt ()) else some (.ret false)) :
  lp (yu g ds 0 ()) (fun _=>some true)=some (ds.all vd&&rising ds):=by
 have key:∀ (L pre:List GDot),ds=pre++L→lp (yu g L pre.length ()) (fun _=>some true)=some (L.all vd&&rising (match pre.getLast? with | some y=>y::L | none=>L)):=by
  intro L
  induction L with
  | nil=>intro pre h;cases hp:pre.getLast? <;> simp [yu,rising]
  | cons x t ih =>
   intro pre h
   have hx:ds[pre.length]?=some x:=by rw [h];simp
   have ih':=ih (pre++[x]) (by rw [h];simp)
   simp only [List.length_append,List.length_cons,List.length_nil,Nat.zero_add,List.getLast?_append,List.getLast?_singleton,Option.some_or] at ih'
   simp only [yu,hg _ _ hx]
   cases hp:pre.getLast? with
   | none =>
    have hpre:pre=[]:=List.getLast?_eq_none_iff.1 hp
    subst hpre
    simp only [List.length_nil,Nat.zero_add] at ih' ⊢
    cases hd:vd x <;> simp [x9,hd,ih']
   | some y =>
    have hne:pre ≠ []:=by rintro rfl;simp at hp
    have h0:0 < pre.length:=List.length_pos_iff.2 hne
    have hy:ds.getD (pre.length - 1) default=y:=by
     rw [List.getD_eq_getElem?_getD,h,List.getElem?_append_left (by omega)]
     rw [List.getLast?_eq_getElem?] at hp;rw [hp];rfl
    have ha:x9 ds pre.length x=dotLt y x:=by
     unfold x9;rw [hy]
     have:decide (pre.length=0)=false:=decide_eq_false (by omega)
     rw [this];rfl
    rw [ha]
    cases hd:vd x <;> cases hlt:dotLt y x <;> simp [hd,hlt,ih',rising]
 have:=key ds [] rfl
 simpa using this
theorem wrap_pred {i:Nat} (h0:0 < i) (hl:i≤9223372036854775807):(IntKind.wrap .i64 ((i:Int) - 1))=((i - 1:Nat):Int):=by rw [w64n (by omega)];omega
theorem opXdrops_is (o:GOp):opXdrops o=some (decide (o.n=0)&&decide (o.text.length≤40)&&decide (o.dots.length≤64)&&(o.dots.all vd&&rising o.dots)):=by
 unfold opXdrops
 by_cases hc:o.n ≠ 0 ∨ 40 < o.text.length ∨ 64 < o.dots.length
 ·have h':((o.n != 0 || decide (((o.text).length:Int) > 40)) || decide (((o.dots).length:Int) > 64))=true:=by simp;omega
  rw [if_pos h']
  congr 1
  rw [eq_comm,Bool.and_eq_false_iff,Bool.and_eq_false_iff,Bool.and_eq_false_iff]
  left
  rcases hc with hc | hc | hc
  ·exact .inl (.inl (decide_eq_false hc))
  ·exact .inl (.inr (decide_eq_false (by omega)))
  ·exact .inr (decide_eq_false (by omega))
 ·have h':¬ ((o.n != 0 || decide (((o.text).length:Int) > 40)) || decide (((o.dots).length:Int) > 64))=true:=by simp;omega
  rw [if_neg h',rising_loop]
  ·have h1:o.n=0:=by omega
   have h2:o.text.length≤40:=by omega
   have h3:o.dots.length≤64:=by omega
   simp [h1,h2,h3]
  ·intro i x hx
   have hi:i < o.dots.length:=(List.getElem?_eq_some_iff.1 hx).1
   simp only [dotMay_is,Option.bind_some]
   by_cases h0:i=0
   ·subst h0
    cases hd:vd x <;> simp [qC,x9,hd]
   ·have h1:decide ((i:Int) > 0)=true:=by simp;omega
    have hw:=wrap_pred (i:=i) (by omega) (by omega)
    rw [hw,Int.toNat_natCast]
    have ha:x9 o.dots i x=dotLt (o.dots.getD (i - 1) default) x:=by unfold x9;rw [decide_eq_false h0];rfl
    rw [yH (by intro _;omega),h1,ha]
    generalize o.dots.getD (i - 1) default=y
    cases hd:vd x
    ·simp
    ·have e:=dotCmp_lt y x
     simp only [dotCompare_is,Bool.not_true,Bool.false_or,Bool.true_and,BEq.rfl,if_true,Option.bind_some,e]
     cases dotLt y x <;> rfl
theorem nil_rises {ds:List GDot} (h:ds.length=0):(ds.all vd&&rising ds)=true:=by
 have:ds=[]:=List.eq_nil_of_length_eq_zero h
 subst this;rfl
theorem lenB {α:Type} (l:List α):((l.length:Int)==0)=decide (l.length=0):=by
 rw [Bool.eq_iff_iff];simp
theorem opMay_is (o:GOp):opMay o=some (opB o):=by
 unfold opMay opXof opB
 by_cases h:o.kind < 1 ∨ 5 < o.kind
 ·have h':(decide (o.kind < 1) || decide (o.kind > 5))=true:=by simp;omega
  rw [if_pos h']
  have h2:(decide (1≤o.kind)&&decide (o.kind≤5))=false:=by rw [Bool.and_eq_false_iff];simp;omega
  simp [h2]
 ·have h':¬ (decide (o.kind < 1) || decide (o.kind > 5))=true:=by simp;omega
  rw [if_neg h',opMayPath_is]
  have hl:=nil_rises (ds:=o.dots)
  rcases (show o.kind=1 ∨ o.kind=2 ∨ o.kind=3 ∨ o.kind=4 ∨ o.kind=5 by omega) with hk | hk | hk | hk | hk <;> rw [hk] <;>
   simp only [vT,Int.toNat,Option.bind_some,callOp,opXadds,opXplain,opXdrops_is,lenB] <;> generalize (o.dots.all vd&&rising o.dots)=R at hl ⊢ <;> cases hp:pathB o.path <;> simp [hk] <;> grind
theorem ref04May_is (o:GOp):ref04May o=some (opB o):=by
 unfold ref04May opB
 rw [ref04Type_is]
 simp only [Option.bind_some,ref04MayPath_is]
 have hl:=nil_rises (ds:=o.dots)
 by_cases h:o.kind < 1 ∨ 5 < o.kind
 ·have h2:(decide (1≤o.kind)&&decide (o.kind≤5))=false:=by rw [Bool.and_eq_false_iff];simp;omega
  have h3:typeB o.kind=0:=by unfold typeB;grind
  simp [h2,h3]
 ·have h3:(typeB o.kind==0)=false:=by unfold typeB;grind
  have h4:(decide (1≤o.kind)&&decide (o.kind≤5))=true:=by simp;omega
  by_cases hb:40 < o.text.length ∨ 64 < o.dots.length
  ·have e1:(decide ((o.text.length:Int) > 40) || decide ((o.dots.length:Int) > 64))=true:=by simp;omega
   have e2:(decide (o.text.length≤40)&&decide (o.dots.length≤64))=false:=by rw [Bool.and_eq_false_iff];simp;omega
   rw [h3,h4]
   cases hp:pathB o.path <;> simp at e1 e2 ⊢ <;> grind
  ·rw [rising_loop]
   ·have e1:decide ((o.text.length:Int) > 40)=false:=decide_eq_false (by omega)
    have e2:decide ((o.dots.length:Int) > 64)=false:=decide_eq_false (by omega)
    have e3:decide (o.text.length≤40)=true:=decide_eq_true (by omega)
    have e4:decide (o.dots.length≤64)=true:=decide_eq_true (by omega)
    have e5:decide ((o.dots.length:Int) > 0)=!decide (o.dots.length=0):=by
     by_cases hd:o.dots.length=0
     ·rw [decide_eq_true hd,decide_eq_false (by omega)];rfl
     ·rw [decide_eq_false hd,decide_eq_true (by omega)];rfl
    rw [h3,h4,e1,e2,e3,e4,e5,lenB]
    generalize (o.dots.all vd&&rising o.dots)=R at hl ⊢
    cases hp:pathB o.path
    ·simp
    ·by_cases k1:o.kind=1
     ·simp [k1]
     ·by_cases n0:o.n=0 <;> by_cases k4:o.kind=4 <;> by_cases d0:o.dots.length=0 <;> simp [k1,n0,k4,d0]
   ·intro i x hx
    have hi:i < o.dots.length:=(List.getElem?_eq_some_iff.1 hx).1
    simp only [ref03May_is,Option.bind_some]
    by_cases h0:i=0
    ·subst h0
     cases hd:vd x <;> simp [qC,x9]
    ·have h1:decide ((i:Int) > 0)=true:=by simp;omega
     have hw:=wrap_pred (i:=i) (by omega) (by omega)
     rw [hw,Int.toNat_natCast,Int.toNat_natCast]
     have ha:x9 o.dots i x=dotLt (o.dots.getD (i - 1) default) x:=by unfold x9;rw [decide_eq_false h0];rfl
     have hx':o.dots.getD i default=x:=by rw [List.getD_eq_getElem?_getD,hx];rfl
     rw [yH (by intro _;omega),yH (by intro _;omega),h1,ha,hx']
     generalize o.dots.getD (i - 1) default=y
     cases hd:vd x
     ·simp
     ·simp only [ref03Less_is,Bool.not_true,Bool.false_or,Bool.true_and,BEq.rfl,if_true,Option.bind_some]
      cases dotLt y x <;> rfl
def q9 (e:GEvent):Bool:=vd e.dot&&decide (e.time ≥ 1)&&decide (e.time≤1099511627776)&&opB e.op
theorem opMayEvent_is (e:GEvent):opMayEvent e=some (q9 e):=by
 unfold opMayEvent q9;rw [dotMay_is,opMay_is];simp only [Option.bind_some]
 cases (vd e.dot&&decide (e.time ≥ 1)&&decide (e.time≤1099511627776)) <;> rfl
theorem ref04MayEvent_is (e:GEvent):qh e=some (q9 e):=by
 unfold qh q9;rw [ref03May_is,ref04May_is];simp only [Option.bind_some]
 cases (vd e.dot&&decide (e.time ≥ 1)&&decide (e.time≤1099511627776)) <;> rfl
theorem same_loop {α:Type} [DecidableEq α] (M:List α) {eq:α→α→Bool} (he:∀ a b,eq a b=decide (a=b)) {f:Nat→α→Unit→Option (Out Bool Unit)} :
  ∀ (L:List α) (i:Nat),L.length+i=M.length→(∀ j x,L[j]?=some x→f (i+j) x ()=(vT M ((i+j:Nat):Int)).bind fun y=>if (!eq x y)=true then some (.ret false) else some (.nxt ())) →
  yu f L i ()=if L=M.drop i then some (.inr ()) else some (.inl false)
 | [],i,hl,_=>by
  rw [List.drop_of_length_le (by simp at hl;omega)];rfl
 | x::t,i,hl,h=>by
  simp only [List.length_cons] at hl
  have hi:i < M.length:=by omega
  have h0:=h 0 x rfl
  simp only [Nat.add_zero] at h0
  rw [idx_at hi] at h0
  have ih:=same_loop M he (f:=f) t (i+1) (by omega) (fun j y hj=>by have:=h (j+1) y hj;rw [show i+1+j=i+(j+1) by omega];exact this)
  have e:M.drop i=M[i]::M.drop (i+1):=(List.getElem_cons_drop hi).symm
  simp only [yu,h0,Option.bind_some,he,e]
  by_cases hx:x=M[i]
  ·simp only [hx,decide_true,Bool.not_true,Bool.false_eq_true,if_false,ih,List.cons.injEq,true_and]
  ·have hne:¬ (x::t=M[i]::M.drop (i+1)):=fun hh=>hx (List.cons.inj hh).1
   simp only [decide_eq_false hx,Bool.not_false,if_true,if_neg hne]
theorem dotEq (a b:GDot):(a.actor.rep==b.actor.rep&&(a.actor.inc==b.actor.inc&&(a.seq==b.seq&&true)))=decide (a=b):=by
 rcases a with ⟨⟨a1,a2⟩,a3⟩;rcases b with ⟨⟨b1,b2⟩,b3⟩
 rw [Bool.eq_iff_iff];simp [and_assoc]
theorem slicesEqualDot_is (L M:List GDot):vP L M=some (decide (L=M)):=by
 unfold vP
 by_cases hl:L.length=M.length
 ·have e:((L.length:Int) != (M.length:Int))=false:=by simp;omega
  rw [e,same_loop M dotEq L 0 (by omega) (fun j x hj=>by simp)]
  by_cases h:L=M <;> simp [h]
 ·have e:((L.length:Int) != (M.length:Int))=true:=by simp;omega
  rw [e,decide_eq_false (fun h=>hl (by rw [h]))];rfl
section
variable {α ρ:Type}
def allI (g:Nat→α→Bool) (L:List α):Bool:=L.zipIdx.all fun p=>g p.2 p.1
theorem allI_iff {g:Nat→α→Bool} {L:List α}:allI g L=true ↔ ∀ i x,L[i]?=some x→g i x=true:=by
 unfold allI
 rw [List.all_eq_true]
 constructor
 ·intro h i x hx
  exact h (x,i) (List.mem_zipIdx_iff_getElem?.2 hx)
 ·rintro h ⟨x,i⟩ hx
  exact h i x (List.mem_zipIdx_iff_getElem?.1 hx)
theorem loopL_allI (g:Nat→α→Bool) {r:ρ} {f:Nat→α→Unit→Option (Out ρ Unit)}:∀ (L:List α) (k:Nat),(∀ i x,L[i]?=some x→f (k+i) x ()=if g (k+i) x=true then some (.nxt ()) else some (.ret r)) →
  yu f L k ()=if ((L.zipIdx k).all fun p=>g p.2 p.1)=true then some (.inr ()) else some (.inl r)
 | [],_,_=>rfl
 | x::t,k,h=>by
  have h0:=h 0 x rfl
  simp only [Nat.add_zero] at h0
  have ih:=loopL_allI g (f:=f) (r:=r) t (k+1) (fun i y hy=>by have:=h (i+1) y (by simpa using hy);rw [show k+1+i=k+(i+1) by omega];exact this)
  simp only [yu,h0,List.zipIdx_cons,List.all_cons]
  by_cases hg:g k x=true
  ·simp only [hg,if_true,ih,Bool.true_and]
  ·simp only [hg,Bool.false_eq_true,if_false,Bool.false_and]
theorem lp_all {σ:Type} (g:Nat→α→Bool) {r:σ} {L:List α} {f:Nat→α→Unit→Option (Out σ Unit)} {rest:Unit→Option σ} (hf:∀ i x,L[i]?=some x→f i x ()=if g i x=true then some (.nxt ()) else some (.ret r)) :
  lp (yu f L 0 ()) rest=if allI g L=true then rest () else some r:=by
 rw [loopL_allI g L 0 (fun i x hx=>by simpa using hf i x hx)]
 unfold allI
 split <;> rfl
theorem lp_all0 {σ:Type} (g:α→Bool) {r:σ} {L:List α} {f:Nat→α→Unit→Option (Out σ Unit)} {rest:Unit→Option σ} (hf:∀ i x,L[i]?=some x→f i x ()=if g x=true then some (.nxt ()) else some (.ret r)) :
  lp (yu f L 0 ()) rest=if L.all g=true then rest () else some r:=by
 rw [lp_all (fun _=>g) hf]
 have:allI (fun _=>g) L=L.all g:=by
  rw [Bool.eq_iff_iff,allI_iff,List.all_eq_true]
  exact ⟨fun h x hx=>by obtain ⟨i,hi⟩:=List.mem_iff_getElem?.1 hx;exact h i x hi,fun h i x hx=>h x (List.mem_of_getElem? hx)⟩
 rw [this]
end
theorem wrap_succ {j:Nat} (hl:j+1≤maxLen):IntKind.wrap .i64 (((j+1:Nat):Int) - 1)=(j:Int):=by
 simp only [maxLen] at hl;rw [w64n (by omega)];omega
theorem wrap_add1 {j:Nat} (hl:j+1≤maxLen):IntKind.wrap .i64 ((j:Int)+1)=((j+1:Nat):Int):=by
 simp only [maxLen] at hl;rw [w64n (by omega)];omega
theorem pos_succ (j:Nat):decide (((j+1:Nat):Int) > 0)=true:=decide_eq_true (by omega)
def timeB (n:Int):Bool:=decide (n ≥ 1)&&decide (n≤1099511627776)
def aheadI (a b:GItem):Bool:=if a.time ≠ b.time then decide (a.time < b.time) else dotLt a.dot b.dot
theorem leafXisTime_is (n:Int):leafXisTime n=some (timeB n):=rfl
theorem leafXisText_is (s:yn):qx s=some (decide (s.length≤40)):=by unfold qx;rw [decide_eq_decide.2 (show ((s.length:Int)≤40) ↔ s.length≤40 by omega)]
theorem dotCmp_neg (a b:GDot):decide (dotCmp a b < 0)=dotLt a b:=by
 have h:=dotCmp_lt a b
 have:decide (dotCmp a b < 0)=!decide (dotCmp a b ≥ 0):=by rw [Bool.eq_iff_iff];simp
 rw [this,h,Bool.not_not]
theorem leafAhead_is (a:Int) (d:GDot) (b:Int) (o:GDot):qy a d b o=some (if a ≠ b then decide (a < b) else dotLt d o):=by
 unfold qy qd
 rw [cmpU64is,dotCompare_is]
 simp only [Option.bind_some,cmpOr2_is]
 congr 1
 by_cases h:a=b
 ·subst h
  have:cmpI a a=0:=by unfold cmpI;simp
  simp [or2,this,dotCmp_neg]
 ·have:cmpI a b ≠ 0:=by unfold cmpI;split <;> (try split) <;> omega
  simp only [or2,this,ne_eq,not_false_eq_true,if_true,h]
  unfold cmpI;rw [Bool.eq_iff_iff];simp only [decide_eq_true_eq];split <;> (try split) <;> omega
theorem ref05Ahead_is (a:Int) (d:GDot) (b:Int) (o:GDot):vt a d b o=some (if a ≠ b then decide (a < b) else dotLt d o):=by
 unfold vt
 by_cases h:a=b <;> simp [h,ref03Less_is]
def prevI {α:Type} [Inhabited α] (L:List α) (i:Nat):α:=L.getD (i - 1) default
def qk (timed:Bool) (x:GItem):Bool:=vd x.dot&&decide (x.text.length≤40)&&(if timed then timeB x.time else decide (x.time=0))
def riseB (L:List GItem):Bool:=allI (fun i x=>decide (i=0) || aheadI (prevI L i) x) L
def onceB (L:List GItem):Bool:=decide ((L.map (·.dot)).Nodup)
theorem eqb_iff (a b:GDot):GDot.eqb a b=decide (a=b):=by unfold GDot.eqb;exact dotEq a b
def qM (m:List (GDot×Int)):List GDot:=m.map (·.1)
theorem mput_keys (m:List (GDot×Int)) (k:GDot) (v:Int):qM (mput GDot.eqb m k v)=if k ∈ qM m then qM m else qM m++[k]:=by
 induction m with
 | nil=>simp [mput,qM]
 | cons e r ih =>
  simp only [mput,eqb_iff]
  by_cases h:k=e.1
  ·simp [h,qM]
  ·simp only [decide_eq_false h,Bool.false_eq_true,if_false,qM,List.map_cons,List.mem_cons] at ih ⊢
   rw [ih]
   by_cases h2:k ∈ r.map (·.1) <;> simp [h,h2]
theorem twice_fold:∀ (L:List GItem) (m:List (GDot×Int)),(qM m).Nodup →
  (L.foldl (fun s x=>mput GDot.eqb s x.dot (IntKind.wrap .i64 ((w6 GDot.eqb 0 s x.dot)+1))) m).length≤m.length+L.length ∧
  ((L.foldl (fun s x=>mput GDot.eqb s x.dot (IntKind.wrap .i64 ((w6 GDot.eqb 0 s x.dot)+1))) m).length=m.length+L.length ↔ (qM m++L.map (·.dot)).Nodup)
 | [],m,h=>by simp [h]
 | x::t,m,h=>by
  simp only [List.foldl_cons]
  have hk:=mput_keys m x.dot (IntKind.wrap .i64 ((w6 GDot.eqb 0 m x.dot)+1))
  generalize hm:mput GDot.eqb m x.dot (IntKind.wrap .i64 ((w6 GDot.eqb 0 m x.dot)+1))=m' at hk
  have hl:m'.length=(qM m').length:=by simp [qM]
  have hl0:m.length=(qM m).length:=by simp [qM]
  by_cases hx:x.dot ∈ qM m
  ·rw [if_pos hx] at hk
   have ih:=twice_fold t m' (by rw [hk];exact h)
   rw [hk] at ih hl
   refine ⟨by simp only [List.length_cons];omega,?_⟩
   constructor
   ·intro he;simp only [List.length_cons] at he;omega
   ·intro hn
    rw [List.nodup_append] at hn
    exact absurd rfl (hn.2.2 _ hx _ (by simp))
  ·rw [if_neg hx] at hk
   have hnd:(qM m++[x.dot]).Nodup:=by
    rw [List.nodup_append];refine ⟨h,by simp,fun a ha b hb=>?_⟩
    simp at hb;subst hb;rintro rfl;exact hx ha
   have ih:=twice_fold t m' (by rw [hk];exact hnd)
   rw [hk] at ih hl
   simp only [List.length_append,List.length_cons,List.length_nil] at hl
   refine ⟨by simp only [List.length_cons];omega,?_⟩
   have e:qM m++[x.dot]++t.map (·.dot)=qM m++(x::t).map (·.dot):=by simp
   rw [← e,← ih.2]
   simp only [List.length_cons];omega
theorem leafXtwice_is (L:List GItem):leafXtwice L=some (!onceB L):=by
 unfold leafXtwice
 rw [loopL_fold (fun s x=>mput GDot.eqb s x.dot (IntKind.wrap .i64 ((w6 GDot.eqb 0 s x.dot)+1))) L 0 [] (fun _ _ _ _=>rfl)]
 have h:=twice_fold L [] (by simp [qM])
 simp only [List.length_nil,Nat.zero_add,qM,List.map_nil,List.nil_append] at h
 simp only [lp_inr,onceB]
 congr 1
 generalize List.length (List.foldl _ _ _)=n at h ⊢
 by_cases hn:(L.map (·.dot)).Nodup
 ·have:=h.2.2 hn
  rw [decide_eq_true hn,decide_eq_false (by omega)];rfl
 ·have h1:n ≠ L.length:=fun e=>hn (h.2.1 e)
  rw [decide_eq_false hn,decide_eq_true (by omega)];rfl
theorem leafXitems_is {L:List GItem} (hl:L.length≤maxLen) (timed:Bool):qW L timed=some (L.all (qk timed)&&riseB L&&onceB L):=by
 unfold qW
 rw [lp_all (r:=false) (fun i x=>qk timed x&&(decide (i=0) || aheadI (prevI L i) x))]
 ·rw [leafXtwice_is]
  have e:allI (fun i x=>qk timed x&&(decide (i=0) || aheadI (prevI L i) x)) L=(L.all (qk timed)&&riseB L):=by
   rw [Bool.eq_iff_iff,Bool.and_eq_true,riseB,allI_iff,allI_iff,List.all_eq_true]
   constructor
   ·intro h
    exact ⟨fun x hx=>by obtain ⟨i,hi⟩:=List.mem_iff_getElem?.1 hx;have:=h i x hi;simp only [Bool.and_eq_true] at this;exact this.1,fun i x hx=>by have:=h i x hx;simp only [Bool.and_eq_true] at this;exact this.2⟩
   ·rintro ⟨h1,h2⟩ i x hx
    simp only [Bool.and_eq_true]
    exact ⟨h1 x (List.mem_of_getElem? hx),h2 i x hx⟩
  rw [e]
  simp only [Option.bind_some,Bool.not_not]
  cases L.all (qk timed)&&riseB L <;> simp
 ·intro i x hx
  have hi:i < L.length:=(List.getElem?_eq_some_iff.1 hx).1
  simp only [dotMay_is,leafXisText_is,leafXisTime_is,Option.bind_some,leafAhead_is]
  have hb:qk timed x=(vd x.dot&&decide (x.text.length≤40)&&(timed==timeB x.time)&&(timed || decide (x.time=0))):=by
   unfold qk
   cases timed
   ·by_cases h0:x.time=0
    ·simp [h0,show timeB 0=false from rfl]
    ·simp [h0]
   ·simp
  rw [hb]
  cases hd:vd x.dot
  ·simp
  cases ht:decide (x.text.length≤40)
  ·simp
  by_cases htt:timed=timeB x.time
  ·have hz:(x.time != 0)=!decide (x.time=0):=by rw [Bool.eq_iff_iff];simp
   have e1:(timed==timeB x.time)=true:=by simpa using htt
   rw [hz,e1]
   cases hzz:(timed || decide (x.time=0))
   ·have:(!timed&&!decide (x.time=0))=true:=by rw [← Bool.not_or,hzz];rfl
    simp [this]
   have:(!timed&&!decide (x.time=0))=false:=by rw [← Bool.not_or,hzz];rfl
   rw [this]
   rcases i with _ | j
   ·simp [qC,htt]
   ·rw [wrap_succ (by simp only [maxLen] at hl ⊢;omega),pos_succ]
    have hj:(j:Int) < (L.length:Int):=by omega
    simp [qC,hj,prevI,aheadI,htt]
    by_cases hq:(L[j]?.getD default).time=x.time
    ·cases hdl:dotLt (L[j]?.getD default).dot x.dot <;> simp [hq,hdl]
    ·by_cases hlt:(L[j]?.getD default).time < x.time
     ·simp [hq,hlt,Int.not_le.2 hlt]
     ·simp [hq,hlt,Int.not_lt.1 hlt]
  ·have e1:(timed==timeB x.time)=false:=by simpa using htt
   rw [e1];simp [htt]

theorem itemEq (a b:GItem):(a.time==b.time&&(a.dot.actor.rep==b.dot.actor.rep&&(a.dot.actor.inc==b.dot.actor.inc&&(a.dot.seq==b.dot.seq&&(a.text==b.text&&true)))))=decide (a=b):=by
 rcases a with ⟨a0,⟨⟨a1,a2⟩,a3⟩,a4⟩;rcases b with ⟨b0,⟨⟨b1,b2⟩,b3⟩,b4⟩
 rw [Bool.eq_iff_iff];simp [and_assoc]
theorem slicesEqualItem_is (L M:List GItem):vA L M=some (decide (L=M)):=by
 unfold vA
 by_cases hl:L.length=M.length
 ·have e:((L.length:Int) != (M.length:Int))=false:=by simp;omega
  rw [e,same_loop M itemEq L 0 (by omega) (fun j x hj=>by simp)]
  by_cases h:L=M <;> simp [h]
 ·have e:((L.length:Int) != (M.length:Int))=true:=by simp;omega
  rw [e,decide_eq_false (fun h=>hl (by rw [h]))];rfl
theorem leafSame_is (a b:GLeaf):qK a b=some (decide (a=b)):=by
 unfold qK
 simp only [slicesEqualItem_is,slicesEqualDot_is,dotEq]
 rcases a with ⟨a0,a1,a2,a3,a4,a5,a6⟩;rcases b with ⟨b0,b1,b2,b3,b4,b5,b6⟩
 simp only [GLeaf.mk.injEq]
 by_cases h0:a0=b0 <;> by_cases h1:a1=b1 <;> by_cases h2:a2=b2 <;> by_cases h3:a3=b3 <;> by_cases h4:a4=b4 <;> by_cases h5:a5=b5 <;> by_cases h6:a6=b6 <;> simp [h0,h1,h2,h3,h4,h5,h6]
def dot0:GDot:=⟨⟨0,0⟩,0⟩
def zeroB (l:GLeaf):Bool:=decide (l.time=0)&&decide (l.dot=dot0)&&decide (l.text=[])
def tombsB (l:GLeaf):Bool:=l.tombs.all vd&&rising l.tombs&&l.tombs.all (fun d=>!l.items.any fun x=>decide (x.dot=d))
def leafB (l:GLeaf):Bool :=
 if l.typ=1 then zeroB l&&decide (l.items=[])&&decide (l.tombs=[])
 else if l.typ=2 then decide (l.n=0)&&decide (l.items=[])&&decide (l.tombs=[])&&(if l.time=0 then decide (l.dot=dot0)&&decide (l.text=[]) else timeB l.time&&vd l.dot&&decide (l.text.length≤40))
 else if l.typ=3 then decide (l.n=0)&&zeroB l&&(l.items.all (qk false)&&riseB l.items&&onceB l.items)&&tombsB l
 else if l.typ=4 then decide (l.n=0)&&zeroB l&&decide (l.tombs=[])&&(l.items.all (qk true)&&riseB l.items&&onceB l.items)
 else false
theorem containsItem_is {f:GItem→Option Bool} {q:GItem→Bool} (p:List GItem) (hf:∀ x ∈ p,f x=some (q x)):xT p f=some (p.any q):=by
 unfold xT xb
 rw [first_loop p hf,Option.bind_some,firstI_any]
theorem leafXhas_is (L:List GItem) (d:GDot):leafXhas L d=some (L.any fun x=>decide (x.dot=d)):=by
 unfold leafXhas
 rw [containsItem_is (q:=fun x=>decide (x.dot=d)) L (fun x _=>by unfold leafXhasC1;rw [dotEq]),Option.bind_some]
theorem rising_allI (ds:List GDot):rising ds=allI (fun i x=>x9 ds i x) ds:=by
 have h:=rising_loop ds (g:=fun i x _=>if (vd x&&x9 ds i x)=true then some (.nxt ()) else some (.ret false)) (fun _ _ _=>rfl)
 have key:∀ (L pre:List GDot),ds=pre++L→rising (match pre.getLast? with | some y=>y::L | none=>L)=(L.zipIdx pre.length).all fun p=>x9 ds p.2 p.1:=by
  intro L
  induction L with
  | nil=>intro pre _;cases pre.getLast? <;> simp [rising]
  | cons x t ih =>
   intro pre hd
   have ih':=ih (pre++[x]) (by rw [hd];simp)
   simp only [List.length_append,List.length_cons,List.length_nil,Nat.zero_add,List.getLast?_append,List.getLast?_singleton,Option.some_or] at ih'
   simp only [List.zipIdx_cons,List.all_cons]
   cases hp:pre.getLast? with
   | none =>
    have hpre:pre=[]:=List.getLast?_eq_none_iff.1 hp
    subst hpre
    simp only [List.length_nil,Nat.zero_add] at ih' ⊢
    rw [ih'];simp [x9]
   | some y =>
    have hne:pre ≠ []:=by rintro rfl;simp at hp
    have h0:0 < pre.length:=List.length_pos_iff.2 hne
    have hy:ds.getD (pre.length - 1) default=y:=by
     rw [List.getD_eq_getElem?_getD,hd,List.getElem?_append_left (by omega)]
     rw [List.getLast?_eq_getElem?] at hp;rw [hp];rfl
    have ha:x9 ds pre.length x=dotLt y x:=by
     unfold x9;rw [hy,decide_eq_false (by omega)];rfl
    rw [ha,← ih'];simp [rising]
 simpa [allI] using key ds [] rfl
theorem leafXtombs_is {l:GLeaf} (hl:l.tombs.length≤maxLen):leafXtombs l=some (tombsB l):=by
 unfold leafXtombs
 rw [lp_all (r:=false) (fun i x=>vd x&&x9 l.tombs i x&&!(l.items.any fun y=>decide (y.dot=x)))]
 ·have e:allI (fun i x=>vd x&&x9 l.tombs i x&&!(l.items.any fun y=>decide (y.dot=x))) l.tombs=tombsB l:=by
   unfold tombsB
   rw [Bool.eq_iff_iff,rising_allI,Bool.and_eq_true,Bool.and_eq_true,allI_iff,allI_iff,List.all_eq_true,List.all_eq_true]
   constructor
   ·intro h
    refine ⟨⟨fun x hx=>?_,fun i x hx=>?_⟩,fun x hx=>?_⟩
    ·obtain ⟨i,hi⟩:=List.mem_iff_getElem?.1 hx;have:=h i x hi;simp only [Bool.and_eq_true] at this;exact this.1.1
    ·have:=h i x hx;simp only [Bool.and_eq_true] at this;exact this.1.2
    ·obtain ⟨i,hi⟩:=List.mem_iff_getElem?.1 hx;have:=h i x hi;simp only [Bool.and_eq_true] at this;exact this.2
   ·rintro ⟨⟨h1,h2⟩,h3⟩ i x hx
    have hm:=List.mem_of_getElem? hx
    simp only [Bool.and_eq_true]
    exact ⟨⟨h1 x hm,h2 i x hx⟩,h3 x hm⟩
  rw [e];cases tombsB l <;> rfl
 ·intro i x hx
  have hi:i < l.tombs.length:=(List.getElem?_eq_some_iff.1 hx).1
  simp only [dotMay_is,Option.bind_some,dotCompare_is,leafXhas_is]
  cases hd:vd x
  ·simp [qC]
  rcases i with _ | j
  ·cases hh:(l.items.any fun y=>decide (y.dot=x)) <;> simp [qC,x9]
  ·rw [wrap_succ (by simp only [maxLen] at hl ⊢;omega),pos_succ]
   have hj:(j:Int) < (l.tombs.length:Int):=by omega
   have ha:x9 l.tombs (j+1) x=dotLt (l.tombs.getD j default) x:=by unfold x9;simp
   have e:=dotCmp_lt (l.tombs.getD j default) x
   rw [yH (by intro _;omega),ha,Int.toNat_natCast]
   generalize l.tombs.getD j default=y at e ⊢
   simp only [Bool.not_true,BEq.rfl,Bool.true_and,if_true,Option.bind_some,e,Bool.false_or]
   cases hlt:dotLt y x
   ·simp
   ·cases hh:(l.items.any fun y=>decide (y.dot=x)) <;> simp
theorem leafMay_is {l:GLeaf} (hi:l.items.length≤maxLen) (ht:l.tombs.length≤maxLen):leafMay l=some (leafB l):=by
 unfold leafMay leafB
 simp only [leafSame_is,leafXisTime_is,dotMay_is,leafXisText_is,leafXitems_is hi,leafXtombs_is ht,dotEq,Option.bind_some]
 rcases l with ⟨t,n,tm,d,tx,it,tb⟩
 simp only [GLeaf.mk.injEq,zeroB,beq_iff_eq,dot0]
 by_cases h1:t=1
 ·simp only [h1,if_true]
  congr 1;rw [Bool.eq_iff_iff];simp [and_assoc]
  intros;exact decide_eq_true_iff.symm
 by_cases h2:t=2
 ·subst h2
  by_cases h0:tm=0
  ·subst h0
   by_cases hd:d=⟨⟨0,0⟩,0⟩
   ·by_cases hx:tx=[]
    ·simp [hd,hx];rw [Bool.eq_iff_iff];simp [and_assoc]
    ·simp [hd,hx]
   ·have hz:((0:Int)==0&&!decide (d=⟨⟨0,0⟩,0⟩))=true:=by simp [hd]
    simp [hd]
    intro e1
    rcases d with ⟨⟨d1,d2⟩,d3⟩
    simp_all
  ·cases htt:timeB tm <;> cases hdd:vd d <;> cases hxx:decide (tx.length≤40) <;> simp_all [and_assoc]
   rw [Bool.eq_iff_iff];simp [and_assoc]
 by_cases h3:t=3
 ·subst h3
  cases ha:(it.all (qk false)&&riseB it&&onceB it) <;> cases hb:tombsB ⟨3,n,tm,d,tx,it,tb⟩ <;> simp [and_assoc]
  rw [Bool.eq_iff_iff];simp [and_assoc]
  intros;exact decide_eq_true_iff.symm
 by_cases h4:t=4
 ·subst h4
  cases ha:(it.all (qk true)&&riseB it&&onceB it) <;> simp [and_assoc]
  rw [Bool.eq_iff_iff];simp [and_assoc]
  intros;exact decide_eq_true_iff.symm
 simp [h1,h2,h3,h4]

theorem ref05Item_is (L:List GItem) (d:GDot):ref05Item L d=some (qO (fun x=>decide (x.dot=d)) L):=by
 unfold ref05Item
 rw [loopL_first (fun x:GItem=>decide (x.dot=d)) (fun i _=>(i:Int)) _ _ (fun i x _=>by rw [dotEq])]
 unfold qO
 cases h:L.findIdx? (fun x=>decide (x.dot=d)) with
 | none=>simp
 | some j =>
  obtain ⟨hj,_⟩:=List.findIdx?_eq_some_iff_getElem.1 h
  simp [List.getElem?_eq_getElem hj]
theorem qa (L:List GDot) (d:GDot):qb L d=some (L.any fun x=>decide (x=d)):=by
 unfold qb
 rw [lp_all0 (r:=true) (fun x:GDot=>!decide (x=d)) (fun i x _=>by rw [dotEq];cases decide (x=d) <;> rfl)]
 have e:L.any (fun x=>decide (x=d))=!L.all (fun x=>!decide (x=d)):=by rw [Bool.eq_iff_iff];simp
 rw [e];cases L.all (fun x=>!decide (x=d)) <;> rfl
theorem first_nodup (L:List GItem):(∀ (i:Nat) (x:GItem),L[i]?=some x→qO (fun y:GItem=>decide (y.dot=x.dot)) L=(i:Int)) ↔ (L.map (·.dot)).Nodup:=by
 constructor
 ·intro h
  rw [List.nodup_iff_pairwise_ne,List.pairwise_iff_getElem]
  intro i j hi hj hij e
  simp only [List.length_map] at hi hj
  simp only [List.getElem_map] at e
  have h1:=h i _ (List.getElem?_eq_getElem hi)
  have h2:=h j _ (List.getElem?_eq_getElem hj)
  rw [e] at h1
  rw [h1] at h2
  omega
 ·intro h i x hx
  obtain ⟨hi,rfl⟩:=List.getElem?_eq_some_iff.1 hx
  unfold qO
  have:L.findIdx? (fun y=>decide (y.dot=L[i].dot))=some i:=by
   rw [List.findIdx?_eq_some_iff_getElem]
   refine ⟨hi,by simp,fun j hj=>?_⟩
   have hjl:j < L.length:=by omega
   simp only [decide_eq_true_eq]
   intro e
   rw [List.nodup_iff_pairwise_ne,List.pairwise_iff_getElem] at h
   exact h j i (by simpa using hjl) (by simpa using hi) hj (by simpa using e)
  rw [this]
def itemR (t:Int) (x:GItem):Bool:=vd x.dot&&decide (x.text.length≤40)&&(decide (t ≠ 3) || decide (x.time=0))&&(decide (t ≠ 4) || timeB x.time)
def tailB (l:GLeaf):Bool:=l.items.all (itemR l.typ)&&onceB l.items&&l.items.all (fun x=>!(l.tombs.any fun y=>decide (y=x.dot)))&&riseB l.items&&(l.tombs.all vd&&rising l.tombs)
theorem items_allI (l:GLeaf):allI (fun i x=>itemR l.typ x&&(decide (qO (fun y:GItem=>decide (y.dot=x.dot)) l.items=(i:Int))&&(!(l.tombs.any fun y=>decide (y=x.dot))&&(decide (i=0) || aheadI (prevI l.items i) x)))) l.items =
  (l.items.all (itemR l.typ)&&onceB l.items&&l.items.all (fun x=>!(l.tombs.any fun y=>decide (y=x.dot)))&&riseB l.items):=by
 rw [Bool.eq_iff_iff,allI_iff]
 simp only [Bool.and_eq_true,decide_eq_true_eq,onceB,riseB,allI_iff,List.all_eq_true,← first_nodup]
 constructor
 ·intro h
  refine ⟨⟨⟨fun x hx=>?_,fun i x hx=>(h i x hx).2.1⟩,fun x hx=>?_⟩,fun i x hx=>(h i x hx).2.2.2⟩
  ·obtain ⟨i,hi⟩:=List.mem_iff_getElem?.1 hx;exact (h i x hi).1
  ·obtain ⟨i,hi⟩:=List.mem_iff_getElem?.1 hx;exact (h i x hi).2.2.1
 ·rintro ⟨⟨⟨h1,h2⟩,h3⟩,h4⟩ i x hx
  have hm:=List.mem_of_getElem? hx
  exact ⟨h1 x hm,h2 i x hx,h3 x hm,h4 i x hx⟩
theorem tombs_allI (ds:List GDot):allI (fun i x=>vd x&&x9 ds i x) ds=(ds.all vd&&rising ds):=by
 rw [Bool.eq_iff_iff,allI_iff,rising_allI]
 simp only [Bool.and_eq_true,allI_iff,List.all_eq_true]
 constructor
 ·intro h
  exact ⟨fun x hx=>by obtain ⟨i,hi⟩:=List.mem_iff_getElem?.1 hx;exact (h i x hi).1,fun i x hx=>(h i x hx).2⟩
 ·rintro ⟨h1,h2⟩ i x hx
  exact ⟨h1 x (List.mem_of_getElem? hx),h2 i x hx⟩
theorem ref05May_is {l:GLeaf} (hi:l.items.length≤maxLen) (ht:l.tombs.length≤maxLen) (h0:0≤l.time):ref05May l=some (leafB l):=by
 unfold ref05May
 simp only [ref03May_is,ref05Item_is,qa,ref05Ahead_is,ref03Less_is,Option.bind_some,dotEq]
 generalize hT:lp (yu _ l.items 0 ()) _=T
 have a1:decide ((l.items.length:Int) > 0)=!decide (l.items=[]):=by cases l.items <;> simp
 have a2:decide ((l.tombs.length:Int) > 0)=!decide (l.tombs=[]):=by cases l.tombs <;> simp
 have hT2:T=some (tailB l):=by
  rw [← hT,lp_all (r:=false) (fun i x=>itemR l.typ x&&(decide (qO (fun y:GItem=>decide (y.dot=x.dot)) l.items=(i:Int))&&(!(l.tombs.any fun y=>decide (y=x.dot))&&(decide (i=0) || aheadI (prevI l.items i) x))))]
  ·rw [lp_all (r:=false) (fun i x=>vd x&&x9 l.tombs i x)]
   ·rw [items_allI,tombs_allI]
    unfold tailB
    cases (l.items.all (itemR l.typ)&&onceB l.items&&l.items.all (fun x=>!(l.tombs.any fun y=>decide (y=x.dot)))&&riseB l.items) <;> cases (l.tombs.all vd&&rising l.tombs) <;> simp
   ·intro i x hx
    have hil:i < l.tombs.length:=(List.getElem?_eq_some_iff.1 hx).1
    have hxe:l.tombs.getD i default=x:=by rw [List.getD_eq_getElem?_getD,hx];rfl
    rcases i with _ | j
    ·cases hd:vd x <;> simp [qC,x9]
    ·rw [wrap_succ (by simp only [maxLen] at ht ⊢;omega),pos_succ,Int.toNat_natCast,Int.toNat_natCast,hxe]
     have ha:x9 l.tombs (j+1) x=dotLt (l.tombs.getD j default) x:=by unfold x9;simp
     rw [yH (by intro _;omega),yH (by intro _;omega),ha]
     generalize l.tombs.getD j default=y
     cases hd:vd x <;> cases hlt:dotLt y x <;> simp
  ·intro i x hx
   have hil:i < l.items.length:=(List.getElem?_eq_some_iff.1 hx).1
   have b1:decide ((x.text.length:Int) > 40)=!decide (x.text.length≤40):=by rw [Bool.eq_iff_iff];simp;omega
   have b2:(((l.typ==4)&&(decide (x.time < 1) || decide (x.time > 1099511627776))))=!(decide (l.typ ≠ 4) || timeB x.time):=by
    rw [Bool.eq_iff_iff];simp [timeB]
   have b3:((l.typ==3)&&(x.time != 0))=!(decide (l.typ ≠ 3) || decide (x.time=0)):=by rw [Bool.eq_iff_iff];simp
   rw [b1,b2,b3]
   have hc:(((!vd x.dot || !decide (x.text.length≤40)) || !(decide (l.typ ≠ 3) || decide (x.time=0))) || !(decide (l.typ ≠ 4) || timeB x.time))=!itemR l.typ x:=by unfold itemR;simp only [Bool.not_and]
   rw [hc]
   have b4:(qO (fun y:GItem=>decide (y.dot=x.dot)) l.items != (i:Int))=!decide (qO (fun y:GItem=>decide (y.dot=x.dot)) l.items=(i:Int)):=by rw [Bool.eq_iff_iff];simp
   cases hr:itemR l.typ x
   ·simp
   simp only [Bool.not_true,BEq.rfl,if_true,Option.bind_some,Bool.false_or]
   rw [b4]
   cases hf:decide (qO (fun y:GItem=>decide (y.dot=x.dot)) l.items=(i:Int))
   ·simp
   cases htb:l.tombs.any fun y=>decide (y=x.dot)
   ·rcases i with _ | j
    ·simp [qC]
    ·rw [wrap_succ (by simp only [maxLen] at hi ⊢;omega),pos_succ,Int.toNat_natCast]
     rw [yH (by intro _;omega),yH (by intro _;omega)]
     have ha:(if (l.items.getD j default).time ≠ x.time then decide ((l.items.getD j default).time < x.time) else dotLt (l.items.getD j default).dot x.dot)=aheadI (prevI l.items (j+1)) x:=rfl
     rw [ha]
     cases aheadI (prevI l.items (j+1)) x <;> simp
   ·simp
 subst hT2
 clear hT
 rw [a1,a2]
 have z1:(l.time != 0)=!decide (l.time=0):=by rw [Bool.eq_iff_iff];simp
 have z2:(l.time==0)=decide (l.time=0):=by rw [Bool.eq_iff_iff];simp
 have z3:(l.text==([]:yn))=decide (l.text=[]):=by rw [Bool.eq_iff_iff];simp
 have z4:decide (l.time > 1099511627776)=!decide (l.time≤1099511627776):=by rw [Bool.eq_iff_iff];simp
 have z5:decide ((l.text.length:Int) > 40)=!decide (l.text.length≤40):=by rw [Bool.eq_iff_iff];simp;omega
 have hz:zeroB l=(decide (l.time=0)&&decide (l.dot=dot0)&&decide (l.text=[])):=rfl
 have z6:(l.dot.actor.rep==0&&(l.dot.actor.inc==0&&(l.dot.seq==0&&true)))=decide (l.dot=dot0):=dotEq l.dot dot0
 rw [z1,z2,z3,z4,z5,z6]
 by_cases h1:l.typ=1
 ·have hi:decide (l.items=[])=true→tailB l=(l.tombs.all vd&&rising l.tombs):=by
   intro h;have:=of_decide_eq_true h
   unfold tailB;rw [this];simp [onceB,riseB,allI]
  unfold leafB
  simp only [h1,if_true,hz]
  cases hi2:decide (l.items=[])
  ·simp
  ·rw [hi hi2]
   cases ht2:decide (l.tombs=[])
   ·simp
   ·have:=of_decide_eq_true ht2
    rw [this]
    cases decide (l.time=0) <;> cases decide (l.dot=dot0) <;> cases decide (l.text=[]) <;> simp [rising]
 by_cases h2:l.typ=2
 ·have hi:decide (l.items=[])=true→tailB l=(l.tombs.all vd&&rising l.tombs):=by
   intro h;have:=of_decide_eq_true h
   unfold tailB;rw [this];simp [onceB,riseB,allI]
  unfold leafB
  have ht40:timeB l.time=(!decide (l.time=0)&&decide (l.time≤1099511627776)):=by
   unfold timeB;rw [Bool.eq_iff_iff];simp;omega
  simp only [h2,if_true,ht40]
  cases hn:decide (l.n=0)
  ·have:(l.n != 0)=true:=by simpa using hn
   simp [this]
  ·have hn':l.n=0:=of_decide_eq_true hn
   cases hi2:decide (l.items=[])
   ·simp [hn']
   ·rw [hi hi2]
    cases ht2:decide (l.tombs=[])
    ·simp [hn']
    ·have:=of_decide_eq_true ht2
     rw [this]
     by_cases ht0:l.time=0
     ·cases hdd:decide (l.dot=dot0) <;> cases htx:decide (l.text=[]) <;> simp [hn',ht0,rising]
     ·cases hm:decide (l.time≤1099511627776) <;> cases hdd:vd l.dot <;> cases htx:decide (l.text.length≤40) <;> simp [hn',ht0,rising]
 by_cases h3:l.typ=3
 ·have e1:(fun x=>itemR 3 x)=qk false:=by
   funext x;unfold itemR qk;simp
  have e2:tailB l=(l.items.all (qk false)&&riseB l.items&&onceB l.items&&tombsB l):=by
   unfold tailB tombsB
   rw [h3,show itemR 3=qk false from e1]
   have e3:l.items.all (fun x=>!(l.tombs.any fun y=>decide (y=x.dot)))=l.tombs.all (fun d=>!l.items.any fun x=>decide (x.dot=d)):=by
    rw [Bool.eq_iff_iff];simp only [List.all_eq_true,Bool.not_eq_true',List.any_eq_false,decide_eq_true_eq]
    exact ⟨fun h d hd x hx e=>h x hx d hd e.symm,fun h x hx d hd e=>h d hd x hx e.symm⟩
   rw [e3]
   cases l.items.all (qk false) <;> cases onceB l.items <;> cases riseB l.items <;> cases l.tombs.all vd <;> cases rising l.tombs <;> cases l.tombs.all (fun d=>!l.items.any fun x=>decide (x.dot=d)) <;> rfl
  unfold leafB
  simp only [h3,e2,hz]
  cases hn:decide (l.n=0)
  ·have:(l.n != 0)=true:=by simpa using hn
   simp [this]
  ·have hn':l.n=0:=of_decide_eq_true hn
   cases decide (l.time=0) <;> cases decide (l.dot=dot0) <;> cases decide (l.text=[]) <;> simp [hn']
 by_cases h4:l.typ=4
 ·have e1:(fun x=>itemR 4 x)=qk true:=by
   funext x;unfold itemR qk;simp
  have e2:decide (l.tombs=[])=true→tailB l=(l.items.all (qk true)&&riseB l.items&&onceB l.items):=by
   intro h;have:=of_decide_eq_true h
   unfold tailB
   rw [h4,show itemR 4=qk true from e1,this]
   cases l.items.all (qk true) <;> cases onceB l.items <;> cases riseB l.items <;> simp [rising]
  unfold leafB
  simp only [h4,hz]
  cases hn:decide (l.n=0)
  ·have:(l.n != 0)=true:=by simpa using hn
   simp [this]
  ·have hn':l.n=0:=of_decide_eq_true hn
   cases ht2:decide (l.tombs=[])
   ·simp [hn']
   ·rw [e2 ht2]
    cases decide (l.time=0) <;> cases decide (l.dot=dot0) <;> cases decide (l.text=[]) <;> simp [hn']
 have hlt:l.typ < 1 ∨ 4 < l.typ:=by omega
 have:(decide (l.typ < 1) || decide (l.typ > 4))=true:=by simp;omega
 unfold leafB
 rw [this,if_neg h1,if_neg h2,if_neg h3,if_neg h4]
 simp

theorem clone_is {α:Type} {L:List α} (h:L.length≤qE):(nilq L fun b1=>(if b1=true then some ([]:List α) else (qC ((([]:List α)).length+L.length≤qE) (some (([]:List α)++L)))))=some L:=by
 refine nilq_of ?_ fun e=>by subst e;rfl
 rw [yH (by simpa using h)];simp
theorem cloneItem_is {L:List GItem} (h:L.length≤qE):wL L=some L:=clone_is h
theorem cloneDot_is {L:List GDot} (h:L.length≤qE):vi L=some L:=clone_is h
end Go.Vv
