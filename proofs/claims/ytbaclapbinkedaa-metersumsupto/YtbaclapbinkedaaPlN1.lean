/- The stable sort: it ends, and the row is as long as it was. -/
import Derived.Test.YtbaclapbinkedaaPlN0
namespace Go.Vv
open Go
variable {c:GRow→GRow→Option Int}
theorem lpW {σ ρ:Type} {f:σ→Option (Out ρ σ)} {rest:σ→Option ρ} {s0:σ} {P:ρ→Prop} (inv post:σ→Prop) (μ:σ→Nat) (hi:inv s0) (h:∀ s,inv s→(∃ s',f s=some (.brk s')∧post s') ∨ ∃ s',f s=some (.nxt s')∧inv s'∧μ s' < μ s) (hr:∀ s,post s→∃ r,rest s=some r∧P r):∃ r,lp (wg f s0) rest=some r∧P r:=by
 obtain ⟨s',e,hp⟩:=loopW_inv inv post μ h _ s0 rfl hi
 rw [e]
 exact hr s' hp
theorem lpN {σ τ ρ:Type} {f:σ→Option (Out (Out ρ τ) σ)} {rest:σ→Option (Out ρ τ)} {s0:σ} {P:τ→Prop} (inv post:σ→Prop) (μ:σ→Nat) (hi:inv s0) (h:∀ s,inv s→(∃ s',f s=some (.brk s')∧post s') ∨ ∃ s',f s=some (.nxt s')∧inv s'∧μ s' < μ s) (hr:∀ s,post s→∃ r,rest s=some (.nxt r)∧P r):∃ r,lp (wg f s0) rest=some (.nxt r)∧P r:=by
 obtain ⟨s',e,hp⟩:=loopW_inv inv post μ h _ s0 rfl hi
 rw [e]
 exact hr s' hp
theorem vd {α:Type} {L:List α} {i:Int} (h0:0≤i) (h1:i < (L.length:Int)):∃ y,qJ L i=some y:=by
 unfold qJ
 rw [if_pos h0,List.getElem?_eq_getElem (by omega)]
 exact ⟨_,rfl⟩
theorem half_is {x:Int} (h0:0≤x) (h1:x≤4611686018427387904):IntKind.wrap .i64 (Int.fdiv (IntKind.wrap .u64 (IntKind.wrap .i64 x)) (2 ^ (min (1:Int).toNat (IntKind.bits .u64))))=x / 2:=by
 have e:((2:Int) ^ (min (1:Int).toNat (IntKind.bits .u64)))=2:=rfl
 have e1:IntKind.wrap .i64 x=x:=xp (by omega)
 have e2:IntKind.wrap .u64 x=x:=by rw [IntKind.wrap_u64];omega
 rw [e1,e,e2,Int.fdiv_eq_ediv_of_nonneg _ (by decide),xp (by omega)]
theorem ins_ok (hc:∀ x y,∃ v,c x y=some v) {L:List GRow} {a b:Int} (ha:0≤a) (hb:b≤L.length) (hN:(L.length:Int)≤1099511627776) (hab:a≤b):∃ r,yx L a b c=some r∧r.length=L.length:=by
 unfold yx
 refine lpW (fun s=>a+1≤s.1∧s.2.length=L.length) (fun s=>s.2.length=L.length) (fun s=>(b - s.1).toNat) ⟨by dsimp only;rw [xp (by omega)];exact Int.le_refl _,rfl⟩ ?_ (fun s hs=>⟨_,rfl,hs⟩)
 rintro ⟨i,D⟩ ⟨h1,h2⟩
 dsimp only at h1 h2 ⊢
 rw [ye h2]
 by_cases hlt:i < b
 ·rw [if_pos (decide_eq_true hlt)]
  right
  refine Exists.imp (fun _ h=>⟨h.1,h.2.1,h.2.2⟩) (lpN (P:=fun s'=>(a+1≤s'.1∧s'.2.length=L.length)∧(b - s'.1).toNat < (b - i).toNat) (fun s=>a≤s.1∧s.1≤i∧s.2.length=L.length) (fun s=>s.2.length=L.length) (fun s=>(s.1 - a).toNat) ⟨by dsimp only;omega,Int.le_refl _,h2⟩ ?_ ?_)
  ·rintro ⟨j,E⟩ ⟨g1,g2,g3⟩
   dsimp only at g1 g2 g3 ⊢
   have e1:IntKind.wrap .i64 (j - (1:Int))=j - 1:=xp (by omega)
   simp only [e1]
   rw [ye g3,ye (fun _=>by omega)]
   by_cases hj:j > a
   ·rw [ye (fun _=>by omega),if_pos (by simp [hj])]
    obtain ⟨v,hv⟩:=hc (E.getD j.toNat default) (E.getD (j - 1).toNat default)
    rw [hv,Option.bind_some]
    by_cases hv0:v < 0
    ·right
     rw [if_pos (by simp [hj,hv0])]
     obtain ⟨y,hy⟩:=vd (L:=E) (i:=j - 1) (by omega) (by omega)
     obtain ⟨z,hz⟩:=vd (L:=E) (i:=j) (by omega) (by omega)
     obtain ⟨u,hu⟩:=vd (L:=E.set j.toNat y) (i:=j - 1) (by omega) (by rw [List.length_set];omega)
     rw [hy,Option.bind_some,hz,Option.bind_some,Option.bind_some,hu,Option.bind_some]
     exact ⟨_,rfl,⟨by dsimp only;omega,by dsimp only;omega,by simp only [List.length_set];exact g3⟩,by dsimp only;omega⟩
    ·left
     rw [if_neg (by simp [hv0])]
     exact ⟨_,rfl,g3⟩
   ·left
    rw [ye (fun h=>by simp [hj] at h),if_neg (by simp [hj]),Option.bind_some,if_neg (by simp [hj])]
    exact ⟨_,rfl,g3⟩
  ·rintro ⟨j,E⟩ hs
   exact ⟨_,rfl,⟨by dsimp only;rw [xp (by omega)];omega,hs⟩,by dsimp only;rw [xp (by omega)];omega⟩
 ·left
  rw [if_neg (by simp [hlt])]
  exact ⟨_,rfl,h2⟩
theorem lpL {α σ ρ:Type} {f:Nat→α→σ→Option (Out ρ σ)} {rest:σ→Option ρ} {L:List α} {P:ρ→Prop} (inv:σ→Prop) (h:∀ i x s,i < L.length→inv s→∃ s',f i x s=some (.nxt s')∧inv s') (hr:∀ s,inv s→∃ r,rest s=some r∧P r) {s0:σ} (hi:inv s0):∃ r,lp (zV f L 0 s0) rest=some r∧P r:=by
 have key:∀ (M:List α) (k:Nat) (s:σ),k+M.length=L.length→inv s→∃ s',zV f M k s=some (.inr s')∧inv s':=by
  intro M
  induction M with
  | nil=>intro k s _ hs;exact ⟨s,rfl,hs⟩
  | cons x r ih =>
   intro k s hk hs
   simp only [List.length_cons] at hk
   obtain ⟨s',e,hs'⟩:=h k x s (by omega) hs
   obtain ⟨s2,e2,h2⟩:=ih (k+1) s' (by omega) hs'
   exact ⟨s2,by simp only [zV,e];exact e2,h2⟩
 obtain ⟨s',e,hs⟩:=key L 0 s0 (by omega) hi
 rw [e]
 exact hr s' hs
theorem swap_ok {L:List GRow} {a b n:Int} (ha:0≤a) (hb:0≤b) (h1:a+n≤L.length) (h2:b+n≤L.length) (hN:(L.length:Int)≤1099511627776):∃ r,yB L a b n c=some r∧r.length=L.length:=by
 unfold yB
 rw [ye (by omega)]
 refine lpL (fun s:List GRow=>s.length=L.length) ?_ (fun (s:List GRow) hs=>⟨s,by rw [ye hs],hs⟩) rfl
 intro i x s hi hs
 rw [List.length_range] at hi
 have e1:IntKind.wrap .i64 (b+(i:Int))=b+i:=xp (by omega)
 have e2:IntKind.wrap .i64 (a+(i:Int))=a+i:=xp (by omega)
 simp only [e1,e2]
 rw [ye hs]
 obtain ⟨y,hy⟩:=vd (L:=s) (i:=b+i) (by omega) (by omega)
 obtain ⟨z,hz⟩:=vd (L:=s) (i:=a+i) (by omega) (by omega)
 obtain ⟨u,hu⟩:=vd (L:=s.set (a+(i:Int)).toNat y) (i:=b+i) (by omega) (by rw [List.length_set];omega)
 rw [hy,Option.bind_some,hz,Option.bind_some,Option.bind_some,hu,Option.bind_some]
 exact ⟨_,rfl,by simp only [List.length_set];exact hs⟩
theorem rot_ok {L:List GRow} {a m b:Int} (ha:0≤a) (h1:a < m) (h2:m < b) (hb:b≤L.length) (hN:(L.length:Int)≤1099511627776):∃ r,xh L a m b c=some r∧r.length=L.length:=by
 unfold xh
 refine lpW (fun s=>1≤s.1∧1≤s.2.1∧s.1≤m - a∧s.2.1≤b - m∧s.2.2.length=L.length) (fun s=>1≤s.1∧s.1≤m - a∧s.1≤b - m∧s.2.2.length=L.length) (fun s=>(s.1+s.2.1).toNat) ⟨by dsimp only;rw [xp (by omega)];omega,by dsimp only;rw [xp (by omega)];omega,by dsimp only;rw [xp (by omega)];omega,by dsimp only;rw [xp (by omega)];omega,rfl⟩ ?_ ?_
 ·rintro ⟨i,j,D⟩ ⟨g1,g2,g3,g4,g5⟩
  dsimp only at g1 g2 g3 g4 g5 ⊢
  have e1:IntKind.wrap .i64 (m - i)=m - i:=xp (by omega)
  have e2:IntKind.wrap .i64 (m+j)=m+j:=xp (by omega)
  have e3:IntKind.wrap .i64 (m+j - i)=m+j - i:=xp (by omega)
  have e4:IntKind.wrap .i64 (i - j)=i - j:=xp (by omega)
  have e5:IntKind.wrap .i64 (j - i)=j - i:=xp (by omega)
  simp only [e1,e2,e3,e4,e5]
  rw [ye g5]
  by_cases hij:i=j
  ·left
   rw [if_neg (by simp [hij])]
   exact ⟨_,rfl,g1,g3,by dsimp only;omega,g5⟩
  ·right
   rw [if_pos (by simp [hij])]
   by_cases hgt:i > j
   ·rw [if_pos (by simp [hgt])]
    obtain ⟨r,e,hr⟩:=swap_ok (c:=c) (L:=D) (a:=m - i) (b:=m) (n:=j) (by omega) (by omega) (by omega) (by omega) (by omega)
    rw [e,Option.bind_some]
    exact ⟨_,rfl,⟨by dsimp only;omega,g2,by dsimp only;omega,g4,hr.trans g5⟩,by dsimp only;omega⟩
   ·rw [if_neg (by simp [hgt])]
    obtain ⟨r,e,hr⟩:=swap_ok (c:=c) (L:=D) (a:=m - i) (b:=m+j - i) (n:=i) (by omega) (by omega) (by omega) (by omega) (by omega)
    rw [e,Option.bind_some]
    exact ⟨_,rfl,⟨g1,by dsimp only;omega,g3,by dsimp only;omega,hr.trans g5⟩,by dsimp only;omega⟩
 ·rintro ⟨i,j,D⟩ ⟨g1,g3,g4,g5⟩
  dsimp only at g1 g3 g4 g5 ⊢
  have e1:IntKind.wrap .i64 (m - i)=m - i:=xp (by omega)
  rw [e1]
  obtain ⟨r,e,hr⟩:=swap_ok (c:=c) (L:=D) (a:=m - i) (b:=m) (n:=i) (by omega) (by omega) (by omega) (by omega) (by omega)
  rw [e,Option.bind_some]
  exact ⟨_,rfl,hr.trans g5⟩
end Go.Vv
namespace Go.Vv
open Go
variable {c:GRow→GRow→Option Int}
theorem iteN {ρ:Type} {b:Bool} {A B:Nat→Option ρ} {d:Nat} {P:ρ→Prop} (h1:b=true→∃ q,(∀ k,d≤k→A k=some q)∧P q) (h2:b=false→∃ q,(∀ k,d≤k→B k=some q)∧P q):∃ q,(∀ k,d≤k→(if b=true then A k else B k)=some q)∧P q:=by
 cases b
 ·obtain ⟨q,e,h⟩:=h2 rfl
  exact ⟨q,fun k hk=>by rw [if_neg (by decide)];exact e k hk,h⟩
 ·obtain ⟨q,e,h⟩:=h1 rfl
  exact ⟨q,fun k hk=>by rw [if_pos rfl];exact e k hk,h⟩
theorem cstN {ρ:Type} {A:Option ρ} {d:Nat} {P:ρ→Prop} (h:∃ q,A=some q∧P q):∃ q,(∀ k,d≤k→A=some q)∧P q:=by
 obtain ⟨q,e,h⟩:=h
 exact ⟨q,fun _ _=>e,h⟩
theorem optN {α:Type} {b:Bool} {f:Nat→Option α} {g:Nat→α→Option α} {L:α} {d:Nat} {P:α→Prop} (h:b=true→∃ r,(∀ k,d≤k→f k=some r)∧P r) (hg:∀ r,P r→∃ q,(∀ k,d≤k→g k r=some q)∧P q) (hL:P L):∃ q,(∀ k,d≤k→(if b=true then (f k).bind fun v=>g k v else g k L)=some q)∧P q:=by
 refine iteN (fun hb=>?_) (fun _=>hg L hL)
 obtain ⟨r,e,hr⟩:=h hb
 obtain ⟨q,e2,hq⟩:=hg r hr
 exact ⟨q,fun k hk=>by rw [e k hk];exact e2 k hk,hq⟩
theorem lpWN {σ ρ:Type} {f:σ→Option (Out ρ σ)} {rest:Nat→σ→Option ρ} {s0:σ} {d:Nat} {P:ρ→Prop} (inv post:σ→Prop) (μ:σ→Nat) (hi:inv s0) (h:∀ s,inv s→(∃ s',f s=some (.brk s')∧post s') ∨ ∃ s',f s=some (.nxt s')∧inv s'∧μ s' < μ s) (hr:∀ s,post s→∃ r,(∀ k,d≤k→rest k s=some r)∧P r):∃ r,(∀ k,d≤k→lp (wg f s0) (rest k)=some r)∧P r:=by
 obtain ⟨s',e,hp⟩:=loopW_inv inv post μ h _ s0 rfl hi
 rw [e]
 exact hr s' hp
theorem sym_ok (hc:∀ x y,∃ v,c x y=some v):∀ (d:Nat) (L:List GRow) (a m b:Int),0≤a→a < m→m < b→b≤L.length→(L.length:Int)≤1099511627776→b - a≤d→∃ r,(∀ n,d≤n→zL n L a m b c=some r)∧r.length=L.length:=by
 intro d
 induction d with
 | zero=>intro L a m b h0 h1 h2 h3 h4 h5;exact absurd h5 (by omega)
 | succ d ih =>
  intro L a m b h0 h1 h2 h3 h4 h5
  suffices hs:∃ r,(∀ k,d≤k→zL (k+1) L a m b c=some r)∧r.length=L.length by
   obtain ⟨r,e,hr⟩:=hs
   refine ⟨r,fun n hn=>?_,hr⟩
   obtain ⟨k,rfl⟩:∃ k,n=k+1:=⟨n - 1,by omega⟩
   exact e k (by omega)
  simp only [zL]
  have e1:IntKind.wrap .i64 (m - a)=m - a:=xp (by omega)
  have e2:IntKind.wrap .i64 (b - m)=b - m:=xp (by omega)
  have eh:=half_is (x:=a+b) (by omega) (by omega)
  simp only [e1,e2,eh]
  obtain ⟨mid,hmid⟩:∃ mid,(a+b) / 2=mid:=⟨_,rfl⟩
  have hm1:2 * mid≤a+b:=by omega
  have hm2:a+b≤2 * mid+1:=by omega
  simp only [hmid]
  clear hmid eh
  have en:IntKind.wrap .i64 (mid+m)=mid+m:=xp (by omega)
  have enb:IntKind.wrap .i64 (mid+m - b)=mid+m - b:=xp (by omega)
  have enp:IntKind.wrap .i64 (mid+m - (1:Int))=mid+m - 1:=xp (by omega)
  simp only [en,enb,enp]
  refine iteN (fun h=>cstN ?_) (fun h=>iteN (fun h=>cstN ?_) (fun h=>iteN (fun h=>?_) (fun h=>?_)))
  ·refine lpW (fun s=>m≤s.1∧s.1≤s.2∧s.2≤b) (fun s=>m≤s.1∧s.1≤b) (fun s=>(s.2 - s.1).toNat) ⟨Int.le_refl _,by dsimp only;omega,Int.le_refl _⟩ ?_ ?_
   ·rintro ⟨i,j⟩ ⟨g1,g2,g3⟩
    dsimp only at g1 g2 g3 ⊢
    by_cases hij:i < j
    ·right
     rw [if_pos (decide_eq_true hij)]
     have eh:=half_is (x:=i+j) (by omega) (by omega)
     have ew:IntKind.wrap .i64 ((i+j) / 2+(1:Int))=(i+j) / 2+1:=xp (by omega)
     simp only [eh,ew]
     obtain ⟨y,hy⟩:=vd (L:=L) (i:=(i+j) / 2) (by omega) (by omega)
     obtain ⟨z,hz⟩:=vd (L:=L) (i:=a) (by omega) (by omega)
     obtain ⟨v,hv⟩:=hc y z
     rw [hy,Option.bind_some,hz,Option.bind_some,hv,Option.bind_some]
     by_cases hv0:v < 0
     ·rw [if_pos (decide_eq_true hv0)]
      exact ⟨_,rfl,⟨by dsimp only;omega,by dsimp only;omega,g3⟩,by dsimp only;omega⟩
     ·rw [if_neg (by simp [hv0])]
      exact ⟨_,rfl,⟨g1,by dsimp only;omega,by dsimp only;omega⟩,by dsimp only;omega⟩
    ·left
     rw [if_neg (by simp [hij])]
     exact ⟨_,rfl,g1,by dsimp only;omega⟩
   ·rintro ⟨i,j⟩ ⟨g1,g2⟩
    dsimp only at g1 g2 ⊢
    have e3:IntKind.wrap .i64 (i - (1:Int))=i - 1:=xp (by omega)
    simp only [e3]
    refine lpW (fun s=>a≤s.1∧s.2.length=L.length) (fun s=>s.2.length=L.length) (fun s=>(i - 1 - s.1).toNat) ⟨Int.le_refl _,rfl⟩ ?_ (fun s hs=>⟨_,rfl,hs⟩)
    rintro ⟨k,D⟩ ⟨f1,f2⟩
    dsimp only at f1 f2 ⊢
    rw [ye f2]
    by_cases hk:k < i - 1
    ·right
     rw [if_pos (decide_eq_true hk)]
     have e4:IntKind.wrap .i64 (k+(1:Int))=k+1:=xp (by omega)
     simp only [e4]
     obtain ⟨y,hy⟩:=vd (L:=D) (i:=k+1) (by omega) (by omega)
     obtain ⟨z,hz⟩:=vd (L:=D) (i:=k) (by omega) (by omega)
     obtain ⟨u,hu⟩:=vd (L:=D.set k.toNat y) (i:=k+1) (by omega) (by rw [List.length_set];omega)
     rw [hy,Option.bind_some,hz,Option.bind_some,Option.bind_some,hu,Option.bind_some]
     exact ⟨_,rfl,⟨by dsimp only;omega,by simp only [List.length_set];exact f2⟩,by dsimp only;omega⟩
    ·left
     rw [if_neg (by simp [hk])]
     exact ⟨_,rfl,f2⟩
  ·refine lpW (fun s=>a≤s.1∧s.1≤s.2∧s.2≤m) (fun s=>a≤s.1∧s.1≤m) (fun s=>(s.2 - s.1).toNat) ⟨Int.le_refl _,by dsimp only;omega,Int.le_refl _⟩ ?_ ?_
   ·rintro ⟨i,j⟩ ⟨g1,g2,g3⟩
    dsimp only at g1 g2 g3 ⊢
    by_cases hij:i < j
    ·right
     rw [if_pos (decide_eq_true hij)]
     have eh:=half_is (x:=i+j) (by omega) (by omega)
     have ew:IntKind.wrap .i64 ((i+j) / 2+(1:Int))=(i+j) / 2+1:=xp (by omega)
     simp only [eh,ew]
     obtain ⟨y,hy⟩:=vd (L:=L) (i:=(i+j) / 2) (by omega) (by omega)
     obtain ⟨z,hz⟩:=vd (L:=L) (i:=m) (by omega) (by omega)
     obtain ⟨v,hv⟩:=hc z y
     rw [hz,Option.bind_some,hy,Option.bind_some,hv,Option.bind_some]
     by_cases hv0:v < 0
     ·rw [if_neg (by simp [hv0])]
      exact ⟨_,rfl,⟨g1,by dsimp only;omega,by dsimp only;omega⟩,by dsimp only;omega⟩
     ·rw [if_pos (by simp [hv0])]
      exact ⟨_,rfl,⟨by dsimp only;omega,by dsimp only;omega,g3⟩,by dsimp only;omega⟩
    ·left
     rw [if_neg (by simp [hij])]
     exact ⟨_,rfl,g1,by dsimp only;omega⟩
   ·rintro ⟨i,j⟩ ⟨g1,g2⟩
    dsimp only at g1 g2 ⊢
    refine lpW (fun s=>s.1≤m∧s.2.length=L.length) (fun s=>s.2.length=L.length) (fun s=>(s.1 - i).toNat) ⟨Int.le_refl _,rfl⟩ ?_ (fun s hs=>⟨_,rfl,hs⟩)
    rintro ⟨k,D⟩ ⟨f1,f2⟩
    dsimp only at f1 f2 ⊢
    rw [ye f2]
    by_cases hk:k > i
    ·right
     rw [if_pos (decide_eq_true hk)]
     have e4:IntKind.wrap .i64 (k - (1:Int))=k - 1:=xp (by omega)
     simp only [e4]
     obtain ⟨y,hy⟩:=vd (L:=D) (i:=k - 1) (by omega) (by omega)
     obtain ⟨z,hz⟩:=vd (L:=D) (i:=k) (by omega) (by omega)
     obtain ⟨u,hu⟩:=vd (L:=D.set k.toNat y) (i:=k - 1) (by omega) (by rw [List.length_set];omega)
     rw [hy,Option.bind_some,hz,Option.bind_some,Option.bind_some,hu,Option.bind_some]
     exact ⟨_,rfl,⟨by dsimp only;omega,by simp only [List.length_set];exact f2⟩,by dsimp only;omega⟩
    ·left
     rw [if_neg (by simp [hk])]
     exact ⟨_,rfl,f2⟩
  ·have hg:m > mid:=of_decide_eq_true h
   refine lpWN (fun s=>mid+m - b≤s.1∧s.1≤s.2∧s.2≤mid) (fun s=>mid+m - b≤s.1∧s.1≤mid) (fun s=>(s.2 - s.1).toNat) ⟨Int.le_refl _,by dsimp only;omega,Int.le_refl _⟩ ?_ ?_
   ·rintro ⟨i,j⟩ ⟨g1,g2,g3⟩
    dsimp only at g1 g2 g3 ⊢
    by_cases hij:i < j
    ·right
     rw [if_pos (decide_eq_true hij)]
     have eh:=half_is (x:=i+j) (by omega) (by omega)
     have ew:IntKind.wrap .i64 ((i+j) / 2+(1:Int))=(i+j) / 2+1:=xp (by omega)
     have ep:IntKind.wrap .i64 (mid+m - 1 - (i+j) / 2)=mid+m - 1 - (i+j) / 2:=xp (by omega)
     simp only [eh,ew,ep]
     obtain ⟨y,hy⟩:=vd (L:=L) (i:=mid+m - 1 - (i+j) / 2) (by omega) (by omega)
     obtain ⟨z,hz⟩:=vd (L:=L) (i:=(i+j) / 2) (by omega) (by omega)
     obtain ⟨v,hv⟩:=hc y z
     rw [hy,Option.bind_some,hz,Option.bind_some,hv,Option.bind_some]
     by_cases hv0:v < 0
     ·rw [if_neg (by simp [hv0])]
      exact ⟨_,rfl,⟨g1,by dsimp only;omega,by dsimp only;omega⟩,by dsimp only;omega⟩
     ·rw [if_pos (by simp [hv0])]
      exact ⟨_,rfl,⟨by dsimp only;omega,by dsimp only;omega,g3⟩,by dsimp only;omega⟩
    ·left
     rw [if_neg (by simp [hij])]
     exact ⟨_,rfl,g1,by dsimp only;omega⟩
   ·rintro ⟨i,j⟩ ⟨g1,g2⟩
    dsimp only at g1 g2 ⊢
    have e4:IntKind.wrap .i64 (mid+m - i)=mid+m - i:=xp (by omega)
    simp only [e4]
    refine optN (fun h=>cstN ?_) (fun r hr=>optN (fun h=>?_) (fun r hr=>optN (fun h=>?_) (fun r hr=>⟨_,fun _ _=>rfl,hr⟩) hr) hr) rfl
    ·simp only [Bool.and_eq_true,decide_eq_true_eq] at h
     exact rot_ok (by omega) h.1 h.2 (by omega) h4
    ·simp only [Bool.and_eq_true,decide_eq_true_eq] at h
     rw [← hr]
     exact ih r a i mid h0 h.1 h.2 (by omega) (by omega) (by omega)
    ·simp only [Bool.and_eq_true,decide_eq_true_eq] at h
     rw [← hr]
     exact ih r mid _ b (by omega) h.1 h.2 (by omega) (by omega) (by omega)
  ·have hg:¬ m > mid:=of_decide_eq_false h
   refine lpWN (fun s=>a≤s.1∧s.1≤s.2∧s.2≤m) (fun s=>a≤s.1∧s.1≤m) (fun s=>(s.2 - s.1).toNat) ⟨Int.le_refl _,by dsimp only;omega,Int.le_refl _⟩ ?_ ?_
   ·rintro ⟨i,j⟩ ⟨g1,g2,g3⟩
    dsimp only at g1 g2 g3 ⊢
    by_cases hij:i < j
    ·right
     rw [if_pos (decide_eq_true hij)]
     have eh:=half_is (x:=i+j) (by omega) (by omega)
     have ew:IntKind.wrap .i64 ((i+j) / 2+(1:Int))=(i+j) / 2+1:=xp (by omega)
     have ep:IntKind.wrap .i64 (mid+m - 1 - (i+j) / 2)=mid+m - 1 - (i+j) / 2:=xp (by omega)
     simp only [eh,ew,ep]
     obtain ⟨y,hy⟩:=vd (L:=L) (i:=mid+m - 1 - (i+j) / 2) (by omega) (by omega)
     obtain ⟨z,hz⟩:=vd (L:=L) (i:=(i+j) / 2) (by omega) (by omega)
     obtain ⟨v,hv⟩:=hc y z
     rw [hy,Option.bind_some,hz,Option.bind_some,hv,Option.bind_some]
     by_cases hv0:v < 0
     ·rw [if_neg (by simp [hv0])]
      exact ⟨_,rfl,⟨g1,by dsimp only;omega,by dsimp only;omega⟩,by dsimp only;omega⟩
     ·rw [if_pos (by simp [hv0])]
      exact ⟨_,rfl,⟨by dsimp only;omega,by dsimp only;omega,g3⟩,by dsimp only;omega⟩
    ·left
     rw [if_neg (by simp [hij])]
     exact ⟨_,rfl,g1,by dsimp only;omega⟩
   ·rintro ⟨i,j⟩ ⟨g1,g2⟩
    dsimp only at g1 g2 ⊢
    have e4:IntKind.wrap .i64 (mid+m - i)=mid+m - i:=xp (by omega)
    simp only [e4]
    refine optN (fun h=>cstN ?_) (fun r hr=>optN (fun h=>?_) (fun r hr=>optN (fun h=>?_) (fun r hr=>⟨_,fun _ _=>rfl,hr⟩) hr) hr) rfl
    ·simp only [Bool.and_eq_true,decide_eq_true_eq] at h
     exact rot_ok (by omega) h.1 h.2 (by omega) h4
    ·simp only [Bool.and_eq_true,decide_eq_true_eq] at h
     rw [← hr]
     exact ih r a i mid h0 h.1 h.2 (by omega) (by omega) (by omega)
    ·simp only [Bool.and_eq_true,decide_eq_true_eq] at h
     rw [← hr]
     exact ih r mid _ b (by omega) h.1 h.2 (by omega) (by omega) (by omega)
end Go.Vv
namespace Go.Vv
open Go
variable {c:GRow→GRow→Option Int}
theorem sym_top (hc:∀ x y,∃ v,c x y=some v) {L:List GRow} {a m b:Int} (h0:0≤a) (h1:a < m) (h2:m < b) (h3:b≤L.length) (h4:(L.length:Int)≤1099511627776):∃ r,xR L a m b c=some r∧r.length=L.length:=by
 obtain ⟨r,e,hr⟩:=sym_ok hc (b - a).toNat L a m b h0 h1 h2 h3 h4 (by omega)
 exact ⟨r,anyN_of _ e,hr⟩
theorem stab_ok (hc:∀ x y,∃ v,c x y=some v) {L:List GRow} {n:Int} (hn:n=(L.length:Int)) (hN:n≤1099511627776):∃ r,xB L n c=some r∧r.length=L.length:=by
 unfold xB
 refine lpW (fun s=>0≤s.1∧s.1≤n∧s.2.1=s.1+20∧s.2.2.length=L.length) (fun s=>0≤s.1∧s.1≤n∧s.2.2.length=L.length) (fun s=>(n - s.1).toNat) ⟨Int.le_refl _,by dsimp only;omega,rfl,rfl⟩ ?_ ?_
 ·rintro ⟨a,b,D⟩ ⟨g1,g2,g3,g4⟩
  dsimp only at g1 g2 g3 g4 ⊢
  rw [ye g4]
  by_cases h:b≤n
  ·right
   rw [if_pos (decide_eq_true h)]
   have e1:IntKind.wrap .i64 (b+(20:Int))=b+20:=xp (by omega)
   obtain ⟨r,e,hr⟩:=ins_ok hc (L:=D) (a:=a) (b:=b) g1 (by omega) (by omega) (by omega)
   rw [e,Option.bind_some,e1]
   exact ⟨_,rfl,⟨by dsimp only;omega,h,rfl,hr.trans g4⟩,by dsimp only;omega⟩
  ·left
   rw [if_neg (by simp [h])]
   exact ⟨_,rfl,g1,g2,g4⟩
 ·rintro ⟨a,b,D⟩ ⟨g1,g2,g4⟩
  dsimp only at g1 g2 g4 ⊢
  obtain ⟨r,e,hr⟩:=ins_ok hc (L:=D) (a:=a) (b:=n) g1 (by omega) (by omega) g2
  rw [e,Option.bind_some]
  refine lpW (fun s=>20≤s.1∧s.1≤2199023255552∧s.2.length=L.length) (fun s=>s.2.length=L.length) (fun s=>(n - s.1).toNat) ⟨by dsimp only;omega,by dsimp only;omega,hr.trans g4⟩ ?_ (fun s hs=>⟨_,rfl,hs⟩)
  rintro ⟨q,E⟩ ⟨f1,f2,f3⟩
  dsimp only at f1 f2 f3 ⊢
  rw [ye f3]
  by_cases h:q < n
  ·right
   rw [if_pos (decide_eq_true h)]
   have e2:IntKind.wrap .i64 ((2:Int) * q)=2 * q:=xp (by omega)
   have e3:IntKind.wrap .i64 (q * (2:Int))=2 * q:=(xp (by omega)).trans (by omega)
   simp only [e2,e3]
   refine Exists.imp (fun _ h=>⟨h.1,h.2.1,h.2.2⟩) (lpN (P:=fun s':Int×List GRow=>(20≤s'.1∧s'.1≤2199023255552∧s'.2.length=L.length)∧(n - s'.1).toNat < (n - q).toNat) (fun s=>0≤s.1∧s.1≤n∧s.2.1=s.1+2 * q∧s.2.2.length=L.length) (fun s=>0≤s.1∧s.1≤n∧s.2.2.length=L.length) (fun s=>(n - s.1).toNat) ⟨Int.le_refl _,by dsimp only;omega,by dsimp only;omega,f3⟩ ?_ ?_)
   ·rintro ⟨a,b,F⟩ ⟨k1,k2,k3,k4⟩
    dsimp only at k1 k2 k3 k4 ⊢
    rw [ye k4]
    by_cases hb:b≤n
    ·right
     rw [if_pos (decide_eq_true hb)]
     have e4:IntKind.wrap .i64 (a+q)=a+q:=xp (by omega)
     have e5:IntKind.wrap .i64 (b+2 * q)=b+2 * q:=xp (by omega)
     simp only [e4,e5]
     obtain ⟨r,e,hr⟩:=sym_top hc (L:=F) (a:=a) (m:=a+q) (b:=b) k1 (by omega) (by omega) (by omega) (by omega)
     rw [e,Option.bind_some]
     exact ⟨_,rfl,⟨by dsimp only;omega,hb,rfl,hr.trans k4⟩,by dsimp only;omega⟩
    ·left
     rw [if_neg (by simp [hb])]
     exact ⟨_,rfl,k1,k2,k4⟩
   ·rintro ⟨a,b,F⟩ ⟨k1,k2,k4⟩
    dsimp only at k1 k2 k4 ⊢
    have e4:IntKind.wrap .i64 (a+q)=a+q:=xp (by omega)
    simp only [e4]
    by_cases hb:a+q < n
    ·rw [if_pos (decide_eq_true hb)]
     obtain ⟨r,e,hr⟩:=sym_top hc (L:=F) (a:=a) (m:=a+q) (b:=n) k1 (by omega) (by omega) (by omega) (by omega)
     rw [e,Option.bind_some]
     exact ⟨_,rfl,⟨by dsimp only;omega,by dsimp only;omega,hr.trans k4⟩,by dsimp only;omega⟩
    ·rw [if_neg (by simp [hb])]
     exact ⟨_,rfl,⟨by dsimp only;omega,by dsimp only;omega,k4⟩,by dsimp only;omega⟩
  ·left
   rw [if_neg (by simp [h])]
   exact ⟨_,rfl,f3⟩
theorem cmpInt_tot (a b:Int):∃ v,qv a b=some v:=by
 unfold qv qR
 simp only [Option.bind_some]
 repeat' split
 all_goals exact ⟨_,rfl⟩
theorem heavy_ok {t:List GNode} (h:Small t) (ht:treeB 0 t=true) (hl:(yq [] t).length≤10000):∃ r,qs t 10000=some r∧r.length=(yq [] t).length:=by
 unfold qs
 rw [if_neg (by decide),pathsRows_is h,if_pos ht,Option.bind_some]
 unfold wd
 obtain ⟨r,e,hr⟩:=stab_ok (c:=fun x0 x1=>vG x0 x1) (fun x y=>by
  unfold vG vH
  simp only [Option.bind_some]
  obtain ⟨v,hv⟩:=cmpInt_tot (IntKind.wrap .i64 (((y.leaf.items).length:Int)+((y.leaf.tombs).length:Int))) (IntKind.wrap .i64 (((x.leaf.items).length:Int)+((x.leaf.tombs).length:Int)))
  exact ⟨v,by rw [hv];rfl⟩) (L:=yq [] t) rfl (by omega)
 rw [e,Option.bind_some,Option.bind_some]
 have e1:(if ((r.length:Nat):Int) < (10000:Int) then ((r.length:Nat):Int) else 10000)=(r.length:Int):=by split <;> omega
 rw [e1]
 refine ⟨r,?_,hr⟩
 unfold slc
 rw [if_pos ⟨by decide,by omega,by omega⟩]
 simp
end Go.Vv
namespace Go.Vv
open Go
def Uni (X:List UInt8→Option (List UInt8)):Prop:=∀ b b' r r',X b=some r→X b'=some r'→b.length≤r.length∧r.length+b'.length=r'.length+b.length
def USt {ρ:Type} (X:List UInt8→Option (Out ρ (List UInt8))):Prop:=∀ b b' r r',X b=some r→X b'=some r'→∃ v v',r=.nxt v∧r'=.nxt v'∧b.length≤v.length∧v.length+b'.length=v'.length+b.length
theorem Uni.bind {X Y:List UInt8→Option (List UInt8)} (hX:Uni X) (hY:Uni Y):Uni (fun b=>(X b).bind Y):=by
 intro b b' r r' h h'
 obtain ⟨v,e,e2⟩:=Option.bind_eq_some_iff.1 h
 obtain ⟨v',e',e2'⟩:=Option.bind_eq_some_iff.1 h'
 have h1:=hX _ _ _ _ e e'
 have h2:=hY _ _ _ _ e2 e2'
 omega
theorem Uni.bindS {ρ:Type} {X:List UInt8→Option (List UInt8)} {Y:List UInt8→Option (Out ρ (List UInt8))} (hX:Uni X) (hY:USt Y):USt (fun b=>(X b).bind Y):=by
 intro b b' r r' h h'
 obtain ⟨v,e,e2⟩:=Option.bind_eq_some_iff.1 h
 obtain ⟨v',e',e2'⟩:=Option.bind_eq_some_iff.1 h'
 have h1:=hX _ _ _ _ e e'
 obtain ⟨w,w',e3,e4,h2⟩:=hY _ _ _ _ e2 e2'
 exact ⟨w,w',e3,e4,by omega⟩
theorem Uni.some:Uni (fun b=>some b):=by
 intro b b' r r' h h'
 cases h;cases h'
 omega
theorem USt.nxt {ρ:Type}:USt (ρ:=ρ) (fun b=>Option.some (.nxt b)):=by
 intro b b' r r' h h'
 cases h;cases h'
 exact ⟨b,b',rfl,rfl,by omega⟩
theorem Uni.app (s:yg):Uni (fun v=>vN (v.length+s.length≤qM) (Option.some (v++s))):=by
 intro b b' r r' h h'
 refine wc h (fun _ h=>wc h' (fun _ h'=>?_))
 cases h;cases h'
 simp only [List.length_append]
 omega
theorem loop_uni {α ρ:Type} {f:Nat→α→List UInt8→Option (Out ρ (List UInt8))}:∀ (L:List α),(∀ i x,x ∈ L→USt (f i x))→∀ (i:Nat) (b b':List UInt8) (o o':ρ ⊕ List UInt8),zV f L i b=some o→zV f L i b'=some o'→∃ v v',o=.inr v∧o'=.inr v'∧b.length≤v.length∧v.length+b'.length=v'.length+b.length
 | [],_,i,b,b',o,o',h,h'=>by
  simp only [zV,Option.some.injEq] at h h'
  exact ⟨b,b',h.symm,h'.symm,by omega⟩
 | x::L,hf,i,b,b',o,o',h,h'=>by
  simp only [zV] at h h'
  cases e:f i x b with
  | none=>rw [e] at h;cases h
  | some r =>
   cases e':f i x b' with
   | none=>rw [e'] at h';cases h'
   | some r' =>
    obtain ⟨v,v',rfl,rfl,h1⟩:=hf i x (by simp) _ _ _ _ e e'
    rw [e] at h;rw [e'] at h'
    obtain ⟨w,w',e1,e2,h2⟩:=loop_uni L (fun i y hy=>hf i y (by simp [hy])) (i+1) v v' o o' h h'
    exact ⟨w,w',e1,e2,by omega⟩
theorem Uni.loop {α:Type} {f:Nat→α→List UInt8→Option (Out (List UInt8) (List UInt8))} {L:List α} {i:Nat} {rest:List UInt8→Option (List UInt8)} (hf:∀ i x,x ∈ L→USt (f i x)) (hr:Uni rest):Uni (fun b=>lp (zV f L i b) rest):=by
 intro b b' r r' h h'
 dsimp only at h h'
 cases e:zV f L i b with
 | none=>rw [e] at h;cases h
 | some o =>
  cases e':zV f L i b' with
  | none=>rw [e'] at h';cases h'
  | some o' =>
   obtain ⟨v,v',rfl,rfl,h1⟩:=loop_uni L hf i b b' o o' e e'
   rw [e] at h;rw [e'] at h'
   have h2:=hr _ _ _ _ h h'
   omega
theorem USt.loop {α ρ:Type} {f:Nat→α→List UInt8→Option (Out (Out ρ (List UInt8)) (List UInt8))} {L:List α} {i:Nat} {rest:List UInt8→Option (Out ρ (List UInt8))} (hf:∀ i x,x ∈ L→USt (f i x)) (hr:USt rest):USt (fun b=>lp (zV f L i b) rest):=by
 intro b b' r r' h h'
 dsimp only at h h'
 cases e:zV f L i b with
 | none=>rw [e] at h;cases h
 | some o =>
  cases e':zV f L i b' with
  | none=>rw [e'] at h';cases h'
  | some o' =>
   obtain ⟨v,v',rfl,rfl,h1⟩:=loop_uni L hf i b b' o o' e e'
   rw [e] at h;rw [e'] at h'
   obtain ⟨w,w',e1,e2,h2⟩:=hr _ _ _ _ h h'
   exact ⟨w,w',e1,e2,by omega⟩
theorem num_uniW {f:List UInt8×Int→Option (Out (List UInt8) (List UInt8×Int))} {rest:List UInt8×Int→Option (List UInt8)}
  (hf:∀ b n,(127 < n→∀ o,f (b,n)=some o→∃ y,o=.nxt (b++[y],n / 128))∧(¬ 127 < n→f (b,n)=some (.brk (b,n)))) (hr:∀ b n r,rest (b,n)=some r→r.length=b.length+1) :
  ∀ (j:Nat) (n:Int),n.toNat≤j→Uni (fun b=>lp (wg f (b,n)) rest)
 | j,n,hj,b,b',r,r',h,h'=>by
  dsimp only at h h'
  rw [loopW_eq] at h h'
  by_cases hn:127 < n
  ·have hy:=(hf b n).1 hn
   have hy':=(hf b' n).1 hn
   cases e:f (b,n) with
   | none=>rw [e] at h;cases h
   | some o =>
    cases e':f (b',n) with
    | none=>rw [e'] at h';cases h'
    | some o' =>
     obtain ⟨y,rfl⟩:=hy o e
     obtain ⟨y',rfl⟩:=hy' o' e'
     rw [e] at h;rw [e'] at h'
     cases j with
     | zero=>omega
     | succ j =>
      have:=num_uniW hf hr j (n / 128) (by omega) _ _ _ _ h h'
      simp only [List.length_append,List.length_cons,List.length_nil] at this
      omega
  ·rw [(hf b n).2 hn] at h
   rw [(hf b' n).2 hn] at h'
   have h1:=hr _ _ _ h
   have h2:=hr _ _ _ h'
   omega
theorem qk (n:Int):Uni (fun b=>xL b n):=by
 have:=num_uniW (f:=fun (s1:(List UInt8)×Int)=>((if (decide (s1.2 > (127:Int)))=true then (vN (0≤(IntKind.wrap .u8 (((BitVec.ofInt (IntKind.bits .u8) (IntKind.wrap .u8 (s1.2)) ||| BitVec.ofInt (IntKind.bits .u8) (128:Int)).toNat:Int)))∧(IntKind.wrap .u8 (((BitVec.ofInt (IntKind.bits .u8) (IntKind.wrap .u8 (s1.2)) ||| BitVec.ofInt (IntKind.bits .u8) (128:Int)).toNat:Int))) < 256) ((vN ((s1.1).length+(([(UInt8.ofNat (IntKind.wrap .u8 (((BitVec.ofInt (IntKind.bits .u8) (IntKind.wrap .u8 (s1.2)) ||| BitVec.ofInt (IntKind.bits .u8) (128:Int)).toNat:Int))).toNat)]:List UInt8)).length≤qM) (some (.nxt ((s1.1++([(UInt8.ofNat (IntKind.wrap .u8 (((BitVec.ofInt (IntKind.bits .u8) (IntKind.wrap .u8 (s1.2)) ||| BitVec.ofInt (IntKind.bits .u8) (128:Int)).toNat:Int))).toNat)]:List UInt8)),(Int.fdiv s1.2 (2 ^ (min (7:Int).toNat (IntKind.bits .u64)))))))))) else some (.brk (s1.1,s1.2))):Option (Out _ ((List UInt8)×Int))))
  (rest:=fun (s1:(List UInt8)×Int)=>(vN (0≤(IntKind.wrap .u8 (s1.2))∧(IntKind.wrap .u8 (s1.2)) < 256) ((vN ((s1.1).length+(([(UInt8.ofNat (IntKind.wrap .u8 (s1.2)).toNat)]:List UInt8)).length≤qM) (some (s1.1++([(UInt8.ofNat (IntKind.wrap .u8 (s1.2)).toNat)]:List UInt8))))))) ?_ ?_ n.toNat n (Nat.le_refl _)
 ·exact this
 ·intro b n
  refine ⟨fun hn o h=>?_,fun hn=>?_⟩
  ·dsimp only at h
   rw [if_pos (decide_eq_true hn)] at h
   refine wc h (fun _ h=>wc h (fun _ h=>?_))
   have e:(Int.fdiv n (2 ^ (min (7:Int).toNat (IntKind.bits .u64))))=n / 128:=by
    have:(2:Int) ^ (min (7:Int).toNat (IntKind.bits .u64))=128:=by decide
    rw [this,Int.fdiv_eq_ediv_of_nonneg _ (by omega)]
   rw [e] at h
   exact ⟨_,(Option.some.inj h).symm⟩
  ·dsimp only
   rw [if_neg (by simp;omega)]
 ·intro b n r h
  refine wc h (fun _ h=>wc h (fun _ h=>?_))
  cases h
  simp
theorem int_uni (n:Int):Uni (fun b=>codeInt b n):=(qk _).bind .some
theorem text_uni (s:yg):Uni (fun b=>qe b s):=(qk _).bind (.app s)
theorem dot_uni (d:GDot):Uni (fun b=>xZ b d):=((qk _).bind .some).bind (((qk _).bind .some).bind (((qk _).bind .some).bind .some))
theorem leaf_uni (l:GLeaf):Uni (fun b=>vq b l) :=
 (qk _).bind ((int_uni _).bind ((qk _).bind ((dot_uni _).bind ((text_uni _).bind ((qk _).bind (Uni.loop (fun _ _ _=>(qk _).bindS ((dot_uni _).bindS ((text_uni _).bindS .nxt))) ((qk _).bind (Uni.loop (fun _ _ _=>(dot_uni _).bindS .nxt) .some))))))))
theorem put_uni:∀ (n:Nat) (t:List GNode),Uni (fun b=>wH n b t)
 | 0,_=>fun _ _ _ _ h=>by cases h
 | n+1,t=>by
  simp only [wH]
  exact (qk _).bind (Uni.loop (fun _ x _=>(text_uni _).bindS ((qk _).bindS (USt.loop (fun _ y _=>(leaf_uni y).bindS .nxt) ((put_uni n x.subs).bindS .nxt)))) .some)
end Go.Vv
namespace Go.Vv
open Go
theorem idxAt {α:Type} {L:List α} {k:Nat} (h:k < L.length):qJ L (k:Int)=some L[k]:=by
 unfold qJ
 rw [if_pos (by omega),Int.toNat_natCast,List.getElem?_eq_getElem h]
theorem take_sum {α:Type} (f:α→Nat) {L:List α} {k:Nat} (h:k < L.length):((L.take (k+1)).map f).sum=((L.take k).map f).sum+f L[k]:=by
 rw [List.take_add_one,List.getElem?_eq_getElem h]
 simp only [Option.toList_some,List.map_append,List.sum_append,List.map_cons,List.map_nil,List.sum_cons,List.sum_nil,Nat.add_zero]
theorem take_le {α:Type} (f:α→Nat) (L:List α) (k:Nat):((L.take k).map f).sum≤(L.map f).sum:=by
 have e:(L.map f).sum=((L.take k).map f).sum+((L.drop k).map f).sum:=by rw [← List.sum_append,← List.map_append,List.take_append_drop]
 omega
theorem items_ge {ρ:Type}:∀ (L:List GItem) (i:Nat) (s:Int),0≤s→s+((L.map GItem.bk).sum:Nat)≤1099511627776→∃ v,zV (fun (_:Nat) (x3:GItem) (s3:Int)=>(some (.nxt (IntKind.wrap .i64 ((IntKind.wrap .i64 (s3+(1:Int)))+((x3.text).length:Int)))):Option (Out ρ Int))) L i s=some (.inr v)∧s≤v∧v≤s+((L.map GItem.bk).sum:Nat)
 | [],_,s,_,_=>⟨s,rfl,Int.le_refl _,by simp⟩
 | x::L,i,s,h0,h1=>by
  simp only [List.map_cons,List.sum_cons] at h1 ⊢
  have hk:x.text.length+1≤GItem.bk x:=by unfold GItem.bk;omega
  have e1:IntKind.wrap .i64 (s+(1:Int))=s+1:=xp (by omega)
  have e2:IntKind.wrap .i64 (s+1+(x.text.length:Int))=s+1+x.text.length:=xp (by omega)
  obtain ⟨v,e,h2,h3⟩:=items_ge (ρ:=ρ) L (i+1) (s+1+x.text.length) (by omega) (by omega)
  exact ⟨v,by simp only [zV,e1,e2];exact e,by omega,by omega⟩
def rl (x:GNode):Nat:=(rowsN [] x).length
theorem rows_lenA (a:List yg) (t:List GNode):(yq a t).length=(yq [] t).length:=by
 have:=rows_pre t a []
 rw [List.append_nil] at this
 rw [this,List.length_map]
theorem rows_rl (t:List GNode):(yq [] t).length=(t.map rl).sum:=by
 rw [xX,List.length_flatMap]
 rfl
theorem rl_eq (x:GNode):rl x=x.leaves.length+(yq [] x.subs).length:=by
 unfold rl
 rw [rowsN_eq,List.length_append,List.length_map,rows_lenA]
theorem size_ge:∀ (n:Nat) (t:List GNode) (d:Int),GNode.deps t < n→Small t→0≤d→d+GNode.deps t≤10→∃ v,xC n t d=some v∧((yq [] t).length:Int)≤v∧v≤(GNode.bks t:Int)
 | 0,_,_,h,_,_,_=>by omega
 | n+1,t,d,h,hs,h0,hd=>by
  unfold xC
  have hl:=hs.len
  have hB:(t.map GNode.bk).sum≤1048576:=by rw [← GNode.bks_eq];exact hs.2
  refine lpW (fun s=>∃ k:Nat,s.2=(k:Int)∧k≤t.length∧(((t.take k).map rl).sum:Int)≤s.1∧s.1≤(((t.take k).map GNode.bk).sum:Int)) (fun s=>((t.map rl).sum:Int)≤s.1∧s.1≤((t.map GNode.bk).sum:Int)) (fun s=>t.length - s.2.toNat) ⟨0,rfl,Nat.zero_le _,by simp,by simp⟩ ?_ (fun s hs=>⟨s.1,rfl,by rw [rows_rl];exact hs.1,by rw [GNode.bks_eq];exact hs.2⟩)
  rintro ⟨a,i⟩ ⟨k,hik,hk,g1,g2⟩
  dsimp only at hik g1 g2 ⊢
  subst hik
  by_cases hlt:k < t.length
  ·right
   have hm:t[k] ∈ t:=List.getElem_mem hlt
   have hd1:=ql hm
   have hd2:=x8 t[k]
   have ed:IntKind.wrap .i64 (d+(1:Int))=d+1:=xp (by omega)
   obtain ⟨v,e,v1,v2⟩:=size_ge n t[k].subs (d+1) (by omega) (hs.subs hm) (by omega) (by omega)
   rw [if_pos (by simp;omega)]
   simp only [idxAt hlt,Option.bind_some,ed,e]
   have s1:=take_sum GNode.bk hlt
   have s2:=take_sum rl hlt
   have s3:=take_le GNode.bk t (k+1)
   have s4:=take_le rl t k
   have hbn:=bk_node t[k]
   have hrl:=rl_eq t[k]
   have z0:(0:Int)≤a:=by omega
   have w1:IntKind.wrap .i64 (a+(1:Int))=a+1:=xp (by omega)
   have w2:IntKind.wrap .i64 (a+1+(t[k].name.length:Int))=a+1+t[k].name.length:=xp (by omega)
   have w3:IntKind.wrap .i64 (a+1+t[k].name.length+v)=a+1+t[k].name.length+v:=xp (by omega)
   have w4:IntKind.wrap .i64 ((k:Int)+(1:Int))=((k+1:Nat):Int):=(xp (by omega)).trans (by omega)
   simp only [w1,w2,w3,w4]
   obtain ⟨c0,hc0⟩:∃ c0,a+1+t[k].name.length+v=c0:=⟨_,rfl⟩
   rw [hc0]
   refine Exists.imp (fun _ h=>⟨h.1,h.2.1,h.2.2⟩) (lpN (P:=fun s':Int×Int=>(∃ k:Nat,s'.2=(k:Int)∧k≤t.length∧(((t.take k).map rl).sum:Int)≤s'.1∧s'.1≤(((t.take k).map GNode.bk).sum:Int))∧t.length - s'.2.toNat < t.length - (k:Int).toNat) (fun s=>∃ q:Nat,s.2=(q:Int)∧q≤t[k].leaves.length∧c0+q≤s.1∧s.1≤c0+(((t[k].leaves.take q).map GLeaf.bk).sum:Nat)) (fun s=>c0+t[k].leaves.length≤s.1∧s.1≤c0+((t[k].leaves.map GLeaf.bk).sum:Nat)) (fun s=>t[k].leaves.length - s.2.toNat) ⟨0,rfl,Nat.zero_le _,by simp,by simp⟩ ?_ ?_)
   ·rintro ⟨b,j⟩ ⟨q,hjq,hq,f1,f2⟩
    dsimp only at hjq f1 f2 ⊢
    subst hjq
    have u3:=take_le GLeaf.bk t[k].leaves q
    by_cases hql:q < t[k].leaves.length
    ·right
     rw [if_pos (decide_eq_true (by omega))]
     simp only [idxAt hql,Option.bind_some]
     have u1:=take_sum GLeaf.bk hql
     have u2:=take_le GLeaf.bk t[k].leaves (q+1)
     have u4:(t[k].leaves[q].items.map GItem.bk).sum+t[k].leaves[q].tombs.length+t[k].leaves[q].text.length+1≤GLeaf.bk t[k].leaves[q]:=by
      have:=dots_bk t[k].leaves[q].tombs
      unfold GLeaf.bk
      omega
     have y1:IntKind.wrap .i64 (b+(1:Int))=b+1:=xp (by omega)
     have y2:IntKind.wrap .i64 (b+1+(t[k].leaves[q].text.length:Int))=b+1+t[k].leaves[q].text.length:=xp (by omega)
     have y3:IntKind.wrap .i64 (b+1+t[k].leaves[q].text.length+(t[k].leaves[q].tombs.length:Int))=b+1+t[k].leaves[q].text.length+t[k].leaves[q].tombs.length:=xp (by omega)
     have y4:IntKind.wrap .i64 ((q:Int)+(1:Int))=((q+1:Nat):Int):=(xp (by omega)).trans (by omega)
     simp only [y1,y2,y3,y4]
     obtain ⟨w,ew,x1,x2⟩:=items_ge (ρ:=Out (Out Int (Int×Int)) (Int×Int)) t[k].leaves[q].items 0 (b+1+t[k].leaves[q].text.length+t[k].leaves[q].tombs.length) (by omega) (by omega)
     rw [ew,vS]
     exact ⟨_,rfl,⟨q+1,rfl,by omega,by dsimp only;omega,by dsimp only;omega⟩,by dsimp only;omega⟩
    ·left
     rw [if_neg (by simp;omega)]
     obtain rfl:q=t[k].leaves.length:=by omega
     rw [List.take_length] at f2
     exact ⟨_,rfl,f1,f2⟩
   ·rintro ⟨b,j⟩ ⟨f1,f2⟩
    dsimp only at f1 f2 ⊢
    refine ⟨_,rfl,⟨k+1,rfl,by omega,?_,?_⟩,by dsimp only;omega⟩
    ·dsimp only;omega
    ·dsimp only;omega
  ·left
   rw [if_neg (by simp;omega)]
   obtain rfl:k=t.length:=by omega
   rw [List.take_length] at g1 g2
   exact ⟨_,rfl,g1,g2⟩
end Go.Vv
namespace Go.Vv
open Go
theorem loop_mem {α ρ:Type} {g:α→List UInt8→Option (Out ρ (List UInt8))}:∀ (L:List α) (i:Nat) (b r:List UInt8),zV (fun _ x s=>g x s) L i b=some (.inr r)→(∀ x,USt (g x))→∀ x ∈ L,∀ b1 r1,g x b1=some (.nxt r1)→r1.length+b.length≤r.length+b1.length
 | [],_,_,_,_,_,x,hx,_,_,_=>by cases hx
 | y::L,i,b,r,h,hg,x,hx,b1,r1,h1=>by
  simp only [zV] at h
  cases e:g y b with
  | none=>rw [e] at h;cases h
  | some o =>
   obtain ⟨v,_,rfl,_,l1,_⟩:=hg y b b o o e e
   rw [e] at h
   obtain ⟨w,_,e3,_,l2,_⟩:=loop_uni L (fun _ z _=>hg z) (i+1) v v _ _ h h
   cases e3
   rcases List.mem_cons.1 hx with rfl | hx
   ·obtain ⟨w,w',e4,e5,l3,l4⟩:=hg x _ _ _ _ e h1
    cases e4;cases e5
    omega
   ·have:=loop_mem L (i+1) v r h hg x hx b1 r1 h1
    omega
theorem loop_one {α ρ:Type} {g:α→List UInt8→Option (Out ρ (List UInt8))} {x:α} {i:Nat} {b r:List UInt8} (h:zV (fun _ x s=>g x s) [x] i b=some (.inr r)) (hg:USt (g x)):g x b=some (.nxt r):=by
 simp only [zV] at h
 cases e:g x b with
 | none=>rw [e] at h;cases h
 | some o =>
  obtain ⟨v,_,rfl,_,_,_⟩:=hg b b o o e e
  rw [e] at h
  cases h
  rfl
theorem num_one:∃ r,xL [] (IntKind.wrap .u64 (1:Int))=some r∧r.length=1:=by
 have e:IntKind.wrap .u64 (1:Int)=1:=rfl
 rw [e]
 unfold xL
 rw [loopW_eq,if_neg (by decide),vS,ye (u8_range _),ye (by simp [qM])]
 exact ⟨_,rfl,rfl⟩
theorem put_le {t:List GNode} (hs:Small t) {x:GNode} (hx:x ∈ t) {r r1:List UInt8} (h:statePut [] t=some r) (h1:statePut [] [x]=some r1):r1.length≤r.length:=by
 have h2:=hs.2
 have h3:=(sing_small hs hx).2
 have hd:=ql hx
 obtain ⟨q,e,-,-⟩:=put_tot (GNode.deps t+1) t [] (by omega) hs (by simp;omega)
 obtain ⟨q1,e1,-,-⟩:=put_tot (GNode.deps t+1) [x] [] (by simp only [GNode.deps];omega) (sing_small hs hx) (by simp;omega)
 unfold statePut at h h1
 rw [anyN_of _ e] at h
 rw [anyN_of _ e1] at h1
 cases h;cases h1
 have f:=e _ (Nat.le_refl _)
 have f1:=e1 _ (Nat.le_refl _)
 simp only [wH] at f f1
 obtain ⟨v,c,f⟩:=Option.bind_eq_some_iff.1 f
 obtain ⟨v1,c1,f1⟩:=Option.bind_eq_some_iff.1 f1
 obtain ⟨w,cw,l1,-⟩:=qr (b:=[]) (n:=(t.length:Int)) (by simp)
 rw [cw] at c
 cases c
 obtain ⟨w1,cw1,l2⟩:=num_one
 rw [show (([x].length:Nat):Int)=(1:Int) from rfl,cw1] at c1
 cases c1
 have hU:∀ x:GNode,USt (ρ:=List UInt8) (fun s1=>(((qe s1 x.name).bind fun v23=>((xL v23 (IntKind.wrap .u64 (((x.leaves).length:Int)))).bind fun v25=>(lp (zV (fun (n2:Nat) (x2:GLeaf) (s2:(List UInt8))=>(((vq s2 x2).bind fun v35=>some (.nxt v35)):Option (Out _ (List UInt8)))) x.leaves 0 v25) fun (s2:(List UInt8))=>((wH (GNode.deps t) s2 x.subs).bind fun v36=>some (.nxt v36))))):Option (Out _ (List UInt8)))) :=
  fun x=>(text_uni _).bindS ((qk _).bindS (USt.loop (fun _ y _=>(leaf_uni y).bindS .nxt) ((put_uni _ x.subs).bindS .nxt)))
 generalize hF:zV (ρ:=List UInt8) _ t 0 v=o at f
 generalize hF1:zV (ρ:=List UInt8) _ [x] 0 v1=o1 at f1
 cases o with
 | none=>cases f
 | some o =>
  cases o1 with
  | none=>cases f1
  | some o1 =>
   obtain ⟨z,-,rfl,-⟩:=loop_uni t (fun _ y _=>hU y) 0 v v o o hF hF
   obtain ⟨z1,-,rfl,-⟩:=loop_uni [x] (fun _ y _=>hU y) 0 v1 v1 o1 o1 hF1 hF1
   have g1:=loop_one hF1 (hU x)
   have:=loop_mem t 0 v z hF hU x hx v1 z1 g1
   cases f;cases f1
   simp only [List.length_nil] at l1
   omega
theorem use_bytes {name:yg} {t:List GNode} (hs:Small t) (ht:treeB 0 t=true) {u:GQuota} (h:vP name t=some u):∃ r,statePut [] t=some r∧u.bytes=(r.length:Int):=by
 have h2:=hs.2
 obtain ⟨r,e,h3,h4⟩:=statePut_tot hs
 have h5:=rows_bk_le (yq [] t)
 have h6:=rows_lbk (GNode.deps t) t [] (Nat.le_refl _)
 have h7:=rows_len (GNode.deps t) t [] (Nat.le_refl _)
 refine ⟨r,e,?_⟩
 unfold vP at h
 rw [e,Option.bind_some,pathsRows_is hs,Option.bind_some,if_pos ht] at h
 have:=use_loop (ρ:=GQuota) (yq [] t) 0 0 0 0 (by omega) (by omega) (by omega)
 rw [show ((0:Int),(0:Int),(0:Int))=(((0:Nat):Int),((0:Nat):Int),((0:Nat):Int)) from rfl,this,vS] at h
 cases h
 rfl
theorem rows_app (A B:List GNode):yq [] (A++B)=yq [] A++yq [] B:=by
 rw [xX,xX,xX,List.flatMap_append]
theorem itS_app (A B:List GRow):itS (A++B)=itS A+itS B:=by simp [itS]
theorem toS_app (A B:List GRow):toS (A++B)=toS A+toS B:=by simp [toS]
theorem idx_mid {α:Type} (A:List α) (x:α) (L:List α):qJ (A++x::L) (A.length:Int)=some x:=by
 rw [idxAt (by simp)]
 simp
def lv (t:List GNode):Int×Int×Int:=(((yq [] t).length:Int),(itS (yq [] t):Int),(toS (yq [] t):Int))
theorem sums_loop {t:List GNode} (hs:Small t) (ht:treeB 0 t=true) {u:GQuota} (hu:UseOf [] t u):∀ (L A:List GNode),t=A++L →
  zV (fun (n1:Nat) (x1:GQuota) (s1:Int×Int×Int)=>(((qJ t (n1:Int)).bind fun y21=>(if ((!(x1.name==y21.name)) || (decide (x1.bytes > u.bytes)))=true then some (.ret false) else some (.nxt ((IntKind.wrap .i64 (s1.1+x1.leaves)),(IntKind.wrap .i64 (s1.2.1+x1.items)),(IntKind.wrap .i64 (s1.2.2+x1.tombs)))))):Option (Out Bool (Int×Int×Int)))) (L.map useU) A.length (lv A)=some (.inr (lv t))
 | [],A,e=>by rw [e,List.append_nil];rfl
 | x::L,A,e=>by
  have hx:x ∈ t:=by rw [e];simp
  have hU:=useU_is hs ht hx
  obtain ⟨r,p1,p2⟩:=use_bytes hs ht hu.eq
  obtain ⟨r1,p3,p4⟩:=use_bytes (sing_small hs hx) (sing_may ht hx) hU.eq
  have p5:=put_le hs hx p1 p3
  have e2:t=(A++[x])++L:=by rw [e];simp
  have q:yq [] t=(yq [] A++yq [] [x])++yq [] L:=by rw [e2,rows_app,rows_app]
  obtain ⟨u1,u2,u3⟩:=hu.v
  have u4:=hu.l.2
  have u5:=hu.i.2
  have u6:=hu.t.2
  obtain ⟨w1,w2,w3⟩:=hU.v
  have q1:=congrArg List.length q
  have q2:=congrArg itS q
  have q3:=congrArg toS q
  rw [List.length_append,List.length_append] at q1
  rw [itS_app,itS_app] at q2
  rw [toS_app,toS_app] at q3
  have ih:=sums_loop hs ht hu L (A++[x]) e2
  rw [List.length_append] at ih
  have z1:IntKind.wrap .i64 ((lv A).1+(useU x).leaves)=(lv (A++[x])).1:=by
   simp only [lv,rows_app,List.length_append,w1]
   rw [xp (by omega)];omega
  have z2:IntKind.wrap .i64 ((lv A).2.1+(useU x).items)=(lv (A++[x])).2.1:=by
   simp only [lv,rows_app,itS_app,w2]
   rw [xp (by omega)];omega
  have z3:IntKind.wrap .i64 ((lv A).2.2+(useU x).tombs)=(lv (A++[x])).2.2:=by
   simp only [lv,rows_app,toS_app,w3]
   rw [xp (by omega)];omega
  have ei:qJ t (A.length:Int)=some x:=by rw [e];exact idx_mid A x L
  simp only [List.map_cons,zV,ei,Option.bind_some,z1,z2,z3]
  rw [if_neg (by rw [hU.name];simp;omega)]
  exact ih
theorem cnt_loop {α ρ:Type} (w:α→Nat):∀ (L:List α) (i s:Nat),s+(L.map w).sum≤4611686018427387904→zV (fun (_:Nat) (x1:α) (s1:Int)=>(some (.nxt (IntKind.wrap .i64 (s1+(w x1:Int)))):Option (Out ρ Int))) L i (s:Int)=some (.inr ((s+(L.map w).sum:Nat):Int))
 | [],_,s,_=>by simp [zV]
 | x::L,i,s,h=>by
  simp only [List.map_cons,List.sum_cons] at h ⊢
  have e:IntKind.wrap .i64 ((s:Int)+(w x:Int))=((s+w x:Nat):Int):=(xp (by omega)).trans (by omega)
  simp only [zV,e]
  rw [cnt_loop w L (i+1) (s+w x) (by omega),Nat.add_assoc]
theorem rows7_top {t:List GNode} (hs:Small t):ref07Rows t []=some ((yq [] t).map vR) :=
 anyN_of (GNode.deps t+1) fun n hn=>rows7_is n t [] (by omega) hs (by have:=hs.dep;simp;omega)
theorem items7_is {t:List GNode} (hs:Small t) (h:(yq [] t).length+itS (yq [] t)≤4611686018427387904):ref07Items t=some (((yq [] t).length+itS (yq [] t):Nat):Int):=by
 unfold ref07Items
 rw [rows7_top hs,Option.bind_some,List.length_map,cnt_loop (fun x:GVarveref07Row=>x.l.items.length) _ _ _ (by rw [List.map_map];exact h),vS,List.map_map]
 rfl
theorem tombs7_is {t:List GNode} (hs:Small t) (h:toS (yq [] t)≤4611686018427387904):ref07Tombs t=some ((toS (yq [] t):Nat):Int):=by
 unfold ref07Tombs
 have:=cnt_loop (ρ:=Int) (fun x:GVarveref07Row=>x.l.tombs.length) ((yq [] t).map vR) 0 0 (by rw [List.map_map,Nat.zero_add];exact h)
 rw [rows7_top hs,Option.bind_some,show ((0:Int))=((0:Nat):Int) from rfl,this,vS,List.map_map,Nat.zero_add]
 rfl
theorem deps_le {m:Nat}:∀ {t:List GNode},(∀ x ∈ t,x.dep≤m)→GNode.deps t≤m
 | [],_=>Nat.zero_le _
 | x::r,h=>by
  have h1:=h x (by simp)
  have h2:=deps_le (t:=r) (fun y hy=>h y (by simp [hy]))
  simp only [GNode.deps]
  omega
theorem tree_deps:∀ (n:Nat) (t:List GNode) (d:Nat),GNode.deps t≤n→d≤3→treeB d t=true→d+GNode.deps t≤3
 | n,[],d,_,h,_=>by simpa [GNode.deps] using h
 | 0,x::r,d,h,_,_=>by
  have:=x8 x
  simp only [GNode.deps] at h
  omega
 | n+1,x::r,d,h,hd,ht=>by
  have h3:d < 3:=by
   simp only [treeB,Bool.and_eq_true,List.isEmpty_cons,Bool.false_or,decide_eq_true_eq] at ht
   exact ht.1.1
  have hp:=(treeB_parts ht).2
  have:GNode.deps (x::r)≤3 - d:=by
   refine deps_le fun y hy=>?_
   have h1:=ql hy
   have h2:=x8 y
   have h4:=hp y hy
   rw [nodeB_eq] at h4
   simp only [Bool.and_eq_true] at h4
   have:=tree_deps n y.subs (d+1) (by omega) (by omega) h4.1.2
   omega
  omega
theorem few_rows {t:List GNode} (hs:Small t) (ht:treeB 0 t=true) {o:GOp} (h:vZ [] t o=some false):(yq [] t).length≤1500:=by
 have hd:=tree_deps _ t 0 (Nat.le_refl _) (by omega) ht
 obtain ⟨v,e,h1,h2⟩:=size_ge (GNode.deps t+1) t 0 (by omega) hs (by omega) (by omega)
 have e2:ref07Xsize t 0=some v:=anyN_of (GNode.deps t+1) fun n hn=>by rw [size_fuel n (GNode.deps t+1) t 0 (by omega) (by omega)];exact e
 unfold vZ qZ at h
 rw [e2] at h
 by_cases hv:v > 1500
 ·simp [zV,lp,hv] at h
 ·omega
theorem law45MeterSums_is {t:List GNode} (hs:Small t):qa t=some true:=by
 unfold qa
 obtain ⟨g,hg⟩:=great45_tot (L:=[]) hs (GOp.mk (0:Int) ([]:List yg) (0:Int) ([]:yg) ([]:List GDot))
 rw [hg,Option.bind_some]
 cases g with
 | true=>simp [known45]
 | false =>
  rw [if_pos (show (false==false)=true from rfl),ref07May_is hs,Option.bind_some]
  cases ht:treeB 0 t with
  | false=>simp [known45]
  | true =>
   rw [if_neg (by simp),uses_is hs ht,Option.bind_some]
   obtain ⟨u,hu⟩:=use_is [] hs ht
   have hA:meterAll t=some (u,0):=by
    unfold meterAll
    rw [treeMay_is hs,Option.bind_some,ht,if_neg (by simp),hu.eq];rfl
   rw [hA,Option.bind_some]
   have hf:=few_rows hs ht hg
   obtain ⟨rr,e,hr⟩:=heavy_ok hs ht (by omega)
   have hl:=sums_loop hs ht hu t [] rfl
   have h0:lv []=((0:Int),(0:Int),(0:Int)):=rfl
   rw [h0] at hl
   dsimp only at hl ⊢
   rw [List.length_nil] at hl
   rw [hl,vS,e,Option.bind_some]
   obtain ⟨u1,u2,u3⟩:=hu.v
   have u4:=hu.l.2
   have u5:=hu.i.2
   have u6:=hu.t.2
   rw [if_neg (by simp [lv,u1,u2,u3]),items7_is hs (by omega),Option.bind_some,tombs7_is hs (by omega)]
   have w:IntKind.wrap .i64 ((lv t).1+(lv t).2.1)=(((yq [] t).length+itS (yq [] t):Nat):Int):=by
    simp only [lv]
    rw [xp (by omega)];omega
   rw [w,hr]
   simp [lv,known45]
theorem law45MeterSums_top (t:List GNode) (h1:t.length≤maxLen∧∀ y ∈ t,GNode.wf y) (hb:(t.map GNode.bk).sum+1≤1048576):qa t=some true :=
 law45MeterSums_is (small_of h1 (by omega))
end Go.Vv
