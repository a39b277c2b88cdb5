/- Ranges over maps whose order is not told: read for every order. -/
import Derived.Test.YtdfmjndkgfpipaaGreatVvMr
namespace Go.Vv
set_option linter.unusedVariables false
set_option linter.unusedSimpArgs false
open Go Go.RowKit
section
variable {α ρ σ:Type}
open Classical in
noncomputable def allP (m:List α) (f:List α→Option ρ):Option ρ:=if h:∃ r,∀ p:List α,p.Perm m→f p=some r then some (Classical.choose h) else none
theorem allP_is {m:List α} {f:List α→Option ρ} {r:ρ} (h:allP m f=some r):∀ p:List α,p.Perm m→f p=some r:=by
 unfold allP at h
 split at h
 ·rename_i hx
  injection h with h;subst h
  exact Classical.choose_spec hx
 ·cases h
theorem allP_of {m:List α} {f:List α→Option ρ} {r:ρ} (h:∀ p:List α,p.Perm m→f p=some r):allP m f=some r:=by
 have hx:∃ r,∀ p:List α,p.Perm m→f p=some r:=⟨r,h⟩
 unfold allP
 rw [dif_pos hx]
 have:=Classical.choose_spec hx m (List.Perm.refl _)
 rw [h m (List.Perm.refl _)] at this
 exact this.symm
def leftM (m:List α) (seen:List Nat):List α:=(m.zipIdx.filter fun p=>!seen.contains p.2).map (·.1)
theorem leftM_nil (m:List α):leftM m []=m:=by
 unfold leftM
 have:(m.zipIdx.filter fun p=>!([]:List Nat).contains p.2)=m.zipIdx:=List.filter_eq_self.2 fun p _=>by simp
 rw [this,List.zipIdx_map_fst]
theorem leftZ_perm {seen:List Nat}:∀ (m:List α) (n i:Nat) {x:α},m[i]?=some x→n+i ∉ seen →
  (((m.zipIdx n).filter fun p=>!seen.contains p.2).map (·.1)).Perm (x::((m.zipIdx n).filter fun p=>!(seen++[n+i]).contains p.2).map (·.1))
 | [],_,_,_,h,_=>by simp at h
 | a::t,n,0,x,h,hs=>by
  simp only [List.getElem?_cons_zero,Option.some.injEq] at h
  subst h
  have h1:((t.zipIdx (n+1)).filter fun p=>!seen.contains p.2)=(t.zipIdx (n+1)).filter fun p=>!(seen++[n]).contains p.2:=by
   refine List.filter_congr fun p hp=>?_
   have:=List.le_snd_of_mem_zipIdx hp
   have hne:p.2 ≠ n:=by omega
   simp [hne]
  have hs':n ∉ seen:=hs
  simp only [List.zipIdx_cons,Nat.add_zero]
  rw [List.filter_cons_of_pos (by simpa using hs'),List.filter_cons_of_neg (by simp),h1]
  exact List.Perm.refl _
 | a::t,n,i+1,x,h,hs=>by
  simp only [List.getElem?_cons_succ] at h
  have ih:=leftZ_perm t (n+1) i h (by rwa [show n+1+i=n+(i+1) by omega])
  rw [show n+1+i=n+(i+1) by omega] at ih
  simp only [List.zipIdx_cons]
  by_cases hn:n ∈ seen
  ·rw [List.filter_cons_of_neg (by simpa using hn),List.filter_cons_of_neg (by simp [hn])]
   exact ih
  ·rw [List.filter_cons_of_pos (by simpa using hn),List.filter_cons_of_pos (by simp [hn])]
   simp only [List.map_cons]
   exact (List.Perm.cons a ih).trans (List.Perm.swap x a _)
theorem leftM_perm {m:List α} {seen:List Nat} {i:Nat} {x:α} (hi:m[i]?=some x) (hs:i ∉ seen):(leftM m seen).Perm (x::leftM m (seen++[i])):=by
 have:=leftZ_perm (seen:=seen) m 0 i hi (by simpa using hs)
 simpa [leftM] using this
def konM (f:Nat→α→σ→Option (Out ρ σ)) (m:List α) (seen:List Nat) (rest:σ→Option ρ) (o0:ρ):Out ρ σ→Prop
 | .ret r=>some r=some o0
 | .brk s=>rest s=some o0
 | .nxt s=>∀ p:List α,p.Perm (leftM m seen)→lp (zY f p seen.length s) rest=some o0
def LeftOk (f:Nat→α→σ→Option (Out ρ σ)) (m:List α) (seen:List Nat) (rest:σ→Option ρ) (o0:ρ) (s:σ):Prop:=∀ p:List α,p.Perm (leftM m seen)→lp (zY f p seen.length s) rest=some o0
theorem leftOk_step {f:Nat→α→σ→Option (Out ρ σ)} {m:List α} {seen:List Nat} {rest:σ→Option ρ} {o0:ρ} {s:σ} (h:LeftOk f m seen rest o0 s) {i:Nat} {x:α} (hi:m[i]?=some x) (hs:i ∉ seen) :
  ∃ o1,f seen.length x s=some o1∧konM f m (seen++[i]) rest o0 o1:=by
 have key:∀ p:List α,p.Perm (leftM m (seen++[i]))→lp (zY f (x::p) seen.length s) rest=some o0:=fun p hp=>h _ ((List.Perm.cons x hp).trans (leftM_perm hi hs).symm)
 have k0:=key _ (List.Perm.refl _)
 simp only [zY] at k0
 cases hf:f seen.length x s with
 | none=>rw [hf] at k0;cases k0
 | some o1 =>
  refine ⟨o1,rfl,?_⟩
  cases o1 with
  | ret r=>rw [hf] at k0;exact k0
  | brk s'=>rw [hf] at k0;exact k0
  | nxt s' =>
   intro p hp
   have:=key p hp
   simp only [zY,hf] at this
   rw [List.length_append]
   exact this
theorem leftOk_end {f:Nat→α→σ→Option (Out ρ σ)} {m:List α} {seen:List Nat} {rest:σ→Option ρ} {o0:ρ} {s:σ} (h:LeftOk f m seen rest o0 s) (hl:leftM m seen=[]):rest s=some o0:=by
 have:=h [] (by rw [hl])
 exact this
end
section
variable {P:Program} {env:List AV} {h:AH} {Q:Exit→List AV→AH→Prop}
theorem r_loopMF {α ρ σ:Type} {body:Code} {f:Nat→α→σ→Option (Out ρ σ)} {m:List α} {s0:σ} {rest:σ→Option ρ} {o0:ρ} (U:σ→List (Nat×AV)) (H:List Nat→σ→AH) (hF:allP m (fun p=>lp (zY f p 0 s0) rest)=some o0) {E:σ→List AV}
  (_hE:∀ s,upd env (U s)=E s) (h0:wk h env h (E s0) (H [] s0))
  (hs:∀ seen s,LeftOk f m seen rest o0 s→awp P body (loopQ (fun env' h'=>∃ i s',(i < m.length∧i ∉ seen)∧LeftOk f m (seen++[i]) rest o0 s'∧wk (H seen s) env' h' (E s') (H (seen++[i]) s')) Q) (E s) (H seen s)) :
  awp P (.loop body) Q env h:=by
 refine r_loop (σ:=List Nat×σ) (fun p=>E p.2) (fun p=>H p.1 p.2) (fun p=>LeftOk f m p.1 rest o0 p.2) (fun p=>(leftM m p.1).length) ([],s0) h0 (fun p hp=>allP_is hF p (by rwa [leftM_nil] at hp)) ?_
 rintro ⟨seen,s⟩ hl
 refine qI ?_ _ _ _ (hs seen s hl)
 intro x env' h' hq
 cases x with
 | normal =>
  obtain ⟨i,s',⟨h1,h2⟩,h3,h4⟩:=hq
  refine ⟨(seen++[i],s'),h3,?_,h4⟩
  have:=(leftM_perm (List.getElem?_eq_getElem h1) h2).length_eq
  simp only [List.length_cons] at this
  show (leftM m (seen++[i])).length < (leftM m seen).length
  omega
 | _=>exact hq
theorem ops_rangeM {K W:Type} {kv:K→AV} {vv:W→AV} {ops:Array Oper} {Q:List AV→AH→Prop} {o:Oper} {rest:List Oper} {env env':List AV} {h:AH} {L L':List Blk} {M:List Nat} {t kt et:TypeId} {x:Operand} {id n:Nat} {m:List (K×W)} (hg:aG ops o env=some true) (ho:o.op=.range t x) (ht:P.underlying t=some (.map kt et))
  (hx:xf env x=some (.map id)) (hb:(h.ext L M).blk id=some (.mapo (m.map (qE kv vv)) 0)) (hn:L.length=n) (hd:vp o.dst env (.ptr (h.blks.length+n) 0)=some env') (hL:L++[.miter id m.length []]=L') (hk:yn P ops Q rest env' (h.ext L' M)):yn P ops Q (o::rest) env (h.ext L M):=by
 obtain ⟨h1,h2⟩:=yz hx
 subst hn hL
 have key:w8 P o env (h.ext L M)=some [(.ptr (h.blks.length+L.length) 0,h.ext (L++[.miter id m.length []]) M)]:=by
  simp only [w8,ho,h1,h2,ht,hb,if_true]
  simp [AH.new,AH.ext]
 refine awpOps_consB hg ⟨_,key,fun p hp=>?_⟩
 simp only [List.mem_singleton] at hp
 subst hp
 show yn P ops Q rest (setd env o.dst (.ptr (h.blks.length+L.length) 0)) _
 rw [xZ hd];exact hk
theorem ops_nextMF {K W ρ σ:Type} {kv:K→AV} {vv:W→AV} {ops:Array Oper} {Q:List AV→AH→Prop} {o:Oper} {rest:List Oper} {env e2:List AV} {h:AH} {L:List Blk} {M:List Nat} {x:Operand} {m:List (K×W)} {id j:Nat} {seen:List Nat}
  {f:Nat→K×W→σ→Option (Out ρ σ)} {s:σ} {rst:σ→Option ρ} {o0:ρ} (hg:aG ops o env=some true) (ho:o.op=.next x false)
  (hx:xf env x=some (.ptr (h.blks.length+j) 0)) (hj:L[j]?=some (.miter id m.length seen)) (hb:(h.ext L M).blk id=some (.mapo (m.map (qE kv vv)) 0)) (hd2:vp o.dst env (.tup [.bool false])=some e2)
  (hF:LeftOk f m seen rst o0 s)
  (hk1:∀ i y o1,m[i]?=some y→(i < m.length∧i ∉ seen)→f seen.length y s=some o1→konM f m (seen++[i]) rst o0 o1→∃ e1,vp o.dst env (.tup [.bool true,kv y.1,vv y.2])=some e1∧yn P ops Q rest e1 (h.ext (L.set j (.miter id m.length (seen++[i]))) M))
  (hk2:rst s=some o0→yn P ops Q rest e2 (h.ext L M)):yn P ops Q (o::rest) env (h.ext L M):=by
 obtain ⟨h1,h2⟩:=yz hx
 have key:w8 P o env (h.ext L M)=some (nextAlts (h.ext L M) (h.blks.length+j) id m.length seen (m.map (qE kv vv))):=by
  simp [w8,ho,h1,h2,x7,hj,hb]
 refine awpOps_consB hg ⟨_,key,fun p hp=>?_⟩
 unfold nextAlts at hp
 have hzip:(m.map (qE kv vv)).zipIdx=m.zipIdx.map fun q=>(qE kv vv q.1,q.2):=by
  rw [List.zipIdx_map];rfl
 rw [hzip,List.filter_map] at hp
 split at hp
 ·rename_i he
  simp only [List.mem_singleton] at hp
  subst hp
  have hl:leftM m seen=[]:=by
   unfold leftM
   rw [List.map_eq_nil_iff] at he ⊢
   exact he
  show yn P ops Q rest (setd env o.dst (.tup [.bool false])) (h.ext L M)
  rw [xZ hd2]
  exact hk2 (leftOk_end hF hl)
 ·rename_i q r he
  rw [← he,List.map_map,List.mem_map] at hp
  obtain ⟨⟨y,i⟩,hm,rfl⟩:=hp
  rw [List.mem_filter] at hm
  have hi:=List.mem_zipIdx_iff_getElem?.1 hm.1
  have hns:i ∉ seen:=by simpa using hm.2
  obtain ⟨o1,h3,h4⟩:=leftOk_step hF hi hns
  obtain ⟨e1,h5,h6⟩:=hk1 i y o1 hi ⟨(List.getElem?_eq_some_iff.1 hi).1,hns⟩ h3 h4
  show yn P ops Q rest (setd env o.dst (.tup [.bool true,kv y.1,vv y.2])) ((h.ext L M).put (h.blks.length+j) (.miter id m.length (seen++[i])))
  rw [xZ h5,qw]
  exact h6
theorem ops_entryM {K W:Type} {kv:K→AV} {vv:W→AV} {ops:Array Oper} {Q:List AV→AH→Prop} {o:Oper} {rest:List Oper} {env env':List AV} {h:AH} {L:List Blk} {M:List Nat} {x:Operand} {m:List (K×W)} {id j i:Nat} {y:K×W} {seen:List Nat}
  (hg:aG ops o env=some true) (ho:o.op=.entry x) (hx:xf env x=some (.ptr (h.blks.length+j) 0)) (hj:L[j]?=some (.miter id m.length (seen++[i]))) (hb:(h.ext L M).blk id=some (.mapo (m.map (qE kv vv)) 0)) (hy:m[i]?=some y)
  (hd:vp o.dst env (.tup [kv y.1,vv y.2])=some env') (hk:yn P ops Q rest env' (h.ext L M)):yn P ops Q (o::rest) env (h.ext L M):=by
 obtain ⟨h1,h2⟩:=yz hx
 have key:w8 P o env (h.ext L M)=some [(.tup [kv y.1,vv y.2],h.ext L M)]:=by
  simp [w8,ho,h1,h2,x7,hj,hb,hy,qE]
 refine awpOps_consB hg ⟨_,key,fun p hp=>?_⟩
 simp only [List.mem_singleton] at hp
 subst hp
 show yn P ops Q rest (setd env o.dst (.tup [kv y.1,vv y.2])) _
 rw [xZ hd];exact hk
theorem bytesX_map:∀ L:List UInt8,bytesX (L.map byteRow)=some L
 | []=>rfl
 | b::r=>by
  have hb:b.toNat < 256:=b.toBitVec.isLt
  simp only [List.map_cons,byteRow,bytesX]
  rw [if_pos ⟨by omega,by omega⟩,bytesX_map r]
  simp
def slOrOsl (k:Nat) (es:List (List AV)) (a:AV):Prop:=a=.sl k es ∨ ∃ q,a=.osl q k es
theorem convB {o:Oper} {env:List AV} {h:AH} {s t e:TypeId} {x:Operand} {a:AV} {L:List UInt8} (ho:o.op=.convert s t x) (hs:P.underlying s=some (.slice e)) (he:P.underlying e=some (.int .u8)) (ht:P.underlying t=some .string)
  (hx:xf env x=some a) (ha:slOrOsl 1 (L.map byteRow) (tyfix P s a)) (hl:L.length≤maxLen):w8 P o env h=some [(.str L,h)]:=by
 obtain ⟨h1,h2⟩:=yz hx
 simp only [w8,ho,h1,h2,if_true,convX,hs,ht]
 rcases ha with ha | ⟨q,ha⟩
 ·rw [ha];simp only [he,bytesX_map,if_pos hl]
 ·rw [ha];simp only [he,bytesX_map,if_pos hl]
theorem ops_b {ops:Array Oper} {Q:List AV→AH→Prop} {o:Oper} {rest:List Oper} {env env':List AV} {h h':AH} {v:AV} (hg:aG ops o env=some true) (hb:w8 P o env h=some [(v,h')]) (hd:vp o.dst env v=some env') (hk:yn P ops Q rest env' h'):yn P ops Q (o::rest) env h:=by
 refine awpOps_consB hg ⟨_,hb,fun p hp=>?_⟩
 simp only [List.mem_singleton] at hp
 subst hp
 show yn P ops Q rest (setd env o.dst v) h'
 rw [xZ hd];exact hk
theorem draw_b {ops:Array Oper} {Ns:List Nat} {F:Nat→AH→Prop} {Q:List AV→AH→Prop} {i:Nat} {o:Oper} {rest:List Oper} {env env':List AV} {h:AH} {v:AV} (hN:Ns.contains i=false) (hbd:bdraw o.op=true) (hg:aG ops o env=some true) (hb:w8 P o env h=some [(v,h)]) (hd:vp o.dst env v=some env') (hk:xa P ops Ns F Q (i+1) rest env' h):xa P ops Ns F Q i (o::rest) env h :=
 ⟨v,h,.inr (.inr ⟨hN,hbd,hg,hb⟩),.inr rfl,.inl rfl,by rw [xZ hd];exact hk⟩
end
end Go.Vv
