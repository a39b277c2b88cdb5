/- Each operation of the model: structs made, comparisons, integers, lengths. -/
import Derived.Test.YtbaclapbinkedaaVvG
import Derived.Great.BuildSlice
import Derived.ChangeKeysEq
namespace Go.Vv
open Go Go.RowKit Go.Lib
section
variable {P:Program} {w:World} {g:Gh} {h:AH} {B:Nat} {w0:World}

theorem tyfix_one {t:TypeId} {a:AV} (h:a.one=true):(tyfix P t a).one=true:=by
 unfold tyfix
 split
 ·split <;> rfl
 ·exact h
theorem VA.fix:∀ {ts:List TypeId} {as:List AV} {vs:List Value},VA g as vs→VA g (fixCells P ts as) vs
 | [],_,_,h=>by simp only [fixCells];exact h
 | _::_,[],_,h=>by simp only [fixCells];exact h
 | t::ts,a::as,vs,h=>by
  simp only [VA] at h
  obtain ⟨v,s,rfl,⟨h0,h1⟩,h2⟩:=h
  simp only [fixCells,VA]
  exact ⟨v,s,rfl,⟨tyfix_one h0,h1.tyfix⟩,VA.fix h2⟩
theorem qB {t:TypeId} {cs:List AV} (hz:wy P t=some cs):∃ i z,P.info? t=some i∧i.zero=some z∧VA g cs z.cells.toList:=by
 unfold wy at hz
 split at hz
 ·rename_i i hi
  split at hz
  ·rename_i z hzz
   split at hz
   ·rename_i hok
    split at hz
    ·rename_i cs' hc
     cases hz
     exact ⟨i,z,hi,hzz,((V.cv hok).cells hc).fix⟩
    ·cases hz
   ·cases hz
  ·cases hz
 ·cases hz

theorem parts_rel {d:TypeDesc} {env:List AV} {a:Act} (he:VL g env a.tmps.toList) {parts:Array (Nat×Operand)} (hok:(parts.all fun p=>yF p.2)=true) :
  (xQ P d env parts).length=(parts.map fun (i,x)=>(i,a.eval x)).toList.length ∧
  ∀ (j:Nat) (p:Nat×AV) (q:Nat×Value),(xQ P d env parts)[j]?=some p→(parts.map fun (i,x)=>(i,a.eval x)).toList[j]?=some q→p.1=q.1∧V g p.2 q.2:=by
 refine ⟨by simp [xQ],fun j p q h1 h2=>?_⟩
 simp only [xQ,List.getElem?_map,Array.toList_map,Option.map_eq_some_iff] at h1 h2
 obtain ⟨x,hx,rfl⟩:=h1
 obtain ⟨y,hy,rfl⟩:=h2
 rw [hx] at hy
 injection hy with hy
 subst hy
 have hmem:x ∈ parts:=by
  have:=List.mem_of_getElem? hx
  simpa using this
 have hx2:=(Array.all_eq_true_iff_forall_mem.1 hok) x hmem
 exact ⟨rfl,(V.ev he hx2).tyfix⟩

theorem build_sound {t:TypeId} {env:List AV} {a:Act} (he:VL g env a.tmps.toList) {parts:Array (Nat×Operand)} (hok:(parts.all fun p=>yF p.2)=true) {z out:List AV} (hz:wy P t=some z)
  (hcase:(∃ fs pl,P.underlying t=some (.struct fs)∧qj P fs=some pl∧qx (fun i=>pl[i]?) z (xQ P (.struct fs) env parts)=some out) ∨
   ∃ n e j,P.underlying t=some (.array n e)∧P.info? e=some j∧qx (fun i=>some (i * j.size,j.size)) z (xQ P (.array n e) env parts)=some out) :
  ∃ u,(Instr.build t (parts.map fun (i,x)=>(i,a.eval x))).run P w=.ok u w∧V g (.agg out) u:=by
 obtain ⟨i,zv,hi,hzv,hva⟩:=qB (g:=g) hz
 rcases hcase with ⟨fs,pl,hu,hpl,hf⟩ | ⟨n,e,j,hu,hj,hf⟩
 ·obtain ⟨h1,h2⟩:=parts_rel (P:=P) (d:=.struct fs) he hok
  obtain ⟨xs,hx1,hx2⟩:=fill_sound (place':=(pl.toArray[·]?)) (fun i x h=>by simpa using h) hva h1 h2 hf
  refine ⟨.agg xs,run_build w t _ xs ?_,by simp only [V];exact ⟨xs,rfl,hx2⟩⟩
  unfold qj at hpl
  simp only [Program.built,hi,hu,hzv,hpl]
  exact hx1
 ·obtain ⟨h1,h2⟩:=parts_rel (P:=P) (d:=.array n e) he hok
  obtain ⟨xs,hx1,hx2⟩:=fill_sound (place':=fun i=>some (i * j.size,j.size)) (fun i x h=>h) hva h1 h2 hf
  refine ⟨.agg xs,run_build w t _ xs ?_,by simp only [V];exact ⟨xs,rfl,hx2⟩⟩
  simp only [Program.built,hi,hu,hzv,hj]
  exact hx1

theorem aEqL_split:∀ (ks:List Kd) {ls:List Kd} {as bs:List AV} {r:Bool},qW (ks++ls) as bs=some r →
  ∃ r1 r2,qW ks (as.take ks.length) (bs.take ks.length)=some r1∧qW ls (as.drop ks.length) (bs.drop ks.length)=some r2∧r=(r1&&r2)∧ks.length≤as.length∧ks.length≤bs.length
 | [],ls,as,bs,r,h=>⟨true,r,by simp [qW],by simpa using h,by simp,by simp,by simp⟩
 | k::ks,ls,[],bs,r,h=>by simp [qW] at h
 | k::ks,ls,a::as,[],r,h=>by simp [qW] at h
 | k::ks,ls,a::as,b::bs,r,h=>by
  simp only [List.cons_append,qW] at h
  split at h
  ·rename_i x y hx hy
   obtain ⟨r1,r2,h1,h2,h3,h4,h5⟩:=aEqL_split ks hy
   cases h
   exact ⟨x&&r1,r2,by simp [qW,hx,h1],by simpa using h2,by rw [h3,Bool.and_assoc],by simpa using h4,by simpa using h5⟩
  ·cases h

def KdOk (P:Program) (t:TypeId):Kd→Prop
 | .b=>P.underlying t=some .bool
 | .i=>∃ j,P.underlying t=some (.int j)
 | .s=>P.underlying t=some .string

theorem eq1_run {t:TypeId} {k:Kd} {a b:AV} {x y:Value} {r:Bool} (ha:V g a x) (hb:V g b y) (hr:aEq1 k a b=some r)
  (hd:KdOk P t k) (D:Nat):(Op.equalIn (D+1) t x y).run P w=.ok r w:=by
 unfold aEq1 at hr
 split at hr
 ·cases hr
  simp only [V] at ha hb
  subst ha hb
  exact run_equalIn_bool w D t _ _ hd
 ·split at hr
  ·rename_i hk
   cases hr
   simp only [V] at ha hb
   subst ha hb hk
   obtain ⟨j,hd⟩:=hd
   simp [Op.equalIn,run_underlying hd]
  ·cases hr
 ·cases hr
  simp only [V] at ha hb
  obtain ⟨rfl,_⟩:=ha
  obtain ⟨rfl,_⟩:=hb
  rw [run_equalIn_string w D t _ _ hd,ByteArray.toList_mk,ByteArray.toList_mk]
 ·cases hr

def EqE (P:Program) (w:World) (g:Gh) (d:Nat):Prop:=∀ {t:TypeId} {ks:List Kd} {i:TypeInfo},wp P d t=some ks→P.info? t=some i→i.size=ks.length→∀ {xs ys:Array Value} {as bs:List AV} {off:Nat} {r:Bool},VA g as xs.toList→VA g bs ys.toList →
  qW ks ((as.drop off).take ks.length) ((bs.drop off).take ks.length)=some r→∀ D,d≤D→∃ u v,(part t xs off).run P w=.ok u w∧(part t ys off).run P w=.ok v w∧(Op.equalIn D t u v).run P w=.ok r w

theorem eqF {d:Nat} (E:EqE P w g d):∀ (fs:List Field) (acc:Nat) {ks:List Kd},plainFs P d fs acc=some ks→∀ {xs ys:Array Value} {as bs:List AV} {r:Bool},VA g as xs.toList→VA g bs ys.toList →
  qW ks (as.drop acc) (bs.drop acc)=some r→∀ D,d≤D→(Op.eqFields D xs ys fs).run P w=.ok r w
 | [],acc,ks,h,xs,ys,as,bs,r,ha,hb,hr,D,_=>by
  simp only [plainFs,plainFsOf,Option.some.injEq] at h
  subst h
  have:r=true:=by
   rcases h1:as.drop acc with _ | ⟨a,as'⟩ <;> rcases h2:bs.drop acc with _ | ⟨b,bs'⟩ <;> simp [h1,h2,qW] at hr
   exact hr
  subst this
  simp [Op.eqFields]
 | f::fs,acc,ks,h,xs,ys,as,bs,r,ha,hb,hr,D,hD=>by
  simp only [plainFs,plainFsOf] at h
  split at h
  ·rename_i hf
   split at h
   ·rename_i k1 i hk1 hi
    split at h
    ·rename_i hsz
     split at h
     ·rename_i k2 hk2
      cases h
      obtain ⟨r1,r2,h1,h2,h3,h4,h5⟩:=aEqL_split k1 hr
      obtain ⟨u,v,e1,e2,e3⟩:=E hk1 hi hsz ha hb h1 D hD
      have e4:=eqF E fs (acc+i.size) hk2 ha hb (by rw [List.drop_drop,List.drop_drop,← hsz] at h2;exact h2) D hD
      simp only [Op.eqFields,if_pos hf.1,hf.2,Sem.run_bind,e1,e2,e3,Result.andThen_ok]
      cases r1 with
      | true=>simp at h3;subst h3;simpa using e4
      | false=>simp at h3;subst h3;simp
     ·cases h
    ·cases h
   ·cases h
  ·cases h
theorem eqE:∀ (d:Nat),EqE P w g d:=by
 intro d
 induction d with
 | zero=>intro t ks i h;simp [wp] at h
 | succ d ih =>
  intro t ks i h hi hsz xs ys as bs off r ha hb hr D hD
  obtain ⟨D,rfl⟩:∃ D',D=D'+1:=⟨D - 1,by omega⟩
  have one:∀ (k:Kd),ks=[k]→KdOk P t k →
    ∃ u v,(part t xs off).run P w=.ok u w∧(part t ys off).run P w=.ok v w∧(Op.equalIn (D+1) t u v).run P w=.ok r w:=by
   intro k hk hd
   subst hk
   simp only [List.length_singleton] at hr
   rcases h1:as.drop off with _ | ⟨a,as'⟩
   ·simp [h1,qW] at hr
   ·rcases h2:bs.drop off with _ | ⟨b,bs'⟩
    ·simp [h1,h2,qW] at hr
    ·have h1':as[off]?=some a:=by have:=congrArg (·[0]?) h1;simpa using this
     have h2':bs[off]?=some b:=by have:=congrArg (·[0]?) h2;simpa using this
     obtain ⟨u,hu,hVu⟩:=ha.toVL.get _ _ h1'
     obtain ⟨v,hv,hVv⟩:=hb.toVL.get _ _ h2'
     rw [Array.getElem?_toList] at hu hv
     have hr':aEq1 k a b=some r:=by
      simp [h1,h2,qW] at hr
      split at hr
      ·rename_i x y hx hy
       cases hy;cases hr;rw [hx];simp
      ·cases hr
     have hag:∀ dd,P.underlying t=some dd→yI dd=false→∃ u v,(part t xs off).run P w=.ok u w∧(part t ys off).run P w=.ok v w∧(Op.equalIn (D+1) t u v).run P w=.ok r w:=fun dd hdd hf =>
      ⟨u,v,by simp [part,run_agg hdd,hf,hu],by simp [part,run_agg hdd,hf,hv],eq1_run hVu hVv hr' hd D⟩
     cases k with
     | b=>exact hag _ hd rfl
     | i=>obtain ⟨j,hd'⟩:=hd;exact hag _ hd' rfl
     | s=>exact hag _ hd rfl
  simp only [wp] at h
  split at h
  ·rename_i hu;cases h;exact one .b rfl hu
  ·rename_i j hu;cases h;exact one .i rfl ⟨j,hu⟩
  ·rename_i hu;cases h;exact one .s rfl hu
  ·rename_i fs hu
   split at h
   ·cases h
   ·rename_i hst
    have hfo:P.fieldsOf t=fs:=by simp [Program.fieldsOf,hu]
    have hx:(part t xs off).run P w=.ok (.agg (xs.extract off (off+i.size))) w:=by simp [part,run_agg hu,yI,wN hi]
    have hy:(part t ys off).run P w=.ok (.agg (ys.extract off (off+i.size))) w:=by simp [part,run_agg hu,yI,wN hi]
    refine ⟨_,_,hx,hy,?_⟩
    rw [run_equalIn_struct w D t _ _ (by rw [hfo];exact hu) (by simpa using hst),hfo]
    have hxa:VA g ((as.drop off).take ks.length) (xs.extract off (off+i.size)).toList:=by
     rw [Array.toList_extract,List.extract_eq_take_drop,show off+i.size - off=i.size by omega,hsz]
     exact VA.take _ (VA.drop _ ha)
    have hya:VA g ((bs.drop off).take ks.length) (ys.extract off (off+i.size)).toList:=by
     rw [Array.toList_extract,List.extract_eq_take_drop,show off+i.size - off=i.size by omega,hsz]
     exact VA.take _ (VA.drop _ hb)
    exact eqF ih fs.toList 0 h hxa hya (by simpa using hr) D (by omega)
  ·cases h
theorem eqItems_sound {e:TypeId} {i:TypeInfo} (hp:wp P 1 e=some [.i]) (hi:P.info? e=some i) (hs:i.size=1) {us vs:Array Value} {cs ds:List AV} (hu:VA g cs us.toList) (hv:VA g ds vs.toList):∀ (m s:Nat) {r:Bool},
  qW (List.replicate m .i) (cs.drop s) (ds.drop s)=some r→∀ D,1≤D→(Op.eqItems D e (P.cellsOf e) us vs (List.range' s m)).run P w=.ok r w:=by
 have hc:P.cellsOf e=1:=by simp [Program.cellsOf,hi,hs]
 intro m
 induction m with
 | zero =>
  intro s r h D _
  rcases h1:cs.drop s with _ | ⟨a,as⟩ <;> rcases h2:ds.drop s with _ | ⟨b,bs⟩ <;> simp [h1,h2,qW] at h
  subst h
  simp [Op.eqItems]
 | succ m ih =>
  intro s r h D hD
  obtain ⟨r1,r2,h1,h2,h3,_⟩:=aEqL_split [.i] (ls:=List.replicate m .i) (by simpa [List.replicate_succ] using h)
  obtain ⟨u,v,e1,e2,e3⟩:=eqE (P:=P) (w:=w) 1 hp hi hs hu hv (off:=s) h1 D hD
  have e4:=ih (s+1) (by rw [List.drop_drop,List.drop_drop] at h2;exact h2) D hD
  rw [hc] at e4 ⊢
  simp only [List.range'_succ,Op.eqItems,Nat.mul_one,Sem.run_bind,e1,e2,e3,Result.andThen_ok]
  cases r1 with
  | true=>simp at h3;subst h3;simpa using e4
  | false=>simp at h3;subst h3;simp
end
end Go.Vv
