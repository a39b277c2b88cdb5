/- Append, whose new block is nobody's; calls with arguments told more loosely. -/
import Derived.Test.YtcociipjgndnaaaGreatVvBs
namespace Go.Vv
open Go Go.RowKit Go.Lib

def anew (P:Program) (o:Oper) (env:List AV):Option (Nat×List (List AV)) :=
 match o.op with
 | .call c=>match c.callee,c.argTypes.toList,c.args.toList with
  | .builtin .append,[t,u],[s,x]=>if yy s&&yy x then (match P.underlying t,P.underlying u with
   | some (.slice e),some (.slice _)=>match P.info? e with
    | some i=>if i.bytes<=65536/\0 < i.size/\(i.zero.map (·.cells.size))=some i.size then (match tyfix P t (ev env s),qq i.size (tyfix P u (ev env x)) with
     | .osl none k [],some ys=>if k=i.size/\ys.length<=yK then some (i.size,ys) else none
     | _,_=>none) else none
    | none=>none
   | _,_=>none) else none
  | _,_,_=>none
 | _=>none

section
variable {P:Program} {w:World} {g:Gh} {h:AH} {B:Nat} {w0:World}
theorem news_ex (r:Rel B w0 g h w) {k:Nat} (G:0 < k) {F:AV} {y:Value} (n:V g F y) {m:List (List AV)} (d:qq k F=some m) :
  ∃f,(∀e ∈ m,e.length=k)/\VA g m.flatten f/\m.flatten.all AV.pure=true/\∀W:World,(∀a v,w.cell? a=some v->W.cell? a=some v)->News P k m.length y f W:=by
 have slc:∀(es:List (List AV)) (i:Option Addr) (c:Nat),y=.slice i es.length c->(es=[] \/ ∃b o,i=some ⟨b,o,none⟩/\VE g b k o es)->m=es ->
   ∃f,(∀e ∈ m,e.length=k)/\VA g m.flatten f/\m.flatten.all AV.pure=true/\∀W:World,(∀a v,w.cell? a=some v->W.cell? a=some v)->News P k m.length y f W:=by
  rintro es i c q C rfl
  rcases C with rfl | ⟨b,oo,rfl,A⟩
  ·refine ⟨[],by simp,by simp [VA],rfl,λW _=>⟨by rw [q];rfl,?_⟩⟩;rw [q];cases i with
   | none=>simp [Builtin.firstCells]
   | some i=>simp [Builtin.firstCells,loadCells,loadCellsFrom]
  ·obtain ⟨l,u⟩:=VE_iff.1 A;obtain ⟨us,x,E,z⟩:=u.toVA;refine ⟨us,l,x,E,λW J=>?_⟩;rw [q];refine News.slice (by rw [<- x.length,yN l]) λj v I=>?_;rw [we];exact J _ _ (r.phi _ _ _ (z j v I))
 unfold qq at d;split at d
 ·split at d
  ·rename_i p;cases d;subst p;simp only [V] at n;obtain ⟨i,c,l,u,D,t⟩:=n;exact slc _ i c l t rfl
  ·cases d
 ·split at d
  ·rename_i p;cases d;subst p;simp only [V] at n;obtain ⟨i,c,l,u,D,t,_⟩:=n;exact slc _ i c l t rfl
  ·cases d
 ·split at d
  ·rename_i p;cases d;subst p;simp only [V] at n;obtain ⟨i,c,l,u,D,t⟩:=n;exact slc _ i c l (t.imp id λ⟨b,o,e,hh,_⟩=>⟨b,o,e,hh⟩) rfl
  ·cases d
 ·split at d
  ·rename_i p;cases d;subst p;simp only [V] at n;obtain ⟨i,c,l,u,D,t⟩:=n;exact slc _ i c l (t.imp id λ⟨b,o,e,hh,_⟩=>⟨b,o,e,hh⟩) rfl
  ·cases d
 ·rename_i s;split at d
  ·rename_i p;cases d;simp only [V] at n;obtain ⟨l,u⟩:=n;refine ⟨strCells ⟨s.toArray⟩,λe H=>?_,?_,by rw [bytes_flat,List.all_map];exact ux.2 λ_ _=>rfl,λW _=>?_⟩
   ·obtain ⟨b,_,rfl⟩:=tF.1 H;rw [p];rfl
   ·rw [bytes_flat];exact bytes_VA s
   ·rw [l];have:=News.str (P:=P) (size:=k) (s:=⟨s.toArray⟩) (w:=W);rw [str_size] at this;simpa using this
  ·cases d
 ·cases d

theorem new_fits (r:Rel B w0 g h w) {a:Act} {env:List AV} (D:VL g env a.tmps.toList) {o:Oper} {k:Nat} {F:List (List AV)} (b:anew P o env=some (k,F)):qf P B w0 g a o w (.nsl k F) h:=by
 unfold anew at b;split at b
 ·rename_i c S;split at b
  ·rename_i t u H I m A has;split at b
   ·rename_i d;simp only [ud] at d;split at b
    ·rename_i e Y K T;split at b
     ·rename_i i hi;split at b
      ·rename_i s;obtain ⟨C,j,f⟩:=s;obtain ⟨z,W,q⟩:∃z,i.zero=some z/\z.cells.size=i.size:=by
        cases hzc:i.zero with
        | none=>simp [hzc] at f
        | some z=>simp [hzc] at f;exact ⟨z,rfl,f⟩
       split at b
       ·rename_i k' R hs y;split at b
        ·rename_i L;obtain ⟨rfl,l⟩:=L;cases b;have n:=(V.ev D d.1).tyfix (P:=P) (t:=t);rw [hs] at n;obtain ⟨E,X,M,U,O⟩:=news_ex (P:=P) r j ((V.ev D d.2).tyfix (P:=P) (t:=u)) y;obtain ⟨v,w',g',N,G,Q,J⟩:=append_new (ty:=o.type) r K T (.inr ⟨_,rfl⟩) hi W q C n X M U O l;refine ⟨v,w',g',.inl ?_,G,Q,J⟩;have p:c.argTypes=#[t,u]:=by apply sD;simpa using A
         have x:c.args=#[H,I]:=by apply sD;simpa using has
         simp only [execOp,S,resolve,m,Sem.run_bind,Sem.run_pure,Result.andThen_ok,invoke,p,x];simp [builtin,N]
        ·cases b
       ·cases b
      ·cases b
     ·cases b
    ·cases b
   ·cases b
  ·cases b
 ·cases b
end
end Go.Vv
