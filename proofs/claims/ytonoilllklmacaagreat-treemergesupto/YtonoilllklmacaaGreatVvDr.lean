/- No step of the machine lessens the count of what was drawn. -/
import Derived.Test.YtonoilllklmacaaGreatVvA
import Derived.Calls
import Derived.Sort.Grow
set_option linter.all false
namespace Go.Vv
open Go
set_option maxHeartbeats 1000000
variable {α:Type} {p:Program} {w:World} {d e:Nat} {m m2:Machine}
def RD (d:Nat):Result α->Prop
 | .ok _ w=>d<=w.drawn
 | .halt _ w=>d<=w.drawn
theorem ask_drawn {α:Type}:∀(a:Ask α) (w:World),w.drawn<=(w.ask a).2.drawn
 | .done a,w=>by simp [World.ask]
 | .ask what range k,w=>by
  unfold World.ask;simp only;split
  ·exact ask_drawn (k 0) w
  ·exact uA (Nat.le_succ _) (ask_drawn (k _) { w with drawn:=w.drawn+1 })
theorem sys_drawn (w:World) (c:Sys):w.drawn<=(w.sys c).2.drawn:=by
 unfold World.sys;have h:=ask_drawn (Kernel.perform c w.os) w
 grind
theorem farStore_drawn {w':World} {a:Addr} {v:Value} {b:Bool} {l:List Addr} (h:w.farStore p a v b=.ok (w',l)):w'.drawn=w.drawn:=by
 unfold World.farStore at h;split at h
 ·split at h
  ·rename_i r c;simp only [r6] at h;subst h;unfold World.viewStore at c;simp only [bind,Except.bind,pure,Except.pure,throw,throwThe,MonadExceptOf.throw] at c
   repeat' split at c
   all_goals first | (cases c;done) | (simp only [r6,t6] at c;rw [<- c.1]) | skip
  ·cases h
 ·cases h
theorem RD.of_le {r:Result α} (h:d<=e) (k:RD e r):RD d r:=by
 cases r <;> exact uA h k
theorem ya {α:Type} (p:Program):∀(s:Sem α) (w:World),RD w.drawn (s.run p w)
 | .pure a,w=>by unfold Sem.run;exact ug _
 | .load m a k,w=>by
  unfold Sem.run;split
  ·exact ya p _ w
  ·split
   ·exact ya p _ w
   ·exact ug _
 | .store m a v k,w=>by
  cases v
  case agg=>unfold Sem.run;exact ug _
  case tuple=>unfold Sem.run;exact ug _
  all_goals
   unfold Sem.run;split
   ·split
    ·exact ug _
    ·exact ya p k _
   ·split
    ·rename_i h;have:=farStore_drawn h;exact RD.of_le (by omega) (ya p k _)
    ·exact ug _
 | .new o k,w=>by unfold Sem.run;exact ya p _ _
 | .shape r k,w=>by unfold Sem.run;exact ya p _ _
 | .freeze a n k,w=>by
  unfold Sem.run;refine RD.of_le ?_ (ya p _ _);unfold World.freeze;split <;> exact ug _
 | .frozen a k,w=>by unfold Sem.run;exact ya p _ _
 | .getObj r k,w=>by
  unfold Sem.run;split
  ·exact ug _
  ·exact ya p _ _
  ·exact ug _
 | .setObj r o k,w=>by
  unfold Sem.run;split
  ·exact ug _
  ·exact ya p k _
  ·exact ug _
 | .choose q k,w=>by
  unfold Sem.run;split
  ·exact ya p _ _
  ·exact RD.of_le (Nat.le_succ _) (ya p _ { w with drawn:=w.drawn+1 })
 | .sys c k,w=>by unfold Sem.run;exact RD.of_le (sys_drawn w c) (ya p _ _)
 | .program k,w=>by unfold Sem.run;exact ya p _ _
 | .mark m k,w=>by unfold Sem.run;exact ya p _ _
 | .halt h,w=>by unfold Sem.run;exact ug _
theorem ye {α:Type} (p:Program):∀(s:Sem α) (w:World) (es:Array Event),RD w.drawn (s.runT p w es).1
 | .pure a,w,es=>by unfold Sem.runT;exact ug _
 | .load m a k,w,es=>by
  unfold Sem.runT;split
  ·exact ye p _ w _
  ·split
   ·exact ye p _ w _
   ·exact ug _
 | .store m a v k,w,es=>by
  cases v
  case agg=>unfold Sem.runT;exact ug _
  case tuple=>unfold Sem.runT;exact ug _
  all_goals
   unfold Sem.runT;split
   ·split
    ·exact ug _
    ·exact ye p k _ _
   ·split
    ·rename_i h;have:=farStore_drawn h;exact RD.of_le (by omega) (ye p k _ _)
    ·exact ug _
 | .new o k,w,es=>by unfold Sem.runT;exact ye p _ _ _
 | .shape r k,w,es=>by unfold Sem.runT;exact ye p _ _ _
 | .freeze a n k,w,es=>by
  unfold Sem.runT;refine RD.of_le ?_ (ye p _ _ _);unfold World.freeze;split <;> exact ug _
 | .frozen a k,w,es=>by unfold Sem.runT;exact ye p _ _ _
 | .getObj r k,w,es=>by
  unfold Sem.runT;split
  ·exact ug _
  ·exact ye p _ _ _
  ·exact ug _
 | .setObj r o k,w,es=>by
  unfold Sem.runT;split
  ·exact ug _
  ·exact ye p k _ _
  ·exact ug _
 | .choose q k,w,es=>by
  unfold Sem.runT;split
  ·exact ye p _ _ _
  ·exact RD.of_le (Nat.le_succ _) (ye p _ { w with drawn:=w.drawn+1 } _)
 | .sys c k,w,es=>by unfold Sem.runT;exact RD.of_le (sys_drawn w c) (ye p _ _ _)
 | .program k,w,es=>by unfold Sem.runT;exact ye p _ _ _
 | .mark m k,w,es=>by unfold Sem.runT;exact ye p _ _ _
 | .halt h,w,es=>by unfold Sem.runT;exact ug _
def GD (d:Nat):GStep->Prop
 | .go _ w _ | .comm _ _ _ _ w _ | .spawn _ _ w _ | .count _ w _ | .timer _ _ w _ | .alone _ _ w _ | .newcoro _ _ _ w _ | .coroswitch _ _ _ w _ | .collect _ w _ | .watch _ w _=>d<=w.drawn
 | .ended _ _ _=>True
theorem GD.after {d:Nat} {es:Array Event} {s:GStep} (h:GD d s):GD d (s.after es):=by cases s <;> exact h
theorem GD.of_le {s:GStep} (h:d<=e) (k:GD e s):GD d s:=by cases s <;> first | exact uA h k | trivial
theorem wQ {r:Result α} (h:RD d r) {v:α} {w:World} (e:r=.ok v w):d<=w.drawn:=by subst e;exact h
theorem rd_halt {r:Result α} (h:RD d r) {v:Halt} {w:World} (e:r=.halt v w):d<=w.drawn:=by subst e;exact h
theorem GD.ite {c:Prop} [Decidable c] {d:Nat} {a b:GStep} (f:GD d a) (g:GD d b):GD d (if c then a else b):=by grind
theorem endWith_drawn (w:World) (a:Nat) (t:ByteArray) (o:Outcome):GD w.drawn (endWith w a t o):=by
 unfold endWith;simp only
 repeat' split
 all_goals trivial
theorem dieOf_drawn (fr:Frame) (a:List ByteArray) (m:String) (b:Bool) (w:World):GD w.drawn (dieOf fr a m b w):=ug _
theorem endFatal_drawn (p:Program) (fr:Frame) (cs:List Frame) (a:Option Dying) (m:String) (w:World):GD w.drawn (endFatal p fr cs a m w):=by
 unfold endFatal;simp only;split
 ·rename_i h;exact GD.of_le (wQ (ya p _ w) h) (dieOf_drawn _ _ _ _ _)
 ·trivial
 ·trivial
theorem endPrinting_drawn (p:Program) (fr:Frame) (v:Value) (w:World):GD w.drawn (endPrinting p fr v w):=by
 unfold endPrinting;simp only;split
 ·exact dieOf_drawn _ _ _ _ _
 ·trivial
theorem writeOn_drawn (p:Program) (fr:Frame) (d:Dying) (f:Fatal) (w:World):GD w.drawn (writeOn p fr d f w):=by
 unfold writeOn;simp only;split
 ·trivial
 ·split
  ·rename_i h;exact wQ (ye p _ w _) (congrArg Prod.fst h)
  ·rename_i h;exact rd_halt (ye p _ w _) (congrArg Prod.fst h)
  ·trivial
  ·trivial
theorem die_drawn (p:Program) (fr:Frame) (d:Dying) (w:World):GD w.drawn (die p fr d w):=by
 unfold die;split
 ·exact writeOn_drawn _ _ _ _ _
 split
 ·split
  ·exact ug _
  ·exact endWith_drawn _ _ _ _
 ·simp only;split
  ·exact ug _
  ·split
   ·rename_i h;exact wQ (ya p _ w) h
   ·trivial
  ·refine GD.after ?_;split
   ·rename_i h;exact wQ (ye p _ w _) h
   ·rename_i h;exact wQ (ye p _ w _) h
   ·trivial
   ·rename_i h;exact GD.of_le (rd_halt (ye p _ w _) h) (endPrinting_drawn _ _ _ _)
   ·trivial
  ·trivial
theorem doReturn_drawn (p:Program) (m:Bool) (fr:Frame) (cs:List Frame) (a:Option Dying) (v:Value) (w:World):GD w.drawn (doReturn p m fr cs a v w):=by
 unfold doReturn;split
 ·split <;> first | exact ug _ | skip
 ·split
  ·exact ug _
  ·trivial
  ·split
   ·exact ug _
   ·split
    ·exact ug _
    ·trivial
theorem callDeferred_drawn (p:Program) (fr:Frame) (cs:List Frame) (b:Option Dying) (d:Deferred) (w:World):GD w.drawn (callDeferred p fr cs b d w):=by
 unfold callDeferred;refine GD.ite trivial ?_;simp only;refine GD.after ?_;have a:=ye p (invoke d.target d.args) w #[];generalize ((invoke d.target d.args).runT p w #[]).1=r at a ⊢
 repeat' split
 all_goals first | trivial | exact wQ a (by assumption) | exact rd_halt a (by assumption) | exact GD.of_le a (endFatal_drawn _ _ _ _ _ _) | exact GD.of_le a (dieOf_drawn _ _ _ _ _) | exact a
theorem unwind_drawn (p:Program) (m:Bool) (fr:Frame) (cs:List Frame) (a:Option Dying) (w:World):GD w.drawn (unwind p m fr cs a w):=by
 unfold unwind;split
 ·simp only;refine GD.after ?_;split
  ·rename_i h;exact wQ (ye p _ w _) h
  ·trivial
 ·exact callDeferred_drawn _ _ _ _ _ _
 ·split
  ·trivial
  ·split
   ·trivial
   ·split
    ·exact ug _
    ·split
     ·split
      ·exact ug _
      ·split
       ·rename_i h;exact wQ (ya p _ w) h
       ·trivial
       ·trivial
     ·split
      ·exact endPrinting_drawn _ _ _ _
      ·trivial
  ·split
   ·exact doReturn_drawn _ _ _ _ _ _ _
   ·simp only;refine GD.after ?_;split
    ·rename_i h;exact GD.of_le (wQ (ye p _ w _) h) (doReturn_drawn _ _ _ _ _ _ _)
    ·trivial
    ·trivial
theorem early_drawn (p:Program) (fr:Frame) (cs:List Frame) (f:Option Dying) (g:Nat) (w:World):GD w.drawn (early p fr cs f g w):=by
 have b:∀(i:String) (a:World),w.drawn<=a.drawn->GD w.drawn (match a.heap[g]? with
  | some (.pending c elem)=>.go { frame:=fr,callers:=cs,status:=.running,dying:=f } { a with heap:=a.heap.setIfInBounds g (.cells c elem) }
  | _=>.ended (.stuck i (fr.pos p)) a):=λi a h=>by
  split
  ·exact h
  ·trivial
 unfold early;simp only;split
 ·exact b _ w (ug _)
 split
 ·trivial
 split
 ·exact b _ w (ug _)
 split
 ·exact b _ w (ug _)
 split
 ·trivial
 ·exact ug _
 ·trivial
 ·exact b _ w (ug _)
 ·split
  ·exact ug _
  ·split
   ·exact b _ w (ug _)
   ·split
    ·rename_i h;exact b _ _ (wQ (ya p _ w) h)
    ·rename_i h;exact wQ (ya p _ w) h
    ·trivial
theorem apply_drawn (p:Program) (l:Bool) (fr:Frame) (cs:List Frame) (b:Option Dying) (s:Sem Next) (w:World):GD w.drawn (stepG.apply p l fr cs b s w):=by
 unfold stepG.apply;simp only;have a:RD w.drawn (if l=true then s.runT p w #[] else (s.run p w,#[])).1:=by
  split
  ·exact ye p s w _
  ·exact ya p s w
 generalize (if l=true then s.runT p w #[] else (s.run p w,#[]))=r at a ⊢;obtain ⟨r,es⟩:=r;simp only at a ⊢;refine GD.after ?_
 repeat' split
 all_goals first | trivial | exact wQ a (by assumption) | exact rd_halt a (by assumption) | exact a | exact GD.of_le a (dieOf_drawn _ _ _ _ _) | exact GD.of_le a (endFatal_drawn _ _ _ _ _ _) | exact GD.of_le a (early_drawn _ _ _ _ _ _)
theorem oper_drawn (p:Program) (l:Bool) (fr:Frame) (cs:List Frame) (a:Option Dying) (w:World):GD w.drawn (stepG.oper p l fr cs a w):=by
 unfold stepG.oper;split
 ·trivial
 ·split <;> exact apply_drawn _ _ _ _ _ _ _
theorem exec_drawn (p:Program) (m l:Bool) (fr:Frame) (cs:List Frame) (c:Option Dying) (w:World):GD w.drawn (stepG.exec p m l fr cs c w):=by
 unfold stepG.exec
 extract_lets go to lost leave
 have f:∀b,GD w.drawn (leave b):=λb=>by
  simp only [leave];split
  ·exact GD.ite (ug _) trivial
  ·refine GD.after ?_;split
   ·rename_i h;exact GD.of_le (wQ (ye p _ w _) h) (doReturn_drawn _ _ _ _ _ _ _)
   ·trivial
 have a:∀td,GD w.drawn (to td):=λtd=>ug _;split
 ·simp_all
 ·simp_all
 ·exact a _
 ·exact a _
 ·exact a _
 ·exact a _
 ·exact a _
 ·split
  ·exact a _
  ·trivial
 ·exact a _
 ·exact a _
 ·exact a _
 ·exact a _
 ·generalize exitTo _ _=q;cases q
  ·simp_all
  ·exact a _
 ·generalize gotoIn _ _=q;cases q
  ·simp_all
  ·exact a _
 ·simp only;refine GD.after ?_;split
  ·rename_i h;exact GD.of_le (wQ (ye p _ w _) h) (apply_drawn _ _ _ _ _ _ _)
  ·trivial
 ·trivial
 ·exact apply_drawn _ _ _ _ _ _ _
 ·simp only;refine GD.after ?_;split
  ·rename_i h;exact wQ (ye p _ w _) h
  ·rename_i h;exact rd_halt (ye p _ w _) h
  ·trivial
 ·trivial
 ·exact apply_drawn _ _ _ _ _ _ _
 ·generalize Extern.next _=q;cases q
  ·trivial
  ·exact apply_drawn _ _ _ _ _ _ _
 ·refine GD.ite (a _) ?_;split
  ·rename_i h;exact wQ (ya p _ w) h
  ·trivial
 ·exact a _
 ·exact GD.ite (oper_drawn _ _ _ _ _ _) (ug _)
theorem stepG_drawn (p:Program) (m l:Bool) (g:Goroutine) (w:World):GD w.drawn (stepG p m g w l):=by
 unfold stepG;obtain ⟨fr,cs,c,a,b⟩:=g;simp only;split
 ·exact die_drawn _ _ _ _
 ·exact exec_drawn _ _ _ _ _ _ _
 ·exact unwind_drawn _ _ _ _ _ _
def SD (d:Nat):Stepped->Prop
 | .next m=>d<=m.world.drawn
 | .ended _ _=>True
theorem SD.of_le {s:Stepped} (h:d<=e) (k:SD e s):SD d s:=by cases s <;> first | exact uA h k | trivial
theorem look_drawn (p:Program) (gs:Array Goroutine) (r:Rest) (w:World):SD w.drawn (look p gs r w):=by
 unfold look;split
 ·simp only;split
  ·trivial
  ·split
   ·trivial
   ·split
    ·rename_i h;have:=wQ (ya p _ w) h;exact this
    ·trivial
    ·trivial
 ·trivial
theorem communicate_drawn (p:Program) (r:Rest) (gs:Array Goroutine) (i:Nat) (g:Goroutine) (cs:Array CommCase) (b:Bool) (f:CommShape) (w:World):SD w.drawn (communicate p r gs i g cs b f w).1:=by
 unfold communicate;simp only;split
 ·trivial
 split
 ·split
  ·split
   ·rename_i h;unfold waitingAt at h;split at h
    ·split at h
     ·simp only [ui] at h;subst h;exact ug _
     ·cases h
    ·simp only [ui] at h;subst h;exact ug _
   ·trivial
  ·exact ug _
 ·split
  ·trivial
  ·rename_i h;have hd:=wQ (ya p _ w) h
   repeat' split
   all_goals first | exact hd | trivial | (rename_i a;exact uA hd (rd_halt (ya p _ _) a)) | (have c:=wQ (ya p _ _) ‹(choose _).run p _=_›;exact uA hd c)
theorem retime_drawn (m:Machine) (k:Nat) (t:Timer) (a b:Nat):(retime m k t a b).2.world.drawn=m.world.drawn:=by
 unfold retime drain
 grind
theorem named_drawn {a:Addr} {f:Nat->Timer->Value×Machine} {v:Value} (b:∀k t,(f k t).2.world.drawn=d) (h:timerOp.named m a f=.ok (v,m2)):m2.world.drawn=d:=by
 unfold timerOp.named at h
 grind
theorem timerOp_drawn {op:TimerOp} {v:Value} (h:timerOp m op=.ok (v,m2)):m2.world.drawn=m.world.drawn:=by
 cases op with
 | new t =>
  simp only [timerOp] at h;split at h
  ·simp only [r6,t6] at h;rw [<- h.2] <;> rfl
  ·grind
 | stop a=>exact named_drawn (λk t=>retime_drawn _ _ _ _ _) h
 | reset a b c =>
  simp only [timerOp] at h;split at h
  ·rename_i g f;refine named_drawn (λk t=>?_) h;rw [retime_drawn];unfold timerOp.opened at f
   grind
  ·cases h
 | deadline a b c d =>
  simp only [timerOp,r6,t6] at h;rw [<- h.2] <;> rfl
theorem runOne_drawn (p:Program) (m:Machine) (i:Nat) (l:Bool):SD m.world.drawn (Go.runT p m i l).1:=by
 unfold Go.runT;simp only;generalize hsw:m.gs.swapAt! i { (default:Goroutine) with status:=.finished }=sw;obtain ⟨g,gs⟩:=sw;simp only;have hk:=stepG_drawn p (i==0) l g m.world;generalize stepG p (i==0) g m.world l=s at hk ⊢;have end_:∀(fr:Frame) (msg:String) (w:World),m.world.drawn<=w.drawn->SD m.world.drawn (match endThrow fr msg w with
   | .go g w _=>.next { world:=w,gs:=gs.setIfInBounds i g,rest:=m.rest }
   | _ => .ended (.stuck "" "") w) := fun fr msg w h => h
 cases s with
 | go g w es=>exact hk
 | ended o w es=>trivial
 | comm g cs b sh w es=>exact SD.of_le hk (communicate_drawn _ _ _ _ _ _ _ _ _)
 | spawn g c w es=>exact hk
 | count g w es =>
  simp only;split
  ·trivial
  ·exact hk
 | alone g on w es=>exact hk
 | collect g w es=>exact SD.of_le hk (look_drawn _ _ _ _)
 | watch g w es=>exact hk
 | newcoro g c d w es=>exact hk
 | coroswitch g c ex w es =>
  simp only;split
  ·exact hk
  ·exact end_ _ _ _ hk
  ·trivial
 | timer g op w es =>
  simp only;split
  ·rename_i h;have:=timerOp_drawn h;exact uA hk (Nat.le_of_eq this.symm)
  ·exact end_ _ _ _ hk
  ·trivial
  ·trivial
def MD (d:Nat):Move->Prop
 | .goroutine m _=>d<=m.world.drawn
 | .machine s _=>SD d s
theorem MD.of_le {d e:Nat} {s:Move} (h:d<=e) (k:MD e s):MD d s:=by
 cases s
 ·exact uA h k
 ·exact SD.of_le h k
theorem serve_drawn (p:Program) (m:Machine) (k:Nat):SD m.world.drawn (serve p m k):=by
 unfold serve;split
 ·trivial
 ·exact ug _
 ·simp only;split
  ·trivial
  ·exact ug _
theorem askOn_drawn (p:Program) (m:Machine):MD m.world.drawn (askOn p m):=by
 unfold askOn
 extract_lets mono rs ds pick
 have g:∀f:Machine,m.world.drawn<=f.world.drawn->MD m.world.drawn (pick f):=λf h=>by
  simp only [pick];split
  ·trivial
  ·rename_i a;have a:=uA h (wQ (ya p _ _) a);split
   ·exact a
   ·split
    ·trivial
    ·rename_i b;exact uA a (wQ (ya p _ _) b)
 clear_value pick rs ds mono
 split
 ·trivial
 ·rename_i i;have a:=wQ (ya p _ _) i;clear i;simp only;split
  ·exact SD.of_le a (serve_drawn p _ _)
  ·cases rs with
   | nil =>
    simp only;split
    ·exact a
    ·split
     ·exact a
     ·split <;> trivial
   | cons r1 r2 =>
    simp only;split
    ·simp_all
    ·split
     ·trivial
     ·rename_i b;have c:=uA a (wQ (ya p _ _) b);exact g _ c
     ·rename_i b;have c:=uA a (wQ (ya p _ _) b);exact c
     ·rename_i b;have c:=uA a (wQ (ya p _ _) b);exact g _ c
theorem ask_drawn' (p:Program) (m:Machine):MD m.world.drawn (ask p m):=by
 unfold ask;split
 ·split
  ·trivial
  ·rename_i a;have a:=wQ (ya p _ _) a;have c:=look_drawn p m.gs m.rest;split
   ·rename_i m2 b;have:=c (by assumption);rw [b] at this;exact MD.of_le (uA a this) (askOn_drawn p m2)
   ·rename_i b;exact SD.of_le a (c _)
  ·rename_i a;exact MD.of_le (wQ (ya p _ _) a) (askOn_drawn p _)
 ·exact askOn_drawn p m
theorem move_drawn (p:Program) (m:Machine):MD m.world.drawn (move p m):=by
 unfold move;split
 ·split
  ·exact ug _
  ·trivial
 ·split
  ·split
   ·exact ug _
   ·exact ask_drawn' p _
  ·exact ask_drawn' p m
theorem step_drawn (p:Program) (m:Machine):SD m.world.drawn (step p m):=by
 unfold step stepT;have h:=move_drawn p m;split
 ·rename_i a;rw [a] at h;exact SD.of_le h (runOne_drawn p _ _ _)
 ·rename_i a;rw [a] at h;exact h
theorem steps_drawn (h:Steps p m m2):m.world.drawn<=m2.world.drawn:=by
 obtain ⟨n,a⟩:=h
 induction n generalizing m with
 | zero=>simp only [runN,Stepped.next.injEq] at a;subst a;exact ug _
 | succ n ih =>
  simp only [runN] at a;have hs:=step_drawn p m;split at a
  ·rename_i c b;rw [b] at hs;exact uA hs (ih a)
  ·simp_all
theorem calls_drawn {P:Program} {f:FuncId} {args:Array Value} {R:Ending->World->Prop} (h:Calls P f args w R) (g:∀e w',R e w'->∃v,e=.returned v):Calls P f args w λe w'=>R e w'/\w.drawn<=w'.drawn:=λcs=>by
 obtain ⟨e,w',fr,b,a,i,c⟩:=h cs;obtain ⟨v,rfl⟩:=g e w' b;exact ⟨_,w',fr,⟨b,steps_drawn a⟩,a,i,c⟩
end Go.Vv
