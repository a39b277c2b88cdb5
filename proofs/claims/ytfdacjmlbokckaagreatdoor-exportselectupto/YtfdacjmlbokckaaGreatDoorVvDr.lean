/- No step of the machine lessens the count of what was drawn. -/
import Derived.Calls
import Derived.Sort.Grow
set_option linter.all false
namespace Go.Vv
open Go
set_option maxHeartbeats 1000000
def RD {α:Type} (d:Nat):Result α→Prop
 | .ok _ w=>d≤w.drawn
 | .halt _ w=>d≤w.drawn
theorem ask_drawn {α:Type}:∀ (a:Ask α) (w:World),w.drawn≤(w.ask a).2.drawn
 | .done a,w=>by simp [World.ask]
 | .ask what range k,w=>by
  unfold World.ask
  simp only
  split
  ·exact ask_drawn (k 0) w
  ·exact Nat.le_trans (Nat.le_succ _) (ask_drawn (k _) { w with drawn:=w.drawn+1 })
theorem sys_drawn (w:World) (c:Sys):w.drawn≤(w.sys c).2.drawn:=by
 unfold World.sys
 have h:=ask_drawn (Kernel.perform c w.os) w
 grind
theorem farStore_drawn {p:Program} {w w':World} {a:Addr} {v:Value} {b:Bool} {l:List Addr} (h:w.farStore p a v b=.ok (w',l)):w'.drawn=w.drawn:=by
 unfold World.farStore at h
 split at h
 ·split at h
  ·rename_i r hr
   simp only [Except.ok.injEq] at h
   subst h
   unfold World.viewStore at hr
   simp only [bind,Except.bind,pure,Except.pure,throw,throwThe,MonadExceptOf.throw] at hr
   repeat' split at hr
   all_goals first | (cases hr;done) | (simp only [Except.ok.injEq,Prod.mk.injEq] at hr;rw [← hr.1]) | skip
  ·cases h
 ·cases h
theorem RD.of_le {α:Type} {d e:Nat} {r:Result α} (h:d≤e) (k:RD e r):RD d r:=by
 cases r <;> exact Nat.le_trans h k
theorem ya {α:Type} (p:Program):∀ (s:Sem α) (w:World),RD w.drawn (s.run p w)
 | .pure a,w=>by unfold Sem.run;exact Nat.le_refl _
 | .load m a k,w=>by
  unfold Sem.run;split
  ·exact ya p _ w
  ·split
   ·exact ya p _ w
   ·exact Nat.le_refl _
 | .store m a v k,w=>by
  cases v
  case agg=>unfold Sem.run;exact Nat.le_refl _
  case tuple=>unfold Sem.run;exact Nat.le_refl _
  all_goals
   unfold Sem.run;split
   ·split
    ·exact Nat.le_refl _
    ·exact ya p k _
   ·split
    ·rename_i h;have:=farStore_drawn h;exact RD.of_le (by omega) (ya p k _)
    ·exact Nat.le_refl _
 | .new o k,w=>by unfold Sem.run;exact ya p _ _
 | .shape r k,w=>by unfold Sem.run;exact ya p _ _
 | .freeze a n k,w=>by
  unfold Sem.run;refine RD.of_le ?_ (ya p _ _)
  unfold World.freeze;split <;> exact Nat.le_refl _
 | .frozen a k,w=>by unfold Sem.run;exact ya p _ _
 | .getObj r k,w=>by
  unfold Sem.run;split
  ·exact Nat.le_refl _
  ·exact ya p _ _
  ·exact Nat.le_refl _
 | .setObj r o k,w=>by
  unfold Sem.run;split
  ·exact Nat.le_refl _
  ·exact ya p k _
  ·exact Nat.le_refl _
 | .choose q k,w=>by
  unfold Sem.run;split
  ·exact ya p _ _
  ·exact RD.of_le (Nat.le_succ _) (ya p _ { w with drawn:=w.drawn+1 })
 | .sys c k,w=>by unfold Sem.run;exact RD.of_le (sys_drawn w c) (ya p _ _)
 | .program k,w=>by unfold Sem.run;exact ya p _ _
 | .mark m k,w=>by unfold Sem.run;exact ya p _ _
 | .halt h,w=>by unfold Sem.run;exact Nat.le_refl _
theorem yd {α:Type} (p:Program):∀ (s:Sem α) (w:World) (es:Array Event),RD w.drawn (s.runT p w es).1
 | .pure a,w,es=>by unfold Sem.runT;exact Nat.le_refl _
 | .load m a k,w,es=>by
  unfold Sem.runT;split
  ·exact yd p _ w _
  ·split
   ·exact yd p _ w _
   ·exact Nat.le_refl _
 | .store m a v k,w,es=>by
  cases v
  case agg=>unfold Sem.runT;exact Nat.le_refl _
  case tuple=>unfold Sem.runT;exact Nat.le_refl _
  all_goals
   unfold Sem.runT;split
   ·split
    ·exact Nat.le_refl _
    ·exact yd p k _ _
   ·split
    ·rename_i h;have:=farStore_drawn h;exact RD.of_le (by omega) (yd p k _ _)
    ·exact Nat.le_refl _
 | .new o k,w,es=>by unfold Sem.runT;exact yd p _ _ _
 | .shape r k,w,es=>by unfold Sem.runT;exact yd p _ _ _
 | .freeze a n k,w,es=>by
  unfold Sem.runT;refine RD.of_le ?_ (yd p _ _ _)
  unfold World.freeze;split <;> exact Nat.le_refl _
 | .frozen a k,w,es=>by unfold Sem.runT;exact yd p _ _ _
 | .getObj r k,w,es=>by
  unfold Sem.runT;split
  ·exact Nat.le_refl _
  ·exact yd p _ _ _
  ·exact Nat.le_refl _
 | .setObj r o k,w,es=>by
  unfold Sem.runT;split
  ·exact Nat.le_refl _
  ·exact yd p k _ _
  ·exact Nat.le_refl _
 | .choose q k,w,es=>by
  unfold Sem.runT;split
  ·exact yd p _ _ _
  ·exact RD.of_le (Nat.le_succ _) (yd p _ { w with drawn:=w.drawn+1 } _)
 | .sys c k,w,es=>by unfold Sem.runT;exact RD.of_le (sys_drawn w c) (yd p _ _ _)
 | .program k,w,es=>by unfold Sem.runT;exact yd p _ _ _
 | .mark m k,w,es=>by unfold Sem.runT;exact yd p _ _ _
 | .halt h,w,es=>by unfold Sem.runT;exact Nat.le_refl _
def GD (d:Nat):GStep→Prop
 | .go _ w _ | .comm _ _ _ _ w _ | .spawn _ _ w _ | .count _ w _ | .timer _ _ w _ | .alone _ _ w _ | .newcoro _ _ _ w _ | .coroswitch _ _ _ w _ | .collect _ w _ | .watch _ w _=>d≤w.drawn
 | .ended _ _ _=>True
theorem GD.after {d:Nat} {es:Array Event} {s:GStep} (h:GD d s):GD d (s.after es):=by cases s <;> exact h
theorem GD.of_le {d e:Nat} {s:GStep} (h:d≤e) (k:GD e s):GD d s:=by cases s <;> first | exact Nat.le_trans h k | trivial
theorem wc {α:Type} {d:Nat} {r:Result α} (h:RD d r) {v:α} {w:World} (e:r=.ok v w):d≤w.drawn:=by subst e;exact h
theorem rd_halt {α:Type} {d:Nat} {r:Result α} (h:RD d r) {v:Halt} {w:World} (e:r=.halt v w):d≤w.drawn:=by subst e;exact h
theorem GD.ite {c:Prop} [Decidable c] {d:Nat} {a b:GStep} (ha:GD d a) (hb:GD d b):GD d (if c then a else b):=by grind
theorem endWith_drawn (w:World) (fd:Nat) (t:ByteArray) (o:Outcome):GD w.drawn (endWith w fd t o):=by
 unfold endWith
 simp only
 repeat' split
 all_goals trivial
theorem dieOf_drawn (fr:Frame) (a:List ByteArray) (m:String) (b:Bool) (w:World):GD w.drawn (dieOf fr a m b w):=Nat.le_refl _
theorem endFatal_drawn (p:Program) (fr:Frame) (cs:List Frame) (dy:Option Dying) (m:String) (w:World):GD w.drawn (endFatal p fr cs dy m w):=by
 unfold endFatal
 simp only
 split
 ·rename_i h;exact GD.of_le (wc (ya p _ w) h) (dieOf_drawn _ _ _ _ _)
 ·trivial
 ·trivial
theorem endPrinting_drawn (p:Program) (fr:Frame) (v:Value) (w:World):GD w.drawn (endPrinting p fr v w):=by
 unfold endPrinting
 simp only
 split
 ·exact dieOf_drawn _ _ _ _ _
 ·trivial
theorem writeOn_drawn (p:Program) (fr:Frame) (d:Dying) (f:Fatal) (w:World):GD w.drawn (writeOn p fr d f w):=by
 unfold writeOn
 simp only
 split
 ·trivial
 ·split
  ·rename_i h;exact wc (yd p _ w _) (congrArg Prod.fst h)
  ·rename_i h;exact rd_halt (yd p _ w _) (congrArg Prod.fst h)
  ·trivial
  ·trivial
theorem die_drawn (p:Program) (fr:Frame) (d:Dying) (w:World):GD w.drawn (die p fr d w):=by
 unfold die
 split
 ·exact writeOn_drawn _ _ _ _ _
 split
 ·split
  ·exact Nat.le_refl _
  ·exact endWith_drawn _ _ _ _
 ·simp only
  split
  ·exact Nat.le_refl _
  ·split
   ·rename_i h;exact wc (ya p _ w) h
   ·trivial
  ·refine GD.after ?_
   split
   ·rename_i h;exact wc (yd p _ w _) h
   ·rename_i h;exact wc (yd p _ w _) h
   ·trivial
   ·rename_i h;exact GD.of_le (rd_halt (yd p _ w _) h) (endPrinting_drawn _ _ _ _)
   ·trivial
  ·trivial
theorem doReturn_drawn (p:Program) (m:Bool) (fr:Frame) (cs:List Frame) (dy:Option Dying) (v:Value) (w:World):GD w.drawn (doReturn p m fr cs dy v w):=by
 unfold doReturn
 split
 ·split <;> first | exact Nat.le_refl _ | skip
 ·split
  ·exact Nat.le_refl _
  ·trivial
  ·split
   ·exact Nat.le_refl _
   ·split
    ·exact Nat.le_refl _
    ·trivial
theorem callDeferred_drawn (p:Program) (fr:Frame) (cs:List Frame) (dy:Option Dying) (d:Deferred) (w:World):GD w.drawn (callDeferred p fr cs dy d w):=by
 unfold callDeferred
 refine GD.ite trivial ?_
 simp only
 refine GD.after ?_
 have hk:=yd p (invoke d.target d.args) w #[]
 generalize ((invoke d.target d.args).runT p w #[]).1=r at hk ⊢
 repeat' split
 all_goals first | trivial | exact wc hk (by assumption) | exact rd_halt hk (by assumption) | exact GD.of_le hk (endFatal_drawn _ _ _ _ _ _) | exact GD.of_le hk (dieOf_drawn _ _ _ _ _) | exact hk
theorem unwind_drawn (p:Program) (m:Bool) (fr:Frame) (cs:List Frame) (dy:Option Dying) (w:World):GD w.drawn (unwind p m fr cs dy w):=by
 unfold unwind
 split
 ·simp only
  refine GD.after ?_
  split
  ·rename_i h;exact wc (yd p _ w _) h
  ·trivial
 ·exact callDeferred_drawn _ _ _ _ _ _
 ·split
  ·trivial
  ·split
   ·trivial
   ·split
    ·exact Nat.le_refl _
    ·split
     ·split
      ·exact Nat.le_refl _
      ·split
       ·rename_i h;exact wc (ya p _ w) h
       ·trivial
       ·trivial
     ·split
      ·exact endPrinting_drawn _ _ _ _
      ·trivial
  ·split
   ·exact doReturn_drawn _ _ _ _ _ _ _
   ·simp only
    refine GD.after ?_
    split
    ·rename_i h;exact GD.of_le (wc (yd p _ w _) h) (doReturn_drawn _ _ _ _ _ _ _)
    ·trivial
    ·trivial
theorem early_drawn (p:Program) (fr:Frame) (cs:List Frame) (dy:Option Dying) (g:Nat) (w:World):GD w.drawn (early p fr cs dy g w):=by
 have hn:∀ (tx:String) (w1:World),w.drawn≤w1.drawn→GD w.drawn (match w1.heap[g]? with
  | some (.pending c elem)=>.go { frame:=fr,callers:=cs,status:=.running,dying:=dy } { w1 with heap:=w1.heap.setIfInBounds g (.cells c elem) }
  | _=>.ended (.stuck tx (fr.pos p)) w1):=fun tx w1 h=>by
  split
  ·exact h
  ·trivial
 unfold early
 simp only
 split
 ·exact hn _ w (Nat.le_refl _)
 split
 ·trivial
 split
 ·exact hn _ w (Nat.le_refl _)
 split
 ·exact hn _ w (Nat.le_refl _)
 split
 ·trivial
 ·exact Nat.le_refl _
 ·trivial
 ·exact hn _ w (Nat.le_refl _)
 ·split
  ·exact Nat.le_refl _
  ·split
   ·exact hn _ w (Nat.le_refl _)
   ·split
    ·rename_i h;exact hn _ _ (wc (ya p _ w) h)
    ·rename_i h;exact wc (ya p _ w) h
    ·trivial
theorem qN (p:Program) (l:Bool) (fr:Frame) (cs:List Frame) (dy:Option Dying) (s:Sem Next) (w:World):GD w.drawn (stepG.apply p l fr cs dy s w):=by
 unfold stepG.apply
 simp only
 have hk:RD w.drawn (if l=true then s.runT p w #[] else (s.run p w,#[])).1:=by
  split
  ·exact yd p s w _
  ·exact ya p s w
 generalize (if l=true then s.runT p w #[] else (s.run p w,#[]))=r at hk ⊢
 obtain ⟨r,es⟩:=r
 simp only at hk ⊢
 refine GD.after ?_
 repeat' split
 all_goals first | trivial | exact wc hk (by assumption) | exact rd_halt hk (by assumption) | exact hk | exact GD.of_le hk (dieOf_drawn _ _ _ _ _) | exact GD.of_le hk (endFatal_drawn _ _ _ _ _ _) | exact GD.of_le hk (early_drawn _ _ _ _ _ _)
theorem oper_drawn (p:Program) (l:Bool) (fr:Frame) (cs:List Frame) (dy:Option Dying) (w:World):GD w.drawn (stepG.oper p l fr cs dy w):=by
 unfold stepG.oper
 split
 ·trivial
 ·split <;> exact qN _ _ _ _ _ _ _
theorem exec_drawn (p:Program) (m l:Bool) (fr:Frame) (cs:List Frame) (dy:Option Dying) (w:World):GD w.drawn (stepG.exec p m l fr cs dy w):=by
 unfold stepG.exec
 extract_lets go to lost leave
 have hl:∀ jump,GD w.drawn (leave jump):=fun jump=>by
  simp only [leave]
  split
  ·exact GD.ite (Nat.le_refl _) trivial
  ·refine GD.after ?_
   split
   ·rename_i h;exact GD.of_le (wc (yd p _ w _) h) (doReturn_drawn _ _ _ _ _ _ _)
   ·trivial
 have ht:∀ td,GD w.drawn (to td):=fun td=>Nat.le_refl _
 split
 ·simp_all
 ·simp_all
 ·exact ht _
 ·exact ht _
 ·exact ht _
 ·exact ht _
 ·exact ht _
 ·split
  ·exact ht _
  ·trivial
 ·exact ht _
 ·exact ht _
 ·exact ht _
 ·exact ht _
 ·generalize exitTo _ _=q
  cases q
  ·simp_all
  ·exact ht _
 ·generalize gotoIn _ _=q
  cases q
  ·simp_all
  ·exact ht _
 ·simp only
  refine GD.after ?_
  split
  ·rename_i h;exact GD.of_le (wc (yd p _ w _) h) (qN _ _ _ _ _ _ _)
  ·trivial
 ·trivial
 ·exact qN _ _ _ _ _ _ _
 ·simp only
  refine GD.after ?_
  split
  ·rename_i h;exact wc (yd p _ w _) h
  ·rename_i h;exact rd_halt (yd p _ w _) h
  ·trivial
 ·trivial
 ·exact qN _ _ _ _ _ _ _
 ·generalize Extern.next _=q
  cases q
  ·trivial
  ·exact qN _ _ _ _ _ _ _
 ·refine GD.ite (ht _) ?_
  split
  ·rename_i h;exact wc (ya p _ w) h
  ·trivial
 ·exact ht _
 ·exact GD.ite (oper_drawn _ _ _ _ _ _) (Nat.le_refl _)
theorem stepG_drawn (p:Program) (m l:Bool) (g:Goroutine) (w:World):GD w.drawn (stepG p m g w l):=by
 unfold stepG
 obtain ⟨fr,cs,st,dy,of⟩:=g
 simp only
 split
 ·exact die_drawn _ _ _ _
 ·exact exec_drawn _ _ _ _ _ _ _
 ·exact unwind_drawn _ _ _ _ _ _
def SD (d:Nat):Stepped→Prop
 | .next m=>d≤m.world.drawn
 | .ended _ _=>True
theorem SD.of_le {d e:Nat} {s:Stepped} (h:d≤e) (k:SD e s):SD d s:=by cases s <;> first | exact Nat.le_trans h k | trivial
theorem look_drawn (p:Program) (gs:Array Goroutine) (r:Rest) (w:World):SD w.drawn (look p gs r w):=by
 unfold look
 split
 ·simp only
  split
  ·trivial
  ·split
   ·trivial
   ·split
    ·rename_i h;have:=wc (ya p _ w) h;exact this
    ·trivial
    ·trivial
 ·trivial
theorem communicate_drawn (p:Program) (r:Rest) (gs:Array Goroutine) (i:Nat) (g:Goroutine) (cs:Array CommCase) (b:Bool) (sh:CommShape) (w:World):SD w.drawn (communicate p r gs i g cs b sh w).1:=by
 unfold communicate
 simp only
 split
 ·trivial
 split
 ·split
  ·split
   ·rename_i h
    unfold waitingAt at h
    split at h
    ·split at h
     ·simp only [Option.some.injEq] at h;subst h;exact Nat.le_refl _
     ·cases h
    ·simp only [Option.some.injEq] at h;subst h;exact Nat.le_refl _
   ·trivial
  ·exact Nat.le_refl _
 ·split
  ·trivial
  ·rename_i h
   have hd:=wc (ya p _ w) h
   repeat' split
   all_goals first | exact hd | trivial | (rename_i h2;exact Nat.le_trans hd (rd_halt (ya p _ _) h2)) | (have hx:=wc (ya p _ _) ‹(choose _).run p _=_›;exact Nat.le_trans hd hx)
theorem retime_drawn (m:Machine) (k:Nat) (t:Timer) (a b:Nat):(retime m k t a b).2.world.drawn=m.world.drawn:=by
 unfold retime drain
 grind
theorem named_drawn {m m2:Machine} {a:Addr} {f:Nat→Timer→Value×Machine} {v:Value} {d:Nat} (hf:∀ k t,(f k t).2.world.drawn=d) (h:timerOp.named m a f=.ok (v,m2)):m2.world.drawn=d:=by
 unfold timerOp.named at h
 grind
theorem timerOp_drawn {m m2:Machine} {op:TimerOp} {v:Value} (h:timerOp m op=.ok (v,m2)):m2.world.drawn=m.world.drawn:=by
 cases op with
 | new t =>
  simp only [timerOp] at h
  split at h
  ·simp only [Except.ok.injEq,Prod.mk.injEq] at h;rw [← h.2] <;> rfl
  ·grind
 | stop a=>exact named_drawn (fun k t=>retime_drawn _ _ _ _ _) h
 | reset a b c =>
  simp only [timerOp] at h
  split at h
  ·rename_i m3 ho
   refine named_drawn (fun k t=>?_) h
   rw [retime_drawn]
   unfold timerOp.opened at ho
   grind
  ·cases h
 | deadline a b c d =>
  simp only [timerOp,Except.ok.injEq,Prod.mk.injEq] at h;rw [← h.2] <;> rfl
theorem runOne_drawn (p:Program) (m:Machine) (i:Nat) (l:Bool):SD m.world.drawn (Go.runT p m i l).1:=by
 unfold Go.runT
 simp only
 generalize hsw:m.gs.swapAt! i { (default:Goroutine) with status:=.finished }=sw
 obtain ⟨g,gs⟩:=sw
 simp only
 have hk:=stepG_drawn p (i==0) l g m.world
 generalize stepG p (i==0) g m.world l=s at hk ⊢
 have end_:∀ (fr:Frame) (msg:String) (w:World),m.world.drawn≤w.drawn→SD m.world.drawn (match endThrow fr msg w with
   | .go g w _=>.next { world:=w,gs:=gs.setIfInBounds i g,rest:=m.rest }
   | _ => .ended (.stuck "" "") w) := fun fr msg w h => h
 cases s with
 | go g w es=>exact hk
 | ended o w es=>trivial
 | comm g cs b sh w es=>exact SD.of_le hk (communicate_drawn _ _ _ _ _ _ _ _ _)
 | spawn g c w es=>exact hk
 | count g w es =>
  simp only
  split
  ·trivial
  ·exact hk
 | alone g on w es=>exact hk
 | collect g w es=>exact SD.of_le hk (look_drawn _ _ _ _)
 | watch g w es=>exact hk
 | newcoro g c d w es=>exact hk
 | coroswitch g c ex w es =>
  simp only
  split
  ·exact hk
  ·exact end_ _ _ _ hk
  ·trivial
 | timer g op w es =>
  simp only
  split
  ·rename_i h;have:=timerOp_drawn h;exact Nat.le_trans hk (Nat.le_of_eq this.symm)
  ·exact end_ _ _ _ hk
  ·trivial
  ·trivial
def MD (d:Nat):Move→Prop
 | .goroutine m _=>d≤m.world.drawn
 | .machine s _=>SD d s
theorem MD.of_le {d e:Nat} {s:Move} (h:d≤e) (k:MD e s):MD d s:=by
 cases s
 ·exact Nat.le_trans h k
 ·exact SD.of_le h k
theorem serve_drawn (p:Program) (m:Machine) (k:Nat):SD m.world.drawn (serve p m k):=by
 unfold serve
 split
 ·trivial
 ·exact Nat.le_refl _
 ·simp only
  split
  ·trivial
  ·exact Nat.le_refl _
theorem askOn_drawn (p:Program) (m:Machine):MD m.world.drawn (askOn p m):=by
 unfold askOn
 extract_lets mono rs ds pick
 have hp:∀ m':Machine,m.world.drawn≤m'.world.drawn→MD m.world.drawn (pick m'):=fun m' h=>by
  simp only [pick]
  split
  ·trivial
  ·rename_i h1
   have h1:=Nat.le_trans h (wc (ya p _ _) h1)
   split
   ·exact h1
   ·split
    ·trivial
    ·rename_i h2;exact Nat.le_trans h1 (wc (ya p _ _) h2)
 clear_value pick rs ds mono
 split
 ·trivial
 ·rename_i hz
  have h1:=wc (ya p _ _) hz
  clear hz
  simp only
  split
  ·exact SD.of_le h1 (serve_drawn p _ _)
  ·cases rs with
   | nil =>
    simp only
    split
    ·exact h1
    ·split
     ·exact h1
     ·split <;> trivial
   | cons r1 r2 =>
    simp only
    split
    ·simp_all
    ·split
     ·trivial
     ·rename_i h2;have h3:=Nat.le_trans h1 (wc (ya p _ _) h2);exact hp _ h3
     ·rename_i h2;have h3:=Nat.le_trans h1 (wc (ya p _ _) h2);exact h3
     ·rename_i h2;have h3:=Nat.le_trans h1 (wc (ya p _ _) h2);exact hp _ h3
theorem ask_drawn' (p:Program) (m:Machine):MD m.world.drawn (ask p m):=by
 unfold ask
 split
 ·split
  ·trivial
  ·rename_i h1
   have h1:=wc (ya p _ _) h1
   have h2:=look_drawn p m.gs m.rest
   split
   ·rename_i m2 hm
    have:=h2 (by assumption)
    rw [hm] at this
    exact MD.of_le (Nat.le_trans h1 this) (askOn_drawn p m2)
   ·rename_i hm
    exact SD.of_le h1 (h2 _)
  ·rename_i h1;exact MD.of_le (wc (ya p _ _) h1) (askOn_drawn p _)
 ·exact askOn_drawn p m
theorem move_drawn (p:Program) (m:Machine):MD m.world.drawn (move p m):=by
 unfold move
 split
 ·split
  ·exact Nat.le_refl _
  ·trivial
 ·split
  ·split
   ·exact Nat.le_refl _
   ·exact ask_drawn' p _
  ·exact ask_drawn' p m
theorem step_drawn (p:Program) (m:Machine):SD m.world.drawn (step p m):=by
 unfold step stepT
 have h:=move_drawn p m
 split
 ·rename_i hm;rw [hm] at h;exact SD.of_le h (runOne_drawn p _ _ _)
 ·rename_i hm;rw [hm] at h;exact h
theorem steps_drawn {p:Program} {m m2:Machine} (h:Steps p m m2):m.world.drawn≤m2.world.drawn:=by
 obtain ⟨n,hn⟩:=h
 induction n generalizing m with
 | zero=>simp only [runN,Stepped.next.injEq] at hn;subst hn;exact Nat.le_refl _
 | succ n ih =>
  simp only [runN] at hn
  have hs:=step_drawn p m
  split at hn
  ·rename_i m1 hm;rw [hm] at hs;exact Nat.le_trans hs (ih hn)
  ·simp_all
theorem calls_drawn {P:Program} {f:FuncId} {args:Array Value} {w:World} {R:Ending→World→Prop} (h:Calls P f args w R) (hr:∀ e w',R e w'→∃ v,e=.returned v):Calls P f args w fun e w'=>R e w'∧w.drawn≤w'.drawn:=fun cs=>by
 obtain ⟨e,w',fr,h1,h2,h3,h4⟩:=h cs
 obtain ⟨v,rfl⟩:=hr e w' h1
 exact ⟨_,w',fr,⟨h1,steps_drawn h2⟩,h2,h3,h4⟩
end Go.Vv
