/- No step of the machine lessens the count of what was drawn. -/
import Derived.Test.YtcdgimmdofbjdaaGreatVvA
import Derived.Calls
import Derived.Sort.Grow
set_option linter.all false
namespace Go.Vv
open Go
set_option maxHeartbeats 1000000
variable{α:Type}{p:Program}{w:World}{v:Value}{d e:Nat}{m m2:Machine}
def RD(d:Nat):Result α->Prop
 |.ok _ w=>d<=w.drawn
 |.halt _ w=>d<=w.drawn
theorem zdK{α:Type}:∀(a:Ask α)(w:World),w.drawn<=(w.ask a).2.drawn
 |.done a,w=>by simp[World.ask]
 |.ask what range k,w=>by
  unfold World.ask;simp only;split
  ·exact zdK (k 0) w
  ·exact lg (gN _) (zdK (k _) { w with drawn:=w.drawn+1 })
theorem zgy(w:World)(c:Sys):w.drawn<=(w.sys c).2.drawn:=by
 unfold World.sys;have h:=zdK (Kernel.perform c w.os) w
 grind
theorem zaj{w':World}{a:Addr}{b:Bool}{l:List Addr}(h:w.farStore p a v b=.ok (w',l)):w'.drawn=w.drawn:=by
 unfold World.farStore at h;split at h
 ·split at h
  ·rename_i r c;simp only[i5]at h;subst h;unfold World.viewStore at c;simp only[bind,Except.bind,pure,Except.pure,throw,throwThe,MonadExceptOf.throw]at c
   repeat' split at c
   all_goals first|(cases c;done)|(simp only[i5,kG]at c;rw[<- c.1])|skip
  ·cases h
 ·cases h
theorem RD.of_le{r:Result α}(h:d<=e)(k:RD e r):RD d r:=by
 cases r<;>exact lg h k
theorem zW{α:Type}(p:Program):∀(s:Sem α)(w:World),RD w.drawn (s.run p w)
 |.pure a,w=>by unfold Sem.run;exact ob _
 |.load m a k,w=>by
  unfold Sem.run;split
  ·exact zW p _ w
  ·split
   ·exact zW p _ w
   ·exact ob _
 |.store m a v k,w=>by
  cases v
  case agg=>unfold Sem.run;exact ob _
  case tuple=>unfold Sem.run;exact ob _
  all_goals
   unfold Sem.run;split
   ·split
    ·exact ob _
    ·exact zW p k _
   ·split
    ·rename_i h;have:=zaj h;exact RD.of_le (by omega) (zW p k _)
    ·exact ob _
 |.new o k,w=>by unfold Sem.run;exact zW p _ _
 |.shape r k,w=>by unfold Sem.run;exact zW p _ _
 |.freeze a n k,w=>by
  unfold Sem.run;refine RD.of_le ?_ (zW p _ _);unfold World.freeze;split<;>exact ob _
 |.frozen a k,w=>by unfold Sem.run;exact zW p _ _
 |.getObj r k,w=>by
  unfold Sem.run;split
  ·exact ob _
  ·exact zW p _ _
  ·exact ob _
 |.setObj r o k,w=>by
  unfold Sem.run;split
  ·exact ob _
  ·exact zW p k _
  ·exact ob _
 |.choose q k,w=>by
  unfold Sem.run;split
  ·exact zW p _ _
  ·exact RD.of_le (gN _) (zW p _ { w with drawn:=w.drawn+1 })
 |.sys c k,w=>by unfold Sem.run;exact RD.of_le (zgy w c) (zW p _ _)
 |.program k,w=>by unfold Sem.run;exact zW p _ _
 |.mark m k,w=>by unfold Sem.run;exact zW p _ _
 |.halt h,w=>by unfold Sem.run;exact ob _
theorem zY{α:Type}(p:Program):∀(s:Sem α)(w:World) (es:Array Event),RD w.drawn (s.runT p w es).1
 |.pure a,w,es=>by unfold Sem.runT;exact ob _
 |.load m a k,w,es=>by
  unfold Sem.runT;split
  ·exact zY p _ w _
  ·split
   ·exact zY p _ w _
   ·exact ob _
 |.store m a v k,w,es=>by
  cases v
  case agg=>unfold Sem.runT;exact ob _
  case tuple=>unfold Sem.runT;exact ob _
  all_goals
   unfold Sem.runT;split
   ·split
    ·exact ob _
    ·exact zY p k _ _
   ·split
    ·rename_i h;have:=zaj h;exact RD.of_le (by omega) (zY p k _ _)
    ·exact ob _
 |.new o k,w,es=>by unfold Sem.runT;exact zY p _ _ _
 |.shape r k,w,es=>by unfold Sem.runT;exact zY p _ _ _
 |.freeze a n k,w,es=>by
  unfold Sem.runT;refine RD.of_le ?_ (zY p _ _ _);unfold World.freeze;split<;>exact ob _
 |.frozen a k,w,es=>by unfold Sem.runT;exact zY p _ _ _
 |.getObj r k,w,es=>by
  unfold Sem.runT;split
  ·exact ob _
  ·exact zY p _ _ _
  ·exact ob _
 |.setObj r o k,w,es=>by
  unfold Sem.runT;split
  ·exact ob _
  ·exact zY p k _ _
  ·exact ob _
 |.choose q k,w,es=>by
  unfold Sem.runT;split
  ·exact zY p _ _ _
  ·exact RD.of_le (gN _) (zY p _ { w with drawn:=w.drawn+1 } _)
 |.sys c k,w,es=>by unfold Sem.runT;exact RD.of_le (zgy w c) (zY p _ _ _)
 |.program k,w,es=>by unfold Sem.runT;exact zY p _ _ _
 |.mark m k,w,es=>by unfold Sem.runT;exact zY p _ _ _
 |.halt h,w,es=>by unfold Sem.runT;exact ob _
def GD(d:Nat):GStep->Prop
 |.go _ w _|.comm _ _ _ _ w _|.spawn _ _ w _|.count _ w _|.timer _ _ w _|.alone _ _ w _|.newcoro _ _ _ w _|.coroswitch _ _ _ w _|.collect _ w _|.watch _ w _=>d<=w.drawn
 |.ended _ _ _=>True
theorem GD.after{d:Nat}{es:Array Event}{s:GStep}(h:GD d s):GD d (s.after es):=by cases s<;>exact h
theorem GD.of_le{s:GStep}(h:d<=e)(k:GD e s):GD d s:=by cases s<;>first|exact lg h k|trivial
theorem vZ{r:Result α}(h:RD d r){v:α}{w:World}(e:r=.ok v w):d<=w.drawn:=by subst e;exact h
theorem zbi{r:Result α}(h:RD d r){v:Halt}{w:World}(e:r=.halt v w):d<=w.drawn:=by subst e;exact h
theorem GD.ite{c:Prop}[Decidable c]{d:Nat}{a b:GStep}(f:GD d a)(g:GD d b):GD d (if c then a else b):=by grind
theorem zf8(w:World)(a:Nat)(t:ByteArray)(o:Outcome):GD w.drawn (endWith w a t o):=by
 unfold endWith;simp only
 repeat' split
 all_goals trivial
theorem oP(fr:Frame)(a:List ByteArray)(m:String)(b:Bool)(w:World):GD w.drawn (dieOf fr a m b w):=ob _
theorem zak(p:Program)(fr:Frame)(cs:List Frame)(dy:Option Dying)(m:String)(w:World):GD w.drawn (endFatal p fr cs dy m w):=by
 unfold endFatal;simp only;split
 ·rename_i h;exact GD.of_le (vZ (zW p _ w) h) (oP _ _ _ _ _)
 ·trivial
 ·trivial
theorem oM(p:Program)(fr:Frame)(v:Value)(w:World):GD w.drawn (endPrinting p fr v w):=by
 unfold endPrinting;simp only;split
 ·exact oP _ _ _ _ _
 ·trivial
theorem ze6(p:Program)(fr:Frame)(d:Dying)(f:Fatal)(w:World):GD w.drawn (writeOn p fr d f w):=by
 unfold writeOn;simp only;split
 ·trivial
 ·split
  ·rename_i h;exact vZ (zY p _ w _) (congrArg Prod.fst h)
  ·rename_i h;exact zbi (zY p _ w _) (congrArg Prod.fst h)
  ·trivial
  ·trivial
theorem znw(p:Program)(fr:Frame)(d:Dying)(w:World):GD w.drawn (die p fr d w):=by
 unfold die;split
 ·exact ze6 _ _ _ _ _
 split
 ·split
  ·exact ob _
  ·exact zf8 _ _ _ _
 ·simp only;split
  ·exact ob _
  ·split
   ·rename_i h;exact vZ (zW p _ w) h
   ·trivial
  ·refine GD.after ?_;split
   ·rename_i h;exact vZ (zY p _ w _) h
   ·rename_i h;exact vZ (zY p _ w _) h
   ·trivial
   ·rename_i h;exact GD.of_le (zbi (zY p _ w _) h) (oM _ _ _ _)
   ·trivial
  ·trivial
theorem oq(p:Program)(m:Bool)(fr:Frame)(cs:List Frame)(dy:Option Dying)(v:Value)(w:World):GD w.drawn (doReturn p m fr cs dy v w):=by
 unfold doReturn;split
 ·split<;>first|exact ob _|skip
 ·split
  ·exact ob _
  ·trivial
  ·split
   ·exact ob _
   ·split
    ·exact ob _
    ·trivial
theorem za3(p:Program)(fr:Frame)(cs:List Frame)(dy:Option Dying)(d:Deferred)(w:World):GD w.drawn (callDeferred p fr cs dy d w):=by
 unfold callDeferred;refine GD.ite trivial ?_;simp only;refine GD.after ?_;have a:=zY p (invoke d.target d.args) w #[];generalize ((invoke d.target d.args).runT p w #[]).1=r at a ⊢
 repeat' split
 all_goals first|trivial|exact vZ a (by assumption)|exact zbi a (by assumption)|exact GD.of_le a (zak _ _ _ _ _ _)|exact GD.of_le a (oP _ _ _ _ _)|exact a
theorem zgw(p:Program)(m:Bool)(fr:Frame)(cs:List Frame)(dy:Option Dying)(w:World):GD w.drawn (unwind p m fr cs dy w):=by
 unfold unwind;split
 ·simp only;refine GD.after ?_;split
  ·rename_i h;exact vZ (zY p _ w _) h
  ·trivial
 ·exact za3 _ _ _ _ _ _
 ·split
  ·trivial
  ·split
   ·trivial
   ·split
    ·exact ob _
    ·split
     ·split
      ·exact ob _
      ·split
       ·rename_i h;exact vZ (zW p _ w) h
       ·trivial
       ·trivial
     ·split
      ·exact oM _ _ _ _
      ·trivial
  ·split
   ·exact oq _ _ _ _ _ _ _
   ·simp only;refine GD.after ?_;split
    ·rename_i h;exact GD.of_le (vZ (zY p _ w _) h) (oq _ _ _ _ _ _ _)
    ·trivial
    ·trivial
theorem ziU(p:Program)(fr:Frame)(cs:List Frame)(dy:Option Dying)(g:Nat)(w:World):GD w.drawn (early p fr cs dy g w):=by
 have b:∀(f:String)(a:World),w.drawn<=a.drawn->GD w.drawn (match a.heap[g]? with
  |some (.pending c elem)=>.go { frame:=fr,callers:=cs,status:=.running,dying:=dy } { a with heap:=a.heap.setIfInBounds g (.cells c elem) }
  |_=>.ended (.stuck f (fr.pos p)) a):=λf a h=>by
  split
  ·exact h
  ·trivial
 unfold early;simp only;split
 ·exact b _ w (ob _)
 split
 ·trivial
 split
 ·exact b _ w (ob _)
 split
 ·exact b _ w (ob _)
 split
 ·trivial
 ·exact ob _
 ·trivial
 ·exact b _ w (ob _)
 ·split
  ·exact ob _
  ·split
   ·exact b _ w (ob _)
   ·split
    ·rename_i h;exact b _ _ (vZ (zW p _ w) h)
    ·rename_i h;exact vZ (zW p _ w) h
    ·trivial
theorem r9(p:Program)(l:Bool)(fr:Frame)(cs:List Frame)(dy:Option Dying)(s:Sem Next)(w:World):GD w.drawn (stepG.apply p l fr cs dy s w):=by
 unfold stepG.apply;simp only;have a:RD w.drawn (if l=true then s.runT p w #[]else(s.run p w,#[])).1:=by
  split
  ·exact zY p s w _
  ·exact zW p s w
 generalize (if l=true then s.runT p w #[]else(s.run p w,#[]))=r at a ⊢;obtain⟨r,es⟩:=r;simp only at a ⊢;refine GD.after ?_
 repeat' split
 all_goals first|trivial|exact vZ a (by assumption)|exact zbi a (by assumption)|exact a|exact GD.of_le a (oP _ _ _ _ _)|exact GD.of_le a (zak _ _ _ _ _ _)|exact GD.of_le a (ziU _ _ _ _ _ _)
theorem zkZ(p:Program)(l:Bool)(fr:Frame)(cs:List Frame)(dy:Option Dying)(w:World):GD w.drawn (stepG.oper p l fr cs dy w):=by
 unfold stepG.oper;split
 ·trivial
 ·split<;>exact r9 _ _ _ _ _ _ _
theorem zlg(p:Program)(m l:Bool)(fr:Frame)(cs:List Frame)(dy:Option Dying)(w:World):GD w.drawn (stepG.exec p m l fr cs dy w):=by
 unfold stepG.exec
 extract_lets go to lost leave
 have c:∀b,GD w.drawn (leave b):=λb=>by
  simp only[leave];split
  ·exact GD.ite (ob _) trivial
  ·refine GD.after ?_;split
   ·rename_i h;exact GD.of_le (vZ (zY p _ w _) h) (oq _ _ _ _ _ _ _)
   ·trivial
 have a:∀td,GD w.drawn (to td):=λtd=>ob _;split
 ·simp_all
 ·simp_all
 ·exact a _
 ·exact a _
 ·exact a _
 ·exact a _
 ·exact a _
 ·split
  ·exact a _
  ·trivial
 ·exact a _
 ·exact a _
 ·exact a _
 ·exact a _
 ·generalize exitTo _ _=q;cases q
  ·simp_all
  ·exact a _
 ·generalize gotoIn _ _=q;cases q
  ·simp_all
  ·exact a _
 ·simp only;refine GD.after ?_;split
  ·rename_i h;exact GD.of_le (vZ (zY p _ w _) h) (r9 _ _ _ _ _ _ _)
  ·trivial
 ·trivial
 ·exact r9 _ _ _ _ _ _ _
 ·simp only;refine GD.after ?_;split
  ·rename_i h;exact vZ (zY p _ w _) h
  ·rename_i h;exact zbi (zY p _ w _) h
  ·trivial
 ·trivial
 ·exact r9 _ _ _ _ _ _ _
 ·generalize Extern.next _=q;cases q
  ·trivial
  ·exact r9 _ _ _ _ _ _ _
 ·refine GD.ite (a _) ?_;split
  ·rename_i h;exact vZ (zW p _ w) h
  ·trivial
 ·exact a _
 ·exact GD.ite (zkZ _ _ _ _ _ _) (ob _)
theorem zh7(p:Program)(m l:Bool)(g:Goroutine)(w:World):GD w.drawn (stepG p m g w l):=by
 unfold stepG;obtain⟨fr,cs,st,dy,a⟩:=g;simp only;split
 ·exact znw _ _ _ _
 ·exact zlg _ _ _ _ _ _ _
 ·exact zgw _ _ _ _ _ _
def SD(d:Nat):Stepped->Prop
 |.next m=>d<=m.world.drawn
 |.ended _ _=>True
theorem SD.of_le{s:Stepped}(h:d<=e)(k:SD e s):SD d s:=by cases s<;>first|exact lg h k|trivial
theorem zeq(p:Program)(gs:Array Goroutine)(r:Rest)(w:World):SD w.drawn (look p gs r w):=by
 unfold look;split
 ·simp only;split
  ·trivial
  ·split
   ·trivial
   ·split
    ·rename_i h;have:=vZ (zW p _ w) h;exact this
    ·trivial
    ·trivial
 ·trivial
theorem zby(p:Program)(r:Rest)(gs:Array Goroutine)(i:Nat)(g:Goroutine)(cs:Array CommCase)(b:Bool)(f:CommShape)(w:World):SD w.drawn (communicate p r gs i g cs b f w).1:=by
 unfold communicate;simp only;split
 ·trivial
 split
 ·split
  ·split
   ·rename_i h;unfold waitingAt at h;split at h
    ·split at h
     ·simp only[p5]at h;subst h;exact ob _
     ·cases h
    ·simp only[p5]at h;subst h;exact ob _
   ·trivial
  ·exact ob _
 ·split
  ·trivial
  ·rename_i h;have hd:=vZ (zW p _ w) h
   repeat' split
   all_goals first|exact hd|trivial|(rename_i a;exact lg hd (zbi (zW p _ _) a))|(have c:=vZ (zW p _ _) ‹(choose _).run p _=_›;exact lg hd c)
theorem zbQ(m:Machine)(k:Nat)(t:Timer)(a b:Nat):(retime m k t a b).2.world.drawn=m.world.drawn:=by
 unfold retime drain
 grind
theorem zc3{a:Addr}{f:Nat->Timer->Value×Machine}(b:∀k t,(f k t).2.world.drawn=d)(h:timerOp.named m a f=.ok (v,m2)):m2.world.drawn=d:=by
 unfold timerOp.named at h
 grind
theorem zfe{op:TimerOp}(h:timerOp m op=.ok (v,m2)):m2.world.drawn=m.world.drawn:=by
 cases op with
 |new t =>
  simp only[timerOp]at h;split at h
  ·simp only[i5,kG]at h;rw[<- h.2]<;>rfl
  ·grind
 |stop a=>exact zc3 (λk t=>zbQ _ _ _ _ _) h
 |reset a b c =>
  simp only[timerOp]at h;split at h
  ·rename_i g f;refine zc3 (λk t=>?_) h;rw[zbQ];unfold timerOp.opened at f
   grind
  ·cases h
 |deadline a b c d =>
  simp only[timerOp,i5,kG]at h;rw[<- h.2]<;>rfl
theorem zgJ(p:Program)(m:Machine)(i:Nat)(l:Bool):SD m.world.drawn (Go.runT p m i l).1:=by
 unfold Go.runT;simp only;generalize hsw:m.gs.swapAt! i { (default:Goroutine)with status:=.finished }=sw;obtain⟨g,gs⟩:=sw;simp only;have hk:=zh7 p (i==0) l g m.world;generalize stepG p (i==0) g m.world l=s at hk ⊢;have end_:∀(fr:Frame)(msg:String) (w:World),m.world.drawn<=w.drawn->SD m.world.drawn (match endThrow fr msg w with
   |.go g w _=>.next { world:=w,gs:=gs.setIfInBounds i g,rest:=m.rest }
   |_ => .ended (.stuck "" "") w) := fun fr msg w h => h
 cases s with
 |go g w es=>exact hk
 |ended o w es=>trivial
 |comm g cs b sh w es=>exact SD.of_le hk (zby _ _ _ _ _ _ _ _ _)
 |spawn g c w es=>exact hk
 |count g w es =>
  simp only;split
  ·trivial
  ·exact hk
 |alone g on w es=>exact hk
 |collect g w es=>exact SD.of_le hk (zeq _ _ _ _)
 |watch g w es=>exact hk
 |newcoro g c d w es=>exact hk
 |coroswitch g c ex w es =>
  simp only;split
  ·exact hk
  ·exact end_ _ _ _ hk
  ·trivial
 |timer g op w es =>
  simp only;split
  ·rename_i h;have:=zfe h;exact lg hk (gQ this.symm)
  ·exact end_ _ _ _ hk
  ·trivial
  ·trivial
def MD(d:Nat):Move->Prop
 |.goroutine m _=>d<=m.world.drawn
 |.machine s _=>SD d s
theorem MD.of_le{d e:Nat}{s:Move}(h:d<=e)(k:MD e s):MD d s:=by
 cases s
 ·exact lg h k
 ·exact SD.of_le h k
theorem zic(p:Program)(m:Machine)(k:Nat):SD m.world.drawn (serve p m k):=by
 unfold serve;split
 ·trivial
 ·exact ob _
 ·simp only;split
  ·trivial
  ·exact ob _
theorem zaC(p:Program)(m:Machine):MD m.world.drawn (askOn p m):=by
 unfold askOn
 extract_lets mono rs ds pick
 have g:∀f:Machine,m.world.drawn<=f.world.drawn->MD m.world.drawn (pick f):=λf h=>by
  simp only[pick];split
  ·trivial
  ·rename_i a;have a:=lg h (vZ (zW p _ _) a);split
   ·exact a
   ·split
    ·trivial
    ·rename_i b;exact lg a (vZ (zW p _ _) b)
 clear_value pick rs ds mono
 split
 ·trivial
 ·rename_i i;have a:=vZ (zW p _ _) i;clear i;simp only;split
  ·exact SD.of_le a (zic p _ _)
  ·cases rs with
   |nil =>
    simp only;split
    ·exact a
    ·split
     ·exact a
     ·split<;>trivial
   |cons r1 r2 =>
    simp only;split
    ·simp_all
    ·split
     ·trivial
     ·rename_i b;have c:=lg a (vZ (zW p _ _) b);exact g _ c
     ·rename_i b;have c:=lg a (vZ (zW p _ _) b);exact c
     ·rename_i b;have c:=lg a (vZ (zW p _ _) b);exact g _ c
theorem zeZ(p:Program)(m:Machine):MD m.world.drawn (ask p m):=by
 unfold ask;split
 ·split
  ·trivial
  ·rename_i a;have a:=vZ (zW p _ _) a;have c:=zeq p m.gs m.rest;split
   ·rename_i m2 b;have:=c (by assumption);rw[b]at this;exact MD.of_le (lg a this) (zaC p m2)
   ·rename_i b;exact SD.of_le a (c _)
  ·rename_i a;exact MD.of_le (vZ (zW p _ _) a) (zaC p _)
 ·exact zaC p m
theorem zk5(p:Program)(m:Machine):MD m.world.drawn (move p m):=by
 unfold move;split
 ·split
  ·exact ob _
  ·trivial
 ·split
  ·split
   ·exact ob _
   ·exact zeZ p _
  ·exact zeZ p m
theorem zkL(p:Program)(m:Machine):SD m.world.drawn (step p m):=by
 unfold step stepT;have h:=zk5 p m;split
 ·rename_i a;rw[a]at h;exact SD.of_le h (zgJ p _ _ _)
 ·rename_i a;rw[a]at h;exact h
theorem zh6(h:Steps p m m2):m.world.drawn<=m2.world.drawn:=by
 obtain⟨n,a⟩:=h
 induction n generalizing m with
 |zero=>simp only[runN,Stepped.next.injEq]at a;subst a;exact ob _
 |succ n ih =>
  simp only[runN]at a;have hs:=zkL p m;split at a
  ·rename_i c b;rw[b]at hs;exact lg hs (ih a)
  ·simp_all
theorem zi6{P:Program}{f:FuncId}{args:Array Value}{R:Ending->World->Prop}(h:Calls P f args w R)(g:∀e w',R e w'->∃v,e=.returned v):Calls P f args w λe w'=>R e w'/\w.drawn<=w'.drawn:=λcs=>by
 obtain⟨e,w',fr,b,a,i,c⟩:=h cs;obtain⟨v,rfl⟩:=g e w' b;exact⟨_,w',fr,⟨b,zh6 a⟩,a,i,c⟩
end Go.Vv
