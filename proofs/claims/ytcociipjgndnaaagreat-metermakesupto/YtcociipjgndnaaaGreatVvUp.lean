/- A statement with a bound on its arguments: what the call's contract may take, beside the bound, is the world's shape. -/
import Derived.JoinedCond
import Derived.HandedShaped
import Derived.Test.YtcociipjgndnaaaGreatVvRd
namespace Go.Vv
open Go Go.ChangeShapes Go.WideShapes
theorem returns_cond_shaped {H:Type} {enc:TypeId×Value->H} {a:Assume} {C:Checked} {os:Os} {f:FuncId} {fn:Func} {s:OpenSpec} {k:(H:Type)->List (DataW H)->Bool} (M:s.cond=some k) {F:Stop.Interp} {g:List PathCond} {apart o d n:Bool}
  (D:ownKnob C.prog.godebug=none) (l:os.Started) (p:C.prog.inits.idxOf? f=none) (B:C.prog.funcs[f]?=some fn)
  (m:∃(w:World) (b:Tape) (i:Input),w.os=os/\(w.forCall b i).Shaped C.prog/\i.vars=[]/\Input.okWide C.prog (w.forCall b i) .any w.heap.size f i /\
   s.pre6 enc C.prog fn g apart (w.forCall b i).memory i.args/\a.holds C.prog (lone (Frame.enter C.prog f i.args .normal) [] (w.forCall b i)))
  (h:∀(W:World) (q:Nat) (args:Array Value) (ds gs:List (DataW H)) (c:List MemPlace),
   (∀(j:Nat) t v,fn.params[j]?=some t->args[j]?=some v->Value.okWide C.prog W .any q t v) ->
   DataW.Whole enc C.prog fn.params.toList s.vars apart W args.toList ds gs c->k H (ds++gs)=true->W.ShapedOpen C.prog ->
   Calls C.prog f args W λe W'=>∃v,e=.returned v/\(s.at F).post enc C.prog fn apart o d n W args v W') :
  ReturnsInHanded a C os f .any (s.pre6 enc C.prog fn g apart) ((s.at F).post enc C.prog fn apart o d n):=by
 refine returnsInHanded_of_calls D l p m ?_;intro w b i _ G _ z x y;obtain ⟨_,_,_,A,r,_,_,_,_,u⟩:=z;have e:A=fn:=sU (r.symm.trans B);subst e;obtain ⟨ds,gs,c,K,N,I⟩:=(OpenSpec.pre_some M g apart _ _).1 x.1;have E:=DataW.Whole.of_heap (w':=w.forCall b i) (by rfl) K;refine (h (w.forCall b i) w.heap.size i.args ds gs c u E I G).mono λe W' ⟨v,J,L⟩=>?_;subst J;exact ChangeSpec.post_blind L
end Go.Vv
