/- A statement with a bound on its arguments: what the call's contract may take, beside the bound, is the world's shape. -/
import Derived.JoinedCond
import Derived.HandedShaped
import Derived.Test.YtehifcdoglcidaaGreatVvRd
namespace Go.Vv
open Go Go.ChangeShapes Go.WideShapes
theorem returns_cond_shaped {H:Type} {enc:TypeId×Value->H} {a:Assume} {C:Checked} {os:Os} {f:FuncId} {fn:Func} {s:OpenSpec} {k:(H:Type)->List (DataW H)->Bool} (L:s.cond=some k) {F:Stop.Interp} {g:List PathCond} {apart m d o:Bool}
  (A:ownKnob C.prog.godebug=none) (n:os.Started) (p:C.prog.inits.idxOf? f=none) (D:C.prog.funcs[f]?=some fn)
  (l:∃(w:World) (b:Tape) (i:Input),w.os=os/\(w.forCall b i).Shaped C.prog/\i.vars=[]/\Input.okWide C.prog (w.forCall b i) .any w.heap.size f i /\
   s.pre6 enc C.prog fn g apart (w.forCall b i).memory i.args/\a.holds C.prog (lone (Frame.enter C.prog f i.args .normal) [] (w.forCall b i)))
  (h:∀(W:World) (q:Nat) (args:Array Value) (ds gs:List (DataW H)) (c:List MemPlace),
   (∀(j:Nat) t v,fn.params[j]?=some t->args[j]?=some v->Value.okWide C.prog W .any q t v) ->
   DataW.Whole enc C.prog fn.params.toList s.vars apart W args.toList ds gs c->k H (ds++gs)=true->W.ShapedOpen C.prog ->
   Calls C.prog f args W λe W'=>∃v,e=.returned v/\(s.at F).post enc C.prog fn apart m d o W args v W') :
  ReturnsInHanded a C os f .any (s.pre6 enc C.prog fn g apart) ((s.at F).post enc C.prog fn apart m d o):=by
 refine returnsInHanded_of_calls A n p l ?_;intro w b i _ z _ I x y;obtain ⟨_,_,_,G,u,_,_,_,_,r⟩:=I;have e:G=fn:=Option.some.inj (u.symm.trans D);subst e;obtain ⟨ds,gs,c,J,N,E⟩:=(OpenSpec.pre_some L g apart _ _).1 x.1;have B:=DataW.Whole.of_heap (w':=w.forCall b i) (by rfl) J;refine (h (w.forCall b i) w.heap.size i.args ds gs c r B E z).mono λe W' ⟨v,M,K⟩=>?_;subst M;exact ChangeSpec.post_blind K
end Go.Vv
