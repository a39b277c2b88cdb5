/- What is told anew ahead of an operation, where rows are changed in place. -/
import Derived.Test.YtjfbcjalcobabaaGreatVxC
namespace Go.Vv
set_option linter.unusedVariables false
set_option linter.unusedSimpArgs false
open Go Go.RowKit Go.Lib
/-- Its results are numbers and texts alone. -/
def plainRes (P : Program) (f : FuncId) : Bool := match P.funcs[f]? with
  | some fn => fn.resultTypes.all fun t => match P.underlying t with
    | some .bool | some (.int _) | some .string => true
    | _ => false
  | none => false
/-- In a region that draws its order: the rows in what is read there, to be laid into a map. -/
def viaLoad (d : Option (Array Oper)) (x : Operand) (env : List AV) (h : AH) : List Nat := match d, x with
  | some ops, .tmp t => match ops.toList.find? fun o => o.dst = some t with
    | some o => match o.op with
      | .load _ a => match ev env a with
        | .ptr i _ => match h.blk i with
          | some (.cells cs) => rwsL cs
          | _ => []
        | _ => []
      | _ => []
    | none => []
  | _, _ => []
/-- The rows that stand within arguments. -/
def deepL : List AV → List Nat
  | [] => []
  | .rsl _ _ _ _ :: r => deepL r
  | a :: r => a.rws ++ deepL r
/-- Those whose rows are changed no more, once they have come here. -/
def frzAt (P : Program) (mu : FuncId → Bool) (sh : TypeId → Bool) (d : Option (Array Oper)) (o : Oper) (env : List AV) (h : AH) : List Nat := match o.op with
  | .buildSlice _ _ ps => rwsL (ps.toList.map fun p => ev env p.2)
  | .mapUpdate _ _ _ x | .insert _ _ _ x | .entryStore _ _ _ x => (ev env x).rws ++ viaLoad d x env h
  | .store _ p x => match ev env p with
    | .rptr _ _ _ _ _ => (ev env x).rws
    | _ => []
  | .slice t x _ _ _ => if sh t then [] else (ev env x).rws
  | .convert _ _ x => (ev env x).rws
  | .binOp _ _ x y _ => (ev env x).rws ++ (ev env y).rws
  | .call c => match c.callee with
    | .builtin .append => match c.args.toList with
      | [_, x] => (ev env x).rws
      | _ => []
    | .value f => match ev env f with
      | .fn (.func g) a b => if mu g then [] else if plainRes P g then deepL (c.args.toList.map (ev env)) else rwsL (c.args.toList.map (ev env)) ++ (rwsL a ++ rwsL b)
      | _ => rwsL (c.args.toList.map (ev env))
    | .invoke _ _ => rwsL (c.args.toList.map (ev env))
    | _ => []
  | .makeInterface _ x => (ev env x).rws
  | _ => []
/-- In a region that draws its order: the variable that was copied ahead. -/
def aliasOf (d : Option (Array Oper)) (t : Nat) : Nat := match d with
  | none => t
  | some ops => match ops.toList.find? fun o => o.dst = some t with
    | some o => match o.op with
      | .move (.tmp s) => s
      | _ => t
    | none => t
/-- Where a row begins: an append to what is empty. -/
def thawAt (P : Program) (dr : Option (Array Oper)) (o : Oper) (env : List AV) : Option (Nat × Nat × Bool) := match o.op with
  | .call c => match c.callee, c.argTypes.toList, c.args.toList with
    | .builtin .append, [t, _], [.tmp d, x] => if (match ev env x with | .sl _ [] | .osl _ _ [] | .nilsl => true | _ => false) then none else match env[aliasOf dr d]? with
      | some (.osl none k []) => some (aliasOf dr d, k, false)
      | some .nilsl => match P.underlying t with
        | some (.slice e) => some (aliasOf dr d, P.cellsOf e, true)
        | _ => none
      | _ => none
    | _, _, _ => none
  | _ => none
/-- A boxed variable of such a type, once it is handed over as an interface: its slice begins as a row. -/
def cellAt (sh : TypeId → Bool) (o : Oper) (env : List AV) (h : AH) : Option (Nat × Nat) := match o.op with
  | .makeInterface t x => if sh t then (match ev env x with
    | .ptr i 0 => match h.blks[i]? with
      | some (.cells [.osl none k []]) => some (i, k)
      | _ => none
    | _ => none) else none
  | _ => none
def cellPre (sh : TypeId → Bool) (o : Oper) (env : List AV) (h : AH) : List AV × AH := match cellAt sh o env h with
  | some (i, k) => (env, { blks := (h.blks ++ [Blk.row h.toks.length k []]).set i (.cells [.rsl h.blks.length h.toks.length k 0]), toks := h.toks ++ [0] })
  | none => (env, h)
theorem cellPre_ok {sh : TypeId → Bool} {o : Oper} {env : List AV} {h : AH} : swk env h (cellPre sh o env h).1 (cellPre sh o env h).2 := by
  unfold cellPre
  split
  · rename_i i k hc
    unfold cellAt at hc
    split at hc
    · split at hc
      · split at hc
        · split at hc
          · rename_i hb
            simp only [Option.some.injEq, Prod.mk.injEq] at hc
            obtain ⟨rfl, rfl⟩ := hc
            exact thaw_cell (j := 0) hb rfl
          · cases hc
        · cases hc
      · cases hc
    · cases hc
  · exact swk.refl _ _
def rowPre (P : Program) (mu : FuncId → Bool) (sh : TypeId → Bool) : Pre := fun d o env h => match frz (frzAt P mu sh d o env h) env h with
  | (env, h) => match thawAt P d o env with
    | some (d, k, false) => match env[d]? with
      | some (.osl none l []) => if l = k then (env.set d (.rsl h.blks.length h.toks.length k 0), { blks := h.blks ++ [.row h.toks.length k []], toks := h.toks ++ [0] }) else (env, h)
      | _ => (env, h)
    | some (d, k, true) => match env[d]? with
      | some .nilsl => ((env.set d (.osl none k [])).set d (.rsl h.blks.length h.toks.length k 0), { blks := h.blks ++ [.row h.toks.length k []], toks := h.toks ++ [0] })
      | _ => (env, h)
    | none => cellPre sh o env h
theorem rowPre_ok {P : Program} {mu : FuncId → Bool} {sh : TypeId → Bool} : PreOk (rowPre P mu sh) := by
  intro dr o env h
  have h1 := frz_ok (frzAt P mu sh dr o env h) env h
  unfold rowPre
  generalize frz (frzAt P mu sh dr o env h) env h = p at h1 ⊢
  obtain ⟨e1, h2⟩ := p
  simp only at h1 ⊢
  split
  · split
    · rename_i l he
      split
      · rename_i hl
        subst hl
        exact h1.trans (thaw_x he)
      · exact h1
    · exact h1
  · rename_i d k hd
    split
    · rename_i he
      refine h1.trans ((nil_x (k := k) he).trans (thaw_x ?_))
      rw [List.getElem?_set_self (List.getElem?_eq_some_iff.1 he).1]
    · exact h1
  · exact h1.trans cellPre_ok
#print axioms rowPre_ok
end Go.Vv
