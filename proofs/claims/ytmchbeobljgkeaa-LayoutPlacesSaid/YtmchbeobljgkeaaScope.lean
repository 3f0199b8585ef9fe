/- A function whose body lies in a scope (it holds a label) and which no goto leaves is met by the walk of its body. -/
import Derived.WalkMore
namespace Go.Proofs.Ytmchbeobljgkeaa
theorem calls_of_scope {P : Program} {f : FuncId} {fn : Func} {r c : Code} {args : Array Value} {w : World} {R : Ending → World → Prop}
    (hf : P.funcs[f]? = some fn) (hb : fn.body = some (.seq r (.scope c)))
    (h : ∀ K : Act → World → Prop, (∀ a w, c.wp P (bodyPost P fn R) a w → K a w) →
      r.wp P (Exit.then K (bodyPost P fn R)) { tmps := args ++ Array.replicate (fn.ntmps - args.size) undef, defers := [] } w) :
    Calls P f args w R := by
  refine calls_of_wp hf hb (wp_seq (h _ fun a w hc => wp_scope_straight (wp_mono hc ?_)))
  intro e a w hq
  cases e <;> exact hq
end Go.Proofs.Ytmchbeobljgkeaa
