/- Two looks ahead and one look at a world, for a printed text that does not import the printer's word texts that hold them. No conditions. -/
import Derived.Test.YtmchbeobljgkeaaWWords
import Derived.Test.YtmchbeobljgkeaaWLast
namespace Go.Proofs.YtmchbeobljgkeaaW.PrintWords
open Go.RowKit
/-- The next operation calls this function. -/
theorem gate_callee {P : Program} {ops : Array Oper} {tail : List Oper} {op : Oper} {a : Act} {Q : Exit → Act → World → Prop} {W : World} {f : FuncId} {xs : Array Operand} {ts : Array TypeId}
    (_is : op.op = .call { callee := .value (.func f), args := xs, argTypes := ts }) : wpList P ops Q (op :: tail) a W → wpList P ops Q (op :: tail) a W := id
/-- The next operation calls this builtin. -/
theorem gate_builtin {P : Program} {ops : Array Oper} {tail : List Oper} {op : Oper} {a : Act} {Q : Exit → Act → World → Prop} {W : World} {b : Builtin} {xs : Array Operand} {ts : Array TypeId}
    (_is : op.op = .call { callee := .builtin b, args := xs, argTypes := ts }) : wpList P ops Q (op :: tail) a W → wpList P ops Q (op :: tail) a W := id
/-- A world that was drawn n times, named. -/
theorem drewN_self (W : World) (n : Nat) : W.drewN n = W.drewN n := rfl
end Go.Proofs.YtmchbeobljgkeaaW.PrintWords
