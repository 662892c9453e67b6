/- A cheap look at the operation that comes next. No condition. -/
import Derived.Test.YticcaknflnldgaaDoorWWords
import Derived.Test.YticcaknflnldgaaDoorWLast
namespace Go.Proofs.YticcaknflnldgaaDoor
open Go.RowKit
/-- The next operation calls the function f. -/
theorem gateF {P : Program} {ops : Array Oper} {rest : List Oper} {o : Oper} {a : Act} {Q : Exit → Act → World → Prop} {W : World} {f : FuncId} {xs : Array Operand} {ys : Array TypeId}
    (_h : o.op = .call { callee := .value (.func f), args := xs, argTypes := ys }) (k : wpList P ops Q (o :: rest) a W) : wpList P ops Q (o :: rest) a W := k
end Go.Proofs.YticcaknflnldgaaDoor
