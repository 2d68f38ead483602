/- What the claim FnExactDropStep rests on, part 19 of 23; the last part proves it: for every input the law answers true, and its arguments read behind the call as before it. No condition. -/
import Derived.ChangeKeysEq
import Derived.Test.YtbgfiiehjaghiaaQDropStep18
set_option linter.unusedVariables false
namespace Go.Proofs.Ytbgfiiehjaghiaa
namespace SX
open Go.RowKit
def tailA (A : Option Addr) (j sz c : Nat) : Option Addr := if c = j then A else A.map fun a => a.add (j * sz)
section
variable {P : Program} {R : Array Oper} {Q : Exit → Act → World → Prop} {n : Nat} {e : Env} {a : Act} {w w0 : World} {Rs : List Asn}
theorem v_dropZ {S : World → Prop} {i d : Nat} {t el : TypeId} {x y : Operand} {ty : TypeId} {A : Option Addr} {m c j sz : Nat} {q : Int} (h : Has n e a) (ho : AtW R i (.slice t x (some y) none none) (some d) ty a)
  (hx : ev e x = some (.slice A m c)) (hy : ev e y = some (.int .i64 q)) (ht : P.underlying t = some (.slice el)) (hs : (P.info? el).map (·.size) = some sz) (hq : q = (j : Int)) (hj : j ≤ m) (hm : m ≤ c) :
  Val P R i a S d (.slice (tailA A j sz c) (m - j) (c - j)) :=
 Val.of_run ho fun o w h1 h2 hS => by
  subst hq
  rw [exec_eq h h1 h2 (by simp [covers, Op.operands, hx, hy, notSelect])]
  obtain ⟨ti, hti, hsz⟩ := Option.map_eq_some_iff.1 hs
  subst hsz
  simp [execOp, opr, evD, hx, hy, Instr.sliceAt, Instr.slice, underlying, ht, Instr.sliceBounds, Instr.sliceBound, asIntOf, sizeOf, typeInfo, hti, tailA]
  exact fun hh => absurd hj (by omega)
end
end SX
end Go.Proofs.Ytbgfiiehjaghiaa
