/- What the claim FnExactMendEntries rests on, part 9 of 23; the last part proves it: for every input the law answers true, and its arguments read behind the call as before it. No condition. -/
import Derived.Lib.SliceRun
import Derived.Test.YtbgfiiehjaghiaaQMendEntries7
namespace Go.Proofs.YtbgfiiehjaghiaaW.PrintLast
end Go.Proofs.YtbgfiiehjaghiaaW.PrintLast
namespace Go.Proofs.YtbgfiiehjaghiaaW.PrintMore
end Go.Proofs.YtbgfiiehjaghiaaW.PrintMore
set_option linter.unusedSimpArgs false
set_option linter.unusedVariables false
namespace Go.Proofs.Ytbgfiiehjaghiaa.G
open Go.RowKit Go.Proofs.YtbgfiiehjaghiaaW.PrintWords Go.Proofs.YtbgfiiehjaghiaaW.PrintLast Go.Proofs.YtbgfiiehjaghiaaW.PrintMore
def impl_Program_copied.l0 : Nat → List (List (S68)) → Int → Int → List (List (S68)) → Option ((List (List (S68))))
 | 0, _, _, _, _ => none
 | k + 1, x8, x9, x10, x227000 => if x10 < x9 then (if 0 ≤ x10 then (if x10 < (x8.length : Int) then ((impl_Step_102.f (rd_L4 x8 x10)).bind fun t228 => (if x227000.length < 5864062014805 then (impl_Program_copied.l0 k x8 x9 (wrap64 (x10 + 1)) (x227000 ++ [t228])) else (none))) else (none)) else (none)) else (some x227000)
def impl_Program_copied.f (k : Nat) (l0_0 : List (List (S68))) : Option ((List (List (S68)))) := impl_Program_copied.l0 k l0_0 (l0_0.length : Int) 0 ([] : List (List (S68)))
def laws_eqStep.f (a0_0 : Int) (a0_1 : Int) (a0_2 : Int) (a1_0 : Int) (a1_1 : Int) (a1_2 : Int) : Option (Bool) := if a0_0 = a1_0 then (if a0_1 = a1_1 then (if a0_2 = a1_2 then (some true) else (some false)) else (some false)) else (some false)
def laws_eqStepS.l0 : Nat → List (S68) → List (S68) → Int → Option (Bool)
 | 0, _, _, _ => none
 | k + 1, x0, x1, x5 => if x5 < (x0.length : Int) then (if 0 ≤ x5 then (if x5 < (x1.length : Int) then ((laws_eqStep.f ((rd_T68 x0 x5).f0) ((rd_T68 x0 x5).f1) ((rd_T68 x0 x5).f2) ((rd_T68 x1 x5).f0) ((rd_T68 x1 x5).f1) ((rd_T68 x1 x5).f2)).bind fun t254 => (if t254 = true then (laws_eqStepS.l0 k x0 x1 (wrap64 (x5 + 1))) else (some false))) else (none)) else (none)) else (some true)
def laws_eqStepS.f (k : Nat) (l0 : List (S68)) (l1 : List (S68)) : Option (Bool) := if (l0.length : Int) = (l1.length : Int) then (laws_eqStepS.l0 k l0 l1 0) else (some false)
def laws_eqStepSS.l0 : Nat → List (List (S68)) → List (List (S68)) → Int → Option (Bool)
 | 0, _, _, _ => none
 | k + 1, x0, x1, x5 => if x5 < (x0.length : Int) then (if 0 ≤ x5 then (if x5 < (x1.length : Int) then ((laws_eqStepS.f k (rd_L4 x0 x5) (rd_L4 x1 x5)).bind fun t257 => (if t257 = true then (laws_eqStepSS.l0 k x0 x1 (wrap64 (x5 + 1))) else (some false))) else (none)) else (none)) else (some true)
def laws_eqStepSS.f (k : Nat) (l0 : List (List (S68))) (l1 : List (List (S68))) : Option (Bool) := if (l0.length : Int) = (l1.length : Int) then (laws_eqStepSS.l0 k l0 l1 0) else (some false)
def laws_eqProgram.f (k : Nat) (l0_0 : List (List (S68))) (l1_0 : List (List (S68))) : Option (Bool) := (laws_eqStepSS.f k l0_0 l1_0).bind fun t260 => (if t260 = true then (some true) else (some false))
def laws_markStepS.l0 : Nat → List (S68) → Int → Int → Option (Int × (List (S68)))
 | 0, _, _, _ => none
 | k + 1, x0, x1, x5 => if x5 < (x0.length : Int) then (if 0 ≤ x5 then ((some (x0.set (x5 : Int).toNat (⟨x1, (rd_T68 x0 x5).f1, (rd_T68 x0 x5).f2⟩ : S68) : List (S68))).bind fun y261 => ((some (y261.set (x5 : Int).toNat (⟨(rd_T68 y261 x5).f0, wrap64 (x1 + 1), (rd_T68 y261 x5).f2⟩ : S68) : List (S68))).bind fun y262 => (laws_markStepS.l0 k (y262.set (x5 : Int).toNat (⟨(rd_T68 y262 x5).f0, (rd_T68 y262 x5).f1, wrap64 ((wrap64 (x1 + 1)) + 1)⟩ : S68)) (wrap64 ((wrap64 ((wrap64 (x1 + 1)) + 1)) + 1)) (wrap64 (x5 + 1))))) else (none)) else (some (x1, x0))
def laws_markStepS.f (k : Nat) (l0 : List (S68)) (a1 : Int) : Option (Int × (List (S68))) := laws_markStepS.l0 k l0 a1 0
def laws_heldStepS.l0 : Nat → List (S68) → Int → Int → Option (Int)
 | 0, _, _, _ => none
 | k + 1, x0, x1, x5 => if x5 < (x0.length : Int) then (if 0 ≤ x5 then (if ((rd_T68 x0 x5).f0) = x1 then (if ((rd_T68 x0 x5).f1) = (wrap64 (x1 + 1)) then (if ((rd_T68 x0 x5).f2) = (wrap64 ((wrap64 (x1 + 1)) + 1)) then (laws_heldStepS.l0 k x0 (wrap64 ((wrap64 ((wrap64 (x1 + 1)) + 1)) + 1)) (wrap64 (x5 + 1))) else (some (-1))) else (some (-1))) else (some (-1))) else (none)) else (some x1)
def laws_heldStepS.f (k : Nat) (l0 : List (S68)) (a1 : Int) : Option (Int) := laws_heldStepS.l0 k l0 a1 0
def laws_heldStepSS.l0 : Nat → List (List (S68)) → Int → Int → Option (Int)
 | 0, _, _, _ => none
 | k + 1, x0, x1, x5 => if x5 < (x0.length : Int) then (if 0 ≤ x5 then ((laws_heldStepS.f k (rd_L4 x0 x5) x1).bind fun t270 => (if t270 < 0 then (some (-1)) else (laws_heldStepSS.l0 k x0 t270 (wrap64 (x5 + 1))))) else (none)) else (some x1)
def laws_heldStepSS.f (k : Nat) (l0 : List (List (S68))) (a1 : Int) : Option (Int) := laws_heldStepSS.l0 k l0 a1 0
def laws_heldProgram.f (k : Nat) (l0_0 : List (List (S68))) (a1 : Int) : Option (Int) := (laws_heldStepSS.f k l0_0 a1).bind fun t272 => (if t272 < 0 then (some (-1)) else (some t272))
end Go.Proofs.Ytbgfiiehjaghiaa.G
