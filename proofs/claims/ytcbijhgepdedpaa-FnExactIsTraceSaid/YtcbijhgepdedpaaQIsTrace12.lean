/- What the claim FnExactIsTrace rests on, part 12 of 19; the last part proves it: for every input the law answers true, and its arguments read behind the call as before it. No condition. -/
import Derived.Lib.SliceRun
import Derived.KernelRfl
import Derived.WalkKit
import Derived.Test.YtcbijhgepdedpaaQIsTrace7
import Derived.Test.YtcbijhgepdedpaaQIsTrace8
import Derived.Test.YtcbijhgepdedpaaQIsTrace9
import Derived.Test.YtcbijhgepdedpaaQIsTrace10
namespace Go.Proofs.YtcbijhgepdedpaaW.PrintLast
end Go.Proofs.YtcbijhgepdedpaaW.PrintLast
namespace Go.Proofs.YtcbijhgepdedpaaW.PrintMore
end Go.Proofs.YtcbijhgepdedpaaW.PrintMore
set_option linter.unusedSimpArgs false
set_option linter.unusedVariables false
namespace Go.Proofs.Ytcbijhgepdedpaa.G
open Go.RowKit Go.Proofs.YtcbijhgepdedpaaW.PrintWords Go.Proofs.YtcbijhgepdedpaaW.PrintLast Go.Proofs.YtcbijhgepdedpaaW.PrintMore
def laws_markStepS.l0 : Nat → List (S98) → Int → Int → Option (Int × (List (S98)))
 | 0, _, _, _ => none
 | k + 1, x0, x1, x5 => if x5 < (x0.length : Int) then (if 0 ≤ x5 then ((some (x0.set (x5 : Int).toNat (⟨x1, (rd_T98 x0 x5).f1, (rd_T98 x0 x5).f2⟩ : S98) : List (S98))).bind fun y265 => ((some (y265.set (x5 : Int).toNat (⟨(rd_T98 y265 x5).f0, wrap64 (x1 + 1), (rd_T98 y265 x5).f2⟩ : S98) : List (S98))).bind fun y266 => (laws_markStepS.l0 k (y266.set (x5 : Int).toNat (⟨(rd_T98 y266 x5).f0, (rd_T98 y266 x5).f1, wrap64 ((wrap64 (x1 + 1)) + 1)⟩ : S98)) (wrap64 ((wrap64 ((wrap64 (x1 + 1)) + 1)) + 1)) (wrap64 (x5 + 1))))) else (none)) else (some (x1, x0))
def laws_markStepS.f (k : Nat) (l0 : List (S98)) (a1 : Int) : Option (Int × (List (S98))) := laws_markStepS.l0 k l0 a1 0
def laws_markIntS.l0 : Nat → List Int → Int → Int → Option (Int × List Int)
 | 0, _, _, _ => none
 | k + 1, x0, x1, x5 => if x5 < (x0.length : Int) then (if 0 ≤ x5 then (laws_markIntS.l0 k (x0.set (x5 : Int).toNat x1) (wrap64 (x1 + 1)) (wrap64 (x5 + 1))) else (none)) else (some (x1, x0))
def laws_markIntS.f (k : Nat) (l0 : List Int) (a1 : Int) : Option (Int × List Int) := laws_markIntS.l0 k l0 a1 0
def laws_heldIntS.l0 : Nat → List Int → Int → Int → Option (Int)
 | 0, _, _, _ => none
 | k + 1, x0, x1, x5 => if x5 < (x0.length : Int) then (if 0 ≤ x5 then (if (rd x0 x5) = x1 then (laws_heldIntS.l0 k x0 (wrap64 (x1 + 1)) (wrap64 (x5 + 1))) else (some (-1))) else (none)) else (some x1)
def laws_heldIntS.f (k : Nat) (l0 : List Int) (a1 : Int) : Option (Int) := laws_heldIntS.l0 k l0 a1 0
def laws_heldErrorNodeS.l0 : Nat → List (S71) → Int → Int → Option (Int)
 | 0, _, _, _ => none
 | k + 1, x0, x1, x5 => if x5 < (x0.length : Int) then (if 0 ≤ x5 then (if ((rd_T71 x0 x5).f0) = x1 then (if ((rd_T71 x0 x5).f1) = (wrap64 (x1 + 1)) then ((laws_heldIntS.f k ((rd_T71 x0 x5).f2) (wrap64 ((wrap64 (x1 + 1)) + 1))).bind fun t276 => (if t276 < 0 then (some (-1)) else (laws_heldErrorNodeS.l0 k x0 t276 (wrap64 (x5 + 1))))) else (some (-1))) else (some (-1))) else (none)) else (some x1)
def laws_heldErrorNodeS.f (k : Nat) (l0 : List (S71)) (a1 : Int) : Option (Int) := laws_heldErrorNodeS.l0 k l0 a1 0
def laws_heldErrors.f (k : Nat) (l0_0 : List (S71)) (a1 : Int) : Option (Int) := (laws_heldErrorNodeS.f k l0_0 a1).bind fun t278 => (if t278 < 0 then (some (-1)) else (some t278))
def spec_l10Code.f (a0_0 : Int) (a0_1 : Int) (l0_2 : List (S57)) (a0_3 : Int) : Option (Int) := if a0_0 = 1 then (some (Int.tmod (wrap64 ((Int.tmod a0_1 256) + 256)) 256)) else (if a0_0 = 2 then (some 2) else (if a0_0 = 3 then (some 0) else (some 124)))
def impl_Outcome_code.f (a0_0 : Int) (a0_1 : Int) (l0_2 : List (S57)) (a0_3 : Int) : Option (Int) := if a0_0 = 1 then (some (Int.tmod (wrap64 ((Int.tmod a0_1 256) + 256)) 256)) else (if a0_0 = 2 then (some 2) else (if a0_0 = 4 then (some 124) else (some 0)))
def spec_l11Function.f (k : Nat) (l0_0 : List (List (S98))) (a1 : Int) : Option (Bool) := (spec_l2Program.f k l0_0).bind fun t295 => (if t295 = true then ((spec_l2Function.f l0_0 a1).bind fun t296 => (some t296)) else (some false))
def spec_l1Least.f (a0 : Int) (a1 : Int) : Option (Int) := if a0 < a1 then (some a0) else (some a1)
def impl_isFunction.f (l0_0 : List (List (S98))) (a1 : Int) : Option (Bool) := (impl_IsProgram.f l0_0).bind fun t360 => (if t360 = true then ((impl_in.f a1 0 (wrap64 ((l0_0.length : Int) - 1))).bind fun t361 => (some t361)) else (some false))
abbrev ST := S98
end Go.Proofs.Ytcbijhgepdedpaa.G
