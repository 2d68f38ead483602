/- What the claim FnExactIsTrace rests on, part 7 of 19; the last part proves it: for every input the law answers true, and its arguments read behind the call as before it. No condition. -/
import Derived.Test.YtcbijhgepdedpaaProg
import Derived.Below
import Derived.Deep.Draws
import Derived.Deep.AppendLies
import Derived.Maps.AppendAt
import Derived.OwnWalk
import Derived.Laws.BytesArg
import Derived.Laws.MakeOwn
import Derived.Laws.OwnMore
import Derived.Deep.OwnRows
import Derived.Tactics
import Derived.Lib.ConvBytes
import Derived.Laws.Slices
import Derived.WalkKit
import Derived.KernelRfl
import Derived.RowKit3
import Derived.Deep.LoopGhost
import Derived.Deep.QuietTactic
import Derived.BigQuiet
import Derived.WideLaws
import Derived.Deep.DeepCutAuto
import Derived.Deep.CutBlock
import Derived.Deep.RegionHeld3
import Derived.Laws.Rows
import Derived.Lib.AppendStr
import Derived.ArgAppend
import Derived.Laws.IdiomCopy
import Derived.OrdersHeld
import Derived.Laws.BitsLemmas
import Derived.RowKit
import Derived.Test.YtcbijhgepdedpaaQIsTrace1
import Derived.Test.YtcbijhgepdedpaaQIsTrace2
import Derived.Test.YtcbijhgepdedpaaQIsTrace4
import Derived.Test.YtcbijhgepdedpaaQIsTrace5
import Derived.Test.YtcbijhgepdedpaaQIsTrace6
namespace Go.Proofs.YtcbijhgepdedpaaW.PrintLast
end Go.Proofs.YtcbijhgepdedpaaW.PrintLast
namespace Go.Proofs.YtcbijhgepdedpaaW.PrintMore
end Go.Proofs.YtcbijhgepdedpaaW.PrintMore
set_option linter.unusedSimpArgs false
set_option linter.unusedVariables false
namespace Go.Proofs.Ytcbijhgepdedpaa.G
open Go.RowKit Go.Proofs.YtcbijhgepdedpaaW.PrintWords Go.Proofs.YtcbijhgepdedpaaW.PrintLast Go.Proofs.YtcbijhgepdedpaaW.PrintMore
def errW : Option Int → Value
 | none => .nilIface
 | some c => .iface 0 (.int .i64 c)
structure S63 where
 f0 : Int
 f1 : Int
 f2 : Int
def z63 : S63 := ⟨(0 : Int), (0 : Int), (0 : Int)⟩
def rd_T63 (xs : List S63) (i : Int) : S63 := xs.getD i.toNat z63
structure S57 where
 f0 : Int
 f1 : Int
 f2 : Int
def z57 : S57 := ⟨(0 : Int), (0 : Int), (0 : Int)⟩
def rd_T57 (xs : List S57) (i : Int) : S57 := xs.getD i.toNat z57
structure S134 where
 f0 : Int
 f1 : Int
 f2 : Int
def z134 : S134 := ⟨(0 : Int), (0 : Int), (0 : Int)⟩
def rd_T134 (xs : List S134) (i : Int) : S134 := xs.getD i.toNat z134
def rd_L6 (xs : List (List S134)) (i : Int) : (List S134) := xs.getD i.toNat ([] : List S134)
structure S98 where
 f0 : Int
 f1 : Int
 f2 : Int
def z98 : S98 := ⟨(0 : Int), (0 : Int), (0 : Int)⟩
def rd_T98 (xs : List S98) (i : Int) : S98 := xs.getD i.toNat z98
def rd_L8 (xs : List (List S98)) (i : Int) : (List S98) := xs.getD i.toNat ([] : List S98)
structure S71 where
 f0 : Int
 f1 : Int
 f2 : (List Int)
def z71 : S71 := ⟨(0 : Int), (0 : Int), ([] : List Int)⟩
def rd_T71 (xs : List S71) (i : Int) : S71 := xs.getD i.toNat z71
def spec_l2Own.l0 : Nat → Int → List (List (S98)) → List (List (S98)) → Option ((List (List (S98))))
 | 0, _, _, _ => none
 | k + 1, x4, x178000, x183000 => if x4 < (x178000.length : Int) then ((some (([] : List (S98)) : List (S98))).bind fun y183 => (if 0 ≤ x4 then (if y183.length + (rd_L8 x178000 x4).length < 5864062014805 then (if x183000.length < 5864062014805 then (spec_l2Own.l0 k (wrap64 (x4 + 1)) x178000 (x183000 ++ [(y183 ++ (rd_L8 x178000 x4))])) else (none)) else (none)) else (none))) else (some x183000)
def spec_l2Own.f (k : Nat) (l0_0 : List (List (S98))) : Option ((List (List (S98)))) := spec_l2Own.l0 k 0 l0_0 (([] : List (List (S98))))
def spec_l1Most.f (a0 : Int) (a1 : Int) : Option (Int) := if a0 > a1 then (some a0) else (some a1)
def spec_l2Wrap.f (a0 : Int) : Option (Int) := some (wrap64 ((wrap64 ((Int.tmod (wrap64 ((wrap64 ((wrap64 (a0 + 32767)) + 1)) + 131072)) 65536) - 32767)) - 1))
def spec_l1Own.f (l0 : List Int) : Option (List Int) := (some (([] : List Int) : List Int)).bind fun y195 => (if y195.length + l0.length < 17592186044416 then (some (y195 ++ l0)) else (none))
def laws_toStep.f (a0_0 : Int) (a0_1 : Int) (a0_2 : Int) : Option (Int × Int × Int) := some (a0_0, a0_1, a0_2)
def laws_toStepS.l0 : Nat → List (S134) → List (S98) → Int → Option ((List (S98)))
 | 0, _, _, _ => none
 | k + 1, x0, x3, x4 => if x4 < (x0.length : Int) then (if 0 ≤ x4 then ((laws_toStep.f ((rd_T134 x0 x4).f0) ((rd_T134 x0 x4).f1) ((rd_T134 x0 x4).f2)).bind fun bt215 => (if x4 < (x3.length : Int) then (laws_toStepS.l0 k x0 (x3.set (x4 : Int).toNat (⟨bt215.1, bt215.2.1, bt215.2.2⟩ : S98)) (wrap64 (x4 + 1))) else (none))) else (none)) else (some x3)
def laws_toStepS.f (k : Nat) (l0 : List (S134)) : Option ((List (S98))) := if 0 ≤ (l0.length : Int) then (if ((l0.length : Int) : Int).toNat ≤ 11728124029610 then (laws_toStepS.l0 k l0 (List.replicate ((l0.length : Int) : Int).toNat z98) 0) else (none)) else (none)
def impl_in.f (a0 : Int) (a1 : Int) (a2 : Int) : Option (Bool) := if a1 ≤ a0 then (some (decide (a0 ≤ a2))) else (some false)
def impl_isNumber.f (a0 : Int) : Option (Bool) := (impl_in.f a0 (-32768) 32767).bind fun t101 => (some t101)
def impl_isRegister.f (a0 : Int) : Option (Bool) := (impl_in.f a0 0 3).bind fun t102 => (some t102)
def impl_isStep.j0 : Nat → Int → Bool → Bool → Int → Bool → Int → Int → Int → Option (Bool)
 | 0, _, _, _, _, _, _, _, _ => none
 | k + 1, x1, x5, x6, x14, x25, x104000, x104001, x104002 => if x25 = true then ((impl_in.f x104001 0 (wrap64 (x1 - 1))).bind fun t109 => ((impl_isRegister.f x104002).bind fun t110 => ((impl_in.f x104000 1 13).bind fun t111 => (if t111 = true then (if t109 = true then (some t110) else (some false)) else (some false))))) else (if x14 = 11 then ((impl_in.f x104001 0 8).bind fun t112 => ((impl_isRegister.f x104002).bind fun t113 => ((impl_in.f x104000 1 13).bind fun t114 => (if t114 = true then (if t112 = true then (some t113) else (some false)) else (some false))))) else (if x14 = 10 then ((impl_in.f x104000 1 13).bind fun t115 => (if t115 = true then (if x104001 = 0 then (some x6) else (some false)) else (some false))) else ((impl_in.f x104000 1 13).bind fun t116 => (if t116 = true then (if x5 = true then (some x6) else (some false)) else (some false)))))
def impl_isStep.f (k : Nat) (a0_0 : Int) (a0_1 : Int) (a0_2 : Int) (a1 : Int) : Option (Bool) := (impl_isRegister.f a0_1).bind fun t104 => (if a0_0 = 1 then ((impl_isNumber.f a0_2).bind fun t105 => ((impl_in.f a0_0 1 13).bind fun t106 => (if t106 = true then (if t104 = true then (some t105) else (some false)) else (some false)))) else (if a0_0 = 2 then ((impl_isRegister.f a0_2).bind fun t107 => ((impl_in.f a0_0 1 13).bind fun t108 => (if t108 = true then (if t104 = true then (some t107) else (some false)) else (some false)))) else (if a0_0 = 4 then (impl_isStep.j0 k a1 t104 (a0_2 == 0) a0_0 (a0_0 == 4) a0_0 a0_1 a0_2) else (impl_isStep.j0 k a1 t104 (a0_2 == 0) a0_0 (a0_0 == 5) a0_0 a0_1 a0_2))))
def laws_szEventS.f (l0 : List (S63)) (a1 : Int) : Option (Int) := if (wrap64 (a1 - (l0.length : Int))) < 0 then (some (-1)) else (some (wrap64 (a1 - (l0.length : Int))))
def laws_toEvent.f (a0_0 : Int) (a0_1 : Int) (a0_2 : Int) : Option (Int × Int × Int) := some (a0_0, a0_1, a0_2)
def laws_toEventS.l0 : Nat → List (S63) → List (S57) → Int → Option ((List (S57)))
 | 0, _, _, _ => none
 | k + 1, x0, x3, x4 => if x4 < (x0.length : Int) then (if 0 ≤ x4 then ((laws_toEvent.f ((rd_T63 x0 x4).f0) ((rd_T63 x0 x4).f1) ((rd_T63 x0 x4).f2)).bind fun bt124 => (if x4 < (x3.length : Int) then (laws_toEventS.l0 k x0 (x3.set (x4 : Int).toNat (⟨bt124.1, bt124.2.1, bt124.2.2⟩ : S57)) (wrap64 (x4 + 1))) else (none))) else (none)) else (some x3)
def laws_toEventS.f (k : Nat) (l0 : List (S63)) : Option ((List (S57))) := if 0 ≤ (l0.length : Int) then (if ((l0.length : Int) : Int).toNat ≤ 11728124029610 then (laws_toEventS.l0 k l0 (List.replicate ((l0.length : Int) : Int).toNat z57) 0) else (none)) else (none)
def laws_eqEvent.f (a0_0 : Int) (a0_1 : Int) (a0_2 : Int) (a1_0 : Int) (a1_1 : Int) (a1_2 : Int) : Option (Bool) := if a0_0 = a1_0 then (if a0_1 = a1_1 then (if a0_2 = a1_2 then (some true) else (some false)) else (some false)) else (some false)
def laws_eqEventS.l0 : Nat → List (S57) → List (S57) → Int → Option (Bool)
 | 0, _, _, _ => none
 | k + 1, x0, x1, x5 => if x5 < (x0.length : Int) then (if 0 ≤ x5 then (if x5 < (x1.length : Int) then ((laws_eqEvent.f ((rd_T57 x0 x5).f0) ((rd_T57 x0 x5).f1) ((rd_T57 x0 x5).f2) ((rd_T57 x1 x5).f0) ((rd_T57 x1 x5).f1) ((rd_T57 x1 x5).f2)).bind fun t141 => (if t141 = true then (laws_eqEventS.l0 k x0 x1 (wrap64 (x5 + 1))) else (some false))) else (none)) else (none)) else (some true)
def laws_eqEventS.f (k : Nat) (l0 : List (S57)) (l1 : List (S57)) : Option (Bool) := if (l0.length : Int) = (l1.length : Int) then (laws_eqEventS.l0 k l0 l1 0) else (some false)
def laws_szStepS.f (l0 : List (S134)) (a1 : Int) : Option (Int) := if (wrap64 (a1 - (l0.length : Int))) < 0 then (some (-1)) else (some (wrap64 (a1 - (l0.length : Int))))
def laws_szStepSS.l0 : Nat → List (List (S134)) → Int → Int → Option (Int)
 | 0, _, _, _ => none
 | k + 1, x0, x1, x5 => if x5 < (x0.length : Int) then (if 0 ≤ x5 then ((laws_szStepS.f (rd_L6 x0 x5) x1).bind fun t147 => (if t147 < 0 then (some (-1)) else (laws_szStepSS.l0 k x0 t147 (wrap64 (x5 + 1))))) else (none)) else (some x1)
def laws_szStepSS.f (k : Nat) (l0 : List (List (S134))) (a1 : Int) : Option (Int) := if (wrap64 (a1 - (l0.length : Int))) < 0 then (some (-1)) else (laws_szStepSS.l0 k l0 (wrap64 (a1 - (l0.length : Int))) 0)
def laws_szProgram.f (k : Nat) (l0_0 : List (List (S134))) (a1 : Int) : Option (Int) := (laws_szStepSS.f k l0_0 a1).bind fun t149 => (if t149 < 0 then (some (-1)) else (some t149))
def spec_l1In.f (a0 : Int) (a1 : Int) (a2 : Int) : Option (Bool) := if a0 ≥ a1 then (some (decide (a0 ≤ a2))) else (some false)
def spec_l2Function.f (l0_0 : List (List (S98))) (a1 : Int) : Option (Bool) := (spec_l1In.f a1 0 (wrap64 ((l0_0.length : Int) - 1))).bind fun t151 => (some t151)
def spec_l2Number.f (a0 : Int) : Option (Bool) := (spec_l1In.f a0 (-32768) 32767).bind fun t152 => (some t152)
def spec_l2Reg.f (a0 : Int) : Option (Bool) := (spec_l1In.f a0 0 3).bind fun t153 => (some t153)
mutual
def spec_l2Step.j0 : Nat → Int → Bool → List (List (S98)) → Int → Int → Int → Option (Bool)
 | 0, _, _, _, _, _, _ => none
 | k + 1, x6, x27, x155000, x156000, x156001, x156002 => if x27 = true then ((spec_l2Function.f x155000 x156001).bind fun t160 => (if t160 = true then ((spec_l2Reg.f x156002).bind fun t161 => (some t161)) else (some false))) else (if x6 = 3 then (spec_l2Step.j1 k x6 (x6 == 3) x156000 x156001 x156002) else (if x6 = 6 then (spec_l2Step.j1 k x6 (x6 == 6) x156000 x156001 x156002) else (if x6 = 7 then (spec_l2Step.j1 k x6 (x6 == 7) x156000 x156001 x156002) else (if x6 = 8 then (spec_l2Step.j1 k x6 (x6 == 8) x156000 x156001 x156002) else (if x6 = 9 then (spec_l2Step.j1 k x6 (x6 == 9) x156000 x156001 x156002) else (if x6 = 12 then (spec_l2Step.j1 k x6 (x6 == 12) x156000 x156001 x156002) else (spec_l2Step.j1 k x6 (x6 == 13) x156000 x156001 x156002)))))))
def spec_l2Step.j1 : Nat → Int → Bool → Int → Int → Int → Option (Bool)
 | 0, _, _, _, _, _ => none
 | k + 1, x6, x39, x156000, x156001, x156002 => if x39 = true then ((spec_l2Reg.f x156001).bind fun t162 => (if t162 = true then (some (x156002 == 0)) else (some false))) else (if x6 = 10 then (if x156001 = 0 then (some (x156002 == 0)) else (some false)) else (if x6 = 11 then ((spec_l1In.f x156001 0 8).bind fun t163 => (if t163 = true then ((spec_l2Reg.f x156002).bind fun t164 => (some t164)) else (some false))) else (some false)))
end
def spec_l2Step.f (k : Nat) (l0_0 : List (List (S98))) (a1_0 : Int) (a1_1 : Int) (a1_2 : Int) : Option (Bool) := if a1_0 = 1 then ((spec_l2Reg.f a1_1).bind fun t156 => (if t156 = true then ((spec_l2Number.f a1_2).bind fun t157 => (some t157)) else (some false))) else (if a1_0 = 2 then ((spec_l2Reg.f a1_1).bind fun t158 => (if t158 = true then ((spec_l2Reg.f a1_2).bind fun t159 => (some t159)) else (some false))) else (if a1_0 = 4 then (spec_l2Step.j0 k a1_0 (a1_0 == 4) l0_0 a1_0 a1_1 a1_2) else (spec_l2Step.j0 k a1_0 (a1_0 == 5) l0_0 a1_0 a1_1 a1_2)))
mutual
def spec_l2Program.l0 : Nat → Int → List (List (S98)) → Option (Bool)
 | 0, _, _ => none
 | k + 1, x3, x166000 => if x3 < (x166000.length : Int) then (if 0 ≤ x3 then (if ((rd_L8 x166000 x3).length : Int) > 8 then (some false) else (spec_l2Program.l1 k x3 0 x166000)) else (none)) else (some true)
def spec_l2Program.l1 : Nat → Int → Int → List (List (S98)) → Option (Bool)
 | 0, _, _, _ => none
 | k + 1, x3, x4, x166000 => if 0 ≤ x3 then (if x3 < (x166000.length : Int) then (if x4 < ((rd_L8 x166000 x3).length : Int) then (if 0 ≤ x4 then ((spec_l2Step.f k x166000 ((rd_T98 (rd_L8 x166000 x3) x4).f0) ((rd_T98 (rd_L8 x166000 x3) x4).f1) ((rd_T98 (rd_L8 x166000 x3) x4).f2)).bind fun t171 => (if t171 = true then (spec_l2Program.l1 k x3 (wrap64 (x4 + 1)) x166000) else (some false))) else (none)) else (spec_l2Program.l0 k (wrap64 (x3 + 1)) x166000)) else (none)) else (none)
end
def spec_l2Program.f (k : Nat) (l0_0 : List (List (S98))) : Option (Bool) := (spec_l1In.f (l0_0.length : Int) 1 6).bind fun t166 => (if t166 = true then (spec_l2Program.l0 k 0 l0_0) else (some false))
def spec_l2Ask.f (k : Nat) (l0_0 : List (List (S98))) (a1 : Int) (a2 : Int) (a3 : Int) : Option (Bool) := (spec_l2Program.f k l0_0).bind fun t173 => (if t173 = true then ((spec_l2Function.f l0_0 a1).bind fun t174 => (if t174 = true then ((spec_l2Number.f a2).bind fun t175 => (if t175 = true then ((spec_l1In.f a3 0 200).bind fun t176 => (some t176)) else (some false))) else (some false))) else (some false))
def bodyB (fs : Int) (b : List S98) : Bool := decide (b.length ≤ 8) && b.all fun s => stepB fs s.f0 s.f1 s.f2
def programB (p : List (List S98)) : Bool := (decide (1 ≤ p.length) && decide (p.length ≤ 6)) && p.all (bodyB (p.length : Int))
def impl_IsProgram.f (l0_0 : List (List S98)) : Option Bool := some (programB l0_0)
def laws_eqIntS.l0 : Nat → List Int → List Int → Int → Option (Bool)
 | 0, _, _, _ => none
 | k + 1, x0, x1, x5 => if x5 < (x0.length : Int) then (if 0 ≤ x5 then (if x5 < (x1.length : Int) then (if (rd x0 x5) = (rd x1 x5) then (laws_eqIntS.l0 k x0 x1 (wrap64 (x5 + 1))) else (some false)) else (none)) else (none)) else (some true)
def laws_eqIntS.f (k : Nat) (l0 : List Int) (l1 : List Int) : Option (Bool) := if (l0.length : Int) = (l1.length : Int) then (laws_eqIntS.l0 k l0 l1 0) else (some false)
def laws_eqErrorNode.f (k : Nat) (a0_0 : Int) (a0_1 : Int) (l0_2 : List Int) (a1_0 : Int) (a1_1 : Int) (l1_2 : List Int) : Option (Bool) := if a0_0 = a1_0 then (if a0_1 = a1_1 then ((laws_eqIntS.f k l0_2 l1_2).bind fun t247 => (if t247 = true then (some true) else (some false))) else (some false)) else (some false)
def laws_eqErrorNodeS.l0 : Nat → List (S71) → List (S71) → Int → Option (Bool)
 | 0, _, _, _ => none
 | k + 1, x0, x1, x5 => if x5 < (x0.length : Int) then (if 0 ≤ x5 then (if x5 < (x1.length : Int) then ((laws_eqErrorNode.f k ((rd_T71 x0 x5).f0) ((rd_T71 x0 x5).f1) ((rd_T71 x0 x5).f2) ((rd_T71 x1 x5).f0) ((rd_T71 x1 x5).f1) ((rd_T71 x1 x5).f2)).bind fun t250 => (if t250 = true then (laws_eqErrorNodeS.l0 k x0 x1 (wrap64 (x5 + 1))) else (some false))) else (none)) else (none)) else (some true)
def laws_eqErrorNodeS.f (k : Nat) (l0 : List (S71)) (l1 : List (S71)) : Option (Bool) := if (l0.length : Int) = (l1.length : Int) then (laws_eqErrorNodeS.l0 k l0 l1 0) else (some false)
def laws_eqErrors.f (k : Nat) (l0_0 : List (S71)) (l1_0 : List (S71)) : Option (Bool) := (laws_eqErrorNodeS.f k l0_0 l1_0).bind fun t253 => (if t253 = true then (some true) else (some false))
def laws_eqStep.f (a0_0 : Int) (a0_1 : Int) (a0_2 : Int) (a1_0 : Int) (a1_1 : Int) (a1_2 : Int) : Option (Bool) := if a0_0 = a1_0 then (if a0_1 = a1_1 then (if a0_2 = a1_2 then (some true) else (some false)) else (some false)) else (some false)
def laws_eqStepS.l0 : Nat → List (S98) → List (S98) → Int → Option (Bool)
 | 0, _, _, _ => none
 | k + 1, x0, x1, x5 => if x5 < (x0.length : Int) then (if 0 ≤ x5 then (if x5 < (x1.length : Int) then ((laws_eqStep.f ((rd_T98 x0 x5).f0) ((rd_T98 x0 x5).f1) ((rd_T98 x0 x5).f2) ((rd_T98 x1 x5).f0) ((rd_T98 x1 x5).f1) ((rd_T98 x1 x5).f2)).bind fun t258 => (if t258 = true then (laws_eqStepS.l0 k x0 x1 (wrap64 (x5 + 1))) else (some false))) else (none)) else (none)) else (some true)
def laws_eqStepS.f (k : Nat) (l0 : List (S98)) (l1 : List (S98)) : Option (Bool) := if (l0.length : Int) = (l1.length : Int) then (laws_eqStepS.l0 k l0 l1 0) else (some false)
def laws_eqStepSS.l0 : Nat → List (List (S98)) → List (List (S98)) → Int → Option (Bool)
 | 0, _, _, _ => none
 | k + 1, x0, x1, x5 => if x5 < (x0.length : Int) then (if 0 ≤ x5 then (if x5 < (x1.length : Int) then ((laws_eqStepS.f k (rd_L8 x0 x5) (rd_L8 x1 x5)).bind fun t261 => (if t261 = true then (laws_eqStepSS.l0 k x0 x1 (wrap64 (x5 + 1))) else (some false))) else (none)) else (none)) else (some true)
def laws_eqStepSS.f (k : Nat) (l0 : List (List (S98))) (l1 : List (List (S98))) : Option (Bool) := if (l0.length : Int) = (l1.length : Int) then (laws_eqStepSS.l0 k l0 l1 0) else (some false)
def laws_eqProgram.f (k : Nat) (l0_0 : List (List (S98))) (l1_0 : List (List (S98))) : Option (Bool) := (laws_eqStepSS.f k l0_0 l1_0).bind fun t264 => (if t264 = true then (some true) else (some false))
end Go.Proofs.Ytcbijhgepdedpaa.G
