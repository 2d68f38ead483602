/- What the claim FnExactCleanupProgram rests on, part 7 of 18; the last part proves it: for every input the law answers true, and its arguments read behind the call as before it. No condition. -/
import Derived.Test.YtbgfiiehjaghiaaProg
import Derived.Below
import Derived.Deep.Draws
import Derived.Deep.AppendLies
import Derived.Maps.AppendAt
import Derived.OwnWalk
import Derived.Laws.BytesArg
import Derived.Laws.MakeOwn
import Derived.Laws.OwnMore
import Derived.Deep.OwnRows
import Derived.Tactics
import Derived.Lib.ConvBytes
import Derived.Laws.Slices
import Derived.WalkKit
import Derived.KernelRfl
import Derived.RowKit3
import Derived.Deep.LoopGhost
import Derived.Deep.QuietTactic
import Derived.BigQuiet
import Derived.WideLaws
import Derived.Deep.DeepCutAuto
import Derived.Deep.CutBlock
import Derived.Deep.RegionHeld3
import Derived.Laws.Rows
import Derived.Lib.AppendStr
import Derived.ArgAppend
import Derived.Laws.IdiomCopy
import Derived.OrdersHeld
import Derived.Laws.BitsLemmas
import Derived.RowKit
import Derived.Test.YtbgfiiehjaghiaaQCleanupProgram1
import Derived.Test.YtbgfiiehjaghiaaQCleanupProgram2
import Derived.Test.YtbgfiiehjaghiaaQCleanupProgram4
import Derived.Test.YtbgfiiehjaghiaaQCleanupProgram5
import Derived.Test.YtbgfiiehjaghiaaQCleanupProgram6
set_option linter.unusedSimpArgs false
set_option linter.unusedVariables false
set_option maxRecDepth 100000
set_option maxHeartbeats 8000000
namespace Go.Proofs.Ytbgfiiehjaghiaa.G
open Go.RowKit Go.Proofs.YtbgfiiehjaghiaaW.PrintWords Go.Proofs.YtbgfiiehjaghiaaW.PrintLast Go.Proofs.YtbgfiiehjaghiaaW.PrintMore
def errW : Option Int → Value
 | none => .nilIface
 | some c => .iface 0 (.int .i64 c)
theorem errW_none : errW none = .nilIface := rfl
theorem errW_some (c : Int) : errW (some c) = .iface 0 (.int .i64 c) := rfl
structure S151 where
 f0 : Int
 f1 : Int
 f2 : Int
def z151 : S151 := ⟨(0 : Int), (0 : Int), (0 : Int)⟩
def rd_T151 (xs : List S151) (i : Int) : S151 := xs.getD i.toNat z151
def rd_L2 (xs : List (List S151)) (i : Int) : (List S151) := xs.getD i.toNat ([] : List S151)
structure S68 where
 f0 : Int
 f1 : Int
 f2 : Int
def z68 : S68 := ⟨(0 : Int), (0 : Int), (0 : Int)⟩
def k68 : Kd S68 := Kd.iso (Kd.pair (Kd.int .i64) (Kd.pair (Kd.int .i64) (Kd.int .i64))) (fun x : S68 => (x.f0, x.f1, x.f2))
theorem k68_open {w : World} {x : S68} {cs : List Value} (h : k68.K w x cs) : cs = [.int .i64 x.f0, .int .i64 x.f1, .int .i64 x.f2] := by
 obtain ⟨_, _, rfl, rfl, ⟨_, _, rfl, rfl, rfl⟩⟩ := h
 exact rfl
theorem k68_openM {w : World} {base : Nat} {ok : Nat → Prop} {x : S68} {cs : List Value} (h : k68.M w base ok x cs) : cs = [.int .i64 x.f0, .int .i64 x.f1, .int .i64 x.f2] := by
 obtain ⟨_, _, rfl, rfl, ⟨_, _, rfl, rfl, rfl⟩⟩ := h
 exact rfl
theorem k68_mkM (w : World) (base : Nat) (ok : Nat → Prop) (x : S68)  : k68.M w base ok x [.int .i64 x.f0, .int .i64 x.f1, .int .i64 x.f2] := ⟨[.int .i64 x.f0], [.int .i64 x.f1, .int .i64 x.f2], rfl, rfl, ⟨[.int .i64 x.f1], [.int .i64 x.f2], rfl, rfl, rfl⟩⟩
def rd_T68 (xs : List S68) (i : Int) : S68 := xs.getD i.toNat z68
theorem at_T68 {w : World} {A : Option Addr} {n : Nat} {xs : List S68} (h : Kd.C k68 w A n xs) (i : Int) (h0 : 0 ≤ i) (h1 : i < n) : ∃ ad , A = some ad ∧ w.cell? (ad.add (i.toNat * 3)) = some (.int .i64 (rd_T68 xs i).f0) ∧ w.cell? ⟨(ad.add (i.toNat * 3)).block, (ad.add (i.toNat * 3)).off + 1, none⟩ = some (.int .i64 (rd_T68 xs i).f1) ∧ w.cell? ⟨(ad.add (i.toNat * 3)).block, (ad.add (i.toNat * 3)).off + 2, none⟩ = some (.int .i64 (rd_T68 xs i).f2) := by
 obtain ⟨ad, c, e, _, hK, hc0⟩ := Kd.C_get h z68 i h0 h1
 have hc : ∀ j u, c[j]? = some u → w.cell? (ad.add (i.toNat * 3 + j)) = some u := hc0
 obtain rfl := k68_open hK
 exact ⟨ad, e, hc 0 _ rfl, by rw [← add_field _ _ 1 (by omega)]; exact hc 1 _ rfl, by rw [← add_field _ _ 2 (by omega)]; exact hc 2 _ rfl⟩
def rd_L4 (xs : List (List S68)) (i : Int) : (List S68) := xs.getD i.toNat ([] : List S68)
theorem at_L4 {w : World} {A : Option Addr} {n : Nat} {xs : List (List S68)} (h : Kd.C (Kd.slice 68 k68) w A n xs) (i : Int) (h0 : 0 ≤ i) (h1 : i < n) : ∃ ad A0 c0, A = some ad ∧ w.cell? (ad.add i.toNat) = some (.slice A0 (rd_L4 xs i).length c0) ∧ (rd_L4 xs i).length ≤ c0 ∧ k68.C w A0 (rd_L4 xs i).length (rd_L4 xs i) := by
 obtain ⟨ad, c, e, _, hK, hc0⟩ := Kd.C_get h ([] : List S68) i h0 h1
 have hc : ∀ j u, c[j]? = some u → w.cell? (ad.add (i.toNat * 1 + j)) = some u := hc0
 obtain ⟨A0, c0, rfl, l0, g0⟩ := hK
 exact ⟨ad, A0, c0, e, by have hq := hc 0 _ rfl; rwa [Nat.mul_one, Nat.add_zero] at hq, l0, g0⟩
structure S100 where
 f0 : Int
 f1 : Int
 f2 : Int
def impl_in.f (a0 : Int) (a1 : Int) (a2 : Int) : Option (Bool) := if a1 ≤ a0 then (some (decide (a0 ≤ a2))) else (some false)
theorem impl_in.calls (a0 : Int) (a1 : Int) (a2 : Int) (r : Bool) (w : World) (h : impl_in.f a0 a1 a2 = some r) :
    Calls Try.prog 69 #[.int .i64 a0, .int .i64 a1, .int .i64 a2] w fun e w' => e = .returned (.bool r) ∧ Drawn0 w w' := by
  have H : (if a1 ≤ a0 then (some (decide (a0 ≤ a2))) else (some false)) = some r := h
  clear h
  by_cases c4 : a1 ≤ a0
  · rw [if_pos c4] at H
    have c4b0 : decide (a1 ≤ a0) = true := decide_eq_true c4;clear c4;obtain rfl := Option.some.inj H
    go_enter Try.func69, Try.ntmps69
    go_wp2
    go_ret
    exact ⟨by first | rfl | (simp; done) | (simp [*]; done), by repeat (first | exact Drawn0.refl _ | apply Drawn0.step)⟩
  · rw [if_neg c4] at H
    have c4b0 : decide (a1 ≤ a0) = false := decide_eq_false c4;clear c4;obtain rfl := Option.some.inj H
    go_enter Try.func69, Try.ntmps69
    go_wp2
    go_ret
    exact ⟨by first | rfl | (simp; done) | (simp [*]; done), by repeat (first | exact Drawn0.refl _ | apply Drawn0.step)⟩
def impl_isRegister.f (a0 : Int) : Option (Bool) := (impl_in.f a0 0 3).bind fun t101 => (some t101)
def impl_isNumber.f (a0 : Int) : Option (Bool) := (impl_in.f a0 (-32768) 32767).bind fun t102 => (some t102)
def impl_isStep.j0 : Nat → Int → Bool → Bool → Int → Bool → Int → Int → Int → Option (Bool)
 | 0, _, _, _, _, _, _, _, _ => none
 | k + 1, x1, x5, x6, x14, x25, x104000, x104001, x104002 => if x25 = true then ((impl_in.f x104001 0 (wrap64 (x1 - 1))).bind fun t109 => ((impl_isRegister.f x104002).bind fun t110 => ((impl_in.f x104000 1 13).bind fun t111 => (if t111 = true then (if t109 = true then (some t110) else (some false)) else (some false))))) else (if x14 = 11 then ((impl_in.f x104001 0 8).bind fun t112 => ((impl_isRegister.f x104002).bind fun t113 => ((impl_in.f x104000 1 13).bind fun t114 => (if t114 = true then (if t112 = true then (some t113) else (some false)) else (some false))))) else (if x14 = 10 then ((impl_in.f x104000 1 13).bind fun t115 => (if t115 = true then (if x104001 = 0 then (some x6) else (some false)) else (some false))) else ((impl_in.f x104000 1 13).bind fun t116 => (if t116 = true then (if x5 = true then (some x6) else (some false)) else (some false)))))
def impl_isStep.f (k : Nat) (a0_0 : Int) (a0_1 : Int) (a0_2 : Int) (a1 : Int) : Option (Bool) := (impl_isRegister.f a0_1).bind fun t104 => (if a0_0 = 1 then ((impl_isNumber.f a0_2).bind fun t105 => ((impl_in.f a0_0 1 13).bind fun t106 => (if t106 = true then (if t104 = true then (some t105) else (some false)) else (some false)))) else (if a0_0 = 2 then ((impl_isRegister.f a0_2).bind fun t107 => ((impl_in.f a0_0 1 13).bind fun t108 => (if t108 = true then (if t104 = true then (some t107) else (some false)) else (some false)))) else (if a0_0 = 4 then (impl_isStep.j0 k a1 t104 (a0_2 == 0) a0_0 (a0_0 == 4) a0_0 a0_1 a0_2) else (impl_isStep.j0 k a1 t104 (a0_2 == 0) a0_0 (a0_0 == 5) a0_0 a0_1 a0_2))))
def laws_szStepS.f (l0 : List (S151)) (a1 : Int) : Option (Int) := if (wrap64 (a1 - (l0.length : Int))) < 0 then (some (-1)) else (some (wrap64 (a1 - (l0.length : Int))))
def laws_szStepSS.l0 : Nat → List (List (S151)) → Int → Int → Option (Int)
 | 0, _, _, _ => none
 | k + 1, x0, x1, x5 => if x5 < (x0.length : Int) then (if 0 ≤ x5 then ((laws_szStepS.f (rd_L2 x0 x5) x1).bind fun t118 => (if t118 < 0 then (some (-1)) else (laws_szStepSS.l0 k x0 t118 (wrap64 (x5 + 1))))) else (none)) else (some x1)
def laws_szStepSS.f (k : Nat) (l0 : List (List (S151))) (a1 : Int) : Option (Int) := if (wrap64 (a1 - (l0.length : Int))) < 0 then (some (-1)) else (laws_szStepSS.l0 k l0 (wrap64 (a1 - (l0.length : Int))) 0)
def laws_szProgram.f (k : Nat) (l0_0 : List (List (S151))) (a1 : Int) : Option (Int) := (laws_szStepSS.f k l0_0 a1).bind fun t120 => (if t120 < 0 then (some (-1)) else (some t120))
def spec_l1In.f (a0 : Int) (a1 : Int) (a2 : Int) : Option (Bool) := if a0 ≥ a1 then (some (decide (a0 ≤ a2))) else (some false)
theorem spec_l1In.calls (a0 : Int) (a1 : Int) (a2 : Int) (r : Bool) (w : World) (h : spec_l1In.f a0 a1 a2 = some r) :
    Calls Try.prog 66 #[.int .i64 a0, .int .i64 a1, .int .i64 a2] w fun e w' => e = .returned (.bool r) ∧ Drawn0 w w' := by
  have H : (if a0 ≥ a1 then (some (decide (a0 ≤ a2))) else (some false)) = some r := h
  clear h
  by_cases c4 : a0 ≥ a1
  · rw [if_pos c4] at H
    have c4b0 : decide (a1 ≤ a0) = true := decide_eq_true c4;clear c4;obtain rfl := Option.some.inj H
    go_enter Try.func66, Try.ntmps66
    go_wp2
    go_ret
    exact ⟨by first | rfl | (simp; done) | (simp [*]; done), by repeat (first | exact Drawn0.refl _ | apply Drawn0.step)⟩
  · rw [if_neg c4] at H
    have c4b0 : decide (a1 ≤ a0) = false := decide_eq_false c4;clear c4;obtain rfl := Option.some.inj H
    go_enter Try.func66, Try.ntmps66
    go_wp2
    go_ret
    exact ⟨by first | rfl | (simp; done) | (simp [*]; done), by repeat (first | exact Drawn0.refl _ | apply Drawn0.step)⟩
def spec_l2Function.f (l0_0 : List (List (S68))) (a1 : Int) : Option (Bool) := (spec_l1In.f a1 0 (wrap64 ((l0_0.length : Int) - 1))).bind fun t122 => (some t122)
def spec_l2Number.f (a0 : Int) : Option (Bool) := (spec_l1In.f a0 (-32768) 32767).bind fun t123 => (some t123)
def spec_l2Reg.f (a0 : Int) : Option (Bool) := (spec_l1In.f a0 0 3).bind fun t124 => (some t124)
mutual
def spec_l2Step.j0 : Nat → Int → Bool → List (List (S68)) → Int → Int → Int → Option (Bool)
 | 0, _, _, _, _, _, _ => none
 | k + 1, x6, x27, x126000, x127000, x127001, x127002 => if x27 = true then ((spec_l2Function.f x126000 x127001).bind fun t131 => (if t131 = true then ((spec_l2Reg.f x127002).bind fun t132 => (some t132)) else (some false))) else (if x6 = 3 then (spec_l2Step.j1 k x6 (x6 == 3) x127000 x127001 x127002) else (if x6 = 6 then (spec_l2Step.j1 k x6 (x6 == 6) x127000 x127001 x127002) else (if x6 = 7 then (spec_l2Step.j1 k x6 (x6 == 7) x127000 x127001 x127002) else (if x6 = 8 then (spec_l2Step.j1 k x6 (x6 == 8) x127000 x127001 x127002) else (if x6 = 9 then (spec_l2Step.j1 k x6 (x6 == 9) x127000 x127001 x127002) else (if x6 = 12 then (spec_l2Step.j1 k x6 (x6 == 12) x127000 x127001 x127002) else (spec_l2Step.j1 k x6 (x6 == 13) x127000 x127001 x127002)))))))
def spec_l2Step.j1 : Nat → Int → Bool → Int → Int → Int → Option (Bool)
 | 0, _, _, _, _, _ => none
 | k + 1, x6, x39, x127000, x127001, x127002 => if x39 = true then ((spec_l2Reg.f x127001).bind fun t133 => (if t133 = true then (some (x127002 == 0)) else (some false))) else (if x6 = 10 then (if x127001 = 0 then (some (x127002 == 0)) else (some false)) else (if x6 = 11 then ((spec_l1In.f x127001 0 8).bind fun t134 => (if t134 = true then ((spec_l2Reg.f x127002).bind fun t135 => (some t135)) else (some false))) else (some false)))
end
def spec_l2Step.f (k : Nat) (l0_0 : List (List (S68))) (a1_0 : Int) (a1_1 : Int) (a1_2 : Int) : Option (Bool) := if a1_0 = 1 then ((spec_l2Reg.f a1_1).bind fun t127 => (if t127 = true then ((spec_l2Number.f a1_2).bind fun t128 => (some t128)) else (some false))) else (if a1_0 = 2 then ((spec_l2Reg.f a1_1).bind fun t129 => (if t129 = true then ((spec_l2Reg.f a1_2).bind fun t130 => (some t130)) else (some false))) else (if a1_0 = 4 then (spec_l2Step.j0 k a1_0 (a1_0 == 4) l0_0 a1_0 a1_1 a1_2) else (spec_l2Step.j0 k a1_0 (a1_0 == 5) l0_0 a1_0 a1_1 a1_2)))
mutual
def spec_l2Program.l0 : Nat → Int → List (List (S68)) → Option (Bool)
 | 0, _, _ => none
 | k + 1, x3, x137000 => if x3 < (x137000.length : Int) then (if 0 ≤ x3 then (if ((rd_L4 x137000 x3).length : Int) > 8 then (some false) else (spec_l2Program.l1 k x3 0 x137000)) else (none)) else (some true)
def spec_l2Program.l1 : Nat → Int → Int → List (List (S68)) → Option (Bool)
 | 0, _, _, _ => none
 | k + 1, x3, x4, x137000 => if 0 ≤ x3 then (if x3 < (x137000.length : Int) then (if x4 < ((rd_L4 x137000 x3).length : Int) then (if 0 ≤ x4 then ((spec_l2Step.f k x137000 ((rd_T68 (rd_L4 x137000 x3) x4).f0) ((rd_T68 (rd_L4 x137000 x3) x4).f1) ((rd_T68 (rd_L4 x137000 x3) x4).f2)).bind fun t142 => (if t142 = true then (spec_l2Program.l1 k x3 (wrap64 (x4 + 1)) x137000) else (some false))) else (none)) else (spec_l2Program.l0 k (wrap64 (x3 + 1)) x137000)) else (none)) else (none)
end
def spec_l2Program.f (k : Nat) (l0_0 : List (List (S68))) : Option (Bool) := (spec_l1In.f (l0_0.length : Int) 1 6).bind fun t137 => (if t137 = true then (spec_l2Program.l0 k 0 l0_0) else (some false))
def spec_l9Next.f (k : Nat) (l0_0 : List (List (S68))) (a1 : Int) (a2 : Int) : Option (Bool) := (spec_l2Program.f k l0_0).bind fun t144 => (if t144 = true then ((spec_l2Function.f l0_0 a1).bind fun t145 => (if t145 = true then (if 0 ≤ a1 then (if a1 < (l0_0.length : Int) then ((spec_l1In.f a2 0 (wrap64 (((rd_L4 l0_0 a1).length : Int) - 2))).bind fun t147 => (some t147)) else (none)) else (none)) else (some false))) else (some false))
def spec_l2Own.l0 : Nat → Int → List (List (S68)) → List (List (S68)) → Option ((List (List (S68))))
 | 0, _, _, _ => none
 | k + 1, x4, x149000, x154000 => if x4 < (x149000.length : Int) then ((some (([] : List (S68)) : List (S68))).bind fun y154 => (if 0 ≤ x4 then (if y154.length + (rd_L4 x149000 x4).length < 5864062014805 then (if x154000.length < 5864062014805 then (spec_l2Own.l0 k (wrap64 (x4 + 1)) x149000 (x154000 ++ [(y154 ++ (rd_L4 x149000 x4))])) else (none)) else (none)) else (none))) else (some x154000)
def spec_l2Own.f (k : Nat) (l0_0 : List (List (S68))) : Option ((List (List (S68)))) := spec_l2Own.l0 k 0 l0_0 (([] : List (List (S68))))
def laws_toStep.f (a0_0 : Int) (a0_1 : Int) (a0_2 : Int) : Option (Int × Int × Int) := some (a0_0, a0_1, a0_2)
def laws_toStepS.l0 : Nat → List (S151) → List (S68) → Int → Option ((List (S68)))
 | 0, _, _, _ => none
 | k + 1, x0, x3, x4 => if x4 < (x0.length : Int) then (if 0 ≤ x4 then ((laws_toStep.f ((rd_T151 x0 x4).f0) ((rd_T151 x0 x4).f1) ((rd_T151 x0 x4).f2)).bind fun bt190 => (if x4 < (x3.length : Int) then (laws_toStepS.l0 k x0 (x3.set (x4 : Int).toNat (⟨bt190.1, bt190.2.1, bt190.2.2⟩ : S68)) (wrap64 (x4 + 1))) else (none))) else (none)) else (some x3)
def laws_toStepS.f (k : Nat) (l0 : List (S151)) : Option ((List (S68))) := if 0 ≤ (l0.length : Int) then (if ((l0.length : Int) : Int).toNat ≤ 11728124029610 then (laws_toStepS.l0 k l0 (List.replicate ((l0.length : Int) : Int).toNat z68) 0) else (none)) else (none)
def impl_Step_102.f (l0 : List (S68)) : Option ((List (S68))) := (some (([] : List (S68)) : List (S68))).bind fun y218 => (if y218.length + l0.length < 5864062014805 then (some (y218 ++ l0)) else (none))
def bodyB (fs : Int) (b : List S68) : Bool := decide (b.length ≤ 8) && b.all fun s => stepB fs s.f0 s.f1 s.f2
def programB (p : List (List S68)) : Bool := (decide (1 ≤ p.length) && decide (p.length ≤ 6)) && p.all (bodyB (p.length : Int))
def impl_IsProgram.f (l0_0 : List (List S68)) : Option Bool := some (programB l0_0)
end Go.Proofs.Ytbgfiiehjaghiaa.G
