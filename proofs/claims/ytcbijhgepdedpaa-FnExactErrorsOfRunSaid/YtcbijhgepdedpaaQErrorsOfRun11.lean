/- What the claim FnExactErrorsOfRun rests on, part 11 of 22; the last part proves it: for every input the law answers true, and its arguments read behind the call as before it. No condition. -/
import Derived.Test.YtcbijhgepdedpaaProg
import Derived.Test.YtcbijhgepdedpaaQErrorsOfRun8
import Derived.Test.YtcbijhgepdedpaaQErrorsOfRun9
set_option linter.unusedSimpArgs false
set_option linter.unusedVariables false
set_option maxRecDepth 20000
set_option maxHeartbeats 1000000
namespace Go.Proofs.Ytcbijhgepdedpaa.G
open Go.RowKit Go.Proofs.Ytcbijhgepdedpaa.SX Go.Proofs.YtcbijhgepdedpaaW.PrintWords Go.Proofs.YtcbijhgepdedpaaW.PrintLast Go.Proofs.YtcbijhgepdedpaaW.PrintMore
theorem w64 {x : Int} (h0 : -9223372036854775808 ≤ x) (h1 : x ≤ 9223372036854775807) : wrap64 x = x := by unfold wrap64; omega
def toS (x : S134) : S98 := ⟨x.f0, x.f1, x.f2⟩
theorem toStepS_l0 (l : List S134) (hl : l.length ≤ 1048576) : ∀ d i, i + d = l.length → ∀ k, d < k → laws_toStepS.l0 k l ((l.take i).map toS ++ List.replicate d z98) (i : Int) = some (l.map toS) := by
 intro d
 induction d with
 | zero =>
  intro i hi k hk
  obtain ⟨k, rfl⟩ : ∃ m, k = m + 1 := ⟨k - 1, by omega⟩
  have : i = l.length := by omega
  subst this
  simp only [laws_toStepS.l0]
  rw [if_neg (by omega)]
  simp
 | succ d ih =>
  intro i hi k hk
  obtain ⟨k, rfl⟩ : ∃ m, k = m + 1 := ⟨k - 1, by omega⟩
  have hlt : i < l.length := by omega
  have hrd : rd_T134 l (i : Int) = l[i] := by simp [rd_T134, List.getD, hlt]
  simp only [laws_toStepS.l0, laws_toStep.f, Option.bind_some]
  rw [if_pos (by omega), if_pos (by omega), if_pos (by simp; omega), hrd, w64 (by omega) (by omega), show ((i : Int) + 1) = ((i + 1 : Nat) : Int) from rfl]
  have e : ((l.take i).map toS ++ List.replicate (d + 1) z98).set (i : Int).toNat ⟨l[i].f0, l[i].f1, l[i].f2⟩ = (l.take (i + 1)).map toS ++ List.replicate d z98 := by
   have h1 : (i : Int).toNat = i := by omega
   have h2 : ((l.take i).map toS).length = i := by rw [List.length_map, List.length_take]; omega
   rw [h1, List.set_append_right _ _ (by omega), h2, Nat.sub_self, List.replicate_succ, List.set_cons_zero, List.take_succ_eq_append_getElem hlt, List.map_append, List.append_assoc]
   rfl
  rw [e]
  exact ih (i + 1) (by omega) k (by omega)
theorem toStepS_f (l : List S134) (hl : l.length ≤ 1048576) (k : Nat) (hk : l.length < k) : laws_toStepS.f k l = some (l.map toS) := by
 have := toStepS_l0 l hl l.length 0 (by omega) k hk
 unfold laws_toStepS.f
 rw [if_pos (by omega), if_pos (by omega)]
 simpa using this
theorem apart_if (p : Prop) [Decidable p] (b : Bool) : (if p then some b else some false) = some (decide p && b) := by by_cases h : p <;> simp [h]
theorem is_in {w0 w : World} {Rs : List Asn} (hS : Sat w0 w Rs) (x lo hi : Int) : Calls Try.prog 67 #[.int .i64 x, .int .i64 lo, .int .i64 hi] w (Ret fun r w' => r = .bool (decide (lo ≤ x) && decide (x ≤ hi)) ∧ Sat w0 w' Rs) := by
 refine (impl_in.calls x lo hi (decide (lo ≤ x) && decide (x ≤ hi)) w (by unfold impl_in.f; by_cases h : lo ≤ x <;> simp [h])).mono ?_
 rintro e w' ⟨rfl, hd⟩
 obtain ⟨q, rfl⟩ := hd.out
 exact ⟨rfl, hS.grows ⟨rfl, rfl, rfl, Nat.le_refl _, fun _ _ => rfl⟩⟩
theorem is_reg {w0 w : World} {Rs : List Asn} (hS : Sat w0 w Rs) (x : Int) : Calls Try.prog 105 #[.int .i64 x] w (Ret fun r w' => r = .bool (regB x) ∧ Sat w0 w' Rs) := by
 refine (impl_isRegister.calls x (regB x) w (by unfold impl_isRegister.f impl_in.f; simp [regB, apart_if])).mono ?_
 rintro e w' ⟨rfl, hd⟩
 obtain ⟨q, rfl⟩ := hd.out
 exact ⟨rfl, hS.grows ⟨rfl, rfl, rfl, Nat.le_refl _, fun _ _ => rfl⟩⟩
theorem is_num {w0 w : World} {Rs : List Asn} (hS : Sat w0 w Rs) (x : Int) : Calls Try.prog 76 #[.int .i64 x] w (Ret fun r w' => r = .bool (numB x) ∧ Sat w0 w' Rs) := by
 refine (impl_isNumber.calls x (numB x) w (by unfold impl_isNumber.f impl_in.f; simp [numB, apart_if])).mono ?_
 rintro e w' ⟨rfl, hd⟩
 obtain ⟨q, rfl⟩ := hd.out
 exact ⟨rfl, hS.grows ⟨rfl, rfl, rfl, Nat.le_refl _, fun _ _ => rfl⟩⟩
theorem code93 : Try.f93.body = some (Code.seq (cr Try.f93 0 false) (Code.seq (cr Try.f93 1 true) (Code.seq (Code.seq (cr Try.f93 2 false) (Code.block 0 (Code.seq (cr Try.f93 3 false) (Code.cond (Operand.tmp 15) (cr Try.f93 4 false) (Code.seq (cr Try.f93 5 false) (Code.cond (Operand.tmp 20) (cr Try.f93 6 false) (Code.seq (Code.seq (cr Try.f93 7 false) (Code.cond (Operand.tmp 25) Code.skip (cr Try.f93 8 false))) (Code.cond (Operand.tmp 25) (cr Try.f93 9 true) (Code.seq (cr Try.f93 10 false) (Code.cond (Operand.tmp 36) (cr Try.f93 11 true) (Code.seq (cr Try.f93 12 false) (Code.cond (Operand.tmp 44) (cr Try.f93 13 false) Code.skip)))))))))))) (Code.seq (cr Try.f93 14 false) Code.ret)))) := by kernel_rfl
theorem isStep_sat {w0 w : World} {Rs : List Asn} {k xa xb fs : Int} (hS : Sat w0 w Rs) (h1 : 1 ≤ fs) (h2 : fs ≤ 2000000) :
  Calls Try.prog 93 #[.agg #[.int .i64 k, .int .i64 xa, .int .i64 xb], .int .i64 fs] w (Ret fun r w' => r = .bool (stepB fs k xa xb) ∧ Sat w0 w' Rs) := by
 refine enter (n := 58) Try.func93 code93 (by kernel_rfl) (Nat.le_of_ble_eq_true rfl) (fun a ha => ?_)
 replace ha : Has 58 [(0, .agg #[iv k, iv xa, iv xb]), (1, iv fs)] a := ha
 refine wp_seq (jX [0, 1] (jZ (qJ 2 [iv k, iv xa, iv xb] 98 (ptr · 0) ha hS fun b1 w a hb2 hS ha => ?_)))
 refine jQ [(1, 4, .bool false)] ha fun a ha => ?_
 refine jY (jJ (wp_seq (xY 8 8 (hS.pickN 1 [0]) hS fun w hS => ?_)))
 refine jK (k := 7) [(0, 7, ptr b1 1)] ha (.inr (hS.pickN 1 [0])) fun a ha => ?_
 refine qW 1 (d := 8) (b := b1) (j := 1) ha (hS.pickN 1 [0]) (fun _ hw => hw.blk 0 rfl) rfl fun a ha => ?_
 refine jK (k := 5) [(3, 10, ptr b1 2)] ha (.inr (hS.pickN 1 [0])) fun a ha => ?_
 refine qW 4 (d := 11) (b := b1) (j := 2) ha (hS.pickN 1 [0]) (fun _ hw => hw.blk 0 rfl) rfl fun a ha => ?_
 refine jK (k := 3) [(5, 12, .bool (decide (xb = 0)))] ha (.inr (hS.pickN 1 [0])) fun a ha => ?_
 refine jH 2 (qG 9 (vs := [iv xa]) ha (is_reg hS _) fun v3 w a hp4 ha => ?_)
 obtain ⟨rfl, hS⟩ := hp4
 refine ⟨.inr (hS.pickN 1 [0]), ?_⟩
 refine jK (k := 0) [(6, 5, .bool (regB xa)), (7, 6, .bool (decide (xb = 0)))] ha (.inr (hS.pickN 1 [0])) fun a ha => ?_
 refine xX (jJ (wp_seq (wp_seq (jX [0, 1] (jQ [(0, 13, ptr b1 0)] ha fun a ha => ?_)))))
 refine jU (d := 14) (b := b1) (j := 0) ha (hS.blk 0 rfl) rfl fun a ha => ?_
 refine jY (jJ (kZ (J := fun a_ w_ => Has 58 [(1, iv fs), (2, ptr b1 0), (4, .bool false), (5, .bool (if k = 4 ∨ k = 5 then decide (0 ≤ xa) && decide (xa ≤ fs - 1) else if k = 11 then decide (0 ≤ xa) && decide (xa ≤ 8) else if k = 10 then decide (xa = 0) else regB xa)), (6, .bool (if k = 1 then numB xb else if k = 2 ∨ k = 4 ∨ k = 5 ∨ k = 11 then regB xb else decide (xb = 0))), (14, iv k)] a_ ∧ Sat w0 w_ ((SX.blk b1 [iv k, iv xa, iv xb] 98) :: Rs)) ?_ ?_))
 ·
  refine wp_block (wp_seq (jX [0, 1] (jQ [(0, 16, .bool (decide (k = 1))), (1, 15, .bool (decide (k = 1)))] ha fun a ha => ?_)))
  refine jY (jJ ?_)
  by_cases c5 : k = 1
  ·
   refine jG ha rfl (decide_eq_true c5) ?_;refine jX [0, 1, 2, 3] (jQ [(0, 17, ptr b1 2)] ha fun a ha => ?_);refine jU (d := 18) (b := b1) (j := 2) ha (hS.blk 0 rfl) rfl fun a ha => ?_;refine jZ (qG 19 (vs := [iv xb]) ha (is_num hS _) fun v6 w a hp7 ha => ?_);obtain ⟨rfl, hS⟩ := hp7;refine jQ [(3, 6, .bool (numB xb))] ha fun a ha => ?_;refine jY (in_n ?_);have e8 : (if k = 4 ∨ k = 5 then decide (0 ≤ xa) && decide (xa ≤ fs - 1) else if k = 11 then decide (0 ≤ xa) && decide (xa ≤ 8) else if k = 10 then decide (xa = 0) else regB xa) = (regB xa) := by simp [c5]
   have e9 : (if k = 1 then numB xb else if k = 2 ∨ k = 4 ∨ k = 5 ∨ k = 11 then regB xb else decide (xb = 0)) = (numB xb) := by simp [c5]
   refine jJ ⟨?_, ?_⟩
   · first | (rw [e8, e9]; exact ha.keeps [1, 2, 4, 5, 6, 14] _ rfl) | exact ha.keeps [1, 2, 4, 5, 6, 14] _ rfl
   · first | (rw [e8, e9]; exact hS) | exact hS
  refine jV ha rfl (decide_eq_false c5) ?_
  refine wp_seq (jX [0, 1] (jQ [(0, 21, .bool (decide (k = 2))), (1, 20, .bool (decide (k = 2)))] ha fun a ha => ?_))
  refine jY (jJ ?_)
  by_cases c10 : k = 2
  ·
   refine jG ha rfl (decide_eq_true c10) ?_;refine jX [0, 1, 2, 3] (jQ [(0, 22, ptr b1 2)] ha fun a ha => ?_);refine jU (d := 23) (b := b1) (j := 2) ha (hS.blk 0 rfl) rfl fun a ha => ?_;refine jZ (qG 24 (vs := [iv xb]) ha (is_reg hS _) fun v11 w a hp12 ha => ?_);obtain ⟨rfl, hS⟩ := hp12;refine jQ [(3, 6, .bool (regB xb))] ha fun a ha => ?_;refine jY (in_n ?_);have e13 : (if k = 4 ∨ k = 5 then decide (0 ≤ xa) && decide (xa ≤ fs - 1) else if k = 11 then decide (0 ≤ xa) && decide (xa ≤ 8) else if k = 10 then decide (xa = 0) else regB xa) = (regB xa) := by simp [c5, c10]
   have e14 : (if k = 1 then numB xb else if k = 2 ∨ k = 4 ∨ k = 5 ∨ k = 11 then regB xb else decide (xb = 0)) = (regB xb) := by simp [c5, c10]
   refine jJ ⟨?_, ?_⟩
   · first | (rw [e13, e14]; exact ha.keeps [1, 2, 4, 5, 6, 14] _ rfl) | exact ha.keeps [1, 2, 4, 5, 6, 14] _ rfl
   · first | (rw [e13, e14]; exact hS) | exact hS
  refine jV ha rfl (decide_eq_false c10) ?_
  refine wp_seq (wp_seq (jX [0, 1] (jQ [(0, 26, .bool (decide (k = 4))), (1, 25, .bool (decide (k = 4)))] ha fun a ha => ?_)))
  refine jY (jJ ?_)
  by_cases c15 : k = 4
  ·
   refine jG ha rfl (decide_eq_true c15) ?_;refine wp_skip (jJ ?_);refine jG ha rfl (decide_eq_true c15) ?_;refine xY 10 10 (hS.pickN 1 [0]) hS fun w hS => ?_;refine jK (k := 9) [(0, 28, ptr b1 1)] ha (.inr (hS.pickN 1 [0])) fun a ha => ?_;refine qW 1 (d := 29) (b := b1) (j := 1) ha (hS.pickN 1 [0]) (fun _ hw => hw.blk 0 rfl) rfl fun a ha => ?_;refine jK (k := 7) [(2, 30, iv fs)] ha (.inr (hS.pickN 1 [0])) fun a ha => ?_;refine kW 3 31 (fs - 1) ha (.inr (hS.pickN 1 [0])) fun a ha => ?_;refine jK (k := 5) [(5, 33, ptr b1 2)] ha (.inr (hS.pickN 1 [0])) fun a ha => ?_;refine qW 6 (d := 34) (b := b1) (j := 2) ha (hS.pickN 1 [0]) (fun _ hw => hw.blk 0 rfl) rfl fun a ha => ?_;refine jH 4 (qG 32 (vs := [iv xa, iv 0, iv (fs - 1)]) ha (is_in hS _ _ _) fun v16 w a hp17 ha => ?_);obtain ⟨rfl, hS⟩ := hp17;refine ⟨.inr (hS.pickN 1 [0]), ?_⟩;refine jH 7 (qG 35 (vs := [iv xb]) ha (is_reg hS _) fun v18 w a hp19 ha => ?_);obtain ⟨rfl, hS⟩ := hp19;refine ⟨.inr (hS.pickN 1 [0]), ?_⟩;refine jK (k := 0) [(8, 5, .bool (decide ((0 : Int) ≤ xa) && decide (xa ≤ (fs - 1)))), (9, 6, .bool (regB xb))] ha (.inr (hS.pickN 1 [0])) fun a ha => ?_;refine xX ?_;replace ha := ha.as [(1, iv fs), (2, ptr b1 0), (4, .bool false), (14, iv k), (5, .bool (decide ((0 : Int) ≤ xa) && decide (xa ≤ (fs - 1)))), (6, .bool (regB xb))] rfl;refine in_n ?_;have e20 : (if k = 4 ∨ k = 5 then decide (0 ≤ xa) && decide (xa ≤ fs - 1) else if k = 11 then decide (0 ≤ xa) && decide (xa ≤ 8) else if k = 10 then decide (xa = 0) else regB xa) = (decide ((0 : Int) ≤ xa) && decide (xa ≤ (fs - 1))) := by simp [c5, c10, c15]
   have e21 : (if k = 1 then numB xb else if k = 2 ∨ k = 4 ∨ k = 5 ∨ k = 11 then regB xb else decide (xb = 0)) = (regB xb) := by simp [c5, c10, c15]
   refine jJ ⟨?_, ?_⟩
   · first | (rw [e20, e21]; exact ha.keeps [1, 2, 4, 5, 6, 14] _ rfl) | exact ha.keeps [1, 2, 4, 5, 6, 14] _ rfl
   · first | (rw [e20, e21]; exact hS) | exact hS
  refine jV ha rfl (decide_eq_false c15) ?_
  refine jX [0, 1] (jQ [(0, 27, .bool (decide (k = 5))), (1, 25, .bool (decide (k = 5)))] ha fun a ha => ?_)
  refine jY (jJ ?_)
  by_cases c22 : k = 5
  ·
   refine jG ha rfl (decide_eq_true c22) ?_;refine xY 10 10 (hS.pickN 1 [0]) hS fun w hS => ?_;refine jK (k := 9) [(0, 28, ptr b1 1)] ha (.inr (hS.pickN 1 [0])) fun a ha => ?_;refine qW 1 (d := 29) (b := b1) (j := 1) ha (hS.pickN 1 [0]) (fun _ hw => hw.blk 0 rfl) rfl fun a ha => ?_;refine jK (k := 7) [(2, 30, iv fs)] ha (.inr (hS.pickN 1 [0])) fun a ha => ?_;refine kW 3 31 (fs - 1) ha (.inr (hS.pickN 1 [0])) fun a ha => ?_;refine jK (k := 5) [(5, 33, ptr b1 2)] ha (.inr (hS.pickN 1 [0])) fun a ha => ?_;refine qW 6 (d := 34) (b := b1) (j := 2) ha (hS.pickN 1 [0]) (fun _ hw => hw.blk 0 rfl) rfl fun a ha => ?_;refine jH 4 (qG 32 (vs := [iv xa, iv 0, iv (fs - 1)]) ha (is_in hS _ _ _) fun v23 w a hp24 ha => ?_);obtain ⟨rfl, hS⟩ := hp24;refine ⟨.inr (hS.pickN 1 [0]), ?_⟩;refine jH 7 (qG 35 (vs := [iv xb]) ha (is_reg hS _) fun v25 w a hp26 ha => ?_);obtain ⟨rfl, hS⟩ := hp26;refine ⟨.inr (hS.pickN 1 [0]), ?_⟩;refine jK (k := 0) [(8, 5, .bool (decide ((0 : Int) ≤ xa) && decide (xa ≤ (fs - 1)))), (9, 6, .bool (regB xb))] ha (.inr (hS.pickN 1 [0])) fun a ha => ?_;refine xX ?_;replace ha := ha.as [(1, iv fs), (2, ptr b1 0), (4, .bool false), (14, iv k), (5, .bool (decide ((0 : Int) ≤ xa) && decide (xa ≤ (fs - 1)))), (6, .bool (regB xb))] rfl;refine in_n ?_;have e27 : (if k = 4 ∨ k = 5 then decide (0 ≤ xa) && decide (xa ≤ fs - 1) else if k = 11 then decide (0 ≤ xa) && decide (xa ≤ 8) else if k = 10 then decide (xa = 0) else regB xa) = (decide ((0 : Int) ≤ xa) && decide (xa ≤ (fs - 1))) := by simp [c5, c10, c15, c22]
   have e28 : (if k = 1 then numB xb else if k = 2 ∨ k = 4 ∨ k = 5 ∨ k = 11 then regB xb else decide (xb = 0)) = (regB xb) := by simp [c5, c10, c15, c22]
   refine jJ ⟨?_, ?_⟩
   · first | (rw [e27, e28]; exact ha.keeps [1, 2, 4, 5, 6, 14] _ rfl) | exact ha.keeps [1, 2, 4, 5, 6, 14] _ rfl
   · first | (rw [e27, e28]; exact hS) | exact hS
  refine jV ha rfl (decide_eq_false c22) ?_
  refine wp_seq (jX [0, 1] (jQ [(0, 37, .bool (decide (k = 11))), (1, 36, .bool (decide (k = 11)))] ha fun a ha => ?_))
  refine jY ?_
  replace ha := ha.as [(1, iv fs), (2, ptr b1 0), (4, .bool false), (5, .bool (regB xa)), (6, .bool (decide (xb = 0))), (14, iv k), (36, .bool (decide (k = 11)))] rfl
  refine jJ ?_
  by_cases c29 : k = 11
  ·
   refine jG ha rfl (decide_eq_true c29) ?_;refine xY 8 8 (hS.pickN 1 [0]) hS fun w hS => ?_;refine jK (k := 7) [(0, 38, ptr b1 1)] ha (.inr (hS.pickN 1 [0])) fun a ha => ?_;refine qW 1 (d := 39) (b := b1) (j := 1) ha (hS.pickN 1 [0]) (fun _ hw => hw.blk 0 rfl) rfl fun a ha => ?_;refine jK (k := 5) [(3, 41, ptr b1 2)] ha (.inr (hS.pickN 1 [0])) fun a ha => ?_;refine qW 4 (d := 42) (b := b1) (j := 2) ha (hS.pickN 1 [0]) (fun _ hw => hw.blk 0 rfl) rfl fun a ha => ?_;refine jH 2 (qG 40 (vs := [iv xa, iv 0, iv 8]) ha (is_in hS _ _ _) fun v30 w a hp31 ha => ?_);obtain ⟨rfl, hS⟩ := hp31;refine ⟨.inr (hS.pickN 1 [0]), ?_⟩;refine jH 5 (qG 43 (vs := [iv xb]) ha (is_reg hS _) fun v32 w a hp33 ha => ?_);obtain ⟨rfl, hS⟩ := hp33;refine ⟨.inr (hS.pickN 1 [0]), ?_⟩;refine jK (k := 0) [(6, 5, .bool (decide ((0 : Int) ≤ xa) && decide (xa ≤ 8))), (7, 6, .bool (regB xb))] ha (.inr (hS.pickN 1 [0])) fun a ha => ?_;refine xX (in_n ?_);have e34 : (if k = 4 ∨ k = 5 then decide (0 ≤ xa) && decide (xa ≤ fs - 1) else if k = 11 then decide (0 ≤ xa) && decide (xa ≤ 8) else if k = 10 then decide (xa = 0) else regB xa) = (decide ((0 : Int) ≤ xa) && decide (xa ≤ 8)) := by simp [c5, c10, c15, c22, c29]
   have e35 : (if k = 1 then numB xb else if k = 2 ∨ k = 4 ∨ k = 5 ∨ k = 11 then regB xb else decide (xb = 0)) = (regB xb) := by simp [c5, c10, c15, c22, c29]
   refine jJ ⟨?_, ?_⟩
   · first | (rw [e34, e35]; exact ha.keeps [1, 2, 4, 5, 6, 14] _ rfl) | exact ha.keeps [1, 2, 4, 5, 6, 14] _ rfl
   · first | (rw [e34, e35]; exact hS) | exact hS
  refine jV ha rfl (decide_eq_false c29) ?_
  refine wp_seq (jX [0, 1] (jQ [(0, 45, .bool (decide (k = 10))), (1, 44, .bool (decide (k = 10)))] ha fun a ha => ?_))
  refine jY (jJ ?_)
  by_cases c36 : k = 10
  ·
   refine jG ha rfl (decide_eq_true c36) ?_;refine jX [0, 1, 2, 3] (jQ [(0, 46, ptr b1 1)] ha fun a ha => ?_);refine jU (d := 47) (b := b1) (j := 1) ha (hS.blk 0 rfl) rfl fun a ha => ?_;refine jQ [(2, 48, .bool (decide (xa = 0))), (3, 5, .bool (decide (xa = 0)))] ha fun a ha => ?_;refine jY (in_n ?_);have e37 : (if k = 4 ∨ k = 5 then decide (0 ≤ xa) && decide (xa ≤ fs - 1) else if k = 11 then decide (0 ≤ xa) && decide (xa ≤ 8) else if k = 10 then decide (xa = 0) else regB xa) = (decide (xa = 0)) := by simp [c5, c10, c15, c22, c29, c36]
   have e38 : (if k = 1 then numB xb else if k = 2 ∨ k = 4 ∨ k = 5 ∨ k = 11 then regB xb else decide (xb = 0)) = (decide (xb = 0)) := by simp [c5, c10, c15, c22, c29, c36]
   refine jJ ⟨?_, ?_⟩
   · first | (rw [e37, e38]; exact ha.keeps [1, 2, 4, 5, 6, 14] _ rfl) | exact ha.keeps [1, 2, 4, 5, 6, 14] _ rfl
   · first | (rw [e37, e38]; exact hS) | exact hS
  refine jV ha rfl (decide_eq_false c36) ?_
  refine wp_skip (in_n ?_)
  have e39 : (if k = 4 ∨ k = 5 then decide (0 ≤ xa) && decide (xa ≤ fs - 1) else if k = 11 then decide (0 ≤ xa) && decide (xa ≤ 8) else if k = 10 then decide (xa = 0) else regB xa) = (regB xa) := by simp [c5, c10, c15, c22, c29, c36]
  have e40 : (if k = 1 then numB xb else if k = 2 ∨ k = 4 ∨ k = 5 ∨ k = 11 then regB xb else decide (xb = 0)) = (decide (xb = 0)) := by simp [c5, c10, c15, c22, c29, c36]
  refine jJ ⟨?_, ?_⟩
  · first | (rw [e39, e40]; exact ha.keeps [1, 2, 4, 5, 6, 14] _ rfl) | exact ha.keeps [1, 2, 4, 5, 6, 14] _ rfl
  · first | (rw [e39, e40]; exact hS) | exact hS
 rintro a w ⟨ha, hS⟩
 refine wp_seq (jX [0, 1, 2, 3, 4, 5, 6, 7, 8, 9] (jQ [(0, 49, ptr b1 0)] ha fun a ha => ?_))
 refine jU (d := 50) (b := b1) (j := 0) ha (hS.blk 0 rfl) rfl fun a ha => ?_
 refine jZ (qG 51 (vs := [iv k, iv 1, iv 13]) ha (is_in hS _ _ _) fun v41 w a hp42 ha => ?_)
 obtain ⟨rfl, hS⟩ := hp42
 refine jQ [(3, 52, .bool (decide ((1 : Int) ≤ k) && decide (k ≤ 13)))] ha fun a ha => ?_
 rcases Bool.eq_false_or_eq_true (decide ((1 : Int) ≤ k) && decide (k ≤ 13)) with c43 | c43
 ·
  replace ha := ha.turn 51 (.bool true) rfl (congrArg Value.bool c43)
  replace ha := ha.turn 52 (.bool true) rfl (congrArg Value.bool c43)
  refine jQ [(4, 53, .bool (if k = 4 ∨ k = 5 then decide (0 ≤ xa) && decide (xa ≤ fs - 1) else if k = 11 then decide (0 ≤ xa) && decide (xa ≤ 8) else if k = 10 then decide (xa = 0) else regB xa)), (5, 54, .bool (if k = 4 ∨ k = 5 then decide (0 ≤ xa) && decide (xa ≤ fs - 1) else if k = 11 then decide (0 ≤ xa) && decide (xa ≤ 8) else if k = 10 then decide (xa = 0) else regB xa)), (6, 55, .bool (if k = 4 ∨ k = 5 then decide (0 ≤ xa) && decide (xa ≤ fs - 1) else if k = 11 then decide (0 ≤ xa) && decide (xa ≤ 8) else if k = 10 then decide (xa = 0) else regB xa))] ha fun a ha => ?_
  rcases Bool.eq_false_or_eq_true (if k = 4 ∨ k = 5 then decide (0 ≤ xa) && decide (xa ≤ fs - 1) else if k = 11 then decide (0 ≤ xa) && decide (xa ≤ 8) else if k = 10 then decide (xa = 0) else regB xa) with c44 | c44
  ·
   replace ha := ha.turn 5 (.bool true) rfl (congrArg Value.bool c44);replace ha := ha.turn 53 (.bool true) rfl (congrArg Value.bool c44);replace ha := ha.turn 54 (.bool true) rfl (congrArg Value.bool c44);replace ha := ha.turn 55 (.bool true) rfl (congrArg Value.bool c44);refine jQ [(7, 56, .bool (if k = 1 then numB xb else if k = 2 ∨ k = 4 ∨ k = 5 ∨ k = 11 then regB xb else decide (xb = 0))), (8, 57, .bool (if k = 1 then numB xb else if k = 2 ∨ k = 4 ∨ k = 5 ∨ k = 11 then regB xb else decide (xb = 0))), (9, 4, .bool (if k = 1 then numB xb else if k = 2 ∨ k = 4 ∨ k = 5 ∨ k = 11 then regB xb else decide (xb = 0)))] ha fun a ha => ?_;refine jY (jJ (wp_ret (qK ha (by kernel_rfl) (yJ (t := 4) ha rfl) ?_)));have hE : stepB fs k xa xb = (if k = 1 then numB xb else if k = 2 ∨ k = 4 ∨ k = 5 ∨ k = 11 then regB xb else decide (xb = 0)) := by unfold stepB; simp only [c43, c44, Bool.true_and, Bool.and_true, Bool.false_and, Bool.and_false, Bool.and_self]
   rw [hE];exact ⟨rfl, Sat.rest [_] hS⟩
  replace ha := ha.turn 5 (.bool false) rfl (congrArg Value.bool c44)
  replace ha := ha.turn 53 (.bool false) rfl (congrArg Value.bool c44)
  replace ha := ha.turn 54 (.bool false) rfl (congrArg Value.bool c44)
  replace ha := ha.turn 55 (.bool false) rfl (congrArg Value.bool c44)
  refine jQ [(7, 56, undef), (8, 57, .bool false), (9, 4, .bool false)] ha fun a ha => ?_
  refine jY (jJ (wp_ret (qK ha (by kernel_rfl) (yJ (t := 4) ha rfl) ?_)))
  have hE : stepB fs k xa xb = false := by unfold stepB; simp only [c43, c44, Bool.true_and, Bool.and_true, Bool.false_and, Bool.and_false, Bool.and_self]
  rw [hE]
  exact ⟨rfl, Sat.rest [_] hS⟩
 replace ha := ha.turn 51 (.bool false) rfl (congrArg Value.bool c43)
 replace ha := ha.turn 52 (.bool false) rfl (congrArg Value.bool c43)
 refine jQ [(4, 53, undef), (5, 54, .bool false), (6, 55, .bool false), (7, 56, undef), (8, 57, .bool false), (9, 4, .bool false)] ha fun a ha => ?_
 refine jY (jJ (wp_ret (qK ha (by kernel_rfl) (yJ (t := 4) ha rfl) ?_)))
 have hE : stepB fs k xa xb = false := by unfold stepB; simp only [c43, Bool.true_and, Bool.and_true, Bool.false_and, Bool.and_false, Bool.and_self]
 rw [hE]
 exact ⟨rfl, Sat.rest [_] hS⟩
theorem set_next {α : Type} {us : List (Value × α)} {n i : Nat} {z v : Value} {y : α} (hu : us.length = i) (hi : i < n) : (us.map Prod.fst ++ List.replicate (n - i) z).set i v = ((us ++ [(v, y)]).map Prod.fst ++ List.replicate (n - (i + 1)) z) := by
 have h1 : (us.map Prod.fst).length = i := by simp [hu]
 rw [List.set_append_right _ _ (by omega), h1, Nat.sub_self, show n - i = (n - (i + 1)) + 1 by omega, List.replicate_succ, List.set_cons_zero]
 simp
theorem toStepS_sat {w0 w : World} {Rs : List Asn} {A : Option Addr} {c : Nat} {b : List S134} (hS : Sat w0 w Rs) (hr : Kd.C k134 w A b.length b) (hl : b.length ≤ c) (hb : b.length ≤ 1048576) :
  Calls Try.prog 52 #[.slice A b.length c] w (Ret fun r w' => ∃ s' : Sl, r = s'.v ∧ Sat w0 w' (kdP w0.heap.size k98 98 s'.v (b.map toS) :: Rs)) := by
 refine (laws_toStepS.calls (b.length + 1) A c b _ w hr hl (toStepS_f b hb _ (by omega))).mono ?_
 rintro e w' ⟨v, rfl, hR, hbl⟩
 obtain ⟨A', c', rfl⟩ := Kd.R_slice hR
 exact ⟨⟨A', _, c'⟩, rfl, hS.kdMade hbl hR⟩
theorem code32 : Try.f32.body = some (Code.seq (Code.region 0 (qQ Try.f32 0) false) (Code.seq (Code.region 1 (qQ Try.f32 1) false) (Code.seq (Code.seq (Code.region 2 (qQ Try.f32 2) false) (Code.block 0 (Code.loop (Code.seq (Code.seq (Code.region 3 (qQ Try.f32 3) false) (Code.cond (Operand.tmp 11) Code.skip (Code.exit 0))) (Code.seq (Code.block 1 (Code.region 5 (qQ Try.f32 5) false)) (Code.region 4 (qQ Try.f32 4) false)))))) (Code.seq (Code.region 6 (qQ Try.f32 6) false) Code.ret)))) := by kernel_rfl
theorem toss_sat (w0 : World) (s0 : Sl) (l0 : List (List S134)) (hlen0 : s0.n = l0.length) (hle0 : l0.length ≤ s0.c) (hr0 : Kd.C (Kd.slice 134 k134) w0 s0.A l0.length l0) (hlen : l0.length ≤ 1048576) (hall : ∀ b ∈ l0, b.length ≤ 1048576) :
  Calls Try.prog 32 #[.slice s0.A s0.n s0.c] w0 (Ret fun r w' => ∃ (s : Sl) (us : List (Value × List S98)), r = s.v ∧ us.map (·.2) = l0.map (·.map toS) ∧ (∀ x ∈ us, ∃ z : Sl, x.1 = z.v) ∧ Sat w0 w' [SX.row s.v 95 1 (us.map Prod.fst), jW (us.map fun (x : Value × List S98) => kdP w0.heap.size k98 98 x.1 x.2)]) := by
 have hS : Sat w0 w0 [] := Sat.start w0
 refine enter (n := 23) Try.func32 code32 (by kernel_rfl) (Nat.le_of_ble_eq_true rfl) (fun a ha => ?_)
 replace ha : Has 23 [(0, .slice s0.A s0.n s0.c)] a := ha
 refine wp_seq ?_
 refine p_begin ?_
 refine p_val (v := .slice none 0 0) ha (by decide) (qZ ha (At.here (by kernel_rfl : ((qQ Try.f32 0)[0]?).map spec = some ((Op.assign (Operand.const (Value.slice none 0 0))), some 2, 38, none))) (by kernel_rfl) (fun _ => by kernel_rfl)) (fun a1 ha2 => ?_)
 refine jY ?_
 have ha3 := ha2.keeps [0, 2] [(0, .slice s0.A s0.n s0.c), (2, .slice none 0 0)] rfl
 clear ha2 ha a
 refine jJ (wp_seq ?_)
 refine p_begin ?_
 refine p_val (v := .slice s0.A s0.n s0.c) ha3 (by decide) (qZ ha3 (At.here (by kernel_rfl : ((qQ Try.f32 1)[0]?).map spec = some ((Op.move (Operand.tmp 0)), some 5, 29, none))) (by kernel_rfl) (fun _ => by kernel_rfl)) (fun a4 ha5 => ?_)
 refine p_val (v := .int .i64 (s0.n : Int)) ha5 (by decide) (qZ ha5 (At.here (by kernel_rfl : ((qQ Try.f32 1)[1]?).map spec = some ((Op.call { callee := (Callee.builtin Builtin.len), args := #[(Operand.tmp 5)], argTypes := #[29] }), some 6, 3, none))) (by kernel_rfl) (fun _ => by kernel_rfl)) (fun a6 ha7 => ?_)
 refine jZ (o_make (el := 95) (m := s0.n) (bytes := 24) (z := .slice none 0 0) ha7 (by decide) (At.here (by kernel_rfl : ((qQ Try.f32 1)[2]?).map spec = some ((Op.makeSlice 38 (Operand.tmp 6) (Operand.tmp 6)), some 7, 38, none))) rfl rfl (by kernel_rfl) (by kernel_rfl) rfl (by decide) (by omega) hS (fun g w10 a8 hg (hS11 : Sat w0 w10 ((SX.blk g (List.replicate s0.n (Value.slice none 0 0)) 95) :: [])) ha9 => ?_))
 refine p_val (v := .slice (some ⟨g, 0, none⟩) s0.n s0.n) ha9 (by decide) (qZ ha9 (At.here (by kernel_rfl : ((qQ Try.f32 1)[3]?).map spec = some ((Op.assign (Operand.tmp 7)), some 3, 38, none))) (by kernel_rfl) (fun _ => by kernel_rfl)) (fun a12 ha13 => ?_)
 refine jY ?_
 have ha14 := ha13.keeps [0, 2, 3] [(0, .slice s0.A s0.n s0.c), (2, .slice none 0 0), (3, .slice (some ⟨g, 0, none⟩) s0.n s0.n)] rfl
 clear ha13 ha9 a8 hS ha7 a6 ha5 a4 ha3 a1
 refine jJ (wp_seq (wp_seq ?_))
 refine p_begin ?_
 refine p_val (v := .int .i64 0) ha14 (by decide) (qZ ha14 (At.here (by kernel_rfl : ((qQ Try.f32 2)[0]?).map spec = some ((Op.assign (Operand.const (Value.int IntKind.i64 0))), some 4, 3, none))) (by kernel_rfl) (fun _ => by kernel_rfl)) (fun a15 ha16 => ?_)
 refine jY ?_
 have ha17 := ha16.keeps [0, 2, 3, 4] [(0, .slice s0.A s0.n s0.c), (2, .slice none 0 0), (3, .slice (some ⟨g, 0, none⟩) s0.n s0.n), (4, .int .i64 0)] rfl
 clear ha16 ha14 a12
 refine jJ (wp_block ?_)
 have hS18 : Sat w0 w10 ((jW []) :: (SX.blk g (List.replicate s0.n (Value.slice none 0 0)) 95) :: []) := Sat.merge (l := []) hS11
 have hS19 : Sat w0 w10 ((SX.blk g (List.replicate s0.n (Value.slice none 0 0)) 95) :: (jW []) :: []) := hS18.pickR (l := [jW [], SX.blk g (List.replicate s0.n (Value.slice none 0 0)) 95]) [1, 0] (by decide) [SX.blk g (List.replicate s0.n (Value.slice none 0 0)) 95, jW []] rfl
 have hS20 : Sat w0 w10 ((SX.blk g (([] : List (Value × List S98)).map Prod.fst ++ List.replicate (l0.length - 0) (Value.slice none 0 0)) 95) :: (jW (([] : List (Value × List S98)).map fun x => kdP w0.heap.size k98 98 x.1 x.2)) :: []) := by have hh := hS19; rw [hlen0] at hh; exact hh
 refine wp_loop_ghost (fun n_ a_ w_ => ∃ (i : Nat) (us : List (Value × List S98)), n_ = l0.length - i ∧ (i ≤ l0.length) ∧ (us.map (·.2) = (l0.take i).map (·.map toS)) ∧ (∀ x ∈ us, ∃ s : Sl, x.1 = s.v) ∧ Has 23 [(0, .slice s0.A s0.n s0.c), (3, .slice (some ⟨g, 0, none⟩) s0.n s0.n), (4, .int .i64 (i : Int))] a_ ∧ Sat w0 w_ ((SX.blk g (us.map Prod.fst ++ List.replicate (l0.length - i) (Value.slice none 0 0)) 95) :: (jW (us.map fun (x : Value × List S98) => kdP w0.heap.size k98 98 x.1 x.2)) :: [])) _ ⟨0, [], rfl, Nat.zero_le _, rfl, (fun x hx => by cases hx), ha17.keeps [0, 3, 4] _ rfl, hS20⟩ ?_
 rintro n_ a21 w22 ⟨i, us, rfl, hi, hus, hso, ha23, hS24⟩
 refine wp_seq (wp_seq ?_)
 refine p_begin ?_
 refine p_val (v := .int .i64 (i : Int)) ha23 (by decide) (qZ ha23 (At.here (by kernel_rfl : ((qQ Try.f32 3)[0]?).map spec = some ((Op.move (Operand.tmp 4)), some 8, 3, none))) (by kernel_rfl) (fun _ => by kernel_rfl)) (fun a25 ha26 => ?_)
 refine p_val (v := .slice s0.A s0.n s0.c) ha26 (by decide) (qZ ha26 (At.here (by kernel_rfl : ((qQ Try.f32 3)[1]?).map spec = some ((Op.move (Operand.tmp 0)), some 9, 29, none))) (by kernel_rfl) (fun _ => by kernel_rfl)) (fun a27 ha28 => ?_)
 refine p_val (v := .int .i64 (s0.n : Int)) ha28 (by decide) (qZ ha28 (At.here (by kernel_rfl : ((qQ Try.f32 3)[2]?).map spec = some ((Op.call { callee := (Callee.builtin Builtin.len), args := #[(Operand.tmp 9)], argTypes := #[29] }), some 10, 3, none))) (by kernel_rfl) (fun _ => by kernel_rfl)) (fun a29 ha30 => ?_)
 refine p_val (v := .bool (decide ((i : Int) < (s0.n : Int)))) ha30 (by decide) (qZ ha30 (At.here (by kernel_rfl : ((qQ Try.f32 3)[3]?).map spec = some ((Op.binOp BinOp.lss 3 (Operand.tmp 8) (Operand.tmp 10) 3), some 11, 4, none))) (by kernel_rfl) (fun _ => by kernel_rfl)) (fun a31 ha32 => ?_)
 refine jY ?_
 have ha33 := ha32.keeps [0, 3, 4, 8, 9, 10, 11] [(0, .slice s0.A s0.n s0.c), (3, .slice (some ⟨g, 0, none⟩) s0.n s0.n), (4, .int .i64 (i : Int)), (8, .int .i64 (i : Int)), (9, .slice s0.A s0.n s0.c), (10, .int .i64 (s0.n : Int)), (11, .bool (decide ((i : Int) < (s0.n : Int))))] rfl
 clear ha32 ha30 a29 ha28 a27 ha26 a25 ha23 a21
 refine jJ ?_
 by_cases c34 : (i : Int) < (s0.n : Int)
 ·
  have ha35 : Has 23 [(0, .slice s0.A s0.n s0.c), (3, .slice (some ⟨g, 0, none⟩) s0.n s0.n), (4, .int .i64 (i : Int)), (8, .int .i64 (i : Int)), (9, .slice s0.A s0.n s0.c), (10, .int .i64 (s0.n : Int)), (11, .bool true)] a31 := by have hh : Has 23 [(0, .slice s0.A s0.n s0.c), (3, .slice (some ⟨g, 0, none⟩) s0.n s0.n), (4, .int .i64 (i : Int)), (8, .int .i64 (i : Int)), (9, .slice s0.A s0.n s0.c), (10, .int .i64 (s0.n : Int)), (11, .bool (decide ((i : Int) < (s0.n : Int))))] a31 := ha33.keeps [0, 3, 4, 8, 9, 10, 11] _ rfl; simp only [decide_eq_true c34, Bool.not_true, Bool.not_false] at hh; exact hh
  have hlt : i < l0.length := by have := c34; omega
  obtain ⟨b, hb⟩ : ∃ b, l0[i]? = some b := ⟨_, List.getElem?_eq_getElem hlt⟩
  have htake : l0.take (i + 1) = l0.take i ++ [b] := by rw [List.take_add_one, hb]; rfl
  obtain ⟨_, A1, c1, hc1, hl1, hC1⟩ := rows_cells hr0 i b hb
  have hb1 : b.length ≤ 1048576 := hall b (List.mem_of_getElem? hb)
  refine jG ha35 rfl rfl ?_
  refine wp_skip (jJ (wp_seq (wp_block ?_)))
  refine p_begin ?_
  refine p_val (v := .slice (some ⟨g, 0, none⟩) s0.n s0.n) ha35 (by decide) (qZ ha35 (At.here (by kernel_rfl : ((qQ Try.f32 5)[0]?).map spec = some ((Op.move (Operand.tmp 3)), some 14, 38, none))) (by kernel_rfl) (fun _ => by kernel_rfl)) (fun a36 ha37 => ?_)
  refine p_val (v := .int .i64 (i : Int)) ha37 (by decide) (qZ ha37 (At.here (by kernel_rfl : ((qQ Try.f32 5)[1]?).map spec = some ((Op.move (Operand.tmp 4)), some 15, 3, none))) (by kernel_rfl) (fun _ => by kernel_rfl)) (fun a38 ha39 => ?_)
  refine p_val (v := .slice s0.A s0.n s0.c) ha39 (by decide) (qZ ha39 (At.here (by kernel_rfl : ((qQ Try.f32 5)[2]?).map spec = some ((Op.move (Operand.tmp 0)), some 16, 29, none))) (by kernel_rfl) (fun _ => by kernel_rfl)) (fun a40 ha41 => ?_)
  refine p_val (v := .int .i64 (i : Int)) ha41 (by decide) (qZ ha41 (At.here (by kernel_rfl : ((qQ Try.f32 5)[3]?).map spec = some ((Op.move (Operand.tmp 4)), some 17, 3, none))) (by kernel_rfl) (fun _ => by kernel_rfl)) (fun a42 ha43 => ?_)
  refine p_val (v := .pointer (some ⟨bk s0, of_ s0 + i * 1, none⟩)) ha43 (by decide) (kK (s := s0) (el := 102) (sz := 1) (j := i) ha43 (At.here (by kernel_rfl : ((qQ Try.f32 5)[4]?).map spec = some ((Op.indexAddr 29 (Operand.tmp 16) (Operand.tmp 17)), some 18, 0, none))) rfl rfl (by kernel_rfl) (by kernel_rfl) (rows_cells (Kd.C_below hr0 hS24.below) i b hb).1 rfl (by omega)) (fun a44 ha45 => ?_)
  refine p_val (v := .slice A1 b.length c1) ha45 (by decide) (zK (v := .slice A1 b.length c1) (p := ⟨bk s0, of_ s0 + i * 1, none⟩) ha45 (At.here (by kernel_rfl : ((qQ Try.f32 5)[5]?).map spec = some ((Op.load 102 (Operand.tmp 18)), some 19, 102, none))) rfl (by kernel_rfl) (fun w' hw => by rw [hw, Nat.mul_one]; exact pw_cell_below hS24.below hc1)) (fun a46 ha47 => ?_)
  refine jZ (o_ret (Post := fun r w' => ∃ s' : Sl, r = s'.v ∧ Sat w0 w' ((kdP w0.heap.size k98 98 s'.v (b.map toS)) :: (SX.blk g (us.map Prod.fst ++ List.replicate (l0.length - i) (Value.slice none 0 0)) 95) :: (jW (us.map fun (x : Value × List S98) => kdP w0.heap.size k98 98 x.1 x.2)) :: [])) ha47 (by decide) (At.here (by kernel_rfl : ((qQ Try.f32 5)[6]?).map spec = some ((Op.call { callee := (Callee.value (Operand.func 52)), args := #[(Operand.tmp 19)], argTypes := #[102] }), some 20, 95, none))) rfl Try.func52 (by kernel_rfl) (toStepS_sat hS24 (Kd.C_below hC1 hS24.below) hl1 hb1) (fun v52 w50 a48 hp53 ha49 => ?_))
  obtain ⟨s1, rfl, hS51⟩ := hp53
  have ha54 : Has 23 [(0, .slice s0.A s0.n s0.c), (3, .slice (some ⟨g, 0, none⟩) s0.n s0.n), (4, .int .i64 (i : Int)), (8, .int .i64 (i : Int)), (9, .slice s0.A s0.n s0.c), (10, .int .i64 (s0.n : Int)), (11, .bool true), (14, .slice (some ⟨g, 0, none⟩) s0.n s0.n), (15, .int .i64 (i : Int)), (16, .slice s0.A s0.n s0.c), (17, .int .i64 (i : Int)), (18, .pointer (some ⟨bk s0, of_ s0 + i * 1, none⟩)), (19, .slice A1 b.length c1), (20, .slice s1.A s1.n s1.c)] a48 := ha49.keeps [0, 3, 4, 8, 9, 10, 11, 14, 15, 16, 17, 18, 19, 20] _ rfl
  refine p_val (v := .pointer (some ⟨g, i, none⟩)) ha54 (by decide) ((v_index (el := 95) (sz := 1) (b := g) (off := 0) (q := (i : Int)) ha54 (At.here (by kernel_rfl : ((qQ Try.f32 5)[7]?).map spec = some ((Op.indexAddr 38 (Operand.tmp 14) (Operand.tmp 15)), some 21, 0, none))) rfl rfl (by kernel_rfl) (by kernel_rfl) (by omega) (by omega)).as (by simp)) (fun a55 ha56 => ?_)
  have hxs : (us.map Prod.fst ++ List.replicate (l0.length - i) (Value.slice none 0 0)).set i (.slice s1.A s1.n s1.c) = ((us ++ [(s1.v, b.map toS)]).map Prod.fst ++ List.replicate (l0.length - (i + 1)) (Value.slice none 0 0)) := set_next (by have := congrArg List.length hus; simpa [Nat.min_eq_left hi] using this) (by omega)
  refine jZ (o_store (cs := (us.map Prod.fst ++ List.replicate (l0.length - i) (Value.slice none 0 0))) (cs' := ((us.map Prod.fst ++ List.replicate (l0.length - i) (Value.slice none 0 0)).set i (.slice s1.A s1.n s1.c))) 1 ha56 (At.here (by kernel_rfl : ((qQ Try.f32 5)[8]?).map spec = some ((Op.store 95 (Operand.tmp 21) (Operand.tmp 20)), none, 0, none))) rfl rfl rfl (by kernel_rfl) hS51 rfl (by have := congrArg List.length hus; simp at this ⊢; omega) rfl (fun w59 a57 (hS60 : Sat w0 w59 ((kdP w0.heap.size k98 98 s1.v (b.map toS)) :: (SX.blk g ((us.map Prod.fst ++ List.replicate (l0.length - i) (Value.slice none 0 0)).set i (.slice s1.A s1.n s1.c)) 95) :: (jW (us.map fun (x : Value × List S98) => kdP w0.heap.size k98 98 x.1 x.2)) :: [])) ha58 => ?_))
  refine jY ?_
  have ha61 := ha58.keeps [0, 3, 4, 8, 9, 10, 11, 14, 15, 16, 17, 18, 19, 20, 21] [(0, .slice s0.A s0.n s0.c), (3, .slice (some ⟨g, 0, none⟩) s0.n s0.n), (4, .int .i64 (i : Int)), (8, .int .i64 (i : Int)), (9, .slice s0.A s0.n s0.c), (10, .int .i64 (s0.n : Int)), (11, .bool true), (14, .slice (some ⟨g, 0, none⟩) s0.n s0.n), (15, .int .i64 (i : Int)), (16, .slice s0.A s0.n s0.c), (17, .int .i64 (i : Int)), (18, .pointer (some ⟨bk s0, of_ s0 + i * 1, none⟩)), (19, .slice A1 b.length c1), (20, .slice s1.A s1.n s1.c), (21, .pointer (some ⟨g, i, none⟩))] rfl
  clear ha58 hS51 ha56 a55 ha54 a48 ha49 hS24 ha47 a46 ha45 a44 ha43 a42 ha41 a40 ha39 a38 ha37 a36 ha35 a31 ha33
  refine in_n (jJ ?_)
  refine p_begin ?_
  refine p_val (v := .int .i64 (i : Int)) ha61 (by decide) (qZ ha61 (At.here (by kernel_rfl : ((qQ Try.f32 4)[0]?).map spec = some ((Op.move (Operand.tmp 4)), some 12, 3, none))) (by kernel_rfl) (fun _ => by kernel_rfl)) (fun a62 ha63 => ?_)
  refine p_val (v := .int .i64 ((i : Int) + 1)) ha63 (by decide) ((qZ (v := .int .i64 (IntKind.i64.wrap ((i : Int) + 1))) ha63 (At.here (by kernel_rfl : ((qQ Try.f32 4)[1]?).map spec = some ((Op.binOp BinOp.add 3 (Operand.tmp 12) (Operand.const (Value.int IntKind.i64 1)) 3), some 13, 3, none))) (by kernel_rfl) (fun _ => by kernel_rfl)).as (by rw [wrap_i64 (by omega) (by omega)])) (fun a64 ha65 => ?_)
  refine p_val (v := .int .i64 ((i : Int) + 1)) ha65 (by decide) (qZ ha65 (At.here (by kernel_rfl : ((qQ Try.f32 4)[2]?).map spec = some ((Op.assign (Operand.tmp 13)), some 4, 3, none))) (by kernel_rfl) (fun _ => by kernel_rfl)) (fun a66 ha67 => ?_)
  refine jY ?_
  have ha68 := ha67.keeps [0, 3, 8, 9, 10, 11, 14, 15, 16, 17, 18, 19, 20, 21, 12, 13, 4] [(0, .slice s0.A s0.n s0.c), (3, .slice (some ⟨g, 0, none⟩) s0.n s0.n), (8, .int .i64 (i : Int)), (9, .slice s0.A s0.n s0.c), (10, .int .i64 (s0.n : Int)), (11, .bool true), (14, .slice (some ⟨g, 0, none⟩) s0.n s0.n), (15, .int .i64 (i : Int)), (16, .slice s0.A s0.n s0.c), (17, .int .i64 (i : Int)), (18, .pointer (some ⟨bk s0, of_ s0 + i * 1, none⟩)), (19, .slice A1 b.length c1), (20, .slice s1.A s1.n s1.c), (21, .pointer (some ⟨g, i, none⟩)), (12, .int .i64 (i : Int)), (13, .int .i64 ((i : Int) + 1)), (4, .int .i64 ((i : Int) + 1))] rfl
  clear ha67 ha65 a64 ha63 a62 ha61 a57
  refine jJ ?_
  have hS69 : Sat w0 w59 ((kdP w0.heap.size k98 98 s1.v (b.map toS)) :: (jW (us.map fun (x : Value × List S98) => kdP w0.heap.size k98 98 x.1 x.2)) :: (SX.blk g ((us.map Prod.fst ++ List.replicate (l0.length - i) (Value.slice none 0 0)).set i (.slice s1.A s1.n s1.c)) 95) :: []) := hS60.pickR (l := [kdP w0.heap.size k98 98 s1.v (b.map toS), SX.blk g ((us.map Prod.fst ++ List.replicate (l0.length - i) (Value.slice none 0 0)).set i (.slice s1.A s1.n s1.c)) 95, jW (us.map fun (x : Value × List S98) => kdP w0.heap.size k98 98 x.1 x.2)]) [0, 2, 1] (by decide) [kdP w0.heap.size k98 98 s1.v (b.map toS), jW (us.map fun (x : Value × List S98) => kdP w0.heap.size k98 98 x.1 x.2), SX.blk g ((us.map Prod.fst ++ List.replicate (l0.length - i) (Value.slice none 0 0)).set i (.slice s1.A s1.n s1.c)) 95] rfl
  have hS70 : Sat w0 w59 ((jW ((us ++ [(s1.v, b.map toS)]).map fun (x : Value × List S98) => kdP w0.heap.size k98 98 x.1 x.2)) :: (SX.blk g ((us.map Prod.fst ++ List.replicate (l0.length - i) (Value.slice none 0 0)).set i (.slice s1.A s1.n s1.c)) 95) :: []) := by have hh := Sat.gainLast hS69; simpa using hh
  have hS71 : Sat w0 w59 ((SX.blk g ((us.map Prod.fst ++ List.replicate (l0.length - i) (Value.slice none 0 0)).set i (.slice s1.A s1.n s1.c)) 95) :: (jW ((us ++ [(s1.v, b.map toS)]).map fun (x : Value × List S98) => kdP w0.heap.size k98 98 x.1 x.2)) :: []) := hS70.pickR (l := [jW ((us ++ [(s1.v, b.map toS)]).map fun (x : Value × List S98) => kdP w0.heap.size k98 98 x.1 x.2), SX.blk g ((us.map Prod.fst ++ List.replicate (l0.length - i) (Value.slice none 0 0)).set i (.slice s1.A s1.n s1.c)) 95]) [1, 0] (by decide) [SX.blk g ((us.map Prod.fst ++ List.replicate (l0.length - i) (Value.slice none 0 0)).set i (.slice s1.A s1.n s1.c)) 95, jW ((us ++ [(s1.v, b.map toS)]).map fun (x : Value × List S98) => kdP w0.heap.size k98 98 x.1 x.2)] rfl
  have hS72 : Sat w0 w59 ((SX.blk g ((us ++ [(s1.v, b.map toS)]).map Prod.fst ++ List.replicate (l0.length - (i + 1)) (Value.slice none 0 0)) 95) :: (jW ((us ++ [(s1.v, b.map toS)]).map fun (x : Value × List S98) => kdP w0.heap.size k98 98 x.1 x.2)) :: []) := by rw [← hxs]; exact hS71
  exact ⟨_, by omega, i + 1, (us ++ [(s1.v, b.map toS)]), rfl, by omega, by rw [List.map_append, hus, htake, List.map_append]; rfl, (fun x hx => (List.mem_append.1 hx).elim (hso x) fun hx => ⟨s1, by rw [List.mem_singleton.1 hx]⟩), ha68.keeps [0, 3, 4] _ rfl, hS72⟩
 have ha73 : Has 23 [(0, .slice s0.A s0.n s0.c), (3, .slice (some ⟨g, 0, none⟩) s0.n s0.n), (4, .int .i64 (i : Int)), (8, .int .i64 (i : Int)), (9, .slice s0.A s0.n s0.c), (10, .int .i64 (s0.n : Int)), (11, .bool false)] a31 := by have hh : Has 23 [(0, .slice s0.A s0.n s0.c), (3, .slice (some ⟨g, 0, none⟩) s0.n s0.n), (4, .int .i64 (i : Int)), (8, .int .i64 (i : Int)), (9, .slice s0.A s0.n s0.c), (10, .int .i64 (s0.n : Int)), (11, .bool (decide ((i : Int) < (s0.n : Int))))] a31 := ha33.keeps [0, 3, 4, 8, 9, 10, 11] _ rfl; simp only [decide_eq_false c34, Bool.not_true, Bool.not_false] at hh; exact hh
 have hend : i = l0.length := by have := c34; omega
 refine jV ha73 rfl rfl ?_
 refine wp_exit (yX (yX (in_x (jJ (wp_seq ?_)))))
 refine p_begin ?_
 refine p_val (v := .slice (some ⟨g, 0, none⟩) s0.n s0.n) ha73 (by decide) (qZ ha73 (At.here (by kernel_rfl : ((qQ Try.f32 6)[0]?).map spec = some ((Op.move (Operand.tmp 3)), some 22, 38, none))) (by kernel_rfl) (fun _ => by kernel_rfl)) (fun a74 ha75 => ?_)
 refine p_val (v := .slice (some ⟨g, 0, none⟩) s0.n s0.n) ha75 (by decide) (qZ ha75 (At.here (by kernel_rfl : ((qQ Try.f32 6)[1]?).map spec = some ((Op.assign (Operand.tmp 22)), some 2, 38, none))) (by kernel_rfl) (fun _ => by kernel_rfl)) (fun a76 ha77 => ?_)
 refine jY ?_
 have ha78 := ha77.keeps [2] [(2, .slice (some ⟨g, 0, none⟩) s0.n s0.n)] rfl
 clear ha77 ha75 a74 ha73 a31 ha33
 refine jJ (wp_ret ?_)
 have hl := congrArg List.length hus
 rw [hend, List.take_length, List.length_map, List.length_map] at hl
 have hh := hS24
 rw [hend, Nat.sub_self, List.replicate_zero] at hh
 refine end_tmp (t := 2) ha78 (by kernel_rfl) rfl ?_
 exact ⟨⟨some ⟨g, 0, none⟩, s0.n, s0.n⟩, us, rfl, by rw [hus, hend, List.take_length], hso, hh.shutRow (g := g) (n := s0.n) (cap := s0.n) (sz := 1) (xs := us.map Prod.fst) (cur := []) 0 rfl (by rw [List.length_map, hl, hlen0, Nat.mul_one]) (Nat.le_refl _) (by simp only [maxLen]; omega) (by rw [List.append_nil, List.length_map, hl, hlen0, Nat.mul_one])⟩
end Go.Proofs.Ytcbijhgepdedpaa.G
