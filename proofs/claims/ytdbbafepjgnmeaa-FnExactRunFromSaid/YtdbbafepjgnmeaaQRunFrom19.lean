/- What the claim FnExactRunFrom rests on, part 19 of 20; the last part proves it: for every input the law answers true, and its arguments read behind the call as before it. No condition. -/
import Derived.Test.YtdbbafepjgnmeaaQRunFrom18
section
namespace Go.Proofs.Ytdbbafepjgnmeaa.G
open Go.RowKit Go.Proofs.Ytdbbafepjgnmeaa.SX Go.Proofs.YtdbbafepjgnmeaaW.PrintWords Go.Proofs.YtdbbafepjgnmeaaW.PrintLast Go.Proofs.YtdbbafepjgnmeaaW.PrintMore
set_option linter.unusedVariables false
set_option linter.unusedSimpArgs false
theorem code12 : Try.f12.body = some (Code.seq (Code.region 0 (regOf Try.f12 0) false) (Code.seq (Code.region 1 (regOf Try.f12 1) false) (Code.seq (Code.region 2 (regOf Try.f12 2) false) (Code.seq (Code.seq (Code.region 3 (regOf Try.f12 3) false) (Code.cond (Operand.tmp 29) (Code.seq (Code.region 4 (regOf Try.f12 4) false) Code.ret) Code.skip)) (Code.seq (Code.region 5 (regOf Try.f12 5) false) (Code.seq (Code.region 6 (regOf Try.f12 6) false) (Code.seq (Code.region 7 (regOf Try.f12 7) false) (Code.seq (Code.seq (Code.region 8 (regOf Try.f12 8) false) (Code.cond (Operand.tmp 66) (Code.seq (Code.region 9 (regOf Try.f12 9) false) Code.ret) Code.skip)) (Code.seq (Code.seq (Code.region 10 (regOf Try.f12 10) true) (Code.cond (Operand.tmp 71) (Code.seq (Code.region 11 (regOf Try.f12 11) false) Code.ret) Code.skip)) (Code.seq (Code.region 12 (regOf Try.f12 12) false) (Code.seq (Code.region 13 (regOf Try.f12 13) false) (Code.seq (Code.seq (Code.region 14 (regOf Try.f12 14) false) (Code.cond (Operand.tmp 92) (Code.seq (Code.region 15 (regOf Try.f12 15) false) Code.ret) Code.skip)) (Code.seq (Code.region 16 (regOf Try.f12 16) false) (Code.seq (Code.region 17 (regOf Try.f12 17) false) (Code.seq (Code.region 18 (regOf Try.f12 18) false) (Code.seq (Code.region 19 (regOf Try.f12 19) false) (Code.seq (Code.seq (Code.region 20 (regOf Try.f12 20) false) (Code.cond (Operand.tmp 100) (Code.seq (Code.region 21 (regOf Try.f12 21) false) Code.ret) Code.skip)) (Code.seq (Code.seq (Code.region 22 (regOf Try.f12 22) false) (Code.cond (Operand.tmp 103) (Code.seq (Code.region 23 (regOf Try.f12 23) false) Code.ret) Code.skip)) (Code.seq (Code.region 24 (regOf Try.f12 24) false) (Code.seq (Code.seq (Code.region 25 (regOf Try.f12 25) false) (Code.cond (Operand.tmp 128) (Code.seq (Code.region 26 (regOf Try.f12 26) false) Code.ret) Code.skip)) (Code.seq (Code.region 27 (regOf Try.f12 27) false) (Code.seq (Code.region 28 (regOf Try.f12 28) false) (Code.seq (Code.seq (Code.region 29 (regOf Try.f12 29) false) (Code.cond (Operand.tmp 133) (Code.seq (Code.region 30 (regOf Try.f12 30) false) Code.ret) Code.skip)) (Code.seq (Code.seq (Code.region 31 (regOf Try.f12 31) false) (Code.cond (Operand.tmp 136) (Code.seq (Code.region 32 (regOf Try.f12 32) false) Code.ret) Code.skip)) (Code.seq (Code.region 33 (regOf Try.f12 33) false) Code.ret))))))))))))))))))))))))) := by kernel_rfl
set_option maxRecDepth 20000 in
set_option maxHeartbeats 1000000 in
theorem law12_walk (w0 : World) (s0 : Sl) (l0 : List (List LT)) (f : Int) (arg : Int) (fuel : Int) (shared : Int) (hr0 : RdA w0 s0 l0) :
  Calls Try.prog 12 #[.agg #[.slice s0.A s0.n s0.c], iv f, iv arg, iv fuel, iv shared] w0 (Ret fun r w' => r = .bool true ∧ Below w0.heap.size w0 w') := by
 have hS : Sat w0 w0 [] := Sat.start w0
 refine enter (n := 137) Try.func12 code12 (by kernel_rfl) (Nat.le_of_ble_eq_true rfl) (fun a ha => ?_)
 replace ha : Has 137 [(0, .agg #[.slice s0.A s0.n s0.c]), (1, iv f), (2, iv arg), (3, iv fuel), (4, iv shared)] a := ha
 refine wp_seq ?_
 refine p_beginL [0, 1] ?_
 refine p_op (o_new (cs := [.slice s0.A s0.n s0.c]) (T := 24) (fun b => .pointer (some ⟨b, 0, none⟩)) ha (by decide) (iAt (op := (Op.box 24 (Operand.tmp 0))) (d := some 5) (ty := 0)) (by kernel_rfl) hS (fun _ => by kernel_rfl) fun b1 w a hb2 hS ha => ?_)
 refine p_run [(1, 10, .bool false)] ha fun a ha => ?_
 refine p_end ?_
 refine then_n ?_
 refine wp_seq ?_
 refine p_beginL [0] ?_
 refine p_run [(0, 11, iv 1048576)] ha fun a ha => ?_
 refine p_end ?_
 refine then_n ?_
 refine wp_seq ?_
 refine p_beginL [0, 1, 2, 3] ?_
 refine p_val ha (by decide) (v_loadW ha (iAt (op := (Op.load 24 (Operand.tmp 5))) (d := some 25) (ty := 24)) rfl (by kernel_rfl) (fun _ hw => by rw [hw]; exact hS.blk 0 rfl)) (fun a ha => ?_)
 refine p_run [(1, 26, iv 1048576)] ha fun a ha => ?_
 refine p_op (o_ret ha (by decide) (iAt (op := (Op.call { callee := (Callee.value (Operand.func 13)), args := #[(Operand.tmp 25), (Operand.tmp 26)], argTypes := #[24, 3] })) (d := some 27) (ty := 3)) rfl Try.func13 (by kernel_rfl) (szProgram_sat hS (hr0.sat hS) (by omega) (by omega)) fun v3 w a hp4 ha => ?_)
 obtain ⟨rfl, hS⟩ := hp4
 refine p_run [(3, 11, iv (szP l0 1048576))] ha fun a ha => ?_
 refine p_end ?_
 refine then_n ?_
 refine wp_seq ?_
 refine wp_seq ?_
 refine p_beginL [0, 1] ?_
 refine p_run [(0, 28, iv (szP l0 1048576)), (1, 29, .bool (decide ((szP l0 1048576) < 0)))] ha fun a ha => ?_
 refine p_end ?_
 refine then_n ?_
 by_cases c5 : (szP l0 1048576) < 0
 ·
  refine c_true ha rfl (decide_eq_true c5) ?_
  refine wp_seq ?_
  refine p_beginL [0] ?_
  refine p_run [(0, 10, .bool true)] ha fun a ha => ?_
  refine p_end ?_
  refine then_n ?_
  refine wp_ret ?_
  refine then_r ?_
  refine end_res1 ha (by kernel_rfl) (resT (t := 10) ha rfl) ?_
  exact ⟨rfl, hS.below⟩
 ·
  have hf : Fits l0 := by have h8 : 0 ≤ szP l0 1048576 := (by omega); have h9 := szP_ok l0 1048576 h8; exact ⟨by omega, by omega⟩
  refine c_false ha rfl (decide_eq_false c5) ?_
  refine wp_skip ?_
  refine then_n ?_
  refine wp_seq ?_
  refine p_beginL [0, 1, 2, 3, 4, 5, 6, 7, 8, 9, 10, 11, 12, 13, 14] ?_
  refine p_val ha (by decide) (v_loadW ha (iAt (op := (Op.load 24 (Operand.tmp 5))) (d := some 31) (ty := 24)) rfl (by kernel_rfl) (fun _ hw => by rw [hw]; exact hS.blk 0 rfl)) (fun a ha => ?_)
  refine p_op (o_ret ha (by decide) (iAt (op := (Op.call { callee := (Callee.value (Operand.func 15)), args := #[(Operand.tmp 31)], argTypes := #[24] })) (d := some 32) (ty := 31)) rfl Try.func15 (by kernel_rfl) (toProgram_sat hS (hr0.sat hS) hf) fun v6 w a hp7 ha => ?_)
  obtain ⟨s1, rfl, hS⟩ := hp7
  refine p_run [(2, 33, iv f), (3, 34, iv arg), (4, 35, iv fuel), (5, 36, iv shared)] ha fun a ha => ?_
  refine p_op (o_ret ha (by decide) (iAt (op := (Op.call { callee := (Callee.value (Operand.func 40)), args := #[(Operand.tmp 32), (Operand.tmp 33), (Operand.tmp 34), (Operand.tmp 35), (Operand.tmp 36)], argTypes := #[31, 3, 3, 3, 3] })) (d := some 37) (ty := 55)) rfl Try.func40 (by kernel_rfl) (spec_RunFrom_sat hS (hS.rdS 0 rfl) (toP_fits hf)) fun v8 w a hp9 ha => ?_)
  obtain ⟨o1, rfl, hS⟩ := hp9
  refine p_run [(7, 30, .tuple #[.agg #[iv ((fromP (toP l0) f arg fuel shared).1), iv ((fromP (toP l0) f arg fuel shared).2.1), .slice o1.A o1.n o1.c, iv ((fromP (toP l0) f arg fuel shared).2.2.2.1)], iv ((fromP (toP l0) f arg fuel shared).2.2.2.2.1), .bool ((fromP (toP l0) f arg fuel shared).2.2.2.2.2)]), (8, 38, .agg #[iv ((fromP (toP l0) f arg fuel shared).1), iv ((fromP (toP l0) f arg fuel shared).2.1), .slice o1.A o1.n o1.c, iv ((fromP (toP l0) f arg fuel shared).2.2.2.1)]), (9, 39, iv ((fromP (toP l0) f arg fuel shared).2.2.2.2.1)), (10, 40, .bool ((fromP (toP l0) f arg fuel shared).2.2.2.2.2))] ha fun a ha => ?_
  refine p_op (o_new (cs := [iv 0, iv 0, .slice none 0 0, iv 0]) (T := 54) (fun b => .pointer (some ⟨b, 0, none⟩)) ha (by decide) (iAt (op := (Op.alloc 54)) (d := some 12) (ty := 0)) (by kernel_rfl) hS (fun _ => by kernel_rfl) fun b10 w a hb11 hS ha => ?_)
  refine p_op (o_storeAgg 0 ha (iAt (op := (Op.store 54 (Operand.tmp 12) (Operand.tmp 38))) (ty := 0)) rfl rfl rfl (by kernel_rfl) hS rfl (Nat.le_of_ble_eq_true rfl) rfl fun w a hS ha => ?_)
  refine p_run [(13, 13, iv ((fromP (toP l0) f arg fuel shared).2.2.2.2.1)), (14, 14, .bool ((fromP (toP l0) f arg fuel shared).2.2.2.2.2))] ha fun a ha => ?_
  refine p_end ?_
  refine then_n ?_
  refine wp_seq ?_
  refine p_beginL [0, 1, 2, 3] ?_
  refine p_val ha (by decide) (v_loadW ha (iAt (op := (Op.load 24 (Operand.tmp 5))) (d := some 41) (ty := 24)) rfl (by kernel_rfl) (fun _ hw => by rw [hw]; exact hS.blk 3 rfl)) (fun a ha => ?_)
  refine p_op (o_ret ha (by decide) (iAt (op := (Op.call { callee := (Callee.value (Operand.func 15)), args := #[(Operand.tmp 41)], argTypes := #[24] })) (d := some 42) (ty := 31)) rfl Try.func15 (by kernel_rfl) (toProgram_sat hS (hr0.sat hS) hf) fun v12 w a hp13 ha => ?_)
  obtain ⟨s2, rfl, hS⟩ := hp13
  refine p_op (o_new (cs := [.slice none 0 0]) (T := 31) (fun b => .pointer (some ⟨b, 0, none⟩)) ha (by decide) (iAt (op := (Op.alloc 31)) (d := some 15) (ty := 0)) (by kernel_rfl) hS (fun _ => by kernel_rfl) fun b14 w a hb15 hS ha => ?_)
  refine p_op (o_storeAgg 0 ha (iAt (op := (Op.store 31 (Operand.tmp 15) (Operand.tmp 42))) (ty := 0)) rfl rfl rfl (by kernel_rfl) hS rfl (Nat.le_of_ble_eq_true rfl) rfl fun w a hS ha => ?_)
  refine p_end ?_
  refine then_n ?_
  refine wp_seq ?_
  refine p_beginL [0, 1, 2, 3, 4, 5, 6, 7, 8, 9, 10, 11, 12, 13] ?_
  refine p_val ha (by decide) (v_loadW ha (iAt (op := (Op.load 31 (Operand.tmp 15))) (d := some 44) (ty := 31)) rfl (by kernel_rfl) (fun _ hw => by rw [hw]; exact hS.blk 0 rfl)) (fun a ha => ?_)
  refine p_run [(1, 45, iv f), (2, 46, iv arg), (3, 47, iv fuel), (4, 48, iv shared)] ha fun a ha => ?_
  refine p_op (o_ret ha (by decide) (iAt (op := (Op.call { callee := (Callee.value (Operand.func 41)), args := #[(Operand.tmp 44), (Operand.tmp 45), (Operand.tmp 46), (Operand.tmp 47), (Operand.tmp 48)], argTypes := #[31, 3, 3, 3, 3] })) (d := some 49) (ty := 55)) rfl Try.func41 (by kernel_rfl) (impl_RunFrom_sat hS (hS.rdS 1 rfl) (toP_fits hf)) fun v16 w a hp17 ha => ?_)
  obtain ⟨o2, rfl, hS⟩ := hp17
  refine p_run [(6, 43, .tuple #[.agg #[iv ((fromP (toP l0) f arg fuel shared).1), iv ((fromP (toP l0) f arg fuel shared).2.1), .slice o2.A o2.n o2.c, iv ((fromP (toP l0) f arg fuel shared).2.2.2.1)], iv ((fromP (toP l0) f arg fuel shared).2.2.2.2.1), .bool ((fromP (toP l0) f arg fuel shared).2.2.2.2.2)]), (7, 50, .agg #[iv ((fromP (toP l0) f arg fuel shared).1), iv ((fromP (toP l0) f arg fuel shared).2.1), .slice o2.A o2.n o2.c, iv ((fromP (toP l0) f arg fuel shared).2.2.2.1)]), (8, 51, iv ((fromP (toP l0) f arg fuel shared).2.2.2.2.1)), (9, 52, .bool ((fromP (toP l0) f arg fuel shared).2.2.2.2.2))] ha fun a ha => ?_
  refine p_op (o_new (cs := [iv 0, iv 0, .slice none 0 0, iv 0]) (T := 54) (fun b => .pointer (some ⟨b, 0, none⟩)) ha (by decide) (iAt (op := (Op.alloc 54)) (d := some 16) (ty := 0)) (by kernel_rfl) hS (fun _ => by kernel_rfl) fun b18 w a hb19 hS ha => ?_)
  refine p_op (o_storeAgg 0 ha (iAt (op := (Op.store 54 (Operand.tmp 16) (Operand.tmp 50))) (ty := 0)) rfl rfl rfl (by kernel_rfl) hS rfl (Nat.le_of_ble_eq_true rfl) rfl fun w a hS ha => ?_)
  refine p_run [(12, 17, iv ((fromP (toP l0) f arg fuel shared).2.2.2.2.1)), (13, 18, .bool ((fromP (toP l0) f arg fuel shared).2.2.2.2.2))] ha fun a ha => ?_
  refine p_end ?_
  replace ha := ha.as [(1, iv f), (2, iv arg), (3, iv fuel), (4, iv shared), (5, ptr b1 0), (10, .bool false), (12, ptr b10 0), (13, iv ((fromP (toP l0) f arg fuel shared).2.2.2.2.1)), (14, .bool ((fromP (toP l0) f arg fuel shared).2.2.2.2.2)), (15, ptr b14 0), (16, ptr b18 0), (17, iv ((fromP (toP l0) f arg fuel shared).2.2.2.2.1)), (18, .bool ((fromP (toP l0) f arg fuel shared).2.2.2.2.2))] rfl
  refine then_n ?_
  refine wp_seq ?_
  refine wp_seq ?_
  refine p_beginL [0, 1, 2, 3, 4, 5, 6, 7, 8, 9, 10, 11, 12, 13] ?_
  refine p_val ha (by decide) (v_loadW ha (iAt (op := (Op.load 54 (Operand.tmp 16))) (d := some 53) (ty := 54)) rfl (by kernel_rfl) (fun _ hw => by rw [hw]; exact hS.blk 0 rfl)) (fun a ha => ?_)
  refine p_val ha (by decide) (v_loadW ha (iAt (op := (Op.load 54 (Operand.tmp 12))) (d := some 54) (ty := 54)) rfl (by kernel_rfl) (fun _ hw => by rw [hw]; exact hS.blk 4 rfl)) (fun a ha => ?_)
  replace hS : Sat w0 w ((SX.row (.slice o2.A o2.n o2.c) 63 3 (encE ((fromP (toP l0) f arg fuel shared).2.2.1))) :: (SX.row (.slice o1.A o1.n o1.c) 63 3 (encE ((fromP (toP l0) f arg fuel shared).2.2.1))) :: (SX.blk b18 [iv ((fromP (toP l0) f arg fuel shared).1), iv ((fromP (toP l0) f arg fuel shared).2.1), .slice o2.A o2.n o2.c, iv ((fromP (toP l0) f arg fuel shared).2.2.2.1)] 54) :: (SX.blk b14 [.slice s2.A s2.n s2.c] 31) :: (prg w0.heap.size s2 (toP l0)) :: (SX.blk b10 [iv ((fromP (toP l0) f arg fuel shared).1), iv ((fromP (toP l0) f arg fuel shared).2.1), .slice o1.A o1.n o1.c, iv ((fromP (toP l0) f arg fuel shared).2.2.2.1)] 54) :: (prg w0.heap.size s1 (toP l0)) :: (SX.blk b1 [.slice s0.A s0.n s0.c] 24) :: []) := hS.pickN 8 [1, 5, 0, 2, 3, 4, 6, 7] (by decide) rfl
  refine p_op (o_ret ha (by decide) (iAt (op := (Op.call { callee := (Callee.value (Operand.func 42)), args := #[(Operand.tmp 53), (Operand.tmp 54)], argTypes := #[54, 54] })) (d := some 55) (ty := 4)) rfl Try.func42 (by kernel_rfl) (eqO_sat hS (fromP_len ..)) fun v20 w a hp21 ha => ?_)
  obtain ⟨rfl, hS⟩ := hp21
  refine p_run [(3, 56, .bool false), (4, 57, .bool false), (5, 58, iv ((fromP (toP l0) f arg fuel shared).2.2.2.2.1)), (6, 59, iv ((fromP (toP l0) f arg fuel shared).2.2.2.2.1))] ha fun a ha => ?_
  refine p_val (v := .bool false) ha (by decide) ((v_pure (v := .bool (!(decide ((fromP (toP l0) f arg fuel shared).2.2.2.2.1 = (fromP (toP l0) f arg fuel shared).2.2.2.2.1)))) ha (AtG.here (gd := 57) ⟨(by kernel_rfl : ((regOf Try.f12 8)[7]?).map spec = some ((Op.binOp BinOp.neq 3 (Operand.tmp 58) (Operand.tmp 59) 3), some 60, 4, some (4, false))), by kernel_rfl⟩ ha rfl) (by kernel_rfl) (fun _ => by kernel_rfl)).as (by simp)) (fun a ha => ?_)
  refine p_run [(8, 61, .bool false), (9, 62, .bool false), (10, 63, .bool ((fromP (toP l0) f arg fuel shared).2.2.2.2.2)), (11, 64, .bool ((fromP (toP l0) f arg fuel shared).2.2.2.2.2))] ha fun a ha => ?_
  refine p_val (v := .bool false) ha (by decide) ((v_pure (v := .bool (!(((fromP (toP l0) f arg fuel shared).2.2.2.2.2) == ((fromP (toP l0) f arg fuel shared).2.2.2.2.2)))) ha (AtG.here (gd := 62) ⟨(by kernel_rfl : ((regOf Try.f12 8)[12]?).map spec = some ((Op.binOp BinOp.neq 4 (Operand.tmp 63) (Operand.tmp 64) 4), some 65, 4, some (9, false))), by kernel_rfl⟩ ha rfl) (by kernel_rfl) (fun _ => by kernel_rfl)).as (by simp)) (fun a ha => ?_)
  refine p_run [(13, 66, .bool false)] ha fun a ha => ?_
  refine p_end ?_
  refine then_n ?_
  refine c_false ha rfl rfl ?_
  refine wp_skip ?_
  refine then_n ?_
  refine wp_seq ?_
  refine wp_seq ?_
  refine d_startP 5 5 (hS.pickN 8 [2, 3, 5, 7] (by decide) rfl) hS fun w hS => ?_
  refine d_val (i := 0) ha (by decide) (v_loadW ha (iAt (op := (Op.load 31 (Operand.tmp 15))) (d := some 67) (ty := 31)) rfl (by kernel_rfl) (fun _ hw => hw.blk 1 rfl)) (hS.pickN 8 [2, 3, 5, 7] (by decide) rfl) (by kernel_rfl) (by kernel_rfl) (pk_then (pk_then (pk_body))) fun a ha => ?_
  refine d_val (i := 1) ha (by decide) (v_loadW ha (iAt (op := (Op.load 24 (Operand.tmp 5))) (d := some 68) (ty := 24)) rfl (by kernel_rfl) (fun _ hw => hw.blk 3 rfl)) (hS.pickN 8 [2, 3, 5, 7] (by decide) rfl) (by kernel_rfl) (by kernel_rfl) (pk_then (pk_then (pk_body))) fun a ha => ?_
  refine d_one (i := 2) (by kernel_rfl) (o_ret ha (by decide) (iAt (op := (Op.call { callee := (Callee.value (Operand.func 15)), args := #[(Operand.tmp 68)], argTypes := #[24] })) (d := some 69) (ty := 31)) rfl Try.func15 (by kernel_rfl) (toProgram_sat hS (hr0.sat hS) hf) fun v22 w a hp23 ha => ?_)
  obtain ⟨s3, rfl, hS⟩ := hp23
  refine ⟨.inr (hS.pickN 9 [3, 4, 6, 8] (by decide) rfl), ?_⟩
  refine d_one (i := 3) (by kernel_rfl) (o_ret ha (by decide) (iAt (op := (Op.call { callee := (Callee.value (Operand.func 18)), args := #[(Operand.tmp 67), (Operand.tmp 69)], argTypes := #[31, 31] })) (d := some 70) (ty := 4)) rfl Try.func18 (by kernel_rfl) (eqP_sat hS (hS.rdS 5 rfl) (hS.rdS 0 rfl) (toP_fits hf)) fun v24 w a hp25 ha => ?_)
  obtain ⟨rfl, hS⟩ := hp25
  refine ⟨.inr (hS.pickN 9 [3, 4, 6, 8] (by decide) rfl), ?_⟩
  refine d_run (k := 0) [(4, 71, .bool false)] ha (.inr (hS.pickN 9 [3, 4, 6, 8] (by decide) rfl)) (pk_then (pk_then (pk_body))) fun a ha => ?_
  refine d_end (by kernel_rfl) ?_ _
  refine then_n ?_
  refine c_false ha rfl rfl ?_
  refine wp_skip ?_
  refine then_n ?_
  refine wp_seq ?_
  refine p_beginL [0] ?_
  refine p_run [(0, 19, iv 1)] ha fun a ha => ?_
  refine p_end ?_
  replace ha := ha.as [(1, iv f), (2, iv arg), (3, iv fuel), (4, iv shared), (5, ptr b1 0), (10, .bool false), (12, ptr b10 0), (13, iv ((fromP (toP l0) f arg fuel shared).2.2.2.2.1)), (14, .bool ((fromP (toP l0) f arg fuel shared).2.2.2.2.2)), (15, ptr b14 0), (16, ptr b18 0), (17, iv ((fromP (toP l0) f arg fuel shared).2.2.2.2.1)), (18, .bool ((fromP (toP l0) f arg fuel shared).2.2.2.2.2)), (19, iv 1)] rfl
  refine then_n ?_
  refine wp_seq ?_
  refine p_beginL [0, 1, 2, 3] ?_
  refine p_val ha (by decide) (v_loadW ha (iAt (op := (Op.load 31 (Operand.tmp 15))) (d := some 72) (ty := 31)) rfl (by kernel_rfl) (fun _ hw => by rw [hw]; exact hS.blk 4 rfl)) (fun a ha => ?_)
  refine p_run [(1, 73, iv 1)] ha fun a ha => ?_
  replace hS : Sat w0 w ((prg w0.heap.size s2 (toP l0)) :: (prg w0.heap.size s3 (toP l0)) :: (SX.row (.slice o2.A o2.n o2.c) 63 3 (encE ((fromP (toP l0) f arg fuel shared).2.2.1))) :: (SX.row (.slice o1.A o1.n o1.c) 63 3 (encE ((fromP (toP l0) f arg fuel shared).2.2.1))) :: (SX.blk b18 [iv ((fromP (toP l0) f arg fuel shared).1), iv ((fromP (toP l0) f arg fuel shared).2.1), .slice o2.A o2.n o2.c, iv ((fromP (toP l0) f arg fuel shared).2.2.2.1)] 54) :: (SX.blk b14 [.slice s2.A s2.n s2.c] 31) :: (SX.blk b10 [iv ((fromP (toP l0) f arg fuel shared).1), iv ((fromP (toP l0) f arg fuel shared).2.1), .slice o1.A o1.n o1.c, iv ((fromP (toP l0) f arg fuel shared).2.2.2.1)] 54) :: (prg w0.heap.size s1 (toP l0)) :: (SX.blk b1 [.slice s0.A s0.n s0.c] 24) :: []) := hS.pickN 9 [5, 0, 1, 2, 3, 4, 6, 7, 8] (by decide) rfl
  refine p_op (o_ret ha (by decide) (iAt (op := (Op.call { callee := (Callee.value (Operand.func 30)), args := #[(Operand.tmp 72), (Operand.tmp 73)], argTypes := #[31, 3] })) (d := some 74) (ty := 3)) rfl Try.func30 (by kernel_rfl) (markProgram_sat hS (toP_fits hf) (by omega) (by omega)) fun v26 w a hp27 ha => ?_)
  obtain ⟨rfl, hS⟩ := hp27
  refine p_run [(3, 19, iv (1 + 3 * (tot (toP l0) : Int)))] ha fun a ha => ?_
  refine p_end ?_
  refine then_n ?_
  refine wp_seq ?_
  refine wp_seq ?_
  refine p_beginL [0, 1, 2, 3, 4, 5, 6, 7, 8, 9, 10, 11, 12, 13, 14, 15, 16, 17] ?_
  refine p_run [(0, 75, iv (1 + 3 * (tot (toP l0) : Int)))] ha fun a ha => ?_
  refine p_val (v := .bool false) ha (by decide) ((v_pure (v := .bool (decide (1 + 3 * (tot (toP l0) : Int) < 0))) ha (iAt (op := (Op.binOp BinOp.lss 3 (Operand.tmp 75) (Operand.const (Value.int IntKind.i64 0)) 3)) (d := some 76) (ty := 4)) (by kernel_rfl) (fun _ => by kernel_rfl)).as (by rw [decide_eq_false (by omega)])) (fun a ha => ?_)
  refine p_run [(2, 77, .bool false)] ha fun a ha => ?_
  refine p_val ha (by decide) (v_loadW ha (AtG.here (gd := 77) ⟨(by kernel_rfl : ((regOf Try.f12 14)[3]?).map spec = some ((Op.load 54 (Operand.tmp 16)), some 78, 54, some (2, false))), by kernel_rfl⟩ ha rfl) rfl (by kernel_rfl) (fun _ hw => by rw [hw]; exact hS.blk 4 rfl)) (fun a ha => ?_)
  refine p_val ha (by decide) (v_loadW ha (AtG.here (gd := 77) ⟨(by kernel_rfl : ((regOf Try.f12 14)[4]?).map spec = some ((Op.load 54 (Operand.tmp 12)), some 79, 54, some (2, false))), by kernel_rfl⟩ ha rfl) rfl (by kernel_rfl) (fun _ hw => by rw [hw]; exact hS.blk 6 rfl)) (fun a ha => ?_)
  replace hS : Sat w0 w ((SX.row (.slice o2.A o2.n o2.c) 63 3 (encE ((fromP (toP l0) f arg fuel shared).2.2.1))) :: (SX.row (.slice o1.A o1.n o1.c) 63 3 (encE ((fromP (toP l0) f arg fuel shared).2.2.1))) :: (prg w0.heap.size s2 (mkSS 1 (toP l0))) :: (prg w0.heap.size s3 (toP l0)) :: (SX.blk b18 [iv ((fromP (toP l0) f arg fuel shared).1), iv ((fromP (toP l0) f arg fuel shared).2.1), .slice o2.A o2.n o2.c, iv ((fromP (toP l0) f arg fuel shared).2.2.2.1)] 54) :: (SX.blk b14 [.slice s2.A s2.n s2.c] 31) :: (SX.blk b10 [iv ((fromP (toP l0) f arg fuel shared).1), iv ((fromP (toP l0) f arg fuel shared).2.1), .slice o1.A o1.n o1.c, iv ((fromP (toP l0) f arg fuel shared).2.2.2.1)] 54) :: (prg w0.heap.size s1 (toP l0)) :: (SX.blk b1 [.slice s0.A s0.n s0.c] 24) :: []) := hS.pickN 9 [2, 3, 0, 1, 4, 5, 6, 7, 8] (by decide) rfl
  refine p_op (o_ret ha (by decide) (AtG.here (gd := 77) ⟨(by kernel_rfl : ((regOf Try.f12 14)[5]?).map spec = some ((Op.call { callee := (Callee.value (Operand.func 42)), args := #[(Operand.tmp 78), (Operand.tmp 79)], argTypes := #[54, 54] }), some 80, 4, some (2, false))), by kernel_rfl⟩ ha rfl) rfl Try.func42 (by kernel_rfl) (eqO_sat hS (fromP_len ..)) fun v28 w a hp29 ha => ?_)
  obtain ⟨rfl, hS⟩ := hp29
  refine p_run [(6, 81, .bool false), (7, 82, .bool false), (8, 83, .bool false), (9, 84, iv ((fromP (toP l0) f arg fuel shared).2.2.2.2.1)), (10, 85, iv ((fromP (toP l0) f arg fuel shared).2.2.2.2.1))] ha fun a ha => ?_
  refine p_val (v := .bool false) ha (by decide) ((v_pure (v := .bool (!(decide ((fromP (toP l0) f arg fuel shared).2.2.2.2.1 = (fromP (toP l0) f arg fuel shared).2.2.2.2.1)))) ha (AtG.here (gd := 83) ⟨(by kernel_rfl : ((regOf Try.f12 14)[11]?).map spec = some ((Op.binOp BinOp.neq 3 (Operand.tmp 84) (Operand.tmp 85) 3), some 86, 4, some (8, false))), by kernel_rfl⟩ ha rfl) (by kernel_rfl) (fun _ => by kernel_rfl)).as (by simp)) (fun a ha => ?_)
  refine p_run [(12, 87, .bool false), (13, 88, .bool false), (14, 89, .bool ((fromP (toP l0) f arg fuel shared).2.2.2.2.2)), (15, 90, .bool ((fromP (toP l0) f arg fuel shared).2.2.2.2.2))] ha fun a ha => ?_
  refine p_val (v := .bool false) ha (by decide) ((v_pure (v := .bool (!(((fromP (toP l0) f arg fuel shared).2.2.2.2.2) == ((fromP (toP l0) f arg fuel shared).2.2.2.2.2)))) ha (AtG.here (gd := 88) ⟨(by kernel_rfl : ((regOf Try.f12 14)[16]?).map spec = some ((Op.binOp BinOp.neq 4 (Operand.tmp 89) (Operand.tmp 90) 4), some 91, 4, some (13, false))), by kernel_rfl⟩ ha rfl) (by kernel_rfl) (fun _ => by kernel_rfl)).as (by simp)) (fun a ha => ?_)
  refine p_run [(17, 92, .bool false)] ha fun a ha => ?_
  refine p_end ?_
  replace ha := ha.as [(1, iv f), (2, iv arg), (3, iv fuel), (4, iv shared), (5, ptr b1 0), (10, .bool false), (12, ptr b10 0), (13, iv ((fromP (toP l0) f arg fuel shared).2.2.2.2.1)), (14, .bool ((fromP (toP l0) f arg fuel shared).2.2.2.2.2)), (16, ptr b18 0), (92, .bool false)] rfl
  refine then_n ?_
  refine c_false ha rfl rfl ?_
  refine wp_skip ?_
  refine then_n ?_
  refine wp_seq ?_
  refine p_beginL [0] ?_
  refine p_run [(0, 20, iv 1)] ha fun a ha => ?_
  refine p_end ?_
  refine then_n ?_
  refine wp_seq ?_
  refine p_beginL [0, 1, 2, 3] ?_
  refine p_val ha (by decide) (v_loadW ha (iAt (op := (Op.load 54 (Operand.tmp 16))) (d := some 93) (ty := 54)) rfl (by kernel_rfl) (fun _ hw => by rw [hw]; exact hS.blk 4 rfl)) (fun a ha => ?_)
  refine p_run [(1, 94, iv 1)] ha fun a ha => ?_
  replace hS : Sat w0 w ((SX.row (.slice o2.A o2.n o2.c) 63 3 (encE ((fromP (toP l0) f arg fuel shared).2.2.1))) :: (SX.row (.slice o1.A o1.n o1.c) 63 3 (encE ((fromP (toP l0) f arg fuel shared).2.2.1))) :: (prg w0.heap.size s2 (mkSS 1 (toP l0))) :: (prg w0.heap.size s3 (toP l0)) :: (SX.blk b18 [iv ((fromP (toP l0) f arg fuel shared).1), iv ((fromP (toP l0) f arg fuel shared).2.1), .slice o2.A o2.n o2.c, iv ((fromP (toP l0) f arg fuel shared).2.2.2.1)] 54) :: (SX.blk b14 [.slice s2.A s2.n s2.c] 31) :: (SX.blk b10 [iv ((fromP (toP l0) f arg fuel shared).1), iv ((fromP (toP l0) f arg fuel shared).2.1), .slice o1.A o1.n o1.c, iv ((fromP (toP l0) f arg fuel shared).2.2.2.1)] 54) :: (prg w0.heap.size s1 (toP l0)) :: (SX.blk b1 [.slice s0.A s0.n s0.c] 24) :: []) := hS
  refine p_op (o_ret ha (by decide) (iAt (op := (Op.call { callee := (Callee.value (Operand.func 43)), args := #[(Operand.tmp 93), (Operand.tmp 94)], argTypes := #[54, 3] })) (d := some 95) (ty := 3)) rfl Try.func43 (by kernel_rfl) (markO_sat hS (fromP_len ..)) fun v30 w a hp31 ha => ?_)
  obtain ⟨rfl, hS⟩ := hp31
  refine p_run [(3, 20, iv (1 + 3 * (((fromP (toP l0) f arg fuel shared).2.2.1).length : Int)))] ha fun a ha => ?_
  refine p_end ?_
  refine then_n ?_
  refine wp_seq ?_
  refine p_beginL [0] ?_
  refine p_run [(0, 21, iv 1)] ha fun a ha => ?_
  refine p_end ?_
  refine then_n ?_
  refine wp_seq ?_
  refine p_beginL [0, 1, 2, 3] ?_
  refine p_val ha (by decide) (v_loadW ha (iAt (op := (Op.load 54 (Operand.tmp 16))) (d := some 96) (ty := 54)) rfl (by kernel_rfl) (fun _ hw => by rw [hw]; exact hS.blk 4 rfl)) (fun a ha => ?_)
  refine p_run [(1, 97, iv 1)] ha fun a ha => ?_
  replace hS : Sat w0 w ((SX.row (.slice o2.A o2.n o2.c) 63 3 (encE (mkE ((fromP (toP l0) f arg fuel shared).2.2.1).length))) :: (SX.row (.slice o1.A o1.n o1.c) 63 3 (encE ((fromP (toP l0) f arg fuel shared).2.2.1))) :: (prg w0.heap.size s2 (mkSS 1 (toP l0))) :: (prg w0.heap.size s3 (toP l0)) :: (SX.blk b18 [iv ((fromP (toP l0) f arg fuel shared).1), iv ((fromP (toP l0) f arg fuel shared).2.1), .slice o2.A o2.n o2.c, iv ((fromP (toP l0) f arg fuel shared).2.2.2.1)] 54) :: (SX.blk b14 [.slice s2.A s2.n s2.c] 31) :: (SX.blk b10 [iv ((fromP (toP l0) f arg fuel shared).1), iv ((fromP (toP l0) f arg fuel shared).2.1), .slice o1.A o1.n o1.c, iv ((fromP (toP l0) f arg fuel shared).2.2.2.1)] 54) :: (prg w0.heap.size s1 (toP l0)) :: (SX.blk b1 [.slice s0.A s0.n s0.c] 24) :: []) := hS
  refine p_op (o_ret ha (by decide) (iAt (op := (Op.call { callee := (Callee.value (Operand.func 44)), args := #[(Operand.tmp 96), (Operand.tmp 97)], argTypes := #[54, 3] })) (d := some 98) (ty := 3)) rfl Try.func44 (by kernel_rfl) (heldO_sat hS (fromP_len ..)) fun v32 w a hp33 ha => ?_)
  obtain ⟨rfl, hS⟩ := hp33
  refine p_run [(3, 21, iv (1 + 3 * (((fromP (toP l0) f arg fuel shared).2.2.1).length : Int)))] ha fun a ha => ?_
  refine p_end ?_
  refine then_n ?_
  refine wp_seq ?_
  refine wp_seq ?_
  refine p_beginL [0, 1] ?_
  refine p_run [(0, 99, iv (1 + 3 * (((fromP (toP l0) f arg fuel shared).2.2.1).length : Int)))] ha fun a ha => ?_
  refine p_val (v := .bool false) ha (by decide) ((v_pure (v := .bool (decide (1 + 3 * (((fromP (toP l0) f arg fuel shared).2.2.1).length : Int) < 0))) ha (iAt (op := (Op.binOp BinOp.lss 3 (Operand.tmp 99) (Operand.const (Value.int IntKind.i64 0)) 3)) (d := some 100) (ty := 4)) (by kernel_rfl) (fun _ => by kernel_rfl)).as (by rw [decide_eq_false (by omega)])) (fun a ha => ?_)
  refine p_end ?_
  refine then_n ?_
  refine c_false ha rfl rfl ?_
  refine wp_skip ?_
  refine then_n ?_
  refine wp_seq ?_
  refine wp_seq ?_
  refine p_beginL [0, 1, 2] ?_
  refine p_run [(0, 101, iv (1 + 3 * (((fromP (toP l0) f arg fuel shared).2.2.1).length : Int))), (1, 102, iv (1 + 3 * (((fromP (toP l0) f arg fuel shared).2.2.1).length : Int)))] ha fun a ha => ?_
  refine p_val (v := .bool false) ha (by decide) ((v_pure (v := .bool (!(decide (1 + 3 * (((fromP (toP l0) f arg fuel shared).2.2.1).length : Int) = 1 + 3 * (((fromP (toP l0) f arg fuel shared).2.2.1).length : Int))))) ha (iAt (op := (Op.binOp BinOp.neq 3 (Operand.tmp 101) (Operand.tmp 102) 3)) (d := some 103) (ty := 4)) (by kernel_rfl) (fun _ => by kernel_rfl)).as (by simp)) (fun a ha => ?_)
  refine p_end ?_
  refine then_n ?_
  refine c_false ha rfl rfl ?_
  refine wp_skip ?_
  refine then_n ?_
  refine wp_seq ?_
  refine p_beginL [0, 1, 2, 3, 4, 5, 6, 7, 8, 9, 10, 11, 12, 13, 14] ?_
  refine p_val ha (by decide) (v_loadW ha (iAt (op := (Op.load 24 (Operand.tmp 5))) (d := some 105) (ty := 24)) rfl (by kernel_rfl) (fun _ hw => by rw [hw]; exact hS.blk 8 rfl)) (fun a ha => ?_)
  refine p_op (o_ret ha (by decide) (iAt (op := (Op.call { callee := (Callee.value (Operand.func 15)), args := #[(Operand.tmp 105)], argTypes := #[24] })) (d := some 106) (ty := 31)) rfl Try.func15 (by kernel_rfl) (toProgram_sat hS (hr0.sat hS) hf) fun v34 w a hp35 ha => ?_)
  obtain ⟨s4, rfl, hS⟩ := hp35
  refine p_run [(2, 107, iv f), (3, 108, iv arg), (4, 109, iv fuel), (5, 110, iv shared)] ha fun a ha => ?_
  refine p_op (o_ret ha (by decide) (iAt (op := (Op.call { callee := (Callee.value (Operand.func 41)), args := #[(Operand.tmp 106), (Operand.tmp 107), (Operand.tmp 108), (Operand.tmp 109), (Operand.tmp 110)], argTypes := #[31, 3, 3, 3, 3] })) (d := some 111) (ty := 55)) rfl Try.func41 (by kernel_rfl) (impl_RunFrom_sat hS (hS.rdS 0 rfl) (toP_fits hf)) fun v36 w a hp37 ha => ?_)
  obtain ⟨o3, rfl, hS⟩ := hp37
  refine p_run [(7, 104, .tuple #[.agg #[iv ((fromP (toP l0) f arg fuel shared).1), iv ((fromP (toP l0) f arg fuel shared).2.1), .slice o3.A o3.n o3.c, iv ((fromP (toP l0) f arg fuel shared).2.2.2.1)], iv ((fromP (toP l0) f arg fuel shared).2.2.2.2.1), .bool ((fromP (toP l0) f arg fuel shared).2.2.2.2.2)]), (8, 112, .agg #[iv ((fromP (toP l0) f arg fuel shared).1), iv ((fromP (toP l0) f arg fuel shared).2.1), .slice o3.A o3.n o3.c, iv ((fromP (toP l0) f arg fuel shared).2.2.2.1)]), (9, 113, iv ((fromP (toP l0) f arg fuel shared).2.2.2.2.1)), (10, 114, .bool ((fromP (toP l0) f arg fuel shared).2.2.2.2.2))] ha fun a ha => ?_
  refine p_op (o_new (cs := [iv 0, iv 0, .slice none 0 0, iv 0]) (T := 54) (fun b => .pointer (some ⟨b, 0, none⟩)) ha (by decide) (iAt (op := (Op.alloc 54)) (d := some 22) (ty := 0)) (by kernel_rfl) hS (fun _ => by kernel_rfl) fun b38 w a hb39 hS ha => ?_)
  refine p_op (o_storeAgg 0 ha (iAt (op := (Op.store 54 (Operand.tmp 22) (Operand.tmp 112))) (ty := 0)) rfl rfl rfl (by kernel_rfl) hS rfl (Nat.le_of_ble_eq_true rfl) rfl fun w a hS ha => ?_)
  refine p_run [(13, 23, iv ((fromP (toP l0) f arg fuel shared).2.2.2.2.1)), (14, 24, .bool ((fromP (toP l0) f arg fuel shared).2.2.2.2.2))] ha fun a ha => ?_
  refine p_end ?_
  replace ha := ha.as [(10, .bool false), (12, ptr b10 0), (13, iv ((fromP (toP l0) f arg fuel shared).2.2.2.2.1)), (14, .bool ((fromP (toP l0) f arg fuel shared).2.2.2.2.2)), (16, ptr b18 0), (20, iv (1 + 3 * (((fromP (toP l0) f arg fuel shared).2.2.1).length : Int))), (21, iv (1 + 3 * (((fromP (toP l0) f arg fuel shared).2.2.1).length : Int))), (22, ptr b38 0), (23, iv ((fromP (toP l0) f arg fuel shared).2.2.2.2.1)), (24, .bool ((fromP (toP l0) f arg fuel shared).2.2.2.2.2))] rfl
  refine then_n ?_
  refine wp_seq ?_
  refine wp_seq ?_
  refine p_beginL [0, 1, 2, 3, 4, 5, 6, 7, 8, 9, 10, 11, 12, 13] ?_
  refine p_val ha (by decide) (v_loadW ha (iAt (op := (Op.load 54 (Operand.tmp 22))) (d := some 115) (ty := 54)) rfl (by kernel_rfl) (fun _ hw => by rw [hw]; exact hS.blk 0 rfl)) (fun a ha => ?_)
  refine p_val ha (by decide) (v_loadW ha (iAt (op := (Op.load 54 (Operand.tmp 12))) (d := some 116) (ty := 54)) rfl (by kernel_rfl) (fun _ hw => by rw [hw]; exact hS.blk 9 rfl)) (fun a ha => ?_)
  replace hS : Sat w0 w ((SX.row (.slice o3.A o3.n o3.c) 63 3 (encE ((fromP (toP l0) f arg fuel shared).2.2.1))) :: (SX.row (.slice o1.A o1.n o1.c) 63 3 (encE ((fromP (toP l0) f arg fuel shared).2.2.1))) :: (SX.blk b38 [iv ((fromP (toP l0) f arg fuel shared).1), iv ((fromP (toP l0) f arg fuel shared).2.1), .slice o3.A o3.n o3.c, iv ((fromP (toP l0) f arg fuel shared).2.2.2.1)] 54) :: (prg w0.heap.size s4 (toP l0)) :: (SX.row (.slice o2.A o2.n o2.c) 63 3 (encE (mkE ((fromP (toP l0) f arg fuel shared).2.2.1).length))) :: (prg w0.heap.size s2 (mkSS 1 (toP l0))) :: (prg w0.heap.size s3 (toP l0)) :: (SX.blk b18 [iv ((fromP (toP l0) f arg fuel shared).1), iv ((fromP (toP l0) f arg fuel shared).2.1), .slice o2.A o2.n o2.c, iv ((fromP (toP l0) f arg fuel shared).2.2.2.1)] 54) :: (SX.blk b14 [.slice s2.A s2.n s2.c] 31) :: (SX.blk b10 [iv ((fromP (toP l0) f arg fuel shared).1), iv ((fromP (toP l0) f arg fuel shared).2.1), .slice o1.A o1.n o1.c, iv ((fromP (toP l0) f arg fuel shared).2.2.2.1)] 54) :: (prg w0.heap.size s1 (toP l0)) :: (SX.blk b1 [.slice s0.A s0.n s0.c] 24) :: []) := hS.pickN 12 [1, 4, 0, 2, 3, 5, 6, 7, 8, 9, 10, 11] (by decide) rfl
  refine p_op (o_ret ha (by decide) (iAt (op := (Op.call { callee := (Callee.value (Operand.func 42)), args := #[(Operand.tmp 115), (Operand.tmp 116)], argTypes := #[54, 54] })) (d := some 117) (ty := 4)) rfl Try.func42 (by kernel_rfl) (eqO_sat hS (fromP_len ..)) fun v40 w a hp41 ha => ?_)
  obtain ⟨rfl, hS⟩ := hp41
  refine p_run [(3, 118, .bool false), (4, 119, .bool false), (5, 120, iv ((fromP (toP l0) f arg fuel shared).2.2.2.2.1)), (6, 121, iv ((fromP (toP l0) f arg fuel shared).2.2.2.2.1))] ha fun a ha => ?_
  refine p_val (v := .bool false) ha (by decide) ((v_pure (v := .bool (!(decide ((fromP (toP l0) f arg fuel shared).2.2.2.2.1 = (fromP (toP l0) f arg fuel shared).2.2.2.2.1)))) ha (AtG.here (gd := 119) ⟨(by kernel_rfl : ((regOf Try.f12 25)[7]?).map spec = some ((Op.binOp BinOp.neq 3 (Operand.tmp 120) (Operand.tmp 121) 3), some 122, 4, some (4, false))), by kernel_rfl⟩ ha rfl) (by kernel_rfl) (fun _ => by kernel_rfl)).as (by simp)) (fun a ha => ?_)
  refine p_run [(8, 123, .bool false), (9, 124, .bool false), (10, 125, .bool ((fromP (toP l0) f arg fuel shared).2.2.2.2.2)), (11, 126, .bool ((fromP (toP l0) f arg fuel shared).2.2.2.2.2))] ha fun a ha => ?_
  refine p_val (v := .bool false) ha (by decide) ((v_pure (v := .bool (!(((fromP (toP l0) f arg fuel shared).2.2.2.2.2) == ((fromP (toP l0) f arg fuel shared).2.2.2.2.2)))) ha (AtG.here (gd := 124) ⟨(by kernel_rfl : ((regOf Try.f12 25)[12]?).map spec = some ((Op.binOp BinOp.neq 4 (Operand.tmp 125) (Operand.tmp 126) 4), some 127, 4, some (9, false))), by kernel_rfl⟩ ha rfl) (by kernel_rfl) (fun _ => by kernel_rfl)).as (by simp)) (fun a ha => ?_)
  refine p_run [(13, 128, .bool false)] ha fun a ha => ?_
  refine p_end ?_
  replace ha := ha.as [(10, .bool false), (16, ptr b18 0), (20, iv (1 + 3 * (((fromP (toP l0) f arg fuel shared).2.2.1).length : Int))), (21, iv (1 + 3 * (((fromP (toP l0) f arg fuel shared).2.2.1).length : Int))), (128, .bool false)] rfl
  refine then_n ?_
  refine c_false ha rfl rfl ?_
  refine wp_skip ?_
  refine then_n ?_
  refine wp_seq ?_
  refine p_beginL [0] ?_
  refine p_run [(0, 21, iv 1)] ha fun a ha => ?_
  refine p_end ?_
  refine then_n ?_
  refine wp_seq ?_
  refine p_beginL [0, 1, 2, 3] ?_
  refine p_val ha (by decide) (v_loadW ha (iAt (op := (Op.load 54 (Operand.tmp 16))) (d := some 129) (ty := 54)) rfl (by kernel_rfl) (fun _ hw => by rw [hw]; exact hS.blk 7 rfl)) (fun a ha => ?_)
  refine p_run [(1, 130, iv 1)] ha fun a ha => ?_
  replace hS : Sat w0 w ((SX.row (.slice o2.A o2.n o2.c) 63 3 (encE (mkE ((fromP (toP l0) f arg fuel shared).2.2.1).length))) :: (SX.row (.slice o3.A o3.n o3.c) 63 3 (encE ((fromP (toP l0) f arg fuel shared).2.2.1))) :: (SX.row (.slice o1.A o1.n o1.c) 63 3 (encE ((fromP (toP l0) f arg fuel shared).2.2.1))) :: (SX.blk b38 [iv ((fromP (toP l0) f arg fuel shared).1), iv ((fromP (toP l0) f arg fuel shared).2.1), .slice o3.A o3.n o3.c, iv ((fromP (toP l0) f arg fuel shared).2.2.2.1)] 54) :: (prg w0.heap.size s4 (toP l0)) :: (prg w0.heap.size s2 (mkSS 1 (toP l0))) :: (prg w0.heap.size s3 (toP l0)) :: (SX.blk b18 [iv ((fromP (toP l0) f arg fuel shared).1), iv ((fromP (toP l0) f arg fuel shared).2.1), .slice o2.A o2.n o2.c, iv ((fromP (toP l0) f arg fuel shared).2.2.2.1)] 54) :: (SX.blk b14 [.slice s2.A s2.n s2.c] 31) :: (SX.blk b10 [iv ((fromP (toP l0) f arg fuel shared).1), iv ((fromP (toP l0) f arg fuel shared).2.1), .slice o1.A o1.n o1.c, iv ((fromP (toP l0) f arg fuel shared).2.2.2.1)] 54) :: (prg w0.heap.size s1 (toP l0)) :: (SX.blk b1 [.slice s0.A s0.n s0.c] 24) :: []) := hS.pickN 12 [4, 0, 1, 2, 3, 5, 6, 7, 8, 9, 10, 11] (by decide) rfl
  refine p_op (o_ret ha (by decide) (iAt (op := (Op.call { callee := (Callee.value (Operand.func 44)), args := #[(Operand.tmp 129), (Operand.tmp 130)], argTypes := #[54, 3] })) (d := some 131) (ty := 3)) rfl Try.func44 (by kernel_rfl) (heldO_sat hS (fromP_len ..)) fun v42 w a hp43 ha => ?_)
  obtain ⟨rfl, hS⟩ := hp43
  refine p_run [(3, 21, iv (1 + 3 * (((fromP (toP l0) f arg fuel shared).2.2.1).length : Int)))] ha fun a ha => ?_
  refine p_end ?_
  refine then_n ?_
  refine wp_seq ?_
  refine wp_seq ?_
  refine p_beginL [0, 1] ?_
  refine p_run [(0, 132, iv (1 + 3 * (((fromP (toP l0) f arg fuel shared).2.2.1).length : Int)))] ha fun a ha => ?_
  refine p_val (v := .bool false) ha (by decide) ((v_pure (v := .bool (decide (1 + 3 * (((fromP (toP l0) f arg fuel shared).2.2.1).length : Int) < 0))) ha (iAt (op := (Op.binOp BinOp.lss 3 (Operand.tmp 132) (Operand.const (Value.int IntKind.i64 0)) 3)) (d := some 133) (ty := 4)) (by kernel_rfl) (fun _ => by kernel_rfl)).as (by rw [decide_eq_false (by omega)])) (fun a ha => ?_)
  refine p_end ?_
  refine then_n ?_
  refine c_false ha rfl rfl ?_
  refine wp_skip ?_
  refine then_n ?_
  refine wp_seq ?_
  refine wp_seq ?_
  refine p_beginL [0, 1, 2] ?_
  refine p_run [(0, 134, iv (1 + 3 * (((fromP (toP l0) f arg fuel shared).2.2.1).length : Int))), (1, 135, iv (1 + 3 * (((fromP (toP l0) f arg fuel shared).2.2.1).length : Int)))] ha fun a ha => ?_
  refine p_val (v := .bool false) ha (by decide) ((v_pure (v := .bool (!(decide (1 + 3 * (((fromP (toP l0) f arg fuel shared).2.2.1).length : Int) = 1 + 3 * (((fromP (toP l0) f arg fuel shared).2.2.1).length : Int))))) ha (iAt (op := (Op.binOp BinOp.neq 3 (Operand.tmp 134) (Operand.tmp 135) 3)) (d := some 136) (ty := 4)) (by kernel_rfl) (fun _ => by kernel_rfl)).as (by simp)) (fun a ha => ?_)
  refine p_end ?_
  refine then_n ?_
  refine c_false ha rfl rfl ?_
  refine wp_skip ?_
  refine then_n ?_
  refine wp_seq ?_
  refine p_beginL [0] ?_
  refine p_run [(0, 10, .bool true)] ha fun a ha => ?_
  refine p_end ?_
  refine then_n ?_
  refine wp_ret ?_
  refine end_res1 ha (by kernel_rfl) (resT (t := 10) ha rfl) ?_
  exact ⟨rfl, hS.below⟩
end Go.Proofs.Ytdbbafepjgnmeaa.G
end
