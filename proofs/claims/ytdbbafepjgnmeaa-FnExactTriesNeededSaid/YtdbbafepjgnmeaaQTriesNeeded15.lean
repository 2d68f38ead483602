/- What the claim FnExactTriesNeeded rests on, part 15 of 19; the last part proves it: for every input the law answers true, and its arguments read behind the call as before it. No condition. -/
import Derived.Test.YtdbbafepjgnmeaaQTriesNeeded8
import Derived.Test.YtdbbafepjgnmeaaQTriesNeeded13
import Derived.Test.YtdbbafepjgnmeaaQTriesNeeded14
section
namespace Go.Proofs.Ytdbbafepjgnmeaa
namespace SX
open Go.RowKit
set_option linter.unusedVariables false
set_option linter.unusedSimpArgs false
theorem code86 : Try.f86.body = some (Code.seq (Code.region 0 (regOf Try.f86 0) false) (Code.seq (Code.region 1 (regOf Try.f86 1) false) Code.ret)) := by kernel_rfl
set_option maxRecDepth 20000 in
set_option maxHeartbeats 1000000 in
theorem q_wrap {w0 w : World} {Rs : List Asn} {x : Int} (hS : Sat w0 w Rs) (h0 : -65536 ≤ x) (h1 : x ≤ 65534) :
  Calls Try.prog 86 #[.int .i64 x] w (Ret fun r w' => r = .int .i64 (w16 x) ∧ Sat w0 w' Rs) := by
 refine enter (n := 10) Try.func86 code86 (by kernel_rfl) (Nat.le_of_ble_eq_true rfl) (fun a ha => ?_)
 replace ha : Has 10 [(0, iv x)] a := ha
 refine wp_seq ?_
 refine p_beginL [0] ?_
 refine p_run [(0, 2, iv 0)] ha fun a ha => ?_
 refine p_end ?_
 refine then_n ?_
 refine wp_seq ?_
 refine p_beginL [0, 1, 2, 3, 4, 5, 6, 7] ?_
 refine p_run [(0, 3, iv x)] ha fun a ha => ?_
 refine p_val (v := iv (x + 32767)) ha (by decide) ((v_pure (v := .int .i64 (IntKind.i64.wrap (x + 32767))) ha (iAt (op := (Op.binOp BinOp.add 3 (Operand.tmp 3) (Operand.const (Value.int IntKind.i64 32767)) 3)) (d := some 4) (ty := 3)) (by kernel_rfl) (fun _ => by kernel_rfl)).as (by rw [wrap_i64 (by omega) (by omega)])) (fun a ha => ?_)
 refine p_val (v := iv ((x + 32767) + 1)) ha (by decide) ((v_pure (v := .int .i64 (IntKind.i64.wrap ((x + 32767) + 1))) ha (iAt (op := (Op.binOp BinOp.add 3 (Operand.tmp 4) (Operand.const (Value.int IntKind.i64 1)) 3)) (d := some 5) (ty := 3)) (by kernel_rfl) (fun _ => by kernel_rfl)).as (by rw [wrap_i64 (by omega) (by omega)])) (fun a ha => ?_)
 refine p_val (v := iv (((x + 32767) + 1) + 131072)) ha (by decide) ((v_pure (v := .int .i64 (IntKind.i64.wrap (((x + 32767) + 1) + 131072))) ha (iAt (op := (Op.binOp BinOp.add 3 (Operand.tmp 5) (Operand.const (Value.int IntKind.i64 131072)) 3)) (d := some 6) (ty := 3)) (by kernel_rfl) (fun _ => by kernel_rfl)).as (by rw [wrap_i64 (by omega) (by omega)])) (fun a ha => ?_)
 refine p_val (v := iv ((((x + 32767) + 1) + 131072) % 65536)) ha (by decide) ((v_pure (v := .int .i64 (Int.tmod (((x + 32767) + 1) + 131072) 65536)) ha (iAt (op := (Op.binOp BinOp.rem 3 (Operand.tmp 6) (Operand.const (Value.int IntKind.i64 65536)) 3)) (d := some 7) (ty := 3)) (by kernel_rfl) (fun _ => by kernel_rfl)).as (by rw [Int.tmod_eq_emod_of_nonneg (by omega)])) (fun a ha => ?_)
 refine p_val (v := iv (((((x + 32767) + 1) + 131072) % 65536) - 32767)) ha (by decide) ((v_pure (v := .int .i64 (IntKind.i64.wrap (((((x + 32767) + 1) + 131072) % 65536) - 32767))) ha (iAt (op := (Op.binOp BinOp.sub 3 (Operand.tmp 7) (Operand.const (Value.int IntKind.i64 32767)) 3)) (d := some 8) (ty := 3)) (by kernel_rfl) (fun _ => by kernel_rfl)).as (by rw [wrap_i64 (by omega) (by omega)])) (fun a ha => ?_)
 refine p_val (v := iv ((((((x + 32767) + 1) + 131072) % 65536) - 32767) - 1)) ha (by decide) ((v_pure (v := .int .i64 (IntKind.i64.wrap ((((((x + 32767) + 1) + 131072) % 65536) - 32767) - 1))) ha (iAt (op := (Op.binOp BinOp.sub 3 (Operand.tmp 8) (Operand.const (Value.int IntKind.i64 1)) 3)) (d := some 9) (ty := 3)) (by kernel_rfl) (fun _ => by kernel_rfl)).as (by rw [wrap_i64 (by omega) (by omega)])) (fun a ha => ?_)
 refine p_run [(7, 2, iv ((((((x + 32767) + 1) + 131072) % 65536) - 32767) - 1))] ha fun a ha => ?_
 refine p_end ?_
 refine then_n ?_
 refine wp_ret ?_
 refine end_res1 ha (by kernel_rfl) (resT (t := 2) ha rfl) ?_
 exact ⟨congrArg (Value.int .i64) (by rw [w16_mod]; omega), hS⟩
theorem code104 : Try.f104.body = some (Code.seq (Code.region 0 (regOf Try.f104 0) false) (Code.seq (Code.seq (Code.region 1 (regOf Try.f104 1) false) (Code.cond (Operand.tmp 7) (Code.seq (Code.region 2 (regOf Try.f104 2) false) Code.ret) Code.skip)) (Code.seq (Code.region 3 (regOf Try.f104 3) false) Code.ret))) := by kernel_rfl
set_option maxRecDepth 20000 in
set_option maxHeartbeats 1000000 in
theorem q_most {w0 w : World} {Rs : List Asn} {x y : Int} (hS : Sat w0 w Rs) :
  Calls Try.prog 104 #[.int .i64 x, .int .i64 y] w (Ret fun r w' => r = .int .i64 (max x y) ∧ Sat w0 w' Rs) := by
 refine enter (n := 10) Try.func104 code104 (by kernel_rfl) (Nat.le_of_ble_eq_true rfl) (fun a ha => ?_)
 replace ha : Has 10 [(0, iv x), (1, iv y)] a := ha
 refine wp_seq ?_
 refine p_beginL [0] ?_
 refine p_run [(0, 4, iv 0)] ha fun a ha => ?_
 refine p_end ?_
 refine then_n ?_
 refine wp_seq ?_
 refine wp_seq ?_
 refine p_beginL [0, 1, 2] ?_
 refine p_run [(0, 5, iv x), (1, 6, iv y), (2, 7, .bool (decide (x > y)))] ha fun a ha => ?_
 refine p_end ?_
 refine then_n ?_
 by_cases c1 : x > y
 ·
  refine c_true ha rfl (decide_eq_true c1) ?_
  refine wp_seq ?_
  refine p_beginL [0, 1] ?_
  refine p_run [(0, 8, iv x), (1, 4, iv x)] ha fun a ha => ?_
  refine p_end ?_
  refine then_n ?_
  refine wp_ret ?_
  refine then_r ?_
  refine end_res1 ha (by kernel_rfl) (resT (t := 4) ha rfl) ?_
  exact ⟨congrArg (Value.int .i64) (by omega), hS⟩
 ·
  refine c_false ha rfl (decide_eq_false c1) ?_
  refine wp_skip ?_
  refine then_n ?_
  refine wp_seq ?_
  refine p_beginL [0, 1] ?_
  refine p_run [(0, 9, iv y), (1, 4, iv y)] ha fun a ha => ?_
  refine p_end ?_
  refine then_n ?_
  refine wp_ret ?_
  refine end_res1 ha (by kernel_rfl) (resT (t := 4) ha rfl) ?_
  exact ⟨congrArg (Value.int .i64) (by omega), hS⟩
theorem code105 : Try.f105.body = some (Code.seq (Code.region 0 (regOf Try.f105 0) false) (Code.seq (Code.region 1 (regOf Try.f105 1) false) (Code.seq (Code.region 2 (regOf Try.f105 2) false) Code.ret))) := by kernel_rfl
set_option maxRecDepth 20000 in
set_option maxHeartbeats 1000000 in
theorem q_tell {w0 w : World} {Rs : List Asn} {pv : Sl} {fuel : Int} (m : MQ) {tr se : Sl} {k f v : Int} (hS : Sat w0 w (rE tr m.trace :: Rs)) (hlen : m.trace.length ≤ 1000) :
  Calls Try.prog 105 #[mV pv fuel m tr se, .int .i64 k, .int .i64 f, .int .i64 v] w (Ret fun r w' => ∃ tr' : Sl, r = mV pv fuel (qTell m k f v) tr' se ∧ Sat w0 w' (rE tr' (m.trace ++ [(k, f, v)]) :: Rs)) := by
 replace hS : Sat w0 w ((rE tr m.trace) :: Rs) := hS
 refine enter (n := 19) Try.func105 code105 (by kernel_rfl) (Nat.le_of_ble_eq_true rfl) (fun a ha => ?_)
 replace ha : Has 19 [(0, (mG pv fuel m.spent m.shared m.made m.deep tr se)), (1, iv k), (2, iv f), (3, iv v)] a := ha
 refine wp_seq ?_
 refine p_beginL [0, 1] ?_
 refine p_op (o_new (cs := (mL pv fuel m.spent m.shared m.made m.deep tr se)) (T := 110) (fun b => .pointer (some ⟨b, 0, none⟩)) ha (by decide) (iAt (op := (Op.box 110 (Operand.tmp 0))) (d := some 4) (ty := 0)) (by kernel_rfl) hS (fun _ => by kernel_rfl) fun b1 w a hb2 hS ha => ?_)
 refine p_op (o_new (cs := (mL (⟨none, 0, 0⟩) 0 false 0 0 0 (⟨none, 0, 0⟩) (⟨none, 0, 0⟩))) (T := 110) (fun b => .pointer (some ⟨b, 0, none⟩)) ha (by decide) (iAt (op := (Op.alloc 110)) (d := some 8) (ty := 0)) (by kernel_rfl) hS (fun _ => by kernel_rfl) fun b3 w a hb4 hS ha => ?_)
 refine p_end ?_
 refine then_n ?_
 refine wp_seq ?_
 refine p_beginL [0, 1, 2, 3, 4, 5, 6, 7, 8, 9] ?_
 refine p_run [(0, 9, ptr b1 6)] ha fun a ha => ?_
 refine p_ld (d := 10) (b := b1) (j := 6) ha (hS.blk 1 rfl) rfl fun a ha => ?_
 refine p_run [(2, 11, iv k), (3, 12, iv f), (4, 13, iv v), (5, 14, .agg #[iv k, iv f, iv v])] ha fun a ha => ?_
 refine p_op (o_new (cs := [iv k, iv f, iv v]) (T := 63) (fun b => .slice (some ⟨b, 0, none⟩) 1 1) ha (by decide) (iAt (op := (Op.buildSlice 52 1 #[(0, (Operand.tmp 14))])) (d := some 15) (ty := 52)) (by kernel_rfl) hS (fun _ => by kernel_rfl) fun b5 w a hb6 hS ha => ?_)
 refine p_op (o_appE (news := [iv k, iv f, iv v]) (z := .agg #[iv 0, iv 0, iv 0]) (sz := 3) (bytes := 24) (T2 := 63) (xs' := encE (m.trace ++ [(k, f, v)])) 3 0 ha (by decide) (iAt (op := (Op.call { callee := (Callee.builtin Builtin.append), args := #[(Operand.tmp 10), (Operand.tmp 15)], argTypes := #[52, 52] })) (d := some 16) (ty := 52)) rfl rfl (by kernel_rfl) (by kernel_rfl) rfl (by decide) hS rfl rfl (by simp) rfl (by rw [encE_length]; simp only [List.length_cons, List.length_nil]; have := hlen; omega) (by decide) (encE_snoc _ _ _ _) fun s10 w a hS hn11 ha => ?_)
 refine p_run [(8, 17, ptr b1 6)] ha fun a ha => ?_
 refine p_op (o_st b1 6 (.slice s10.A s10.n s10.c) 2 ha hS rfl rfl fun w a hS ha => ?_)
 refine p_end ?_
 refine then_n ?_
 refine wp_seq ?_
 refine p_beginL [0, 1] ?_
 refine p_val ha (by decide) (v_loadW ha (iAt (op := (Op.load 110 (Operand.tmp 4))) (d := some 18) (ty := 110)) rfl (by kernel_rfl) (fun _ hw => by rw [hw]; exact hS.blk 2 rfl)) (fun a ha => ?_)
 refine p_op (o_storeAgg 1 ha (iAt (op := (Op.store 110 (Operand.tmp 8) (Operand.tmp 18))) (ty := 0)) rfl rfl rfl (by kernel_rfl) hS rfl (Nat.le_of_ble_eq_true rfl) rfl fun w a hS ha => ?_)
 refine p_end ?_
 refine then_n ?_
 refine wp_ret ?_
 refine end_res1 ha (by kernel_rfl) (resC (t := 8) (ty := 110) (i := 1) ha rfl hS rfl (by kernel_rfl)) ?_
 replace hS : Sat w0 w ((rE s10 (m.trace ++ [(k, f, v)])) :: Rs) := hS.pickN 4 [3] (by decide) rfl
 exact ⟨s10, rfl, hS⟩
theorem code117 : Try.f117.body = some (Code.seq (Code.region 0 (regOf Try.f117 0) false) (Code.seq (Code.seq (Code.region 1 (regOf Try.f117 1) false) (Code.block 0 (Code.seq (Code.region 2 (regOf Try.f117 2) false) (Code.cond (Operand.tmp 10) (Code.region 3 (regOf Try.f117 3) false) (Code.seq (Code.region 4 (regOf Try.f117 4) false) (Code.cond (Operand.tmp 18) (Code.region 5 (regOf Try.f117 5) true) (Code.seq (Code.region 6 (regOf Try.f117 6) false) (Code.cond (Operand.tmp 36) (Code.region 7 (regOf Try.f117 7) true) (Code.seq (Code.region 8 (regOf Try.f117 8) false) (Code.cond (Operand.tmp 47) (Code.seq (Code.region 9 (regOf Try.f117 9) false) (Code.cond (Operand.tmp 50) (Code.region 10 (regOf Try.f117 10) false) Code.skip)) (Code.seq (Code.region 11 (regOf Try.f117 11) false) (Code.cond (Operand.tmp 57) (Code.region 12 (regOf Try.f117 12) false) (Code.seq (Code.region 13 (regOf Try.f117 13) false) (Code.cond (Operand.tmp 65) (Code.region 14 (regOf Try.f117 14) false) (Code.seq (Code.region 15 (regOf Try.f117 15) false) (Code.cond (Operand.tmp 73) (Code.seq (Code.region 16 (regOf Try.f117 16) false) (Code.cond (Operand.tmp 81) (Code.seq (Code.region 17 (regOf Try.f117 17) false) (Code.seq (Code.region 18 (regOf Try.f117 18) false) (Code.seq (Code.region 19 (regOf Try.f117 19) false) (Code.region 20 (regOf Try.f117 20) false)))) (Code.seq (Code.region 21 (regOf Try.f117 21) false) (Code.region 22 (regOf Try.f117 22) false)))) Code.skip)))))))))))))))) (Code.seq (Code.region 23 (regOf Try.f117 23) true) Code.ret))) := by kernel_rfl
set_option maxRecDepth 20000 in
set_option maxHeartbeats 1000000 in
theorem q_simple {w0 w : World} {Rs : List Asn} {pv : Sl} {fuel : Int} (m : MQ) (c : FQ) (z : Stp) {tr se df : Sl} {n : Nat} (hS : Sat w0 w (rE tr m.trace :: Rs)) (hlen : m.trace.length ≤ 1000) (hs : StpOk n z) (h4 : ¬ z.k = 4) (h5 : ¬ z.k = 5) (h10 : ¬ z.k = 10) (h11 : ¬ z.k = 11) (hk : OkC n c) :
  Calls Try.prog 117 #[mV pv fuel m tr se, cV c df, .agg #[.int .i64 z.k, .int .i64 z.a, .int .i64 z.b]] w (Ret fun r w' => ∃ tr' : Sl, r = .tuple #[mV pv fuel (qSimple m c z).1 tr' se, cV (qSimple m c z).2 df] ∧ Sat w0 w' (rE tr' (qSimple m c z).1.trace :: Rs)) := by
 replace hS : Sat w0 w ((rE tr m.trace) :: Rs) := hS
 have ha0 := hk.get z.a
 have hb0 := hk.get z.b
 have ha1 := ha0.lo
 have ha2 := ha0.hi
 have hb1 := hb0.lo
 have hb2 := hb0.hi
 simp only [FQ.get] at ha1 ha2 hb1 hb2
 refine enter (n := 105) Try.func117 code117 (by kernel_rfl) (Nat.le_of_ble_eq_true rfl) (fun a ha => ?_)
 replace ha : Has 105 [(0, (mG pv fuel m.spent m.shared m.made m.deep tr se)), (1, (cG c.f c.depth c.r0 c.r1 c.r2 c.r3 df c.kind c.value c.leaving c.deferred c.panicking c.panic c.recovered c.outer)), (2, .agg #[iv z.k, iv z.a, iv z.b])] a := ha
 refine wp_seq ?_
 refine p_beginL [0, 1, 2, 3, 4] ?_
 refine p_op (o_new (cs := (mL pv fuel m.spent m.shared m.made m.deep tr se)) (T := 110) (fun b => .pointer (some ⟨b, 0, none⟩)) ha (by decide) (iAt (op := (Op.box 110 (Operand.tmp 0))) (d := some 3) (ty := 0)) (by kernel_rfl) hS (fun _ => by kernel_rfl) fun b1 w a hb2 hS ha => ?_)
 refine p_op (o_new (cs := (cL c.f c.depth c.r0 c.r1 c.r2 c.r3 df c.kind c.value c.leaving c.deferred c.panicking c.panic c.recovered c.outer)) (T := 113) (fun b => .pointer (some ⟨b, 0, none⟩)) ha (by decide) (iAt (op := (Op.box 113 (Operand.tmp 1))) (d := some 4) (ty := 0)) (by kernel_rfl) hS (fun _ => by kernel_rfl) fun b3 w a hb4 hS ha => ?_)
 refine p_op (o_new (cs := [iv z.k, iv z.a, iv z.b]) (T := 144) (fun b => .pointer (some ⟨b, 0, none⟩)) ha (by decide) (iAt (op := (Op.box 144 (Operand.tmp 2))) (d := some 5) (ty := 0)) (by kernel_rfl) hS (fun _ => by kernel_rfl) fun b5 w a hb6 hS ha => ?_)
 refine p_op (o_new (cs := (mL (⟨none, 0, 0⟩) 0 false 0 0 0 (⟨none, 0, 0⟩) (⟨none, 0, 0⟩))) (T := 110) (fun b => .pointer (some ⟨b, 0, none⟩)) ha (by decide) (iAt (op := (Op.alloc 110)) (d := some 6) (ty := 0)) (by kernel_rfl) hS (fun _ => by kernel_rfl) fun b7 w a hb8 hS ha => ?_)
 refine p_op (o_new (cs := (cL 0 0 0 0 0 0 (⟨none, 0, 0⟩) 0 0 false false false 0 false 0)) (T := 113) (fun b => .pointer (some ⟨b, 0, none⟩)) ha (by decide) (iAt (op := (Op.alloc 113)) (d := some 7) (ty := 0)) (by kernel_rfl) hS (fun _ => by kernel_rfl) fun b9 w a hb10 hS ha => ?_)
 refine p_end ?_
 refine then_n ?_
 refine wp_seq ?_
 refine wp_seq ?_
 refine p_beginL [0, 1] ?_
 refine p_run [(0, 8, ptr b5 0)] ha fun a ha => ?_
 refine p_ld (d := 9) (b := b5) (j := 0) ha (hS.blk 2 rfl) rfl fun a ha => ?_
 refine p_end ?_
 refine then_n ?_
 refine wp_block ?_
 refine wp_seq ?_
 refine p_beginL [0, 1] ?_
 refine p_run [(0, 11, .bool (decide (z.k = 1))), (1, 10, .bool (decide (z.k = 1)))] ha fun a ha => ?_
 refine p_end ?_
 refine then_n ?_
 by_cases c11 : z.k = 1
 ·
  refine c_true ha rfl (decide_eq_true c11) ?_
  refine p_beginL [0, 1, 2, 3, 4, 5, 6] ?_
  refine p_run [(0, 12, ptr b5 1)] ha fun a ha => ?_
  refine p_ld (d := 13) (b := b5) (j := 1) ha (hS.blk 2 rfl) rfl fun a ha => ?_
  refine p_run [(2, 14, ptr b5 2)] ha fun a ha => ?_
  refine p_ld (d := 15) (b := b5) (j := 2) ha (hS.blk 2 rfl) rfl fun a ha => ?_
  refine p_run [(4, 16, ptr b3 2)] ha fun a ha => ?_
  refine p_val (v := .pointer (some ⟨b3, 2 + (z.a : Int).toNat * 1, none⟩)) ha (by decide) (v_indexA (len := 4) (el := 3) (sz := 1) ha (iAt (op := (Op.indexAddr 111 (Operand.tmp 16) (Operand.tmp 13))) (d := some 17) (ty := 0)) rfl rfl (by kernel_rfl) (by kernel_rfl) (by have := (reg4 (hs.a (by omega) (by omega) (by omega) (by omega))); omega) (by have := (reg4 (hs.a (by omega) (by omega) (by omega) (by omega))); omega)) (fun a ha => ?_)
  refine p_op (o_store (cs := [iv c.f, iv c.depth, iv c.r0, iv c.r1, iv c.r2, iv c.r3, .slice df.A df.n df.c, iv c.kind, iv c.value, .bool c.leaving, .bool c.deferred, .bool c.panicking, iv c.panic, .bool c.recovered, iv c.outer]) (cs' := [iv c.f, iv c.depth, iv (u4 c.r0 z.b 0 z.a), iv (u4 c.r1 z.b 1 z.a), iv (u4 c.r2 z.b 2 z.a), iv (u4 c.r3 z.b 3 z.a), .slice df.A df.n df.c, iv c.kind, iv c.value, .bool c.leaving, .bool c.deferred, .bool c.panicking, iv c.panic, .bool c.recovered, iv c.outer]) 3 ha (iAt (op := (Op.store 3 (Operand.tmp 17) (Operand.tmp 15))) (ty := 0)) rfl rfl rfl (by kernel_rfl) hS rfl (by have := (reg4 (hs.a (by omega) (by omega) (by omega) (by omega))); simp; omega) (by rcases (reg4 (hs.a (by omega) (by omega) (by omega) (by omega))) with h | h | h | h <;> simp [h, u4]) (fun w a (hS : Sat w0 w ((SX.blk b9 (cL 0 0 0 0 0 0 (⟨none, 0, 0⟩) 0 0 false false false 0 false 0) 113) :: (SX.blk b7 (mL (⟨none, 0, 0⟩) 0 false 0 0 0 (⟨none, 0, 0⟩) (⟨none, 0, 0⟩)) 110) :: (SX.blk b5 [iv z.k, iv z.a, iv z.b] 144) :: (SX.blk b3 (cL c.f c.depth (u4 c.r0 z.b 0 z.a) (u4 c.r1 z.b 1 z.a) (u4 c.r2 z.b 2 z.a) (u4 c.r3 z.b 3 z.a) df c.kind c.value c.leaving c.deferred c.panicking c.panic c.recovered c.outer) 113) :: (SX.blk b1 (mL pv fuel m.spent m.shared m.made m.deep tr se) 110) :: (rE tr m.trace) :: Rs)) ha => ?_))
  refine p_end ?_
  refine in_n ?_
  refine then_n ?_
  refine wp_seq ?_
  refine d_startP 3 4 (hS.pickN 6 [0, 2, 3, 4] (by decide) rfl) hS fun w hS => ?_
  refine d_val (i := 0) ha (by decide) (v_loadW ha (iAt (op := (Op.load 110 (Operand.tmp 3))) (d := some 103) (ty := 110)) rfl (by kernel_rfl) (fun _ hw => hw.blk 3 rfl)) (hS.pickN 6 [0, 2, 3, 4] (by decide) rfl) (by kernel_rfl) (by kernel_rfl) (pk_then (pk_body)) fun a ha => ?_
  refine d_val (i := 1) ha (by decide) (v_loadW ha (iAt (op := (Op.load 113 (Operand.tmp 4))) (d := some 104) (ty := 113)) rfl (by kernel_rfl) (fun _ hw => hw.blk 2 rfl)) (hS.pickN 6 [0, 2, 3, 4] (by decide) rfl) (by kernel_rfl) (by kernel_rfl) (pk_then (pk_body)) fun a ha => ?_
  refine d_one (i := 2) (by kernel_rfl) (o_storeAgg 1 ha (iAt (op := (Op.store 110 (Operand.tmp 6) (Operand.tmp 103))) (ty := 0)) rfl rfl rfl (by kernel_rfl) hS rfl (Nat.le_of_ble_eq_true rfl) rfl fun w a hS ha => ?_)
  refine ⟨.inr (hS.pickN 6 [0, 2, 3, 4] (by decide) rfl), ?_⟩
  refine d_one (i := 3) (by kernel_rfl) (o_storeAgg 0 ha (iAt (op := (Op.store 113 (Operand.tmp 7) (Operand.tmp 104))) (ty := 0)) rfl rfl rfl (by kernel_rfl) hS rfl (Nat.le_of_ble_eq_true rfl) rfl fun w a hS ha => ?_)
  refine ⟨.inl (by kernel_rfl), ?_⟩
  refine d_end (by kernel_rfl) ?_ _
  refine then_n ?_
  refine wp_ret ?_
  refine end_res2 ha (by kernel_rfl) (resC (t := 6) (ty := 110) (i := 1) ha rfl hS rfl (by kernel_rfl)) (resC (t := 7) (ty := 113) (i := 0) ha rfl hS rfl (by kernel_rfl)) ?_
  have hE : qSimple m c z = (m, (⟨c.f, c.depth, u4 c.r0 z.b 0 z.a, u4 c.r1 z.b 1 z.a, u4 c.r2 z.b 2 z.a, u4 c.r3 z.b 3 z.a, c.defers, c.kind, c.value, c.leaving, c.deferred, c.panicking, c.panic, c.recovered, c.outer⟩ : FQ)) := by (unfold qSimple; simp only [c11, FQ.get, FQ.set, if_true, if_false, Bool.and_eq_true, Bool.not_eq_true', Bool.true_and, Bool.not_false, Bool.not_true, Bool.and_false, Bool.false_and, Bool.false_eq_true, reduceCtorEq]) <;> rfl
  rw [hE]
  replace hS : Sat w0 w ((rE tr m.trace) :: Rs) := hS.pickN 6 [5] (by decide) rfl
  exact ⟨tr, rfl, hS⟩
 ·
  refine c_false ha rfl (decide_eq_false c11) ?_
  refine wp_seq ?_
  refine p_beginL [0, 1] ?_
  refine p_run [(0, 19, .bool (decide (z.k = 2))), (1, 18, .bool (decide (z.k = 2)))] ha fun a ha => ?_
  refine p_end ?_
  refine then_n ?_
  by_cases c12 : z.k = 2
  ·
   refine c_true ha rfl (decide_eq_true c12) ?_
   refine d_startP 16 17 (hS.pickN 6 [0, 1, 2, 3, 4] (by decide) rfl) hS fun w hS => ?_
   refine d_run (k := 16) [(0, 20, ptr b5 1)] ha (.inr (hS.pickN 6 [0, 1, 2, 3, 4] (by decide) rfl)) (pk_in (pk_then (pk_body))) fun a ha => ?_
   refine d_ld 1 (d := 21) (b := b5) (j := 1) ha (hS.pickN 6 [0, 1, 2, 3, 4] (by decide) rfl) (pk_in (pk_then (pk_body))) (fun _ hw => hw.blk 2 rfl) rfl fun a ha => ?_
   refine d_run (k := 14) [(2, 22, ptr b5 1)] ha (.inr (hS.pickN 6 [0, 1, 2, 3, 4] (by decide) rfl)) (pk_in (pk_then (pk_body))) fun a ha => ?_
   refine d_ld 3 (d := 23) (b := b5) (j := 1) ha (hS.pickN 6 [0, 1, 2, 3, 4] (by decide) rfl) (pk_in (pk_then (pk_body))) (fun _ hw => hw.blk 2 rfl) rfl fun a ha => ?_
   refine d_run (k := 12) [(4, 24, ptr b3 2)] ha (.inr (hS.pickN 6 [0, 1, 2, 3, 4] (by decide) rfl)) (pk_in (pk_then (pk_body))) fun a ha => ?_
   refine d_pure (i := 5) (v := .pointer (some ⟨b3, 2 + (z.a : Int).toNat * 1, none⟩)) ha (by decide) (v_indexA (len := 4) (el := 3) (sz := 1) ha (iAt (op := (Op.indexAddr 111 (Operand.tmp 24) (Operand.tmp 23))) (d := some 25) (ty := 0)) rfl rfl (by kernel_rfl) (by kernel_rfl) (by have := (reg4 (hs.a (by omega) (by omega) (by omega) (by omega))); omega) (by have := (reg4 (hs.a (by omega) (by omega) (by omega) (by omega))); omega)) (.inr (hS.pickN 6 [0, 1, 2, 3, 4] (by decide) rfl)) (by kernel_rfl) (by kernel_rfl) (pk_in (pk_then (pk_body))) fun a ha => ?_
   refine d_val (i := 6) (v := iv (g4 c.r0 c.r1 c.r2 c.r3 z.a)) ha (by decide) (v_load (v := iv (g4 c.r0 c.r1 c.r2 c.r3 z.a)) (cs := [iv c.f, iv c.depth, iv c.r0, iv c.r1, iv c.r2, iv c.r3, .slice df.A df.n df.c, iv c.kind, iv c.value, .bool c.leaving, .bool c.deferred, .bool c.panicking, iv c.panic, .bool c.recovered, iv c.outer]) (T := 113) ha (iAt (op := (Op.load 3 (Operand.tmp 25))) (d := some 26) (ty := 3)) rfl (by kernel_rfl) (fun _ hw => hw.blk 3 rfl) (by rcases (reg4 (hs.a (by omega) (by omega) (by omega) (by omega))) with h | h | h | h <;> simp [h, g4])) (hS.pickN 6 [0, 1, 2, 3, 4] (by decide) rfl) (by kernel_rfl) (by kernel_rfl) (pk_in (pk_then (pk_body))) fun a ha => ?_
   refine d_run (k := 9) [(7, 27, ptr b5 2)] ha (.inr (hS.pickN 6 [0, 1, 2, 3, 4] (by decide) rfl)) (pk_in (pk_then (pk_body))) fun a ha => ?_
   refine d_ld 8 (d := 28) (b := b5) (j := 2) ha (hS.pickN 6 [0, 1, 2, 3, 4] (by decide) rfl) (pk_in (pk_then (pk_body))) (fun _ hw => hw.blk 2 rfl) rfl fun a ha => ?_
   refine d_run (k := 7) [(9, 29, ptr b3 2)] ha (.inr (hS.pickN 6 [0, 1, 2, 3, 4] (by decide) rfl)) (pk_in (pk_then (pk_body))) fun a ha => ?_
   refine d_pure (i := 10) (v := .pointer (some ⟨b3, 2 + (z.b : Int).toNat * 1, none⟩)) ha (by decide) (v_indexA (len := 4) (el := 3) (sz := 1) ha (iAt (op := (Op.indexAddr 111 (Operand.tmp 29) (Operand.tmp 28))) (d := some 30) (ty := 0)) rfl rfl (by kernel_rfl) (by kernel_rfl) (by have := (reg4 (hs.b (by omega))); omega) (by have := (reg4 (hs.b (by omega))); omega)) (.inr (hS.pickN 6 [0, 1, 2, 3, 4] (by decide) rfl)) (by kernel_rfl) (by kernel_rfl) (pk_in (pk_then (pk_body))) fun a ha => ?_
   refine d_val (i := 11) (v := iv (g4 c.r0 c.r1 c.r2 c.r3 z.b)) ha (by decide) (v_load (v := iv (g4 c.r0 c.r1 c.r2 c.r3 z.b)) (cs := [iv c.f, iv c.depth, iv c.r0, iv c.r1, iv c.r2, iv c.r3, .slice df.A df.n df.c, iv c.kind, iv c.value, .bool c.leaving, .bool c.deferred, .bool c.panicking, iv c.panic, .bool c.recovered, iv c.outer]) (T := 113) ha (iAt (op := (Op.load 3 (Operand.tmp 30))) (d := some 31) (ty := 3)) rfl (by kernel_rfl) (fun _ hw => hw.blk 3 rfl) (by rcases (reg4 (hs.b (by omega))) with h | h | h | h <;> simp [h, g4])) (hS.pickN 6 [0, 1, 2, 3, 4] (by decide) rfl) (by kernel_rfl) (by kernel_rfl) (pk_in (pk_then (pk_body))) fun a ha => ?_
   refine d_pure (i := 12) (v := iv ((g4 c.r0 c.r1 c.r2 c.r3 z.a) + (g4 c.r0 c.r1 c.r2 c.r3 z.b))) ha (by decide) ((v_pure (v := .int .i64 (IntKind.i64.wrap ((g4 c.r0 c.r1 c.r2 c.r3 z.a) + (g4 c.r0 c.r1 c.r2 c.r3 z.b)))) ha (iAt (op := (Op.binOp BinOp.add 3 (Operand.tmp 26) (Operand.tmp 31) 3)) (d := some 32) (ty := 3)) (by kernel_rfl) (fun _ => by kernel_rfl)).as (by rw [wrap_i64 (by omega) (by omega)])) (.inr (hS.pickN 6 [0, 1, 2, 3, 4] (by decide) rfl)) (by kernel_rfl) (by kernel_rfl) (pk_in (pk_then (pk_body))) fun a ha => ?_
   refine d_run (k := 3) [(14, 34, ptr b3 2)] ha (.inr (hS.pickN 6 [0, 1, 2, 3, 4] (by decide) rfl)) (pk_in (pk_then (pk_body))) fun a ha => ?_
   refine d_one (i := 13) (by kernel_rfl) (o_ret ha (by decide) (iAt (op := (Op.call { callee := (Callee.value (Operand.func 86)), args := #[(Operand.tmp 32)], argTypes := #[3] })) (d := some 33) (ty := 3)) rfl Try.func86 (by kernel_rfl) (q_wrap hS (by have := (hk.get z.a).lo; have := (hk.get z.b).lo; simp only [FQ.get] at *; omega) (by have := (hk.get z.a).hi; have := (hk.get z.b).hi; simp only [FQ.get] at *; omega)) fun v13 w a hp14 ha => ?_)
   obtain ⟨rfl, hS⟩ := hp14
   refine ⟨.inr (hS.pickN 6 [0, 1, 2, 3, 4] (by decide) rfl), ?_⟩
   refine d_pure (i := 15) (v := .pointer (some ⟨b3, 2 + (z.a : Int).toNat * 1, none⟩)) ha (by decide) (v_indexA (len := 4) (el := 3) (sz := 1) ha (iAt (op := (Op.indexAddr 111 (Operand.tmp 34) (Operand.tmp 21))) (d := some 35) (ty := 0)) rfl rfl (by kernel_rfl) (by kernel_rfl) (by have := (reg4 (hs.a (by omega) (by omega) (by omega) (by omega))); omega) (by have := (reg4 (hs.a (by omega) (by omega) (by omega) (by omega))); omega)) (.inr (hS.pickN 6 [0, 1, 2, 3, 4] (by decide) rfl)) (by kernel_rfl) (by kernel_rfl) (pk_in (pk_then (pk_body))) fun a ha => ?_
   refine d_one (i := 16) (by kernel_rfl) (o_store (cs := [iv c.f, iv c.depth, iv c.r0, iv c.r1, iv c.r2, iv c.r3, .slice df.A df.n df.c, iv c.kind, iv c.value, .bool c.leaving, .bool c.deferred, .bool c.panicking, iv c.panic, .bool c.recovered, iv c.outer]) (cs' := [iv c.f, iv c.depth, iv (u4 c.r0 (w16 ((g4 c.r0 c.r1 c.r2 c.r3 z.a) + (g4 c.r0 c.r1 c.r2 c.r3 z.b))) 0 z.a), iv (u4 c.r1 (w16 ((g4 c.r0 c.r1 c.r2 c.r3 z.a) + (g4 c.r0 c.r1 c.r2 c.r3 z.b))) 1 z.a), iv (u4 c.r2 (w16 ((g4 c.r0 c.r1 c.r2 c.r3 z.a) + (g4 c.r0 c.r1 c.r2 c.r3 z.b))) 2 z.a), iv (u4 c.r3 (w16 ((g4 c.r0 c.r1 c.r2 c.r3 z.a) + (g4 c.r0 c.r1 c.r2 c.r3 z.b))) 3 z.a), .slice df.A df.n df.c, iv c.kind, iv c.value, .bool c.leaving, .bool c.deferred, .bool c.panicking, iv c.panic, .bool c.recovered, iv c.outer]) 3 ha (iAt (op := (Op.store 3 (Operand.tmp 35) (Operand.tmp 33))) (ty := 0)) rfl rfl rfl (by kernel_rfl) hS rfl (by have := (reg4 (hs.a (by omega) (by omega) (by omega) (by omega))); simp; omega) (by rcases (reg4 (hs.a (by omega) (by omega) (by omega) (by omega))) with h | h | h | h <;> simp [h, u4]) (fun w a (hS : Sat w0 w ((SX.blk b9 (cL 0 0 0 0 0 0 (⟨none, 0, 0⟩) 0 0 false false false 0 false 0) 113) :: (SX.blk b7 (mL (⟨none, 0, 0⟩) 0 false 0 0 0 (⟨none, 0, 0⟩) (⟨none, 0, 0⟩)) 110) :: (SX.blk b5 [iv z.k, iv z.a, iv z.b] 144) :: (SX.blk b3 (cL c.f c.depth (u4 c.r0 (w16 ((g4 c.r0 c.r1 c.r2 c.r3 z.a) + (g4 c.r0 c.r1 c.r2 c.r3 z.b))) 0 z.a) (u4 c.r1 (w16 ((g4 c.r0 c.r1 c.r2 c.r3 z.a) + (g4 c.r0 c.r1 c.r2 c.r3 z.b))) 1 z.a) (u4 c.r2 (w16 ((g4 c.r0 c.r1 c.r2 c.r3 z.a) + (g4 c.r0 c.r1 c.r2 c.r3 z.b))) 2 z.a) (u4 c.r3 (w16 ((g4 c.r0 c.r1 c.r2 c.r3 z.a) + (g4 c.r0 c.r1 c.r2 c.r3 z.b))) 3 z.a) df c.kind c.value c.leaving c.deferred c.panicking c.panic c.recovered c.outer) 113) :: (SX.blk b1 (mL pv fuel m.spent m.shared m.made m.deep tr se) 110) :: (rE tr m.trace) :: Rs)) ha => ?_))
   refine ⟨.inl (by kernel_rfl), ?_⟩
   refine d_end (by kernel_rfl) ?_ _
   replace ha := ha.as [(3, ptr b1 0), (4, ptr b3 0), (6, ptr b7 0), (7, ptr b9 0)] rfl
   refine in_n ?_
   refine then_n ?_
   refine wp_seq ?_
   refine d_startP 3 4 (hS.pickN 6 [0, 2, 3, 4] (by decide) rfl) hS fun w hS => ?_
   refine d_val (i := 0) ha (by decide) (v_loadW ha (iAt (op := (Op.load 110 (Operand.tmp 3))) (d := some 103) (ty := 110)) rfl (by kernel_rfl) (fun _ hw => hw.blk 3 rfl)) (hS.pickN 6 [0, 2, 3, 4] (by decide) rfl) (by kernel_rfl) (by kernel_rfl) (pk_then (pk_body)) fun a ha => ?_
   refine d_val (i := 1) ha (by decide) (v_loadW ha (iAt (op := (Op.load 113 (Operand.tmp 4))) (d := some 104) (ty := 113)) rfl (by kernel_rfl) (fun _ hw => hw.blk 2 rfl)) (hS.pickN 6 [0, 2, 3, 4] (by decide) rfl) (by kernel_rfl) (by kernel_rfl) (pk_then (pk_body)) fun a ha => ?_
   refine d_one (i := 2) (by kernel_rfl) (o_storeAgg 1 ha (iAt (op := (Op.store 110 (Operand.tmp 6) (Operand.tmp 103))) (ty := 0)) rfl rfl rfl (by kernel_rfl) hS rfl (Nat.le_of_ble_eq_true rfl) rfl fun w a hS ha => ?_)
   refine ⟨.inr (hS.pickN 6 [0, 2, 3, 4] (by decide) rfl), ?_⟩
   refine d_one (i := 3) (by kernel_rfl) (o_storeAgg 0 ha (iAt (op := (Op.store 113 (Operand.tmp 7) (Operand.tmp 104))) (ty := 0)) rfl rfl rfl (by kernel_rfl) hS rfl (Nat.le_of_ble_eq_true rfl) rfl fun w a hS ha => ?_)
   refine ⟨.inl (by kernel_rfl), ?_⟩
   refine d_end (by kernel_rfl) ?_ _
   refine then_n ?_
   refine wp_ret ?_
   refine end_res2 ha (by kernel_rfl) (resC (t := 6) (ty := 110) (i := 1) ha rfl hS rfl (by kernel_rfl)) (resC (t := 7) (ty := 113) (i := 0) ha rfl hS rfl (by kernel_rfl)) ?_
   have hE : qSimple m c z = (m, (⟨c.f, c.depth, u4 c.r0 (w16 ((g4 c.r0 c.r1 c.r2 c.r3 z.a) + (g4 c.r0 c.r1 c.r2 c.r3 z.b))) 0 z.a, u4 c.r1 (w16 ((g4 c.r0 c.r1 c.r2 c.r3 z.a) + (g4 c.r0 c.r1 c.r2 c.r3 z.b))) 1 z.a, u4 c.r2 (w16 ((g4 c.r0 c.r1 c.r2 c.r3 z.a) + (g4 c.r0 c.r1 c.r2 c.r3 z.b))) 2 z.a, u4 c.r3 (w16 ((g4 c.r0 c.r1 c.r2 c.r3 z.a) + (g4 c.r0 c.r1 c.r2 c.r3 z.b))) 3 z.a, c.defers, c.kind, c.value, c.leaving, c.deferred, c.panicking, c.panic, c.recovered, c.outer⟩ : FQ)) := by (unfold qSimple; simp only [c11, c12, FQ.get, FQ.set, if_true, if_false, Bool.and_eq_true, Bool.not_eq_true', Bool.true_and, Bool.not_false, Bool.not_true, Bool.and_false, Bool.false_and, Bool.false_eq_true, reduceCtorEq]) <;> rfl
   rw [hE]
   replace hS : Sat w0 w ((rE tr m.trace) :: Rs) := hS.pickN 6 [5] (by decide) rfl
   exact ⟨tr, rfl, hS⟩
  ·
   refine c_false ha rfl (decide_eq_false c12) ?_
   refine wp_seq ?_
   refine p_beginL [0, 1] ?_
   refine p_run [(0, 37, .bool (decide (z.k = 3))), (1, 36, .bool (decide (z.k = 3)))] ha fun a ha => ?_
   refine p_end ?_
   refine then_n ?_
   by_cases c15 : z.k = 3
   ·
    refine c_true ha rfl (decide_eq_true c15) ?_
    refine d_start 8 10 hS fun w hS => ?_
    refine d_val (i := 0) ha (by decide) (v_loadW ha (iAt (op := (Op.load 110 (Operand.tmp 3))) (d := some 38) (ty := 110)) rfl (by kernel_rfl) (fun _ hw => hw.blk 4 rfl)) hS (by kernel_rfl) (by kernel_rfl) (pk_in (pk_then (pk_body))) fun a ha => ?_
    refine d_run (k := 8) [(1, 39, ptr b3 0)] ha (.inr hS) (pk_in (pk_then (pk_body))) fun a ha => ?_
    refine d_ld 2 (d := 40) (b := b3) (j := 0) ha hS (pk_in (pk_then (pk_body))) (fun _ hw => hw.blk 3 rfl) rfl fun a ha => ?_
    refine d_run (k := 6) [(3, 41, ptr b5 1)] ha (.inr hS) (pk_in (pk_then (pk_body))) fun a ha => ?_
    refine d_ldN 4 (d := 42) (b := b5) (j := 1) ha hS (pk_in (pk_then (pk_body))) (fun _ hw => hw.blk 2 rfl) rfl fun a ha => ?_
    refine d_run (k := 4) [(5, 43, ptr b3 2)] ha (.inr hS) (pk_in (pk_then (pk_body))) fun a ha => ?_
    refine d_pure (i := 6) (v := .pointer (some ⟨b3, 2 + (z.a : Int).toNat * 1, none⟩)) ha (by decide) (v_indexA (len := 4) (el := 3) (sz := 1) ha (iAt (op := (Op.indexAddr 111 (Operand.tmp 43) (Operand.tmp 42))) (d := some 44) (ty := 0)) rfl rfl (by kernel_rfl) (by kernel_rfl) (by have := (reg4 (hs.a (by omega) (by omega) (by omega) (by omega))); omega) (by have := (reg4 (hs.a (by omega) (by omega) (by omega) (by omega))); omega)) (.inr hS) (by kernel_rfl) (by kernel_rfl) (pk_in (pk_then (pk_body))) fun a ha => ?_
    refine d_val (i := 7) (v := iv (g4 c.r0 c.r1 c.r2 c.r3 z.a)) ha (by decide) (v_load (v := iv (g4 c.r0 c.r1 c.r2 c.r3 z.a)) (cs := [iv c.f, iv c.depth, iv c.r0, iv c.r1, iv c.r2, iv c.r3, .slice df.A df.n df.c, iv c.kind, iv c.value, .bool c.leaving, .bool c.deferred, .bool c.panicking, iv c.panic, .bool c.recovered, iv c.outer]) (T := 113) ha (iAt (op := (Op.load 3 (Operand.tmp 44))) (d := some 45) (ty := 3)) rfl (by kernel_rfl) (fun _ hw => hw.blk 3 rfl) (by rcases (reg4 (hs.a (by omega) (by omega) (by omega) (by omega))) with h | h | h | h <;> simp [h, g4])) hS (by kernel_rfl) (by kernel_rfl) (pk_in (pk_then (pk_body))) fun a ha => ?_
    refine d_one (i := 8) (by kernel_rfl) (o_ret ha (by decide) (iAt (op := (Op.call { callee := (Callee.value (Operand.func 105)), args := #[(Operand.tmp 38), (Operand.const (Value.int IntKind.i64 4)), (Operand.tmp 40), (Operand.tmp 45)], argTypes := #[110, 3, 3, 3] })) (d := some 46) (ty := 110)) rfl Try.func105 (by kernel_rfl) (q_tell m (hS.pickN 6 [5, 0, 1, 2, 3, 4] (by decide) rfl) (by exact hlen)) fun v17 w a hp18 ha => ?_)
    obtain ⟨s16, rfl, hS⟩ := hp18
    refine ⟨.inl (by kernel_rfl), ?_⟩
    refine d_one (i := 9) (by kernel_rfl) (o_storeAgg 5 ha (iAt (op := (Op.store 110 (Operand.tmp 3) (Operand.tmp 46))) (ty := 0)) rfl rfl rfl (by kernel_rfl) hS rfl (Nat.le_of_ble_eq_true rfl) rfl fun w a hS ha => ?_)
    refine ⟨.inl (by kernel_rfl), ?_⟩
    refine d_end (by kernel_rfl) ?_ _
    replace ha := ha.as [(3, ptr b1 0), (4, ptr b3 0), (6, ptr b7 0), (7, ptr b9 0)] rfl
    refine in_n ?_
    refine then_n ?_
    refine wp_seq ?_
    refine d_startP 3 4 (hS.pickN 6 [1, 3, 4, 5] (by decide) rfl) hS fun w hS => ?_
    refine d_val (i := 0) ha (by decide) (v_loadW ha (iAt (op := (Op.load 110 (Operand.tmp 3))) (d := some 103) (ty := 110)) rfl (by kernel_rfl) (fun _ hw => hw.blk 3 rfl)) (hS.pickN 6 [1, 3, 4, 5] (by decide) rfl) (by kernel_rfl) (by kernel_rfl) (pk_then (pk_body)) fun a ha => ?_
    refine d_val (i := 1) ha (by decide) (v_loadW ha (iAt (op := (Op.load 113 (Operand.tmp 4))) (d := some 104) (ty := 113)) rfl (by kernel_rfl) (fun _ hw => hw.blk 2 rfl)) (hS.pickN 6 [1, 3, 4, 5] (by decide) rfl) (by kernel_rfl) (by kernel_rfl) (pk_then (pk_body)) fun a ha => ?_
    refine d_one (i := 2) (by kernel_rfl) (o_storeAgg 2 ha (iAt (op := (Op.store 110 (Operand.tmp 6) (Operand.tmp 103))) (ty := 0)) rfl rfl rfl (by kernel_rfl) hS rfl (Nat.le_of_ble_eq_true rfl) rfl fun w a hS ha => ?_)
    refine ⟨.inr (hS.pickN 6 [1, 3, 4, 5] (by decide) rfl), ?_⟩
    refine d_one (i := 3) (by kernel_rfl) (o_storeAgg 1 ha (iAt (op := (Op.store 113 (Operand.tmp 7) (Operand.tmp 104))) (ty := 0)) rfl rfl rfl (by kernel_rfl) hS rfl (Nat.le_of_ble_eq_true rfl) rfl fun w a hS ha => ?_)
    refine ⟨.inl (by kernel_rfl), ?_⟩
    refine d_end (by kernel_rfl) ?_ _
    refine then_n ?_
    refine wp_ret ?_
    refine end_res2 ha (by kernel_rfl) (resC (t := 6) (ty := 110) (i := 2) ha rfl hS rfl (by kernel_rfl)) (resC (t := 7) (ty := 113) (i := 1) ha rfl hS rfl (by kernel_rfl)) ?_
    have hE : qSimple m c z = ((⟨m.spent, m.shared, m.made, m.deep, m.trace ++ [(4, c.f, g4 c.r0 c.r1 c.r2 c.r3 z.a)], m.seen⟩ : MQ), c) := by (unfold qSimple; simp only [c11, c12, c15, FQ.get, FQ.set, if_true, if_false, Bool.and_eq_true, Bool.not_eq_true', Bool.true_and, Bool.not_false, Bool.not_true, Bool.and_false, Bool.false_and, Bool.false_eq_true, reduceCtorEq]) <;> rfl
    rw [hE]
    replace hS : Sat w0 w ((rE s16 (m.trace ++ [(4, c.f, g4 c.r0 c.r1 c.r2 c.r3 z.a)])) :: Rs) := hS.pickN 6 [0] (by decide) rfl
    exact ⟨s16, rfl, hS⟩
   ·
    refine c_false ha rfl (decide_eq_false c15) ?_
    refine wp_seq ?_
    refine p_beginL [0, 1] ?_
    refine p_run [(0, 48, .bool (decide (z.k = 9))), (1, 47, .bool (decide (z.k = 9)))] ha fun a ha => ?_
    refine p_end ?_
    refine then_n ?_
    by_cases c19 : z.k = 9
    ·
     refine c_true ha rfl (decide_eq_true c19) ?_
     refine wp_seq ?_
     refine p_beginL [0, 1] ?_
     refine p_run [(0, 49, ptr b3 10)] ha fun a ha => ?_
     refine p_ld (d := 50) (b := b3) (j := 10) ha (hS.blk 3 rfl) rfl fun a ha => ?_
     refine p_end ?_
     refine then_n ?_
     rcases Bool.eq_false_or_eq_true c.deferred with c20 | c20
     ·
      refine c_true ha rfl c20 ?_
      refine p_beginL [0, 1, 2, 3, 4, 5, 6] ?_
      refine p_run [(0, 51, ptr b5 1)] ha fun a ha => ?_
      refine p_ld (d := 52) (b := b5) (j := 1) ha (hS.blk 2 rfl) rfl fun a ha => ?_
      refine p_run [(2, 53, ptr b3 2)] ha fun a ha => ?_
      refine p_val (v := .pointer (some ⟨b3, 2 + (z.a : Int).toNat * 1, none⟩)) ha (by decide) (v_indexA (len := 4) (el := 3) (sz := 1) ha (iAt (op := (Op.indexAddr 111 (Operand.tmp 53) (Operand.tmp 52))) (d := some 54) (ty := 0)) rfl rfl (by kernel_rfl) (by kernel_rfl) (by have := (reg4 (hs.a (by omega) (by omega) (by omega) (by omega))); omega) (by have := (reg4 (hs.a (by omega) (by omega) (by omega) (by omega))); omega)) (fun a ha => ?_)
      refine p_val (v := iv (g4 c.r0 c.r1 c.r2 c.r3 z.a)) ha (by decide) (v_load (v := iv (g4 c.r0 c.r1 c.r2 c.r3 z.a)) (cs := [iv c.f, iv c.depth, iv c.r0, iv c.r1, iv c.r2, iv c.r3, .slice df.A df.n df.c, iv c.kind, iv c.value, .bool c.leaving, .bool c.deferred, .bool c.panicking, iv c.panic, .bool c.recovered, iv c.outer]) (T := 113) ha (iAt (op := (Op.load 3 (Operand.tmp 54))) (d := some 55) (ty := 3)) rfl (by kernel_rfl) (fun _ hw => by rw [hw]; exact hS.blk 3 rfl) (by rcases (reg4 (hs.a (by omega) (by omega) (by omega) (by omega))) with h | h | h | h <;> simp [h, g4])) (fun a ha => ?_)
      refine p_run [(5, 56, ptr b3 14)] ha fun a ha => ?_
      refine p_op (o_st b3 14 (iv (g4 c.r0 c.r1 c.r2 c.r3 z.a)) 3 ha hS rfl rfl fun w a hS ha => ?_)
      refine p_end ?_
      replace ha := ha.as [(3, ptr b1 0), (4, ptr b3 0), (6, ptr b7 0), (7, ptr b9 0)] rfl
      refine in_n ?_
      refine then_n ?_
      refine wp_seq ?_
      refine d_startP 3 4 (hS.pickN 6 [0, 2, 3, 4] (by decide) rfl) hS fun w hS => ?_
      refine d_val (i := 0) ha (by decide) (v_loadW ha (iAt (op := (Op.load 110 (Operand.tmp 3))) (d := some 103) (ty := 110)) rfl (by kernel_rfl) (fun _ hw => hw.blk 3 rfl)) (hS.pickN 6 [0, 2, 3, 4] (by decide) rfl) (by kernel_rfl) (by kernel_rfl) (pk_then (pk_body)) fun a ha => ?_
      refine d_val (i := 1) ha (by decide) (v_loadW ha (iAt (op := (Op.load 113 (Operand.tmp 4))) (d := some 104) (ty := 113)) rfl (by kernel_rfl) (fun _ hw => hw.blk 2 rfl)) (hS.pickN 6 [0, 2, 3, 4] (by decide) rfl) (by kernel_rfl) (by kernel_rfl) (pk_then (pk_body)) fun a ha => ?_
      refine d_one (i := 2) (by kernel_rfl) (o_storeAgg 1 ha (iAt (op := (Op.store 110 (Operand.tmp 6) (Operand.tmp 103))) (ty := 0)) rfl rfl rfl (by kernel_rfl) hS rfl (Nat.le_of_ble_eq_true rfl) rfl fun w a hS ha => ?_)
      refine ⟨.inr (hS.pickN 6 [0, 2, 3, 4] (by decide) rfl), ?_⟩
      refine d_one (i := 3) (by kernel_rfl) (o_storeAgg 0 ha (iAt (op := (Op.store 113 (Operand.tmp 7) (Operand.tmp 104))) (ty := 0)) rfl rfl rfl (by kernel_rfl) hS rfl (Nat.le_of_ble_eq_true rfl) rfl fun w a hS ha => ?_)
      refine ⟨.inl (by kernel_rfl), ?_⟩
      refine d_end (by kernel_rfl) ?_ _
      refine then_n ?_
      refine wp_ret ?_
      refine end_res2 ha (by kernel_rfl) (resC (t := 6) (ty := 110) (i := 1) ha rfl hS rfl (by kernel_rfl)) (resC (t := 7) (ty := 113) (i := 0) ha rfl hS rfl (by kernel_rfl)) ?_
      have hE : qSimple m c z = (m, (⟨c.f, c.depth, c.r0, c.r1, c.r2, c.r3, c.defers, c.kind, c.value, c.leaving, c.deferred, c.panicking, c.panic, c.recovered, g4 c.r0 c.r1 c.r2 c.r3 z.a⟩ : FQ)) := by (unfold qSimple; simp only [c11, c12, c15, c19, c20, FQ.get, FQ.set, if_true, if_false, Bool.and_eq_true, Bool.not_eq_true', Bool.true_and, Bool.not_false, Bool.not_true, Bool.and_false, Bool.false_and, Bool.false_eq_true, reduceCtorEq]) <;> rfl
      rw [hE]
      replace hS : Sat w0 w ((rE tr m.trace) :: Rs) := hS.pickN 6 [5] (by decide) rfl
      exact ⟨tr, rfl, hS⟩
     ·
      refine c_false ha rfl c20 ?_
      refine wp_skip ?_
      refine in_n ?_
      refine then_n ?_
      refine wp_seq ?_
      refine d_startP 3 4 (hS.pickN 6 [0, 2, 3, 4] (by decide) rfl) hS fun w hS => ?_
      refine d_val (i := 0) ha (by decide) (v_loadW ha (iAt (op := (Op.load 110 (Operand.tmp 3))) (d := some 103) (ty := 110)) rfl (by kernel_rfl) (fun _ hw => hw.blk 3 rfl)) (hS.pickN 6 [0, 2, 3, 4] (by decide) rfl) (by kernel_rfl) (by kernel_rfl) (pk_then (pk_body)) fun a ha => ?_
      refine d_val (i := 1) ha (by decide) (v_loadW ha (iAt (op := (Op.load 113 (Operand.tmp 4))) (d := some 104) (ty := 113)) rfl (by kernel_rfl) (fun _ hw => hw.blk 2 rfl)) (hS.pickN 6 [0, 2, 3, 4] (by decide) rfl) (by kernel_rfl) (by kernel_rfl) (pk_then (pk_body)) fun a ha => ?_
      refine d_one (i := 2) (by kernel_rfl) (o_storeAgg 1 ha (iAt (op := (Op.store 110 (Operand.tmp 6) (Operand.tmp 103))) (ty := 0)) rfl rfl rfl (by kernel_rfl) hS rfl (Nat.le_of_ble_eq_true rfl) rfl fun w a hS ha => ?_)
      refine ⟨.inr (hS.pickN 6 [0, 2, 3, 4] (by decide) rfl), ?_⟩
      refine d_one (i := 3) (by kernel_rfl) (o_storeAgg 0 ha (iAt (op := (Op.store 113 (Operand.tmp 7) (Operand.tmp 104))) (ty := 0)) rfl rfl rfl (by kernel_rfl) hS rfl (Nat.le_of_ble_eq_true rfl) rfl fun w a hS ha => ?_)
      refine ⟨.inl (by kernel_rfl), ?_⟩
      refine d_end (by kernel_rfl) ?_ _
      replace ha := ha.as [(6, ptr b7 0), (7, ptr b9 0)] rfl
      refine then_n ?_
      refine wp_ret ?_
      refine end_res2 ha (by kernel_rfl) (resC (t := 6) (ty := 110) (i := 1) ha rfl hS rfl (by kernel_rfl)) (resC (t := 7) (ty := 113) (i := 0) ha rfl hS rfl (by kernel_rfl)) ?_
      have hE : qSimple m c z = (m, c) := by (unfold qSimple; simp only [c11, c12, c15, c19, c20, FQ.get, FQ.set, if_true, if_false, Bool.and_eq_true, Bool.not_eq_true', Bool.true_and, Bool.not_false, Bool.not_true, Bool.and_false, Bool.false_and, Bool.false_eq_true, reduceCtorEq]) <;> rfl
      rw [hE]
      replace hS : Sat w0 w ((rE tr m.trace) :: Rs) := hS.pickN 6 [5] (by decide) rfl
      exact ⟨tr, rfl, hS⟩
    ·
     refine c_false ha rfl (decide_eq_false c19) ?_
     refine wp_seq ?_
     refine p_beginL [0, 1] ?_
     refine p_run [(0, 58, .bool (decide (z.k = 12))), (1, 57, .bool (decide (z.k = 12)))] ha fun a ha => ?_
     refine p_end ?_
     refine then_n ?_
     by_cases c21 : z.k = 12
     ·
      refine c_true ha rfl (decide_eq_true c21) ?_
      refine p_beginL [0, 1, 2, 3, 4, 5, 6] ?_
      refine p_run [(0, 59, ptr b5 1)] ha fun a ha => ?_
      refine p_ld (d := 60) (b := b5) (j := 1) ha (hS.blk 2 rfl) rfl fun a ha => ?_
      refine p_run [(2, 61, ptr b3 2)] ha fun a ha => ?_
      refine p_val (v := .pointer (some ⟨b3, 2 + (z.a : Int).toNat * 1, none⟩)) ha (by decide) (v_indexA (len := 4) (el := 3) (sz := 1) ha (iAt (op := (Op.indexAddr 111 (Operand.tmp 61) (Operand.tmp 60))) (d := some 62) (ty := 0)) rfl rfl (by kernel_rfl) (by kernel_rfl) (by have := (reg4 (hs.a (by omega) (by omega) (by omega) (by omega))); omega) (by have := (reg4 (hs.a (by omega) (by omega) (by omega) (by omega))); omega)) (fun a ha => ?_)
      refine p_val (v := iv (g4 c.r0 c.r1 c.r2 c.r3 z.a)) ha (by decide) (v_load (v := iv (g4 c.r0 c.r1 c.r2 c.r3 z.a)) (cs := [iv c.f, iv c.depth, iv c.r0, iv c.r1, iv c.r2, iv c.r3, .slice df.A df.n df.c, iv c.kind, iv c.value, .bool c.leaving, .bool c.deferred, .bool c.panicking, iv c.panic, .bool c.recovered, iv c.outer]) (T := 113) ha (iAt (op := (Op.load 3 (Operand.tmp 62))) (d := some 63) (ty := 3)) rfl (by kernel_rfl) (fun _ hw => by rw [hw]; exact hS.blk 3 rfl) (by rcases (reg4 (hs.a (by omega) (by omega) (by omega) (by omega))) with h | h | h | h <;> simp [h, g4])) (fun a ha => ?_)
      refine p_run [(5, 64, ptr b1 3)] ha fun a ha => ?_
      refine p_op (o_st b1 3 (iv (g4 c.r0 c.r1 c.r2 c.r3 z.a)) 4 ha hS rfl rfl fun w a hS ha => ?_)
      refine p_end ?_
      replace ha := ha.as [(3, ptr b1 0), (4, ptr b3 0), (6, ptr b7 0), (7, ptr b9 0)] rfl
      refine in_n ?_
      refine then_n ?_
      refine wp_seq ?_
      refine d_startP 3 4 (hS.pickN 6 [0, 2, 3, 4] (by decide) rfl) hS fun w hS => ?_
      refine d_val (i := 0) ha (by decide) (v_loadW ha (iAt (op := (Op.load 110 (Operand.tmp 3))) (d := some 103) (ty := 110)) rfl (by kernel_rfl) (fun _ hw => hw.blk 3 rfl)) (hS.pickN 6 [0, 2, 3, 4] (by decide) rfl) (by kernel_rfl) (by kernel_rfl) (pk_then (pk_body)) fun a ha => ?_
      refine d_val (i := 1) ha (by decide) (v_loadW ha (iAt (op := (Op.load 113 (Operand.tmp 4))) (d := some 104) (ty := 113)) rfl (by kernel_rfl) (fun _ hw => hw.blk 2 rfl)) (hS.pickN 6 [0, 2, 3, 4] (by decide) rfl) (by kernel_rfl) (by kernel_rfl) (pk_then (pk_body)) fun a ha => ?_
      refine d_one (i := 2) (by kernel_rfl) (o_storeAgg 1 ha (iAt (op := (Op.store 110 (Operand.tmp 6) (Operand.tmp 103))) (ty := 0)) rfl rfl rfl (by kernel_rfl) hS rfl (Nat.le_of_ble_eq_true rfl) rfl fun w a hS ha => ?_)
      refine ⟨.inr (hS.pickN 6 [0, 2, 3, 4] (by decide) rfl), ?_⟩
      refine d_one (i := 3) (by kernel_rfl) (o_storeAgg 0 ha (iAt (op := (Op.store 113 (Operand.tmp 7) (Operand.tmp 104))) (ty := 0)) rfl rfl rfl (by kernel_rfl) hS rfl (Nat.le_of_ble_eq_true rfl) rfl fun w a hS ha => ?_)
      refine ⟨.inl (by kernel_rfl), ?_⟩
      refine d_end (by kernel_rfl) ?_ _
      refine then_n ?_
      refine wp_ret ?_
      refine end_res2 ha (by kernel_rfl) (resC (t := 6) (ty := 110) (i := 1) ha rfl hS rfl (by kernel_rfl)) (resC (t := 7) (ty := 113) (i := 0) ha rfl hS rfl (by kernel_rfl)) ?_
      have hE : qSimple m c z = ((⟨m.spent, g4 c.r0 c.r1 c.r2 c.r3 z.a, m.made, m.deep, m.trace, m.seen⟩ : MQ), c) := by (unfold qSimple; simp only [c11, c12, c15, c19, c21, FQ.get, FQ.set, if_true, if_false, Bool.and_eq_true, Bool.not_eq_true', Bool.true_and, Bool.not_false, Bool.not_true, Bool.and_false, Bool.false_and, Bool.false_eq_true, reduceCtorEq]) <;> rfl
      rw [hE]
      replace hS : Sat w0 w ((rE tr m.trace) :: Rs) := hS.pickN 6 [5] (by decide) rfl
      exact ⟨tr, rfl, hS⟩
     ·
      refine c_false ha rfl (decide_eq_false c21) ?_
      refine wp_seq ?_
      refine p_beginL [0, 1] ?_
      refine p_run [(0, 66, .bool (decide (z.k = 13))), (1, 65, .bool (decide (z.k = 13)))] ha fun a ha => ?_
      refine p_end ?_
      refine then_n ?_
      by_cases c22 : z.k = 13
      ·
       refine c_true ha rfl (decide_eq_true c22) ?_
       refine p_beginL [0, 1, 2, 3, 4, 5, 6] ?_
       refine p_run [(0, 67, ptr b5 1)] ha fun a ha => ?_
       refine p_ld (d := 68) (b := b5) (j := 1) ha (hS.blk 2 rfl) rfl fun a ha => ?_
       refine p_run [(2, 69, ptr b1 3)] ha fun a ha => ?_
       refine p_ld (d := 70) (b := b1) (j := 3) ha (hS.blk 4 rfl) rfl fun a ha => ?_
       refine p_run [(4, 71, ptr b3 2)] ha fun a ha => ?_
       refine p_val (v := .pointer (some ⟨b3, 2 + (z.a : Int).toNat * 1, none⟩)) ha (by decide) (v_indexA (len := 4) (el := 3) (sz := 1) ha (iAt (op := (Op.indexAddr 111 (Operand.tmp 71) (Operand.tmp 68))) (d := some 72) (ty := 0)) rfl rfl (by kernel_rfl) (by kernel_rfl) (by have := (reg4 (hs.a (by omega) (by omega) (by omega) (by omega))); omega) (by have := (reg4 (hs.a (by omega) (by omega) (by omega) (by omega))); omega)) (fun a ha => ?_)
       refine p_op (o_store (cs := [iv c.f, iv c.depth, iv c.r0, iv c.r1, iv c.r2, iv c.r3, .slice df.A df.n df.c, iv c.kind, iv c.value, .bool c.leaving, .bool c.deferred, .bool c.panicking, iv c.panic, .bool c.recovered, iv c.outer]) (cs' := [iv c.f, iv c.depth, iv (u4 c.r0 m.shared 0 z.a), iv (u4 c.r1 m.shared 1 z.a), iv (u4 c.r2 m.shared 2 z.a), iv (u4 c.r3 m.shared 3 z.a), .slice df.A df.n df.c, iv c.kind, iv c.value, .bool c.leaving, .bool c.deferred, .bool c.panicking, iv c.panic, .bool c.recovered, iv c.outer]) 3 ha (iAt (op := (Op.store 3 (Operand.tmp 72) (Operand.tmp 70))) (ty := 0)) rfl rfl rfl (by kernel_rfl) hS rfl (by have := (reg4 (hs.a (by omega) (by omega) (by omega) (by omega))); simp; omega) (by rcases (reg4 (hs.a (by omega) (by omega) (by omega) (by omega))) with h | h | h | h <;> simp [h, u4]) (fun w a (hS : Sat w0 w ((SX.blk b9 (cL 0 0 0 0 0 0 (⟨none, 0, 0⟩) 0 0 false false false 0 false 0) 113) :: (SX.blk b7 (mL (⟨none, 0, 0⟩) 0 false 0 0 0 (⟨none, 0, 0⟩) (⟨none, 0, 0⟩)) 110) :: (SX.blk b5 [iv z.k, iv z.a, iv z.b] 144) :: (SX.blk b3 (cL c.f c.depth (u4 c.r0 m.shared 0 z.a) (u4 c.r1 m.shared 1 z.a) (u4 c.r2 m.shared 2 z.a) (u4 c.r3 m.shared 3 z.a) df c.kind c.value c.leaving c.deferred c.panicking c.panic c.recovered c.outer) 113) :: (SX.blk b1 (mL pv fuel m.spent m.shared m.made m.deep tr se) 110) :: (rE tr m.trace) :: Rs)) ha => ?_))
       refine p_end ?_
       replace ha := ha.as [(3, ptr b1 0), (4, ptr b3 0), (6, ptr b7 0), (7, ptr b9 0)] rfl
       refine in_n ?_
       refine then_n ?_
       refine wp_seq ?_
       refine d_startP 3 4 (hS.pickN 6 [0, 2, 3, 4] (by decide) rfl) hS fun w hS => ?_
       refine d_val (i := 0) ha (by decide) (v_loadW ha (iAt (op := (Op.load 110 (Operand.tmp 3))) (d := some 103) (ty := 110)) rfl (by kernel_rfl) (fun _ hw => hw.blk 3 rfl)) (hS.pickN 6 [0, 2, 3, 4] (by decide) rfl) (by kernel_rfl) (by kernel_rfl) (pk_then (pk_body)) fun a ha => ?_
       refine d_val (i := 1) ha (by decide) (v_loadW ha (iAt (op := (Op.load 113 (Operand.tmp 4))) (d := some 104) (ty := 113)) rfl (by kernel_rfl) (fun _ hw => hw.blk 2 rfl)) (hS.pickN 6 [0, 2, 3, 4] (by decide) rfl) (by kernel_rfl) (by kernel_rfl) (pk_then (pk_body)) fun a ha => ?_
       refine d_one (i := 2) (by kernel_rfl) (o_storeAgg 1 ha (iAt (op := (Op.store 110 (Operand.tmp 6) (Operand.tmp 103))) (ty := 0)) rfl rfl rfl (by kernel_rfl) hS rfl (Nat.le_of_ble_eq_true rfl) rfl fun w a hS ha => ?_)
       refine ⟨.inr (hS.pickN 6 [0, 2, 3, 4] (by decide) rfl), ?_⟩
       refine d_one (i := 3) (by kernel_rfl) (o_storeAgg 0 ha (iAt (op := (Op.store 113 (Operand.tmp 7) (Operand.tmp 104))) (ty := 0)) rfl rfl rfl (by kernel_rfl) hS rfl (Nat.le_of_ble_eq_true rfl) rfl fun w a hS ha => ?_)
       refine ⟨.inl (by kernel_rfl), ?_⟩
       refine d_end (by kernel_rfl) ?_ _
       refine then_n ?_
       refine wp_ret ?_
       refine end_res2 ha (by kernel_rfl) (resC (t := 6) (ty := 110) (i := 1) ha rfl hS rfl (by kernel_rfl)) (resC (t := 7) (ty := 113) (i := 0) ha rfl hS rfl (by kernel_rfl)) ?_
       have hE : qSimple m c z = (m, (⟨c.f, c.depth, u4 c.r0 m.shared 0 z.a, u4 c.r1 m.shared 1 z.a, u4 c.r2 m.shared 2 z.a, u4 c.r3 m.shared 3 z.a, c.defers, c.kind, c.value, c.leaving, c.deferred, c.panicking, c.panic, c.recovered, c.outer⟩ : FQ)) := by (unfold qSimple; simp only [c11, c12, c15, c19, c21, c22, FQ.get, FQ.set, if_true, if_false, Bool.and_eq_true, Bool.not_eq_true', Bool.true_and, Bool.not_false, Bool.not_true, Bool.and_false, Bool.false_and, Bool.false_eq_true, reduceCtorEq]) <;> rfl
       rw [hE]
       replace hS : Sat w0 w ((rE tr m.trace) :: Rs) := hS.pickN 6 [5] (by decide) rfl
       exact ⟨tr, rfl, hS⟩
      ·
       refine c_false ha rfl (decide_eq_false c22) ?_
       refine wp_seq ?_
       refine p_beginL [0, 1] ?_
       refine p_run [(0, 74, .bool (decide (z.k = 7))), (1, 73, .bool (decide (z.k = 7)))] ha fun a ha => ?_
       refine p_end ?_
       replace ha := ha.as [(3, ptr b1 0), (4, ptr b3 0), (5, ptr b5 0), (6, ptr b7 0), (7, ptr b9 0), (73, .bool (decide (z.k = 7)))] rfl
       refine then_n ?_
       by_cases c23 : z.k = 7
       ·
        refine c_true ha rfl (decide_eq_true c23) ?_
        refine wp_seq ?_
        refine p_beginL [0, 1, 2, 3, 4, 5, 6] ?_
        refine p_run [(0, 75, ptr b3 11)] ha fun a ha => ?_
        refine p_ld (d := 76) (b := b3) (j := 11) ha (hS.blk 3 rfl) rfl fun a ha => ?_
        refine p_run [(2, 77, .bool c.panicking)] ha fun a ha => ?_
        rcases Bool.eq_false_or_eq_true c.panicking with c24 | c24
        ·
         replace ha := ha.turn 76 (.bool true) rfl (congrArg Value.bool c24)
         replace ha := ha.turn 77 (.bool true) rfl (congrArg Value.bool c24)
         refine p_run [(3, 78, ptr b3 13)] ha fun a ha => ?_
         refine p_ld (d := 79) (b := b3) (j := 13) ha (hS.blk 3 rfl) rfl fun a ha => ?_
         refine p_run [(5, 80, .bool (!(c.recovered))), (6, 81, .bool (!(c.recovered)))] ha fun a ha => ?_
         refine p_end ?_
         refine then_n ?_
         rcases Bool.eq_false_or_eq_true c.recovered with c25 | c25
         ·
          refine c_false ha rfl (not_ff c25) ?_
          refine wp_seq ?_
          refine p_beginL [0, 1, 2, 3, 4] ?_
          refine p_run [(0, 97, ptr b5 1)] ha fun a ha => ?_
          refine p_ld (d := 98) (b := b5) (j := 1) ha (hS.blk 2 rfl) rfl fun a ha => ?_
          refine p_run [(2, 99, ptr b3 2)] ha fun a ha => ?_
          refine p_val (v := .pointer (some ⟨b3, 2 + (z.a : Int).toNat * 1, none⟩)) ha (by decide) (v_indexA (len := 4) (el := 3) (sz := 1) ha (iAt (op := (Op.indexAddr 111 (Operand.tmp 99) (Operand.tmp 98))) (d := some 100) (ty := 0)) rfl rfl (by kernel_rfl) (by kernel_rfl) (by have := (reg4 (hs.a (by omega) (by omega) (by omega) (by omega))); omega) (by have := (reg4 (hs.a (by omega) (by omega) (by omega) (by omega))); omega)) (fun a ha => ?_)
          refine p_op (o_store (cs := [iv c.f, iv c.depth, iv c.r0, iv c.r1, iv c.r2, iv c.r3, .slice df.A df.n df.c, iv c.kind, iv c.value, .bool c.leaving, .bool c.deferred, .bool c.panicking, iv c.panic, .bool c.recovered, iv c.outer]) (cs' := [iv c.f, iv c.depth, iv (u4 c.r0 0 0 z.a), iv (u4 c.r1 0 1 z.a), iv (u4 c.r2 0 2 z.a), iv (u4 c.r3 0 3 z.a), .slice df.A df.n df.c, iv c.kind, iv c.value, .bool c.leaving, .bool c.deferred, .bool c.panicking, iv c.panic, .bool c.recovered, iv c.outer]) 3 ha (iAt (op := (Op.store 3 (Operand.tmp 100) (Operand.const (Value.int IntKind.i64 0)))) (ty := 0)) rfl rfl rfl (by kernel_rfl) hS rfl (by have := (reg4 (hs.a (by omega) (by omega) (by omega) (by omega))); simp; omega) (by rcases (reg4 (hs.a (by omega) (by omega) (by omega) (by omega))) with h | h | h | h <;> simp [h, u4]) (fun w a (hS : Sat w0 w ((SX.blk b9 (cL 0 0 0 0 0 0 (⟨none, 0, 0⟩) 0 0 false false false 0 false 0) 113) :: (SX.blk b7 (mL (⟨none, 0, 0⟩) 0 false 0 0 0 (⟨none, 0, 0⟩) (⟨none, 0, 0⟩)) 110) :: (SX.blk b5 [iv z.k, iv z.a, iv z.b] 144) :: (SX.blk b3 (cL c.f c.depth (u4 c.r0 0 0 z.a) (u4 c.r1 0 1 z.a) (u4 c.r2 0 2 z.a) (u4 c.r3 0 3 z.a) df c.kind c.value c.leaving c.deferred c.panicking c.panic c.recovered c.outer) 113) :: (SX.blk b1 (mL pv fuel m.spent m.shared m.made m.deep tr se) 110) :: (rE tr m.trace) :: Rs)) ha => ?_))
          refine p_end ?_
          refine then_n ?_
          refine p_beginL [0, 1, 2] ?_
          refine p_run [(0, 101, ptr b3 2), (1, 102, ptr b3 5)] ha fun a ha => ?_
          refine p_op (o_st b3 5 (iv 0) 3 ha hS rfl rfl fun w a hS ha => ?_)
          refine p_end ?_
          refine in_n ?_
          refine then_n ?_
          refine wp_seq ?_
          refine d_startP 3 4 (hS.pickN 6 [0, 2, 3, 4] (by decide) rfl) hS fun w hS => ?_
          refine d_val (i := 0) ha (by decide) (v_loadW ha (iAt (op := (Op.load 110 (Operand.tmp 3))) (d := some 103) (ty := 110)) rfl (by kernel_rfl) (fun _ hw => hw.blk 3 rfl)) (hS.pickN 6 [0, 2, 3, 4] (by decide) rfl) (by kernel_rfl) (by kernel_rfl) (pk_then (pk_body)) fun a ha => ?_
          refine d_val (i := 1) ha (by decide) (v_loadW ha (iAt (op := (Op.load 113 (Operand.tmp 4))) (d := some 104) (ty := 113)) rfl (by kernel_rfl) (fun _ hw => hw.blk 2 rfl)) (hS.pickN 6 [0, 2, 3, 4] (by decide) rfl) (by kernel_rfl) (by kernel_rfl) (pk_then (pk_body)) fun a ha => ?_
          refine d_one (i := 2) (by kernel_rfl) (o_storeAgg 1 ha (iAt (op := (Op.store 110 (Operand.tmp 6) (Operand.tmp 103))) (ty := 0)) rfl rfl rfl (by kernel_rfl) hS rfl (Nat.le_of_ble_eq_true rfl) rfl fun w a hS ha => ?_)
          refine ⟨.inr (hS.pickN 6 [0, 2, 3, 4] (by decide) rfl), ?_⟩
          refine d_one (i := 3) (by kernel_rfl) (o_storeAgg 0 ha (iAt (op := (Op.store 113 (Operand.tmp 7) (Operand.tmp 104))) (ty := 0)) rfl rfl rfl (by kernel_rfl) hS rfl (Nat.le_of_ble_eq_true rfl) rfl fun w a hS ha => ?_)
          refine ⟨.inl (by kernel_rfl), ?_⟩
          refine d_end (by kernel_rfl) ?_ _
          replace ha := ha.as [(6, ptr b7 0), (7, ptr b9 0)] rfl
          refine then_n ?_
          refine wp_ret ?_
          refine end_res2 ha (by kernel_rfl) (resC (t := 6) (ty := 110) (i := 1) ha rfl hS rfl (by kernel_rfl)) (resC (t := 7) (ty := 113) (i := 0) ha rfl hS rfl (by kernel_rfl)) ?_
          have hE : qSimple m c z = (m, (⟨c.f, c.depth, u4 c.r0 0 0 z.a, u4 c.r1 0 1 z.a, u4 c.r2 0 2 z.a, 0, c.defers, c.kind, c.value, c.leaving, c.deferred, c.panicking, c.panic, c.recovered, c.outer⟩ : FQ)) := by (unfold qSimple; simp only [c11, c12, c15, c19, c21, c22, c23, c24, c25, FQ.get, FQ.set, if_true, if_false, Bool.and_eq_true, Bool.not_eq_true', Bool.true_and, Bool.not_false, Bool.not_true, Bool.and_false, Bool.false_and, Bool.false_eq_true, reduceCtorEq]) <;> rfl
          rw [hE]
          replace hS : Sat w0 w ((rE tr m.trace) :: Rs) := hS.pickN 6 [5] (by decide) rfl
          exact ⟨tr, rfl, hS⟩
         ·
          refine c_true ha rfl (not_tt c25) ?_
          refine wp_seq ?_
          refine p_beginL [0, 1] ?_
          refine p_run [(0, 82, ptr b3 13)] ha fun a ha => ?_
          refine p_op (o_st b3 13 (.bool true) 3 ha hS rfl rfl fun w a hS ha => ?_)
          refine p_end ?_
          refine then_n ?_
          refine wp_seq ?_
          refine p_beginL [0, 1, 2, 3, 4, 5, 6] ?_
          refine p_run [(0, 83, ptr b5 1)] ha fun a ha => ?_
          refine p_ld (d := 84) (b := b5) (j := 1) ha (hS.blk 2 rfl) rfl fun a ha => ?_
          refine p_run [(2, 85, ptr b3 12)] ha fun a ha => ?_
          refine p_ld (d := 86) (b := b3) (j := 12) ha (hS.blk 3 rfl) rfl fun a ha => ?_
          refine p_run [(4, 87, ptr b3 2)] ha fun a ha => ?_
          refine p_val (v := .pointer (some ⟨b3, 2 + (z.a : Int).toNat * 1, none⟩)) ha (by decide) (v_indexA (len := 4) (el := 3) (sz := 1) ha (iAt (op := (Op.indexAddr 111 (Operand.tmp 87) (Operand.tmp 84))) (d := some 88) (ty := 0)) rfl rfl (by kernel_rfl) (by kernel_rfl) (by have := (reg4 (hs.a (by omega) (by omega) (by omega) (by omega))); omega) (by have := (reg4 (hs.a (by omega) (by omega) (by omega) (by omega))); omega)) (fun a ha => ?_)
          refine p_op (o_store (cs := [iv c.f, iv c.depth, iv c.r0, iv c.r1, iv c.r2, iv c.r3, .slice df.A df.n df.c, iv c.kind, iv c.value, .bool c.leaving, .bool c.deferred, .bool c.panicking, iv c.panic, .bool true, iv c.outer]) (cs' := [iv c.f, iv c.depth, iv (u4 c.r0 c.panic 0 z.a), iv (u4 c.r1 c.panic 1 z.a), iv (u4 c.r2 c.panic 2 z.a), iv (u4 c.r3 c.panic 3 z.a), .slice df.A df.n df.c, iv c.kind, iv c.value, .bool c.leaving, .bool c.deferred, .bool c.panicking, iv c.panic, .bool true, iv c.outer]) 3 ha (iAt (op := (Op.store 3 (Operand.tmp 88) (Operand.tmp 86))) (ty := 0)) rfl rfl rfl (by kernel_rfl) hS rfl (by have := (reg4 (hs.a (by omega) (by omega) (by omega) (by omega))); simp; omega) (by rcases (reg4 (hs.a (by omega) (by omega) (by omega) (by omega))) with h | h | h | h <;> simp [h, u4]) (fun w a (hS : Sat w0 w ((SX.blk b9 (cL 0 0 0 0 0 0 (⟨none, 0, 0⟩) 0 0 false false false 0 false 0) 113) :: (SX.blk b7 (mL (⟨none, 0, 0⟩) 0 false 0 0 0 (⟨none, 0, 0⟩) (⟨none, 0, 0⟩)) 110) :: (SX.blk b5 [iv z.k, iv z.a, iv z.b] 144) :: (SX.blk b3 (cL c.f c.depth (u4 c.r0 c.panic 0 z.a) (u4 c.r1 c.panic 1 z.a) (u4 c.r2 c.panic 2 z.a) (u4 c.r3 c.panic 3 z.a) df c.kind c.value c.leaving c.deferred c.panicking c.panic true c.outer) 113) :: (SX.blk b1 (mL pv fuel m.spent m.shared m.made m.deep tr se) 110) :: (rE tr m.trace) :: Rs)) ha => ?_))
          refine p_end ?_
          replace ha := ha.as [(3, ptr b1 0), (4, ptr b3 0), (6, ptr b7 0), (7, ptr b9 0)] rfl
          refine then_n ?_
          refine wp_seq ?_
          refine p_beginL [0, 1, 2] ?_
          refine p_run [(0, 89, ptr b3 2), (1, 90, ptr b3 5)] ha fun a ha => ?_
          refine p_op (o_st b3 5 (iv 1) 3 ha hS rfl rfl fun w a hS ha => ?_)
          refine p_end ?_
          refine then_n ?_
          refine p_beginL [0, 1, 2, 3, 4, 5, 6] ?_
          refine p_val ha (by decide) (v_loadW ha (iAt (op := (Op.load 110 (Operand.tmp 3))) (d := some 91) (ty := 110)) rfl (by kernel_rfl) (fun _ hw => by rw [hw]; exact hS.blk 4 rfl)) (fun a ha => ?_)
          refine p_run [(1, 92, ptr b3 0)] ha fun a ha => ?_
          refine p_ld (d := 93) (b := b3) (j := 0) ha (hS.blk 3 rfl) rfl fun a ha => ?_
          refine p_run [(3, 94, ptr b3 12)] ha fun a ha => ?_
          refine p_ld (d := 95) (b := b3) (j := 12) ha (hS.blk 3 rfl) rfl fun a ha => ?_
          refine p_op (o_ret ha (by decide) (iAt (op := (Op.call { callee := (Callee.value (Operand.func 105)), args := #[(Operand.tmp 91), (Operand.const (Value.int IntKind.i64 6)), (Operand.tmp 93), (Operand.tmp 95)], argTypes := #[110, 3, 3, 3] })) (d := some 96) (ty := 110)) rfl Try.func105 (by kernel_rfl) (q_tell m (hS.pickN 6 [5, 0, 1, 2, 3, 4] (by decide) rfl) (by exact hlen)) fun v27 w a hp28 ha => ?_)
          obtain ⟨s26, rfl, hS⟩ := hp28
          refine p_op (o_storeAgg 5 ha (iAt (op := (Op.store 110 (Operand.tmp 3) (Operand.tmp 96))) (ty := 0)) rfl rfl rfl (by kernel_rfl) hS rfl (Nat.le_of_ble_eq_true rfl) rfl fun w a hS ha => ?_)
          refine p_end ?_
          refine in_n ?_
          refine then_n ?_
          refine wp_seq ?_
          refine d_startP 3 4 (hS.pickN 6 [1, 3, 4, 5] (by decide) rfl) hS fun w hS => ?_
          refine d_val (i := 0) ha (by decide) (v_loadW ha (iAt (op := (Op.load 110 (Operand.tmp 3))) (d := some 103) (ty := 110)) rfl (by kernel_rfl) (fun _ hw => hw.blk 3 rfl)) (hS.pickN 6 [1, 3, 4, 5] (by decide) rfl) (by kernel_rfl) (by kernel_rfl) (pk_then (pk_body)) fun a ha => ?_
          refine d_val (i := 1) ha (by decide) (v_loadW ha (iAt (op := (Op.load 113 (Operand.tmp 4))) (d := some 104) (ty := 113)) rfl (by kernel_rfl) (fun _ hw => hw.blk 2 rfl)) (hS.pickN 6 [1, 3, 4, 5] (by decide) rfl) (by kernel_rfl) (by kernel_rfl) (pk_then (pk_body)) fun a ha => ?_
          refine d_one (i := 2) (by kernel_rfl) (o_storeAgg 2 ha (iAt (op := (Op.store 110 (Operand.tmp 6) (Operand.tmp 103))) (ty := 0)) rfl rfl rfl (by kernel_rfl) hS rfl (Nat.le_of_ble_eq_true rfl) rfl fun w a hS ha => ?_)
          refine ⟨.inr (hS.pickN 6 [1, 3, 4, 5] (by decide) rfl), ?_⟩
          refine d_one (i := 3) (by kernel_rfl) (o_storeAgg 1 ha (iAt (op := (Op.store 113 (Operand.tmp 7) (Operand.tmp 104))) (ty := 0)) rfl rfl rfl (by kernel_rfl) hS rfl (Nat.le_of_ble_eq_true rfl) rfl fun w a hS ha => ?_)
          refine ⟨.inl (by kernel_rfl), ?_⟩
          refine d_end (by kernel_rfl) ?_ _
          refine then_n ?_
          refine wp_ret ?_
          refine end_res2 ha (by kernel_rfl) (resC (t := 6) (ty := 110) (i := 2) ha rfl hS rfl (by kernel_rfl)) (resC (t := 7) (ty := 113) (i := 1) ha rfl hS rfl (by kernel_rfl)) ?_
          have hE : qSimple m c z = ((⟨m.spent, m.shared, m.made, m.deep, m.trace ++ [(6, c.f, c.panic)], m.seen⟩ : MQ), (⟨c.f, c.depth, u4 c.r0 c.panic 0 z.a, u4 c.r1 c.panic 1 z.a, u4 c.r2 c.panic 2 z.a, 1, c.defers, c.kind, c.value, c.leaving, c.deferred, c.panicking, c.panic, true, c.outer⟩ : FQ)) := by (unfold qSimple; simp only [c11, c12, c15, c19, c21, c22, c23, c24, c25, FQ.get, FQ.set, if_true, if_false, Bool.and_eq_true, Bool.not_eq_true', Bool.true_and, Bool.not_false, Bool.not_true, Bool.and_false, Bool.false_and, Bool.false_eq_true, reduceCtorEq]) <;> rfl
          rw [hE]
          replace hS : Sat w0 w ((rE s26 (m.trace ++ [(6, c.f, c.panic)])) :: Rs) := hS.pickN 6 [0] (by decide) rfl
          exact ⟨s26, rfl, hS⟩
        ·
         replace ha := ha.turn 76 (.bool false) rfl (congrArg Value.bool c24)
         replace ha := ha.turn 77 (.bool false) rfl (congrArg Value.bool c24)
         refine p_run [(3, 78, undef), (4, 79, undef), (5, 80, undef), (6, 81, .bool false)] ha fun a ha => ?_
         refine p_end ?_
         refine then_n ?_
         refine c_false ha rfl rfl ?_
         refine wp_seq ?_
         refine p_beginL [0, 1, 2, 3, 4] ?_
         refine p_run [(0, 97, ptr b5 1)] ha fun a ha => ?_
         refine p_ld (d := 98) (b := b5) (j := 1) ha (hS.blk 2 rfl) rfl fun a ha => ?_
         refine p_run [(2, 99, ptr b3 2)] ha fun a ha => ?_
         refine p_val (v := .pointer (some ⟨b3, 2 + (z.a : Int).toNat * 1, none⟩)) ha (by decide) (v_indexA (len := 4) (el := 3) (sz := 1) ha (iAt (op := (Op.indexAddr 111 (Operand.tmp 99) (Operand.tmp 98))) (d := some 100) (ty := 0)) rfl rfl (by kernel_rfl) (by kernel_rfl) (by have := (reg4 (hs.a (by omega) (by omega) (by omega) (by omega))); omega) (by have := (reg4 (hs.a (by omega) (by omega) (by omega) (by omega))); omega)) (fun a ha => ?_)
         refine p_op (o_store (cs := [iv c.f, iv c.depth, iv c.r0, iv c.r1, iv c.r2, iv c.r3, .slice df.A df.n df.c, iv c.kind, iv c.value, .bool c.leaving, .bool c.deferred, .bool c.panicking, iv c.panic, .bool c.recovered, iv c.outer]) (cs' := [iv c.f, iv c.depth, iv (u4 c.r0 0 0 z.a), iv (u4 c.r1 0 1 z.a), iv (u4 c.r2 0 2 z.a), iv (u4 c.r3 0 3 z.a), .slice df.A df.n df.c, iv c.kind, iv c.value, .bool c.leaving, .bool c.deferred, .bool c.panicking, iv c.panic, .bool c.recovered, iv c.outer]) 3 ha (iAt (op := (Op.store 3 (Operand.tmp 100) (Operand.const (Value.int IntKind.i64 0)))) (ty := 0)) rfl rfl rfl (by kernel_rfl) hS rfl (by have := (reg4 (hs.a (by omega) (by omega) (by omega) (by omega))); simp; omega) (by rcases (reg4 (hs.a (by omega) (by omega) (by omega) (by omega))) with h | h | h | h <;> simp [h, u4]) (fun w a (hS : Sat w0 w ((SX.blk b9 (cL 0 0 0 0 0 0 (⟨none, 0, 0⟩) 0 0 false false false 0 false 0) 113) :: (SX.blk b7 (mL (⟨none, 0, 0⟩) 0 false 0 0 0 (⟨none, 0, 0⟩) (⟨none, 0, 0⟩)) 110) :: (SX.blk b5 [iv z.k, iv z.a, iv z.b] 144) :: (SX.blk b3 (cL c.f c.depth (u4 c.r0 0 0 z.a) (u4 c.r1 0 1 z.a) (u4 c.r2 0 2 z.a) (u4 c.r3 0 3 z.a) df c.kind c.value c.leaving c.deferred c.panicking c.panic c.recovered c.outer) 113) :: (SX.blk b1 (mL pv fuel m.spent m.shared m.made m.deep tr se) 110) :: (rE tr m.trace) :: Rs)) ha => ?_))
         refine p_end ?_
         refine then_n ?_
         refine p_beginL [0, 1, 2] ?_
         refine p_run [(0, 101, ptr b3 2), (1, 102, ptr b3 5)] ha fun a ha => ?_
         refine p_op (o_st b3 5 (iv 0) 3 ha hS rfl rfl fun w a hS ha => ?_)
         refine p_end ?_
         refine in_n ?_
         refine then_n ?_
         refine wp_seq ?_
         refine d_startP 3 4 (hS.pickN 6 [0, 2, 3, 4] (by decide) rfl) hS fun w hS => ?_
         refine d_val (i := 0) ha (by decide) (v_loadW ha (iAt (op := (Op.load 110 (Operand.tmp 3))) (d := some 103) (ty := 110)) rfl (by kernel_rfl) (fun _ hw => hw.blk 3 rfl)) (hS.pickN 6 [0, 2, 3, 4] (by decide) rfl) (by kernel_rfl) (by kernel_rfl) (pk_then (pk_body)) fun a ha => ?_
         refine d_val (i := 1) ha (by decide) (v_loadW ha (iAt (op := (Op.load 113 (Operand.tmp 4))) (d := some 104) (ty := 113)) rfl (by kernel_rfl) (fun _ hw => hw.blk 2 rfl)) (hS.pickN 6 [0, 2, 3, 4] (by decide) rfl) (by kernel_rfl) (by kernel_rfl) (pk_then (pk_body)) fun a ha => ?_
         refine d_one (i := 2) (by kernel_rfl) (o_storeAgg 1 ha (iAt (op := (Op.store 110 (Operand.tmp 6) (Operand.tmp 103))) (ty := 0)) rfl rfl rfl (by kernel_rfl) hS rfl (Nat.le_of_ble_eq_true rfl) rfl fun w a hS ha => ?_)
         refine ⟨.inr (hS.pickN 6 [0, 2, 3, 4] (by decide) rfl), ?_⟩
         refine d_one (i := 3) (by kernel_rfl) (o_storeAgg 0 ha (iAt (op := (Op.store 113 (Operand.tmp 7) (Operand.tmp 104))) (ty := 0)) rfl rfl rfl (by kernel_rfl) hS rfl (Nat.le_of_ble_eq_true rfl) rfl fun w a hS ha => ?_)
         refine ⟨.inl (by kernel_rfl), ?_⟩
         refine d_end (by kernel_rfl) ?_ _
         replace ha := ha.as [(6, ptr b7 0), (7, ptr b9 0)] rfl
         refine then_n ?_
         refine wp_ret ?_
         refine end_res2 ha (by kernel_rfl) (resC (t := 6) (ty := 110) (i := 1) ha rfl hS rfl (by kernel_rfl)) (resC (t := 7) (ty := 113) (i := 0) ha rfl hS rfl (by kernel_rfl)) ?_
         have hE : qSimple m c z = (m, (⟨c.f, c.depth, u4 c.r0 0 0 z.a, u4 c.r1 0 1 z.a, u4 c.r2 0 2 z.a, 0, c.defers, c.kind, c.value, c.leaving, c.deferred, c.panicking, c.panic, c.recovered, c.outer⟩ : FQ)) := by (unfold qSimple; simp only [c11, c12, c15, c19, c21, c22, c23, c24, FQ.get, FQ.set, if_true, if_false, Bool.and_eq_true, Bool.not_eq_true', Bool.true_and, Bool.not_false, Bool.not_true, Bool.and_false, Bool.false_and, Bool.false_eq_true, reduceCtorEq]) <;> rfl
         rw [hE]
         replace hS : Sat w0 w ((rE tr m.trace) :: Rs) := hS.pickN 6 [5] (by decide) rfl
         exact ⟨tr, rfl, hS⟩
       ·
        refine c_false ha rfl (decide_eq_false c23) ?_
        refine wp_skip ?_
        refine in_n ?_
        refine then_n ?_
        refine wp_seq ?_
        refine d_startP 3 4 (hS.pickN 6 [0, 2, 3, 4] (by decide) rfl) hS fun w hS => ?_
        refine d_val (i := 0) ha (by decide) (v_loadW ha (iAt (op := (Op.load 110 (Operand.tmp 3))) (d := some 103) (ty := 110)) rfl (by kernel_rfl) (fun _ hw => hw.blk 3 rfl)) (hS.pickN 6 [0, 2, 3, 4] (by decide) rfl) (by kernel_rfl) (by kernel_rfl) (pk_then (pk_body)) fun a ha => ?_
        refine d_val (i := 1) ha (by decide) (v_loadW ha (iAt (op := (Op.load 113 (Operand.tmp 4))) (d := some 104) (ty := 113)) rfl (by kernel_rfl) (fun _ hw => hw.blk 2 rfl)) (hS.pickN 6 [0, 2, 3, 4] (by decide) rfl) (by kernel_rfl) (by kernel_rfl) (pk_then (pk_body)) fun a ha => ?_
        refine d_one (i := 2) (by kernel_rfl) (o_storeAgg 1 ha (iAt (op := (Op.store 110 (Operand.tmp 6) (Operand.tmp 103))) (ty := 0)) rfl rfl rfl (by kernel_rfl) hS rfl (Nat.le_of_ble_eq_true rfl) rfl fun w a hS ha => ?_)
        refine ⟨.inr (hS.pickN 6 [0, 2, 3, 4] (by decide) rfl), ?_⟩
        refine d_one (i := 3) (by kernel_rfl) (o_storeAgg 0 ha (iAt (op := (Op.store 113 (Operand.tmp 7) (Operand.tmp 104))) (ty := 0)) rfl rfl rfl (by kernel_rfl) hS rfl (Nat.le_of_ble_eq_true rfl) rfl fun w a hS ha => ?_)
        refine ⟨.inl (by kernel_rfl), ?_⟩
        refine d_end (by kernel_rfl) ?_ _
        refine then_n ?_
        refine wp_ret ?_
        refine end_res2 ha (by kernel_rfl) (resC (t := 6) (ty := 110) (i := 1) ha rfl hS rfl (by kernel_rfl)) (resC (t := 7) (ty := 113) (i := 0) ha rfl hS rfl (by kernel_rfl)) ?_
        have hE : qSimple m c z = (m, c) := by (unfold qSimple; simp only [c11, c12, c15, c19, c21, c22, c23, FQ.get, FQ.set, if_true, if_false, Bool.and_eq_true, Bool.not_eq_true', Bool.true_and, Bool.not_false, Bool.not_true, Bool.and_false, Bool.false_and, Bool.false_eq_true, reduceCtorEq]) <;> rfl
        rw [hE]
        replace hS : Sat w0 w ((rE tr m.trace) :: Rs) := hS.pickN 6 [5] (by decide) rfl
        exact ⟨tr, rfl, hS⟩
theorem code116 : Try.f116.body = some (Code.seq (Code.region 0 (regOf Try.f116 0) false) (Code.seq (Code.region 1 (regOf Try.f116 1) false) (Code.seq (Code.region 2 (regOf Try.f116 2) false) (Code.seq (Code.seq (Code.region 3 (regOf Try.f116 3) false) (Code.block 0 (Code.seq (Code.region 4 (regOf Try.f116 4) false) (Code.cond (Operand.tmp 33) (Code.seq (Code.region 5 (regOf Try.f116 5) false) (Code.seq (Code.region 6 (regOf Try.f116 6) true) Code.ret)) (Code.seq (Code.region 7 (regOf Try.f116 7) false) (Code.cond (Operand.tmp 44) (Code.seq (Code.region 8 (regOf Try.f116 8) false) (Code.region 9 (regOf Try.f116 9) false)) (Code.seq (Code.region 10 (regOf Try.f116 10) false) (Code.cond (Operand.tmp 50) (Code.region 11 (regOf Try.f116 11) false) Code.skip)))))))) (Code.seq (Code.region 12 (regOf Try.f116 12) false) (Code.seq (Code.region 13 (regOf Try.f116 13) true) Code.ret)))))) := by kernel_rfl
set_option maxRecDepth 20000 in
set_option maxHeartbeats 1000000 in
theorem q_inner {P : List (List Stp)} {pv : Sl} {fuel : Int} {sbs : List Sl} {d : Nat} (IH : CallCQ P fuel pv sbs d) {w0 w : World} {Rs : List Asn} (m : MQ) (c : FQ) (at_ : Int) (z : Stp) {tr se df : Sl} (x : Nat) (hS : Sat w0 w (rE tr m.trace :: rS se m.seen :: Rs)) (hm : OkQ fuel m (x + 2)) (hk : OkC P.length c) (hs : StpOk P.length z) (h4 : z.k = 4) (hd1 : c.depth + d + 1 = 9) (hd2 : 1 ≤ c.depth) (ha0 : 0 ≤ at_) (ha8 : at_ ≤ 8) (hPr : Keeps w0 Rs (fun w => RdProg w pv sbs P)) :
  Calls Try.prog 116 #[mV pv fuel m tr se, cV c df, .int .i64 at_, .agg #[.int .i64 z.k, .int .i64 z.a, .int .i64 z.b]] w (Ret fun r w' => ∃ (q : MQ × FQ × Int) (tr' se' : Sl), q = qInner (qCall P fuel d) m c at_ z ∧ r = .tuple #[mV pv fuel q.1 tr' se', cV q.2.1 df, .int .i64 q.2.2] ∧ Sat w0 w' (rE tr' q.1.trace :: rS se' q.1.seen :: Rs)) := by
 replace hS : Sat w0 w ((rE tr m.trace) :: (rS se m.seen) :: Rs) := hS
 have hfn := hs.f (.inl h4)
 refine enter (n := 62) Try.func116 code116 (by kernel_rfl) (Nat.le_of_ble_eq_true rfl) (fun a ha => ?_)
 replace ha : Has 62 [(0, (mG pv fuel m.spent m.shared m.made m.deep tr se)), (1, (cG c.f c.depth c.r0 c.r1 c.r2 c.r3 df c.kind c.value c.leaving c.deferred c.panicking c.panic c.recovered c.outer)), (2, iv at_), (3, .agg #[iv z.k, iv z.a, iv z.b])] a := ha
 refine wp_seq ?_
 refine p_beginL [0, 1, 2, 3, 4, 5] ?_
 refine p_op (o_new (cs := (mL pv fuel m.spent m.shared m.made m.deep tr se)) (T := 110) (fun b => .pointer (some ⟨b, 0, none⟩)) ha (by decide) (iAt (op := (Op.box 110 (Operand.tmp 0))) (d := some 4) (ty := 0)) (by kernel_rfl) hS (fun _ => by kernel_rfl) fun b1 w a hb2 hS ha => ?_)
 refine p_op (o_new (cs := (cL c.f c.depth c.r0 c.r1 c.r2 c.r3 df c.kind c.value c.leaving c.deferred c.panicking c.panic c.recovered c.outer)) (T := 113) (fun b => .pointer (some ⟨b, 0, none⟩)) ha (by decide) (iAt (op := (Op.box 113 (Operand.tmp 1))) (d := some 5) (ty := 0)) (by kernel_rfl) hS (fun _ => by kernel_rfl) fun b3 w a hb4 hS ha => ?_)
 refine p_op (o_new (cs := [iv z.k, iv z.a, iv z.b]) (T := 144) (fun b => .pointer (some ⟨b, 0, none⟩)) ha (by decide) (iAt (op := (Op.box 144 (Operand.tmp 3))) (d := some 7) (ty := 0)) (by kernel_rfl) hS (fun _ => by kernel_rfl) fun b5 w a hb6 hS ha => ?_)
 refine p_op (o_new (cs := (mL (⟨none, 0, 0⟩) 0 false 0 0 0 (⟨none, 0, 0⟩) (⟨none, 0, 0⟩))) (T := 110) (fun b => .pointer (some ⟨b, 0, none⟩)) ha (by decide) (iAt (op := (Op.alloc 110)) (d := some 8) (ty := 0)) (by kernel_rfl) hS (fun _ => by kernel_rfl) fun b7 w a hb8 hS ha => ?_)
 refine p_op (o_new (cs := (cL 0 0 0 0 0 0 (⟨none, 0, 0⟩) 0 0 false false false 0 false 0)) (T := 113) (fun b => .pointer (some ⟨b, 0, none⟩)) ha (by decide) (iAt (op := (Op.alloc 113)) (d := some 9) (ty := 0)) (by kernel_rfl) hS (fun _ => by kernel_rfl) fun b9 w a hb10 hS ha => ?_)
 refine p_run [(5, 10, iv 0)] ha fun a ha => ?_
 refine p_end ?_
 refine then_n ?_
 refine wp_seq ?_
 refine p_beginL [0, 1, 2, 3, 4, 5] ?_
 refine p_run [(0, 13, ptr b5 2)] ha fun a ha => ?_
 refine p_ld (d := 14) (b := b5) (j := 2) ha (hS.blk 2 rfl) rfl fun a ha => ?_
 refine p_run [(2, 15, ptr b3 2)] ha fun a ha => ?_
 refine p_val (v := .pointer (some ⟨b3, 2 + (z.b : Int).toNat * 1, none⟩)) ha (by decide) (v_indexA (len := 4) (el := 3) (sz := 1) ha (iAt (op := (Op.indexAddr 111 (Operand.tmp 15) (Operand.tmp 14))) (d := some 16) (ty := 0)) rfl rfl (by kernel_rfl) (by kernel_rfl) (by have := (reg4 (hs.b (by omega))); omega) (by have := (reg4 (hs.b (by omega))); omega)) (fun a ha => ?_)
 refine p_val (v := iv (g4 c.r0 c.r1 c.r2 c.r3 z.b)) ha (by decide) (v_load (v := iv (g4 c.r0 c.r1 c.r2 c.r3 z.b)) (cs := [iv c.f, iv c.depth, iv c.r0, iv c.r1, iv c.r2, iv c.r3, .slice df.A df.n df.c, iv c.kind, iv c.value, .bool c.leaving, .bool c.deferred, .bool c.panicking, iv c.panic, .bool c.recovered, iv c.outer]) (T := 113) ha (iAt (op := (Op.load 3 (Operand.tmp 16))) (d := some 17) (ty := 3)) rfl (by kernel_rfl) (fun _ hw => by rw [hw]; exact hS.blk 3 rfl) (by rcases (reg4 (hs.b (by omega))) with h | h | h | h <;> simp [h, g4])) (fun a ha => ?_)
 refine p_run [(5, 11, iv (g4 c.r0 c.r1 c.r2 c.r3 z.b))] ha fun a ha => ?_
 refine p_end ?_
 refine then_n ?_
 refine wp_seq ?_
 refine p_beginL [0, 1, 2, 3, 4, 5, 6, 7, 8, 9, 10, 11, 12, 13, 14, 15] ?_
 refine p_val ha (by decide) (v_loadW ha (iAt (op := (Op.load 110 (Operand.tmp 4))) (d := some 19) (ty := 110)) rfl (by kernel_rfl) (fun _ hw => by rw [hw]; exact hS.blk 4 rfl)) (fun a ha => ?_)
 refine p_run [(1, 20, ptr b5 1)] ha fun a ha => ?_
 refine p_ld (d := 21) (b := b5) (j := 1) ha (hS.blk 2 rfl) rfl fun a ha => ?_
 refine p_run [(3, 22, ptr b3 1)] ha fun a ha => ?_
 refine p_ld (d := 23) (b := b3) (j := 1) ha (hS.blk 3 rfl) rfl fun a ha => ?_
 refine p_val (v := iv (c.depth + 1)) ha (by decide) ((v_pure (v := .int .i64 (IntKind.i64.wrap (c.depth + 1))) ha (iAt (op := (Op.binOp BinOp.add 3 (Operand.tmp 23) (Operand.const (Value.int IntKind.i64 1)) 3)) (d := some 24) (ty := 3)) (by kernel_rfl) (fun _ => by kernel_rfl)).as (by rw [wrap_i64 (by omega) (by omega)])) (fun a ha => ?_)
 refine p_run [(6, 25, iv (g4 c.r0 c.r1 c.r2 c.r3 z.b)), (7, 26, .agg #[iv (g4 c.r0 c.r1 c.r2 c.r3 z.b), iv 0, iv 0, iv 0]), (8, 27, (cG z.a (c.depth + 1) (g4 c.r0 c.r1 c.r2 c.r3 z.b) 0 0 0 (⟨none, 0, 0⟩) 0 0 false false false 0 false 0))] ha fun a ha => ?_
 refine p_op (o_ret ha (by decide) (iAt (op := (Op.call { callee := (Callee.value (Operand.func 95)), args := #[(Operand.tmp 19), (Operand.tmp 27)], argTypes := #[110, 113] })) (d := some 28) (ty := 114)) rfl Try.func95 (by kernel_rfl) (IH w0 _ _ m (FQ.new z.a (c.depth + 1) (c.get z.b)) _ _ (⟨none, 0, 0⟩ : Sl) x ((Sat.nilRow (T := 153) (sz := 2) hS).pickN 8 [6, 7, 0, 1, 2, 3, 4, 5] (by decide) rfl) hm (OkC.new hfn.1 hfn.2 (hk.get _)) rfl (by simp only [FQ.new]; omega) (by simp only [FQ.new]; omega) (hPr.more [_, _, _, _, _])) fun v11 w a hp12 ha => ?_)
 obtain ⟨q1, tr1, se1, df1, hq1, rfl, hS⟩ := hp12
 replace hq1 : qCall P fuel d m (FQ.new z.a (c.depth + 1) (c.get z.b)) = q1 := hq1.symm
 refine p_run [(10, 18, .tuple #[(mG pv fuel q1.1.spent q1.1.shared q1.1.made q1.1.deep tr1 se1), (cG q1.2.f q1.2.depth q1.2.r0 q1.2.r1 q1.2.r2 q1.2.r3 df1 q1.2.kind q1.2.value q1.2.leaving q1.2.deferred q1.2.panicking q1.2.panic q1.2.recovered q1.2.outer)]), (11, 29, (mG pv fuel q1.1.spent q1.1.shared q1.1.made q1.1.deep tr1 se1)), (12, 30, (cG q1.2.f q1.2.depth q1.2.r0 q1.2.r1 q1.2.r2 q1.2.r3 df1 q1.2.kind q1.2.value q1.2.leaving q1.2.deferred q1.2.panicking q1.2.panic q1.2.recovered q1.2.outer))] ha fun a ha => ?_
 refine p_op (o_new (cs := (cL 0 0 0 0 0 0 (⟨none, 0, 0⟩) 0 0 false false false 0 false 0)) (T := 113) (fun b => .pointer (some ⟨b, 0, none⟩)) ha (by decide) (iAt (op := (Op.alloc 113)) (d := some 12) (ty := 0)) (by kernel_rfl) hS (fun _ => by kernel_rfl) fun b13 w a hb14 hS ha => ?_)
 refine p_op (o_storeAgg 8 ha (iAt (op := (Op.store 110 (Operand.tmp 4) (Operand.tmp 29))) (ty := 0)) rfl rfl rfl (by kernel_rfl) hS rfl (Nat.le_of_ble_eq_true rfl) rfl fun w a hS ha => ?_)
 refine p_op (o_storeAgg 0 ha (iAt (op := (Op.store 113 (Operand.tmp 12) (Operand.tmp 30))) (ty := 0)) rfl rfl rfl (by kernel_rfl) hS rfl (Nat.le_of_ble_eq_true rfl) rfl fun w a hS ha => ?_)
 refine p_end ?_
 replace ha := ha.as [(2, iv at_), (4, ptr b1 0), (5, ptr b3 0), (8, ptr b7 0), (9, ptr b9 0), (10, iv 0), (12, ptr b13 0)] rfl
 refine then_n ?_
 refine wp_seq ?_
 refine wp_seq ?_
 refine p_beginL [0, 1] ?_
 refine p_run [(0, 31, ptr b13 7)] ha fun a ha => ?_
 refine p_ld (d := 32) (b := b13) (j := 7) ha (hS.blk 0 rfl) rfl fun a ha => ?_
 refine p_end ?_
 refine then_n ?_
 refine wp_block ?_
 refine wp_seq ?_
 refine p_beginL [0, 1] ?_
 refine p_run [(0, 34, .bool (decide (q1.2.kind = 1))), (1, 33, .bool (decide (q1.2.kind = 1)))] ha fun a ha => ?_
 refine p_end ?_
 refine then_n ?_
 by_cases c15 : q1.2.kind = 1
 ·
  refine c_true ha rfl (decide_eq_true c15) ?_
  refine wp_seq ?_
  refine p_beginL [0, 1, 2, 3, 4, 5] ?_
  refine p_run [(0, 35, ptr b13 2), (1, 36, ptr b13 3)] ha fun a ha => ?_
  refine p_ld (d := 37) (b := b13) (j := 3) ha (hS.blk 0 rfl) rfl fun a ha => ?_
  refine p_run [(3, 38, ptr b3 2), (4, 39, ptr b3 4)] ha fun a ha => ?_
  refine p_op (o_st b3 4 (iv q1.2.r1) 7 ha hS rfl rfl fun w a hS ha => ?_)
  refine p_end ?_
  refine then_n ?_
  refine wp_seq ?_
  refine d_startP 5 7 (hS.pickN 9 [0, 4, 6, 7, 8] (by decide) rfl) hS fun w hS => ?_
  refine d_val (i := 0) ha (by decide) (v_loadW ha (iAt (op := (Op.load 110 (Operand.tmp 4))) (d := some 40) (ty := 110)) rfl (by kernel_rfl) (fun _ hw => hw.blk 4 rfl)) (hS.pickN 9 [0, 4, 6, 7, 8] (by decide) rfl) (by kernel_rfl) (by kernel_rfl) (pk_then (pk_in (pk_then (pk_body)))) fun a ha => ?_
  refine d_val (i := 1) ha (by decide) (v_loadW ha (iAt (op := (Op.load 113 (Operand.tmp 5))) (d := some 41) (ty := 113)) rfl (by kernel_rfl) (fun _ hw => hw.blk 3 rfl)) (hS.pickN 9 [0, 4, 6, 7, 8] (by decide) rfl) (by kernel_rfl) (by kernel_rfl) (pk_then (pk_in (pk_then (pk_body)))) fun a ha => ?_
  refine d_run (k := 4) [(2, 42, iv at_)] ha (.inr (hS.pickN 9 [0, 4, 6, 7, 8] (by decide) rfl)) (pk_then (pk_in (pk_then (pk_body)))) fun a ha => ?_
  refine d_pure (i := 3) (v := iv (at_ + 1)) ha (by decide) ((v_pure (v := .int .i64 (IntKind.i64.wrap (at_ + 1))) ha (iAt (op := (Op.binOp BinOp.add 3 (Operand.tmp 42) (Operand.const (Value.int IntKind.i64 1)) 3)) (d := some 43) (ty := 3)) (by kernel_rfl) (fun _ => by kernel_rfl)).as (by rw [wrap_i64 (by omega) (by omega)])) (.inr (hS.pickN 9 [0, 4, 6, 7, 8] (by decide) rfl)) (by kernel_rfl) (by kernel_rfl) (pk_then (pk_in (pk_then (pk_body)))) fun a ha => ?_
  refine d_one (i := 4) (by kernel_rfl) (o_storeAgg 5 ha (iAt (op := (Op.store 110 (Operand.tmp 8) (Operand.tmp 40))) (ty := 0)) rfl rfl rfl (by kernel_rfl) hS rfl (Nat.le_of_ble_eq_true rfl) rfl fun w a hS ha => ?_)
  refine ⟨.inr (hS.pickN 9 [0, 4, 6, 7, 8] (by decide) rfl), ?_⟩
  refine d_one (i := 5) (by kernel_rfl) (o_storeAgg 4 ha (iAt (op := (Op.store 113 (Operand.tmp 9) (Operand.tmp 41))) (ty := 0)) rfl rfl rfl (by kernel_rfl) hS rfl (Nat.le_of_ble_eq_true rfl) rfl fun w a hS ha => ?_)
  refine ⟨.inl (by kernel_rfl), ?_⟩
  refine d_run (k := 0) [(6, 10, iv (at_ + 1))] ha (.inl (by kernel_rfl)) (pk_then (pk_in (pk_then (pk_body)))) fun a ha => ?_
  refine d_end (by kernel_rfl) ?_ _
  replace ha := ha.as [(4, ptr b1 0), (5, ptr b3 0), (8, ptr b7 0), (9, ptr b9 0), (12, ptr b13 0), (10, iv (at_ + 1))] rfl
  refine then_n ?_
  refine wp_ret ?_
  refine in_r ?_
  refine then_r ?_
  refine end_res3 ha (by kernel_rfl) (resC (t := 8) (ty := 110) (i := 5) ha rfl hS rfl (by kernel_rfl)) (resC (t := 9) (ty := 113) (i := 4) ha rfl hS rfl (by kernel_rfl)) (resT (t := 10) ha rfl) ?_
  have hE : qInner (qCall P fuel d) m c at_ z = (q1.1, (⟨c.f, c.depth, c.r0, c.r1, q1.2.r1, c.r3, c.defers, c.kind, c.value, c.leaving, c.deferred, c.panicking, c.panic, c.recovered, c.outer⟩ : FQ), at_ + 1) := by (unfold qInner; simp only [hq1, c15, if_true, if_false, Bool.true_or, Bool.false_or, Bool.or_true, Bool.or_false]) <;> rfl
  rw [hE]
  replace hS : Sat w0 w ((rE tr1 q1.1.trace) :: (rS se1 q1.1.seen) :: Rs) := hS.pickN 9 [1, 2] (by decide) rfl
  exact ⟨_, tr1, se1, rfl, rfl, hS⟩
 ·
  refine c_false ha rfl (decide_eq_false c15) ?_
  refine wp_seq ?_
  refine p_beginL [0, 1] ?_
  refine p_run [(0, 45, .bool (decide (q1.2.kind = 2))), (1, 44, .bool (decide (q1.2.kind = 2)))] ha fun a ha => ?_
  refine p_end ?_
  refine then_n ?_
  by_cases c16 : q1.2.kind = 2
  ·
   refine c_true ha rfl (decide_eq_true c16) ?_
   refine wp_seq ?_
   refine p_beginL [0, 1] ?_
   refine p_run [(0, 46, ptr b3 7)] ha fun a ha => ?_
   refine p_op (o_st b3 7 (iv 2) 7 ha hS rfl rfl fun w a hS ha => ?_)
   refine p_end ?_
   refine then_n ?_
   refine p_beginL [0, 1, 2, 3] ?_
   refine p_run [(0, 47, ptr b13 8)] ha fun a ha => ?_
   refine p_ld (d := 48) (b := b13) (j := 8) ha (hS.blk 0 rfl) rfl fun a ha => ?_
   refine p_run [(2, 49, ptr b3 8)] ha fun a ha => ?_
   refine p_op (o_st b3 8 (iv q1.2.value) 7 ha hS rfl rfl fun w a hS ha => ?_)
   refine p_end ?_
   refine in_n ?_
   refine then_n ?_
   refine wp_seq ?_
   refine p_beginL [0, 1, 2, 3, 4, 5, 6, 7] ?_
   refine p_run [(0, 53, ptr b3 9)] ha fun a ha => ?_
   refine p_ld (d := 54) (b := b3) (j := 9) ha (hS.blk 7 rfl) rfl fun a ha => ?_
   refine p_run [(2, 55, .bool c.leaving)] ha fun a ha => ?_
   rcases Bool.eq_false_or_eq_true c.leaving with c17 | c17
   ·
    replace ha := ha.turn 54 (.bool true) rfl (congrArg Value.bool c17)
    replace ha := ha.turn 55 (.bool true) rfl (congrArg Value.bool c17)
    refine p_run [(3, 56, undef), (4, 57, undef), (5, 58, .bool true), (6, 59, ptr b3 9)] ha fun a ha => ?_
    refine p_op (o_st b3 9 (.bool true) 7 ha hS rfl rfl fun w a hS ha => ?_)
    refine p_end ?_
    replace ha := ha.as [(4, ptr b1 0), (5, ptr b3 0), (8, ptr b7 0), (9, ptr b9 0), (10, iv 0)] rfl
    refine then_n ?_
    refine wp_seq ?_
    refine d_startP 3 5 (hS.pickN 9 [0, 4, 6, 7, 8] (by decide) rfl) hS fun w hS => ?_
    refine d_val (i := 0) ha (by decide) (v_loadW ha (iAt (op := (Op.load 110 (Operand.tmp 4))) (d := some 60) (ty := 110)) rfl (by kernel_rfl) (fun _ hw => hw.blk 4 rfl)) (hS.pickN 9 [0, 4, 6, 7, 8] (by decide) rfl) (by kernel_rfl) (by kernel_rfl) (pk_then (pk_body)) fun a ha => ?_
    refine d_val (i := 1) ha (by decide) (v_loadW ha (iAt (op := (Op.load 113 (Operand.tmp 5))) (d := some 61) (ty := 113)) rfl (by kernel_rfl) (fun _ hw => hw.blk 3 rfl)) (hS.pickN 9 [0, 4, 6, 7, 8] (by decide) rfl) (by kernel_rfl) (by kernel_rfl) (pk_then (pk_body)) fun a ha => ?_
    refine d_one (i := 2) (by kernel_rfl) (o_storeAgg 5 ha (iAt (op := (Op.store 110 (Operand.tmp 8) (Operand.tmp 60))) (ty := 0)) rfl rfl rfl (by kernel_rfl) hS rfl (Nat.le_of_ble_eq_true rfl) rfl fun w a hS ha => ?_)
    refine ⟨.inr (hS.pickN 9 [0, 4, 6, 7, 8] (by decide) rfl), ?_⟩
    refine d_one (i := 3) (by kernel_rfl) (o_storeAgg 4 ha (iAt (op := (Op.store 113 (Operand.tmp 9) (Operand.tmp 61))) (ty := 0)) rfl rfl rfl (by kernel_rfl) hS rfl (Nat.le_of_ble_eq_true rfl) rfl fun w a hS ha => ?_)
    refine ⟨.inl (by kernel_rfl), ?_⟩
    refine d_run (k := 0) [(4, 10, iv (-1))] ha (.inl (by kernel_rfl)) (pk_then (pk_body)) fun a ha => ?_
    refine d_end (by kernel_rfl) ?_ _
    refine then_n ?_
    refine wp_ret ?_
    refine end_res3 ha (by kernel_rfl) (resC (t := 8) (ty := 110) (i := 5) ha rfl hS rfl (by kernel_rfl)) (resC (t := 9) (ty := 113) (i := 4) ha rfl hS rfl (by kernel_rfl)) (resT (t := 10) ha rfl) ?_
    have hE : qInner (qCall P fuel d) m c at_ z = (q1.1, (⟨c.f, c.depth, c.r0, c.r1, c.r2, c.r3, c.defers, 2, q1.2.value, true, c.deferred, c.panicking, c.panic, c.recovered, c.outer⟩ : FQ), (-1)) := by (unfold qInner; simp only [hq1, c15, c16, c17, if_true, if_false, Bool.true_or, Bool.false_or, Bool.or_true, Bool.or_false]) <;> rfl
    rw [hE]
    replace hS : Sat w0 w ((rE tr1 q1.1.trace) :: (rS se1 q1.1.seen) :: Rs) := hS.pickN 9 [1, 2] (by decide) rfl
    exact ⟨_, tr1, se1, rfl, rfl, hS⟩
   ·
    replace ha := ha.turn 54 (.bool false) rfl (congrArg Value.bool c17)
    replace ha := ha.turn 55 (.bool false) rfl (congrArg Value.bool c17)
    refine p_run [(3, 56, ptr b13 9)] ha fun a ha => ?_
    refine p_ld (d := 57) (b := b13) (j := 9) ha (hS.blk 0 rfl) rfl fun a ha => ?_
    refine p_run [(5, 58, .bool q1.2.leaving), (6, 59, ptr b3 9)] ha fun a ha => ?_
    refine p_op (o_st b3 9 (.bool q1.2.leaving) 7 ha hS rfl rfl fun w a hS ha => ?_)
    refine p_end ?_
    replace ha := ha.as [(4, ptr b1 0), (5, ptr b3 0), (8, ptr b7 0), (9, ptr b9 0), (10, iv 0)] rfl
    refine then_n ?_
    refine wp_seq ?_
    refine d_startP 3 5 (hS.pickN 9 [0, 4, 6, 7, 8] (by decide) rfl) hS fun w hS => ?_
    refine d_val (i := 0) ha (by decide) (v_loadW ha (iAt (op := (Op.load 110 (Operand.tmp 4))) (d := some 60) (ty := 110)) rfl (by kernel_rfl) (fun _ hw => hw.blk 4 rfl)) (hS.pickN 9 [0, 4, 6, 7, 8] (by decide) rfl) (by kernel_rfl) (by kernel_rfl) (pk_then (pk_body)) fun a ha => ?_
    refine d_val (i := 1) ha (by decide) (v_loadW ha (iAt (op := (Op.load 113 (Operand.tmp 5))) (d := some 61) (ty := 113)) rfl (by kernel_rfl) (fun _ hw => hw.blk 3 rfl)) (hS.pickN 9 [0, 4, 6, 7, 8] (by decide) rfl) (by kernel_rfl) (by kernel_rfl) (pk_then (pk_body)) fun a ha => ?_
    refine d_one (i := 2) (by kernel_rfl) (o_storeAgg 5 ha (iAt (op := (Op.store 110 (Operand.tmp 8) (Operand.tmp 60))) (ty := 0)) rfl rfl rfl (by kernel_rfl) hS rfl (Nat.le_of_ble_eq_true rfl) rfl fun w a hS ha => ?_)
    refine ⟨.inr (hS.pickN 9 [0, 4, 6, 7, 8] (by decide) rfl), ?_⟩
    refine d_one (i := 3) (by kernel_rfl) (o_storeAgg 4 ha (iAt (op := (Op.store 113 (Operand.tmp 9) (Operand.tmp 61))) (ty := 0)) rfl rfl rfl (by kernel_rfl) hS rfl (Nat.le_of_ble_eq_true rfl) rfl fun w a hS ha => ?_)
    refine ⟨.inl (by kernel_rfl), ?_⟩
    refine d_run (k := 0) [(4, 10, iv (-1))] ha (.inl (by kernel_rfl)) (pk_then (pk_body)) fun a ha => ?_
    refine d_end (by kernel_rfl) ?_ _
    refine then_n ?_
    refine wp_ret ?_
    refine end_res3 ha (by kernel_rfl) (resC (t := 8) (ty := 110) (i := 5) ha rfl hS rfl (by kernel_rfl)) (resC (t := 9) (ty := 113) (i := 4) ha rfl hS rfl (by kernel_rfl)) (resT (t := 10) ha rfl) ?_
    have hE : qInner (qCall P fuel d) m c at_ z = (q1.1, (⟨c.f, c.depth, c.r0, c.r1, c.r2, c.r3, c.defers, 2, q1.2.value, q1.2.leaving, c.deferred, c.panicking, c.panic, c.recovered, c.outer⟩ : FQ), (-1)) := by (unfold qInner; simp only [hq1, c15, c16, c17, if_true, if_false, Bool.true_or, Bool.false_or, Bool.or_true, Bool.or_false]) <;> rfl
    rw [hE]
    replace hS : Sat w0 w ((rE tr1 q1.1.trace) :: (rS se1 q1.1.seen) :: Rs) := hS.pickN 9 [1, 2] (by decide) rfl
    exact ⟨_, tr1, se1, rfl, rfl, hS⟩
  ·
   refine c_false ha rfl (decide_eq_false c16) ?_
   refine wp_seq ?_
   refine p_beginL [0, 1] ?_
   refine p_run [(0, 51, .bool (decide (q1.2.kind = 3))), (1, 50, .bool (decide (q1.2.kind = 3)))] ha fun a ha => ?_
   refine p_end ?_
   refine then_n ?_
   by_cases c18 : q1.2.kind = 3
   ·
    refine c_true ha rfl (decide_eq_true c18) ?_
    refine p_beginL [0, 1] ?_
    refine p_run [(0, 52, ptr b3 7)] ha fun a ha => ?_
    refine p_op (o_st b3 7 (iv 3) 7 ha hS rfl rfl fun w a hS ha => ?_)
    refine p_end ?_
    refine in_n ?_
    refine then_n ?_
    refine wp_seq ?_
    refine p_beginL [0, 1, 2, 3, 4, 5, 6, 7] ?_
    refine p_run [(0, 53, ptr b3 9)] ha fun a ha => ?_
    refine p_ld (d := 54) (b := b3) (j := 9) ha (hS.blk 7 rfl) rfl fun a ha => ?_
    refine p_run [(2, 55, .bool c.leaving)] ha fun a ha => ?_
    rcases Bool.eq_false_or_eq_true c.leaving with c19 | c19
    ·
     replace ha := ha.turn 54 (.bool true) rfl (congrArg Value.bool c19)
     replace ha := ha.turn 55 (.bool true) rfl (congrArg Value.bool c19)
     refine p_run [(3, 56, undef), (4, 57, undef), (5, 58, .bool true), (6, 59, ptr b3 9)] ha fun a ha => ?_
     refine p_op (o_st b3 9 (.bool true) 7 ha hS rfl rfl fun w a hS ha => ?_)
     refine p_end ?_
     replace ha := ha.as [(4, ptr b1 0), (5, ptr b3 0), (8, ptr b7 0), (9, ptr b9 0), (10, iv 0)] rfl
     refine then_n ?_
     refine wp_seq ?_
     refine d_startP 3 5 (hS.pickN 9 [0, 4, 6, 7, 8] (by decide) rfl) hS fun w hS => ?_
     refine d_val (i := 0) ha (by decide) (v_loadW ha (iAt (op := (Op.load 110 (Operand.tmp 4))) (d := some 60) (ty := 110)) rfl (by kernel_rfl) (fun _ hw => hw.blk 4 rfl)) (hS.pickN 9 [0, 4, 6, 7, 8] (by decide) rfl) (by kernel_rfl) (by kernel_rfl) (pk_then (pk_body)) fun a ha => ?_
     refine d_val (i := 1) ha (by decide) (v_loadW ha (iAt (op := (Op.load 113 (Operand.tmp 5))) (d := some 61) (ty := 113)) rfl (by kernel_rfl) (fun _ hw => hw.blk 3 rfl)) (hS.pickN 9 [0, 4, 6, 7, 8] (by decide) rfl) (by kernel_rfl) (by kernel_rfl) (pk_then (pk_body)) fun a ha => ?_
     refine d_one (i := 2) (by kernel_rfl) (o_storeAgg 5 ha (iAt (op := (Op.store 110 (Operand.tmp 8) (Operand.tmp 60))) (ty := 0)) rfl rfl rfl (by kernel_rfl) hS rfl (Nat.le_of_ble_eq_true rfl) rfl fun w a hS ha => ?_)
     refine ⟨.inr (hS.pickN 9 [0, 4, 6, 7, 8] (by decide) rfl), ?_⟩
     refine d_one (i := 3) (by kernel_rfl) (o_storeAgg 4 ha (iAt (op := (Op.store 113 (Operand.tmp 9) (Operand.tmp 61))) (ty := 0)) rfl rfl rfl (by kernel_rfl) hS rfl (Nat.le_of_ble_eq_true rfl) rfl fun w a hS ha => ?_)
     refine ⟨.inl (by kernel_rfl), ?_⟩
     refine d_run (k := 0) [(4, 10, iv (-1))] ha (.inl (by kernel_rfl)) (pk_then (pk_body)) fun a ha => ?_
     refine d_end (by kernel_rfl) ?_ _
     refine then_n ?_
     refine wp_ret ?_
     refine end_res3 ha (by kernel_rfl) (resC (t := 8) (ty := 110) (i := 5) ha rfl hS rfl (by kernel_rfl)) (resC (t := 9) (ty := 113) (i := 4) ha rfl hS rfl (by kernel_rfl)) (resT (t := 10) ha rfl) ?_
     have hE : qInner (qCall P fuel d) m c at_ z = (q1.1, (⟨c.f, c.depth, c.r0, c.r1, c.r2, c.r3, c.defers, 3, c.value, true, c.deferred, c.panicking, c.panic, c.recovered, c.outer⟩ : FQ), (-1)) := by (unfold qInner; simp only [hq1, c15, c16, c18, c19, if_true, if_false, Bool.true_or, Bool.false_or, Bool.or_true, Bool.or_false]) <;> rfl
     rw [hE]
     replace hS : Sat w0 w ((rE tr1 q1.1.trace) :: (rS se1 q1.1.seen) :: Rs) := hS.pickN 9 [1, 2] (by decide) rfl
     exact ⟨_, tr1, se1, rfl, rfl, hS⟩
    ·
     replace ha := ha.turn 54 (.bool false) rfl (congrArg Value.bool c19)
     replace ha := ha.turn 55 (.bool false) rfl (congrArg Value.bool c19)
     refine p_run [(3, 56, ptr b13 9)] ha fun a ha => ?_
     refine p_ld (d := 57) (b := b13) (j := 9) ha (hS.blk 0 rfl) rfl fun a ha => ?_
     refine p_run [(5, 58, .bool q1.2.leaving), (6, 59, ptr b3 9)] ha fun a ha => ?_
     refine p_op (o_st b3 9 (.bool q1.2.leaving) 7 ha hS rfl rfl fun w a hS ha => ?_)
     refine p_end ?_
     replace ha := ha.as [(4, ptr b1 0), (5, ptr b3 0), (8, ptr b7 0), (9, ptr b9 0), (10, iv 0)] rfl
     refine then_n ?_
     refine wp_seq ?_
     refine d_startP 3 5 (hS.pickN 9 [0, 4, 6, 7, 8] (by decide) rfl) hS fun w hS => ?_
     refine d_val (i := 0) ha (by decide) (v_loadW ha (iAt (op := (Op.load 110 (Operand.tmp 4))) (d := some 60) (ty := 110)) rfl (by kernel_rfl) (fun _ hw => hw.blk 4 rfl)) (hS.pickN 9 [0, 4, 6, 7, 8] (by decide) rfl) (by kernel_rfl) (by kernel_rfl) (pk_then (pk_body)) fun a ha => ?_
     refine d_val (i := 1) ha (by decide) (v_loadW ha (iAt (op := (Op.load 113 (Operand.tmp 5))) (d := some 61) (ty := 113)) rfl (by kernel_rfl) (fun _ hw => hw.blk 3 rfl)) (hS.pickN 9 [0, 4, 6, 7, 8] (by decide) rfl) (by kernel_rfl) (by kernel_rfl) (pk_then (pk_body)) fun a ha => ?_
     refine d_one (i := 2) (by kernel_rfl) (o_storeAgg 5 ha (iAt (op := (Op.store 110 (Operand.tmp 8) (Operand.tmp 60))) (ty := 0)) rfl rfl rfl (by kernel_rfl) hS rfl (Nat.le_of_ble_eq_true rfl) rfl fun w a hS ha => ?_)
     refine ⟨.inr (hS.pickN 9 [0, 4, 6, 7, 8] (by decide) rfl), ?_⟩
     refine d_one (i := 3) (by kernel_rfl) (o_storeAgg 4 ha (iAt (op := (Op.store 113 (Operand.tmp 9) (Operand.tmp 61))) (ty := 0)) rfl rfl rfl (by kernel_rfl) hS rfl (Nat.le_of_ble_eq_true rfl) rfl fun w a hS ha => ?_)
     refine ⟨.inl (by kernel_rfl), ?_⟩
     refine d_run (k := 0) [(4, 10, iv (-1))] ha (.inl (by kernel_rfl)) (pk_then (pk_body)) fun a ha => ?_
     refine d_end (by kernel_rfl) ?_ _
     refine then_n ?_
     refine wp_ret ?_
     refine end_res3 ha (by kernel_rfl) (resC (t := 8) (ty := 110) (i := 5) ha rfl hS rfl (by kernel_rfl)) (resC (t := 9) (ty := 113) (i := 4) ha rfl hS rfl (by kernel_rfl)) (resT (t := 10) ha rfl) ?_
     have hE : qInner (qCall P fuel d) m c at_ z = (q1.1, (⟨c.f, c.depth, c.r0, c.r1, c.r2, c.r3, c.defers, 3, c.value, q1.2.leaving, c.deferred, c.panicking, c.panic, c.recovered, c.outer⟩ : FQ), (-1)) := by (unfold qInner; simp only [hq1, c15, c16, c18, c19, if_true, if_false, Bool.true_or, Bool.false_or, Bool.or_true, Bool.or_false]) <;> rfl
     rw [hE]
     replace hS : Sat w0 w ((rE tr1 q1.1.trace) :: (rS se1 q1.1.seen) :: Rs) := hS.pickN 9 [1, 2] (by decide) rfl
     exact ⟨_, tr1, se1, rfl, rfl, hS⟩
   ·
    refine c_false ha rfl (decide_eq_false c18) ?_
    refine wp_skip ?_
    refine in_n ?_
    refine then_n ?_
    refine wp_seq ?_
    refine p_beginL [0, 1, 2, 3, 4, 5, 6, 7] ?_
    refine p_run [(0, 53, ptr b3 9)] ha fun a ha => ?_
    refine p_ld (d := 54) (b := b3) (j := 9) ha (hS.blk 7 rfl) rfl fun a ha => ?_
    refine p_run [(2, 55, .bool c.leaving)] ha fun a ha => ?_
    rcases Bool.eq_false_or_eq_true c.leaving with c20 | c20
    ·
     replace ha := ha.turn 54 (.bool true) rfl (congrArg Value.bool c20)
     replace ha := ha.turn 55 (.bool true) rfl (congrArg Value.bool c20)
     refine p_run [(3, 56, undef), (4, 57, undef), (5, 58, .bool true), (6, 59, ptr b3 9)] ha fun a ha => ?_
     refine p_op (o_st b3 9 (.bool true) 7 ha hS rfl rfl fun w a hS ha => ?_)
     refine p_end ?_
     replace ha := ha.as [(4, ptr b1 0), (5, ptr b3 0), (8, ptr b7 0), (9, ptr b9 0), (10, iv 0)] rfl
     refine then_n ?_
     refine wp_seq ?_
     refine d_startP 3 5 (hS.pickN 9 [0, 4, 6, 7, 8] (by decide) rfl) hS fun w hS => ?_
     refine d_val (i := 0) ha (by decide) (v_loadW ha (iAt (op := (Op.load 110 (Operand.tmp 4))) (d := some 60) (ty := 110)) rfl (by kernel_rfl) (fun _ hw => hw.blk 4 rfl)) (hS.pickN 9 [0, 4, 6, 7, 8] (by decide) rfl) (by kernel_rfl) (by kernel_rfl) (pk_then (pk_body)) fun a ha => ?_
     refine d_val (i := 1) ha (by decide) (v_loadW ha (iAt (op := (Op.load 113 (Operand.tmp 5))) (d := some 61) (ty := 113)) rfl (by kernel_rfl) (fun _ hw => hw.blk 3 rfl)) (hS.pickN 9 [0, 4, 6, 7, 8] (by decide) rfl) (by kernel_rfl) (by kernel_rfl) (pk_then (pk_body)) fun a ha => ?_
     refine d_one (i := 2) (by kernel_rfl) (o_storeAgg 5 ha (iAt (op := (Op.store 110 (Operand.tmp 8) (Operand.tmp 60))) (ty := 0)) rfl rfl rfl (by kernel_rfl) hS rfl (Nat.le_of_ble_eq_true rfl) rfl fun w a hS ha => ?_)
     refine ⟨.inr (hS.pickN 9 [0, 4, 6, 7, 8] (by decide) rfl), ?_⟩
     refine d_one (i := 3) (by kernel_rfl) (o_storeAgg 4 ha (iAt (op := (Op.store 113 (Operand.tmp 9) (Operand.tmp 61))) (ty := 0)) rfl rfl rfl (by kernel_rfl) hS rfl (Nat.le_of_ble_eq_true rfl) rfl fun w a hS ha => ?_)
     refine ⟨.inl (by kernel_rfl), ?_⟩
     refine d_run (k := 0) [(4, 10, iv (-1))] ha (.inl (by kernel_rfl)) (pk_then (pk_body)) fun a ha => ?_
     refine d_end (by kernel_rfl) ?_ _
     refine then_n ?_
     refine wp_ret ?_
     refine end_res3 ha (by kernel_rfl) (resC (t := 8) (ty := 110) (i := 5) ha rfl hS rfl (by kernel_rfl)) (resC (t := 9) (ty := 113) (i := 4) ha rfl hS rfl (by kernel_rfl)) (resT (t := 10) ha rfl) ?_
     have hE : qInner (qCall P fuel d) m c at_ z = (q1.1, (⟨c.f, c.depth, c.r0, c.r1, c.r2, c.r3, c.defers, c.kind, c.value, true, c.deferred, c.panicking, c.panic, c.recovered, c.outer⟩ : FQ), (-1)) := by (unfold qInner; simp only [hq1, c15, c16, c18, c20, if_true, if_false, Bool.true_or, Bool.false_or, Bool.or_true, Bool.or_false]) <;> rfl
     rw [hE]
     replace hS : Sat w0 w ((rE tr1 q1.1.trace) :: (rS se1 q1.1.seen) :: Rs) := hS.pickN 9 [1, 2] (by decide) rfl
     exact ⟨_, tr1, se1, rfl, rfl, hS⟩
    ·
     replace ha := ha.turn 54 (.bool false) rfl (congrArg Value.bool c20)
     replace ha := ha.turn 55 (.bool false) rfl (congrArg Value.bool c20)
     refine p_run [(3, 56, ptr b13 9)] ha fun a ha => ?_
     refine p_ld (d := 57) (b := b13) (j := 9) ha (hS.blk 0 rfl) rfl fun a ha => ?_
     refine p_run [(5, 58, .bool q1.2.leaving), (6, 59, ptr b3 9)] ha fun a ha => ?_
     refine p_op (o_st b3 9 (.bool q1.2.leaving) 7 ha hS rfl rfl fun w a hS ha => ?_)
     refine p_end ?_
     replace ha := ha.as [(4, ptr b1 0), (5, ptr b3 0), (8, ptr b7 0), (9, ptr b9 0), (10, iv 0)] rfl
     refine then_n ?_
     refine wp_seq ?_
     refine d_startP 3 5 (hS.pickN 9 [0, 4, 6, 7, 8] (by decide) rfl) hS fun w hS => ?_
     refine d_val (i := 0) ha (by decide) (v_loadW ha (iAt (op := (Op.load 110 (Operand.tmp 4))) (d := some 60) (ty := 110)) rfl (by kernel_rfl) (fun _ hw => hw.blk 4 rfl)) (hS.pickN 9 [0, 4, 6, 7, 8] (by decide) rfl) (by kernel_rfl) (by kernel_rfl) (pk_then (pk_body)) fun a ha => ?_
     refine d_val (i := 1) ha (by decide) (v_loadW ha (iAt (op := (Op.load 113 (Operand.tmp 5))) (d := some 61) (ty := 113)) rfl (by kernel_rfl) (fun _ hw => hw.blk 3 rfl)) (hS.pickN 9 [0, 4, 6, 7, 8] (by decide) rfl) (by kernel_rfl) (by kernel_rfl) (pk_then (pk_body)) fun a ha => ?_
     refine d_one (i := 2) (by kernel_rfl) (o_storeAgg 5 ha (iAt (op := (Op.store 110 (Operand.tmp 8) (Operand.tmp 60))) (ty := 0)) rfl rfl rfl (by kernel_rfl) hS rfl (Nat.le_of_ble_eq_true rfl) rfl fun w a hS ha => ?_)
     refine ⟨.inr (hS.pickN 9 [0, 4, 6, 7, 8] (by decide) rfl), ?_⟩
     refine d_one (i := 3) (by kernel_rfl) (o_storeAgg 4 ha (iAt (op := (Op.store 113 (Operand.tmp 9) (Operand.tmp 61))) (ty := 0)) rfl rfl rfl (by kernel_rfl) hS rfl (Nat.le_of_ble_eq_true rfl) rfl fun w a hS ha => ?_)
     refine ⟨.inl (by kernel_rfl), ?_⟩
     refine d_run (k := 0) [(4, 10, iv (-1))] ha (.inl (by kernel_rfl)) (pk_then (pk_body)) fun a ha => ?_
     refine d_end (by kernel_rfl) ?_ _
     refine then_n ?_
     refine wp_ret ?_
     refine end_res3 ha (by kernel_rfl) (resC (t := 8) (ty := 110) (i := 5) ha rfl hS rfl (by kernel_rfl)) (resC (t := 9) (ty := 113) (i := 4) ha rfl hS rfl (by kernel_rfl)) (resT (t := 10) ha rfl) ?_
     have hE : qInner (qCall P fuel d) m c at_ z = (q1.1, (⟨c.f, c.depth, c.r0, c.r1, c.r2, c.r3, c.defers, c.kind, c.value, q1.2.leaving, c.deferred, c.panicking, c.panic, c.recovered, c.outer⟩ : FQ), (-1)) := by (unfold qInner; simp only [hq1, c15, c16, c18, c20, if_true, if_false, Bool.true_or, Bool.false_or, Bool.or_true, Bool.or_false]) <;> rfl
     rw [hE]
     replace hS : Sat w0 w ((rE tr1 q1.1.trace) :: (rS se1 q1.1.seen) :: Rs) := hS.pickN 9 [1, 2] (by decide) rfl
     exact ⟨_, tr1, se1, rfl, rfl, hS⟩
theorem code106 : Try.f106.body = some (Code.seq (Code.region 0 (regOf Try.f106 0) false) (Code.seq (Code.seq (Code.region 1 (regOf Try.f106 1) false) (Code.block 0 (Code.seq (Code.region 2 (regOf Try.f106 2) false) (Code.cond (Operand.tmp 13) (Code.seq (Code.region 3 (regOf Try.f106 3) false) Code.ret) (Code.seq (Code.region 4 (regOf Try.f106 4) false) (Code.cond (Operand.tmp 23) (Code.seq (Code.region 5 (regOf Try.f106 5) true) (Code.seq (Code.region 6 (regOf Try.f106 6) true) Code.ret)) (Code.seq (Code.region 7 (regOf Try.f106 7) false) (Code.cond (Operand.tmp 52) (Code.seq (Code.region 8 (regOf Try.f106 8) false) (Code.seq (Code.region 9 (regOf Try.f106 9) false) (Code.seq (Code.region 10 (regOf Try.f106 10) true) Code.ret))) (Code.seq (Code.region 11 (regOf Try.f106 11) false) (Code.cond (Operand.tmp 68) (Code.seq (Code.region 12 (regOf Try.f106 12) false) (Code.seq (Code.region 13 (regOf Try.f106 13) true) Code.ret)) (Code.seq (Code.region 14 (regOf Try.f106 14) false) (Code.cond (Operand.tmp 79) (Code.seq (Code.region 15 (regOf Try.f106 15) false) (Code.seq (Code.region 16 (regOf Try.f106 16) false) (Code.seq (Code.region 17 (regOf Try.f106 17) true) Code.ret))) (Code.seq (Code.region 18 (regOf Try.f106 18) false) (Code.cond (Operand.tmp 85) (Code.seq (Code.seq (Code.region 19 (regOf Try.f106 19) false) (Code.cond (Operand.tmp 92) (Code.seq (Code.region 20 (regOf Try.f106 20) true) Code.ret) Code.skip)) (Code.seq (Code.region 21 (regOf Try.f106 21) true) Code.ret)) Code.skip)))))))))))))) (Code.seq (Code.region 22 (regOf Try.f106 22) false) (Code.seq (Code.region 23 (regOf Try.f106 23) true) Code.ret)))) := by kernel_rfl
set_option maxRecDepth 20000 in
set_option maxHeartbeats 1000000 in
theorem q_make {P : List (List Stp)} {pv : Sl} {fuel : Int} {sbs : List Sl} {d : Nat} (IH : CallCQ P fuel pv sbs d) {w0 w : World} {Rs : List Asn} (m : MQ) (c : FQ) (at_ : Int) (z : Stp) {tr se df : Sl} (x : Nat) (hS : Sat w0 w (rE tr m.trace :: rS se m.seen :: rS df c.defers :: Rs)) (hm : OkQ fuel m (2 * c.defers.length + x + 3)) (hk : OkC P.length c) (hs : StpOk P.length z) (hd1 : c.depth + d + 1 = 9) (hd2 : 1 ≤ c.depth) (ha0 : 0 ≤ at_) (ha8 : at_ < 8) (hPr : Keeps w0 Rs (fun w => RdProg w pv sbs P)) :
  Calls Try.prog 106 #[mV pv fuel m tr se, cV c df, .int .i64 at_, .agg #[.int .i64 z.k, .int .i64 z.a, .int .i64 z.b]] w (Ret fun r w' => ∃ (q : MQ × FQ × Int) (tr' se' df' : Sl), q = qMake (qCall P fuel d) m c at_ z ∧ r = .tuple #[mV pv fuel q.1 tr' se', cV q.2.1 df', .int .i64 q.2.2] ∧ Sat w0 w' (rE tr' q.1.trace :: rS se' q.1.seen :: rS df' q.2.1.defers :: Rs)) := by
 replace hS : Sat w0 w ((rE tr m.trace) :: (rS se m.seen) :: (rS df c.defers) :: Rs) := hS
 have hlen : m.trace.length ≤ 1000 ∧ c.defers.length ≤ 1000 := by have := hm.bnd; have := hm.made1; omega
 have hk1 := hs.k0
 have hk2 := hs.k1
 refine enter (n := 112) Try.func106 code106 (by kernel_rfl) (Nat.le_of_ble_eq_true rfl) (fun a ha => ?_)
 replace ha : Has 112 [(0, (mG pv fuel m.spent m.shared m.made m.deep tr se)), (1, (cG c.f c.depth c.r0 c.r1 c.r2 c.r3 df c.kind c.value c.leaving c.deferred c.panicking c.panic c.recovered c.outer)), (2, iv at_), (3, .agg #[iv z.k, iv z.a, iv z.b])] a := ha
 refine wp_seq ?_
 refine p_beginL [0, 1, 2, 3, 4, 5] ?_
 refine p_op (o_new (cs := (mL pv fuel m.spent m.shared m.made m.deep tr se)) (T := 110) (fun b => .pointer (some ⟨b, 0, none⟩)) ha (by decide) (iAt (op := (Op.box 110 (Operand.tmp 0))) (d := some 4) (ty := 0)) (by kernel_rfl) hS (fun _ => by kernel_rfl) fun b1 w a hb2 hS ha => ?_)
 refine p_op (o_new (cs := (cL c.f c.depth c.r0 c.r1 c.r2 c.r3 df c.kind c.value c.leaving c.deferred c.panicking c.panic c.recovered c.outer)) (T := 113) (fun b => .pointer (some ⟨b, 0, none⟩)) ha (by decide) (iAt (op := (Op.box 113 (Operand.tmp 1))) (d := some 5) (ty := 0)) (by kernel_rfl) hS (fun _ => by kernel_rfl) fun b3 w a hb4 hS ha => ?_)
 refine p_op (o_new (cs := [iv z.k, iv z.a, iv z.b]) (T := 144) (fun b => .pointer (some ⟨b, 0, none⟩)) ha (by decide) (iAt (op := (Op.box 144 (Operand.tmp 3))) (d := some 7) (ty := 0)) (by kernel_rfl) hS (fun _ => by kernel_rfl) fun b5 w a hb6 hS ha => ?_)
 refine p_op (o_new (cs := (mL (⟨none, 0, 0⟩) 0 false 0 0 0 (⟨none, 0, 0⟩) (⟨none, 0, 0⟩))) (T := 110) (fun b => .pointer (some ⟨b, 0, none⟩)) ha (by decide) (iAt (op := (Op.alloc 110)) (d := some 8) (ty := 0)) (by kernel_rfl) hS (fun _ => by kernel_rfl) fun b7 w a hb8 hS ha => ?_)
 refine p_op (o_new (cs := (cL 0 0 0 0 0 0 (⟨none, 0, 0⟩) 0 0 false false false 0 false 0)) (T := 113) (fun b => .pointer (some ⟨b, 0, none⟩)) ha (by decide) (iAt (op := (Op.alloc 113)) (d := some 9) (ty := 0)) (by kernel_rfl) hS (fun _ => by kernel_rfl) fun b9 w a hb10 hS ha => ?_)
 refine p_run [(5, 10, iv 0)] ha fun a ha => ?_
 refine p_end ?_
 refine then_n ?_
 refine wp_seq ?_
 refine wp_seq ?_
 refine p_beginL [0, 1] ?_
 refine p_run [(0, 11, ptr b5 0)] ha fun a ha => ?_
 refine p_ld (d := 12) (b := b5) (j := 0) ha (hS.blk 2 rfl) rfl fun a ha => ?_
 refine p_end ?_
 refine then_n ?_
 refine wp_block ?_
 refine wp_seq ?_
 refine p_beginL [0, 1] ?_
 refine p_run [(0, 14, .bool (decide (z.k = 4))), (1, 13, .bool (decide (z.k = 4)))] ha fun a ha => ?_
 refine p_end ?_
 refine then_n ?_
 by_cases c11 : z.k = 4
 ·
  refine c_true ha rfl (decide_eq_true c11) ?_
  refine wp_seq ?_
  refine p_beginL [0, 1, 2, 3, 4, 5, 6, 7, 8, 9, 10] ?_
  refine p_val ha (by decide) (v_loadW ha (iAt (op := (Op.load 110 (Operand.tmp 4))) (d := some 15) (ty := 110)) rfl (by kernel_rfl) (fun _ hw => by rw [hw]; exact hS.blk 4 rfl)) (fun a ha => ?_)
  refine p_val ha (by decide) (v_loadW ha (iAt (op := (Op.load 113 (Operand.tmp 5))) (d := some 16) (ty := 113)) rfl (by kernel_rfl) (fun _ hw => by rw [hw]; exact hS.blk 3 rfl)) (fun a ha => ?_)
  refine p_run [(2, 17, iv at_)] ha fun a ha => ?_
  refine p_val ha (by decide) (v_loadW ha (iAt (op := (Op.load 144 (Operand.tmp 7))) (d := some 18) (ty := 144)) rfl (by kernel_rfl) (fun _ hw => by rw [hw]; exact hS.blk 2 rfl)) (fun a ha => ?_)
  refine p_op (o_ret ha (by decide) (iAt (op := (Op.call { callee := (Callee.value (Operand.func 116)), args := #[(Operand.tmp 15), (Operand.tmp 16), (Operand.tmp 17), (Operand.tmp 18)], argTypes := #[110, 113, 3, 144] })) (d := some 19) (ty := 154)) rfl Try.func116 (by kernel_rfl) (q_inner IH m c at_ z (2 * c.defers.length + x) (hS.pickN 8 [5, 6, 0, 1, 2, 3, 4, 7] (by decide) rfl) (hm.less (by omega)) hk hs c11 hd1 hd2 ha0 (by omega) (hPr.more [_, _, _, _, _, _])) fun v12 w a hp13 ha => ?_)
  obtain ⟨q1, tr1, se1, hq1, rfl, hS⟩ := hp13
  refine p_run [(5, 20, (mG pv fuel q1.1.spent q1.1.shared q1.1.made q1.1.deep tr1 se1)), (6, 21, (cG q1.2.1.f q1.2.1.depth q1.2.1.r0 q1.2.1.r1 q1.2.1.r2 q1.2.1.r3 df q1.2.1.kind q1.2.1.value q1.2.1.leaving q1.2.1.deferred q1.2.1.panicking q1.2.1.panic q1.2.1.recovered q1.2.1.outer)), (7, 22, iv q1.2.2)] ha fun a ha => ?_
  refine p_op (o_storeAgg 3 ha (iAt (op := (Op.store 110 (Operand.tmp 8) (Operand.tmp 20))) (ty := 0)) rfl rfl rfl (by kernel_rfl) hS rfl (Nat.le_of_ble_eq_true rfl) rfl fun w a hS ha => ?_)
  refine p_op (o_storeAgg 2 ha (iAt (op := (Op.store 113 (Operand.tmp 9) (Operand.tmp 21))) (ty := 0)) rfl rfl rfl (by kernel_rfl) hS rfl (Nat.le_of_ble_eq_true rfl) rfl fun w a hS ha => ?_)
  refine p_run [(10, 10, iv q1.2.2)] ha fun a ha => ?_
  refine p_end ?_
  refine then_n ?_
  refine wp_ret ?_
  refine in_r ?_
  refine then_r ?_
  refine end_res3 ha (by kernel_rfl) (resC (t := 8) (ty := 110) (i := 3) ha rfl hS rfl (by kernel_rfl)) (resC (t := 9) (ty := 113) (i := 2) ha rfl hS rfl (by kernel_rfl)) (resT (t := 10) ha rfl) ?_
  have hE : qMake (qCall P fuel d) m c at_ z = q1 := by unfold qMake; rw [if_pos c11]; exact hq1.symm
  replace hS : Sat w0 w ((rE tr1 q1.1.trace) :: (rS se1 q1.1.seen) :: (rS df c.defers) :: Rs) := hS.pickN 8 [0, 1, 7] (by decide) rfl
  exact ⟨_, tr1, se1, df, hE.symm, rfl, by rw [hq1, qInner_defers, ← hq1]; exact hS⟩
 ·
  refine c_false ha rfl (decide_eq_false c11) ?_
  refine wp_seq ?_
  refine p_beginL [0, 1] ?_
  refine p_run [(0, 24, .bool (decide (z.k = 5))), (1, 23, .bool (decide (z.k = 5)))] ha fun a ha => ?_
  refine p_end ?_
  refine then_n ?_
  by_cases c14 : z.k = 5
  ·
   refine c_true ha rfl (decide_eq_true c14) ?_
   refine wp_seq ?_
   refine d_startP 15 16 (hS.pickN 8 [0, 1, 2, 3, 4] (by decide) rfl) hS fun w hS => ?_
   refine d_run (k := 15) [(1, 26, ptr b3 6)] ha (.inr (hS.pickN 8 [0, 1, 2, 3, 4] (by decide) rfl)) (pk_then (pk_in (pk_then (pk_body)))) fun a ha => ?_
   refine d_ld 2 (d := 27) (b := b3) (j := 6) ha (hS.pickN 8 [0, 1, 2, 3, 4] (by decide) rfl) (pk_then (pk_in (pk_then (pk_body)))) (fun _ hw => hw.blk 3 rfl) rfl fun a ha => ?_
   refine d_run (k := 13) [(4, 29, ptr b5 1)] ha (.inr (hS.pickN 8 [0, 1, 2, 3, 4] (by decide) rfl)) (pk_then (pk_in (pk_then (pk_body)))) fun a ha => ?_
   refine d_ld 5 (d := 30) (b := b5) (j := 1) ha (hS.pickN 8 [0, 1, 2, 3, 4] (by decide) rfl) (pk_then (pk_in (pk_then (pk_body)))) (fun _ hw => hw.blk 2 rfl) rfl fun a ha => ?_
   refine d_run (k := 11) [(6, 31, ptr b5 2)] ha (.inr (hS.pickN 8 [0, 1, 2, 3, 4] (by decide) rfl)) (pk_then (pk_in (pk_then (pk_body)))) fun a ha => ?_
   refine d_ld 7 (d := 32) (b := b5) (j := 2) ha (hS.pickN 8 [0, 1, 2, 3, 4] (by decide) rfl) (pk_then (pk_in (pk_then (pk_body)))) (fun _ hw => hw.blk 2 rfl) rfl fun a ha => ?_
   refine d_run (k := 9) [(8, 33, ptr b3 2)] ha (.inr (hS.pickN 8 [0, 1, 2, 3, 4] (by decide) rfl)) (pk_then (pk_in (pk_then (pk_body)))) fun a ha => ?_
   refine d_pure (i := 9) (v := .pointer (some ⟨b3, 2 + (z.b : Int).toNat * 1, none⟩)) ha (by decide) (v_indexA (len := 4) (el := 3) (sz := 1) ha (iAt (op := (Op.indexAddr 111 (Operand.tmp 33) (Operand.tmp 32))) (d := some 34) (ty := 0)) rfl rfl (by kernel_rfl) (by kernel_rfl) (by have := (reg4 (hs.b (by omega))); omega) (by have := (reg4 (hs.b (by omega))); omega)) (.inr (hS.pickN 8 [0, 1, 2, 3, 4] (by decide) rfl)) (by kernel_rfl) (by kernel_rfl) (pk_then (pk_in (pk_then (pk_body)))) fun a ha => ?_
   refine d_val (i := 10) (v := iv (g4 c.r0 c.r1 c.r2 c.r3 z.b)) ha (by decide) (v_load (v := iv (g4 c.r0 c.r1 c.r2 c.r3 z.b)) (cs := [iv c.f, iv c.depth, iv c.r0, iv c.r1, iv c.r2, iv c.r3, .slice df.A df.n df.c, iv c.kind, iv c.value, .bool c.leaving, .bool c.deferred, .bool c.panicking, iv c.panic, .bool c.recovered, iv c.outer]) (T := 113) ha (iAt (op := (Op.load 3 (Operand.tmp 34))) (d := some 35) (ty := 3)) rfl (by kernel_rfl) (fun _ hw => hw.blk 3 rfl) (by rcases (reg4 (hs.b (by omega))) with h | h | h | h <;> simp [h, g4])) (hS.pickN 8 [0, 1, 2, 3, 4] (by decide) rfl) (by kernel_rfl) (by kernel_rfl) (pk_then (pk_in (pk_then (pk_body)))) fun a ha => ?_
   refine d_run (k := 6) [(11, 36, .agg #[iv z.a, iv (g4 c.r0 c.r1 c.r2 c.r3 z.b)])] ha (.inr (hS.pickN 8 [0, 1, 2, 3, 4] (by decide) rfl)) (pk_then (pk_in (pk_then (pk_body)))) fun a ha => ?_
   refine d_all (rs := [0, 12]) (by kernel_rfl) (by simp) (forall_mem_2 ?_ ?_)
   ·
    refine id (o_new (cs := []) (T := 153) (fun b => .slice (some ⟨b, 0, none⟩) 0 0) ha (by decide) (iAt (op := (Op.buildSlice 108 0 #[])) (d := some 25) (ty := 108)) (by kernel_rfl) hS (fun _ => by kernel_rfl) fun b15 w a hb16 hS ha => ?_)
    refine ⟨.inr (hS.pickN 9 [1, 2, 3, 4, 5] (by decide) rfl), ?_⟩
    refine d_all (rs := [3, 12]) (by kernel_rfl) (by simp) (forall_mem_2 ?_ ?_)
    ·
     refine id (o_appRow0 (m := df.n) (z := .agg #[iv 0, iv 0]) (sz := 2) (bytes := 16) (ys' := encR c.defers) 0 8 ha (by decide) (iAt (op := (Op.call { callee := (Callee.builtin Builtin.append), args := #[(Operand.tmp 25), (Operand.tmp 27)], argTypes := #[108, 108] })) (d := some 28) (ty := 108)) rfl rfl (by kernel_rfl) (by kernel_rfl) rfl (by decide) hS rfl rfl (Nat.le_refl _) (encR_one _) (by rw [encR_length]; have := hlen.2; omega) (by decide) (encR_all (hS.rowL (s := df) (enc := cellsR) 8 cellsR_len (by decide) rfl)) fun s17 w a hS hn18 ha => ?_)
     refine ⟨.inr (hS.pickN 9 [1, 2, 3, 4, 5] (by decide) rfl), ?_⟩
     refine d_one (i := 12) (by kernel_rfl) (o_new (cs := [iv z.a, iv (g4 c.r0 c.r1 c.r2 c.r3 z.b)]) (T := 153) (fun b => .slice (some ⟨b, 0, none⟩) 1 1) ha (by decide) (iAt (op := (Op.buildSlice 108 1 #[(0, (Operand.tmp 36))])) (d := some 37) (ty := 108)) (by kernel_rfl) hS (fun _ => by kernel_rfl) fun b19 w a hb20 hS ha => ?_)
     refine ⟨.inr (hS.pickN 10 [2, 3, 4, 5, 6] (by decide) rfl), ?_⟩
     refine d_one (i := 13) (by kernel_rfl) (o_appE (news := [iv z.a, iv (g4 c.r0 c.r1 c.r2 c.r3 z.b)]) (z := .agg #[iv 0, iv 0]) (sz := 2) (bytes := 16) (T2 := 153) (xs' := encR (c.defers ++ [(z.a, g4 c.r0 c.r1 c.r2 c.r3 z.b)])) 1 0 ha (by decide) (iAt (op := (Op.call { callee := (Callee.builtin Builtin.append), args := #[(Operand.tmp 28), (Operand.tmp 37)], argTypes := #[108, 108] })) (d := some 38) (ty := 108)) rfl rfl (by kernel_rfl) (by kernel_rfl) rfl (by decide) hS rfl rfl (by simp) rfl (by rw [encR_length]; simp only [List.length_cons, List.length_nil]; have := hlen.2; omega) (by decide) (encR_snoc _ _ _) fun s24 w a hS hn25 ha => ?_)
     refine ⟨.inr (hS.pickN 10 [2, 3, 4, 5, 6] (by decide) rfl), ?_⟩
     refine d_run (k := 1) [(14, 39, ptr b3 6)] ha (.inr (hS.pickN 10 [2, 3, 4, 5, 6] (by decide) rfl)) (pk_then (pk_in (pk_then (pk_body)))) fun a ha => ?_
     refine d_one (i := 15) (by kernel_rfl) (o_st b3 6 (.slice s24.A s24.n s24.c) 5 ha hS rfl rfl fun w a hS ha => ?_)
     refine ⟨.inl (by kernel_rfl), ?_⟩
     refine d_end (by kernel_rfl) ?_ _
     replace ha := ha.as [(2, iv at_), (4, ptr b1 0), (5, ptr b3 0), (7, ptr b5 0), (8, ptr b7 0), (9, ptr b9 0), (10, iv 0)] rfl
     refine then_n ?_
     refine wp_seq ?_
     refine d_startP 13 15 (hS.pickN 10 [0, 2, 4, 5, 6] (by decide) rfl) hS fun w hS => ?_
     refine d_val (i := 0) ha (by decide) (v_loadW ha (iAt (op := (Op.load 110 (Operand.tmp 4))) (d := some 40) (ty := 110)) rfl (by kernel_rfl) (fun _ hw => hw.blk 4 rfl)) (hS.pickN 10 [0, 2, 4, 5, 6] (by decide) rfl) (by kernel_rfl) (by kernel_rfl) (pk_then (pk_in (pk_then (pk_body)))) fun a ha => ?_
     refine d_run (k := 13) [(1, 41, ptr b5 1)] ha (.inr (hS.pickN 10 [0, 2, 4, 5, 6] (by decide) rfl)) (pk_then (pk_in (pk_then (pk_body)))) fun a ha => ?_
     refine d_ld 2 (d := 42) (b := b5) (j := 1) ha (hS.pickN 10 [0, 2, 4, 5, 6] (by decide) rfl) (pk_then (pk_in (pk_then (pk_body)))) (fun _ hw => hw.blk 2 rfl) rfl fun a ha => ?_
     refine d_run (k := 11) [(3, 43, ptr b5 2)] ha (.inr (hS.pickN 10 [0, 2, 4, 5, 6] (by decide) rfl)) (pk_then (pk_in (pk_then (pk_body)))) fun a ha => ?_
     refine d_ld 4 (d := 44) (b := b5) (j := 2) ha (hS.pickN 10 [0, 2, 4, 5, 6] (by decide) rfl) (pk_then (pk_in (pk_then (pk_body)))) (fun _ hw => hw.blk 2 rfl) rfl fun a ha => ?_
     refine d_run (k := 9) [(5, 45, ptr b3 2)] ha (.inr (hS.pickN 10 [0, 2, 4, 5, 6] (by decide) rfl)) (pk_then (pk_in (pk_then (pk_body)))) fun a ha => ?_
     refine d_pure (i := 6) (v := .pointer (some ⟨b3, 2 + (z.b : Int).toNat * 1, none⟩)) ha (by decide) (v_indexA (len := 4) (el := 3) (sz := 1) ha (iAt (op := (Op.indexAddr 111 (Operand.tmp 45) (Operand.tmp 44))) (d := some 46) (ty := 0)) rfl rfl (by kernel_rfl) (by kernel_rfl) (by have := (reg4 (hs.b (by omega))); omega) (by have := (reg4 (hs.b (by omega))); omega)) (.inr (hS.pickN 10 [0, 2, 4, 5, 6] (by decide) rfl)) (by kernel_rfl) (by kernel_rfl) (pk_then (pk_in (pk_then (pk_body)))) fun a ha => ?_
     refine d_val (i := 7) (v := iv (g4 c.r0 c.r1 c.r2 c.r3 z.b)) ha (by decide) (v_load (v := iv (g4 c.r0 c.r1 c.r2 c.r3 z.b)) (cs := [iv c.f, iv c.depth, iv c.r0, iv c.r1, iv c.r2, iv c.r3, .slice s24.A s24.n s24.c, iv c.kind, iv c.value, .bool c.leaving, .bool c.deferred, .bool c.panicking, iv c.panic, .bool c.recovered, iv c.outer]) (T := 113) ha (iAt (op := (Op.load 3 (Operand.tmp 46))) (d := some 47) (ty := 3)) rfl (by kernel_rfl) (fun _ hw => hw.blk 3 rfl) (by rcases (reg4 (hs.b (by omega))) with h | h | h | h <;> simp [h, g4])) (hS.pickN 10 [0, 2, 4, 5, 6] (by decide) rfl) (by kernel_rfl) (by kernel_rfl) (pk_then (pk_in (pk_then (pk_body)))) fun a ha => ?_
     refine d_val (i := 9) ha (by decide) (v_loadW ha (iAt (op := (Op.load 113 (Operand.tmp 5))) (d := some 49) (ty := 113)) rfl (by kernel_rfl) (fun _ hw => hw.blk 3 rfl)) (hS.pickN 10 [0, 2, 4, 5, 6] (by decide) rfl) (by kernel_rfl) (by kernel_rfl) (pk_then (pk_in (pk_then (pk_body)))) fun a ha => ?_
     refine d_run (k := 5) [(10, 50, iv at_)] ha (.inr (hS.pickN 10 [0, 2, 4, 5, 6] (by decide) rfl)) (pk_then (pk_in (pk_then (pk_body)))) fun a ha => ?_
     refine d_pure (i := 11) (v := iv (at_ + 1)) ha (by decide) ((v_pure (v := .int .i64 (IntKind.i64.wrap (at_ + 1))) ha (iAt (op := (Op.binOp BinOp.add 3 (Operand.tmp 50) (Operand.const (Value.int IntKind.i64 1)) 3)) (d := some 51) (ty := 3)) (by kernel_rfl) (fun _ => by kernel_rfl)).as (by rw [wrap_i64 (by omega) (by omega)])) (.inr (hS.pickN 10 [0, 2, 4, 5, 6] (by decide) rfl)) (by kernel_rfl) (by kernel_rfl) (pk_then (pk_in (pk_then (pk_body)))) fun a ha => ?_
     refine d_one (i := 8) (by kernel_rfl) (o_ret ha (by decide) (iAt (op := (Op.call { callee := (Callee.value (Operand.func 105)), args := #[(Operand.tmp 40), (Operand.const (Value.int IntKind.i64 2)), (Operand.tmp 42), (Operand.tmp 47)], argTypes := #[110, 3, 3, 3] })) (d := some 48) (ty := 110)) rfl Try.func105 (by kernel_rfl) (q_tell m (hS.pickN 10 [7, 0, 1, 2, 3, 4, 5, 6, 8, 9] (by decide) rfl) (by exact hlen.1)) fun v27 w a hp28 ha => ?_)
     obtain ⟨s26, rfl, hS⟩ := hp28
     refine ⟨.inr (hS.pickN 10 [1, 3, 5, 6, 7] (by decide) rfl), ?_⟩
     refine d_one (i := 12) (by kernel_rfl) (o_storeAgg 4 ha (iAt (op := (Op.store 110 (Operand.tmp 8) (Operand.tmp 48))) (ty := 0)) rfl rfl rfl (by kernel_rfl) hS rfl (Nat.le_of_ble_eq_true rfl) rfl fun w a hS ha => ?_)
     refine ⟨.inr (hS.pickN 10 [1, 3, 5, 6, 7] (by decide) rfl), ?_⟩
     refine d_one (i := 13) (by kernel_rfl) (o_storeAgg 3 ha (iAt (op := (Op.store 113 (Operand.tmp 9) (Operand.tmp 49))) (ty := 0)) rfl rfl rfl (by kernel_rfl) hS rfl (Nat.le_of_ble_eq_true rfl) rfl fun w a hS ha => ?_)
     refine ⟨.inl (by kernel_rfl), ?_⟩
     refine d_run (k := 0) [(14, 10, iv (at_ + 1))] ha (.inl (by kernel_rfl)) (pk_then (pk_in (pk_then (pk_body)))) fun a ha => ?_
     refine d_end (by kernel_rfl) ?_ _
     refine then_n ?_
     refine wp_ret ?_
     refine in_r ?_
     refine then_r ?_
     refine end_res3 ha (by kernel_rfl) (resC (t := 8) (ty := 110) (i := 4) ha rfl hS rfl (by kernel_rfl)) (resC (t := 9) (ty := 113) (i := 3) ha rfl hS rfl (by kernel_rfl)) (resT (t := 10) ha rfl) ?_
     have hE : qMake (qCall P fuel d) m c at_ z = ((⟨m.spent, m.shared, m.made, m.deep, m.trace ++ [(2, z.a, g4 c.r0 c.r1 c.r2 c.r3 z.b)], m.seen⟩ : MQ), (⟨c.f, c.depth, c.r0, c.r1, c.r2, c.r3, c.defers ++ [(z.a, g4 c.r0 c.r1 c.r2 c.r3 z.b)], c.kind, c.value, c.leaving, c.deferred, c.panicking, c.panic, c.recovered, c.outer⟩ : FQ), at_ + 1) := by (unfold qMake; simp only [c11, c14, FQ.get, if_true, if_false]) <;> rfl
     replace hS : Sat w0 w ((rE s26 (m.trace ++ [(2, z.a, g4 c.r0 c.r1 c.r2 c.r3 z.b)])) :: (rS se m.seen) :: (rS s24 (c.defers ++ [(z.a, g4 c.r0 c.r1 c.r2 c.r3 z.b)])) :: Rs) := hS.pickN 10 [0, 8, 2] (by decide) rfl
     exact ⟨_, s26, se, s24, hE.symm, rfl, hS⟩
    ·
     refine id (o_new (cs := [iv z.a, iv (g4 c.r0 c.r1 c.r2 c.r3 z.b)]) (T := 153) (fun b => .slice (some ⟨b, 0, none⟩) 1 1) ha (by decide) (iAt (op := (Op.buildSlice 108 1 #[(0, (Operand.tmp 36))])) (d := some 37) (ty := 108)) (by kernel_rfl) hS (fun _ => by kernel_rfl) fun b29 w a hb30 hS ha => ?_)
     refine ⟨.inr (hS.pickN 10 [2, 3, 4, 5, 6] (by decide) rfl), ?_⟩
     refine d_one (i := 3) (by kernel_rfl) (o_appRow0 (m := df.n) (z := .agg #[iv 0, iv 0]) (sz := 2) (bytes := 16) (ys' := encR c.defers) 1 9 ha (by decide) (iAt (op := (Op.call { callee := (Callee.builtin Builtin.append), args := #[(Operand.tmp 25), (Operand.tmp 27)], argTypes := #[108, 108] })) (d := some 28) (ty := 108)) rfl rfl (by kernel_rfl) (by kernel_rfl) rfl (by decide) hS rfl rfl (Nat.le_refl _) (encR_one _) (by rw [encR_length]; have := hlen.2; omega) (by decide) (encR_all (hS.rowL (s := df) (enc := cellsR) 9 cellsR_len (by decide) rfl)) fun s31 w a hS hn32 ha => ?_)
     refine ⟨.inr (hS.pickN 10 [2, 3, 4, 5, 6] (by decide) rfl), ?_⟩
     refine d_one (i := 13) (by kernel_rfl) (o_appE (news := [iv z.a, iv (g4 c.r0 c.r1 c.r2 c.r3 z.b)]) (z := .agg #[iv 0, iv 0]) (sz := 2) (bytes := 16) (T2 := 153) (xs' := encR (c.defers ++ [(z.a, g4 c.r0 c.r1 c.r2 c.r3 z.b)])) 1 0 ha (by decide) (iAt (op := (Op.call { callee := (Callee.builtin Builtin.append), args := #[(Operand.tmp 28), (Operand.tmp 37)], argTypes := #[108, 108] })) (d := some 38) (ty := 108)) rfl rfl (by kernel_rfl) (by kernel_rfl) rfl (by decide) hS rfl rfl (by simp) rfl (by rw [encR_length]; simp only [List.length_cons, List.length_nil]; have := hlen.2; omega) (by decide) (encR_snoc _ _ _) fun s36 w a hS hn37 ha => ?_)
     refine ⟨.inr (hS.pickN 10 [2, 3, 4, 5, 6] (by decide) rfl), ?_⟩
     refine d_run (k := 1) [(14, 39, ptr b3 6)] ha (.inr (hS.pickN 10 [2, 3, 4, 5, 6] (by decide) rfl)) (pk_then (pk_in (pk_then (pk_body)))) fun a ha => ?_
     refine d_one (i := 15) (by kernel_rfl) (o_st b3 6 (.slice s36.A s36.n s36.c) 5 ha hS rfl rfl fun w a hS ha => ?_)
     refine ⟨.inl (by kernel_rfl), ?_⟩
     refine d_end (by kernel_rfl) ?_ _
     replace ha := ha.as [(2, iv at_), (4, ptr b1 0), (5, ptr b3 0), (7, ptr b5 0), (8, ptr b7 0), (9, ptr b9 0), (10, iv 0)] rfl
     refine then_n ?_
     refine wp_seq ?_
     refine d_startP 13 15 (hS.pickN 10 [0, 2, 4, 5, 6] (by decide) rfl) hS fun w hS => ?_
     refine d_val (i := 0) ha (by decide) (v_loadW ha (iAt (op := (Op.load 110 (Operand.tmp 4))) (d := some 40) (ty := 110)) rfl (by kernel_rfl) (fun _ hw => hw.blk 4 rfl)) (hS.pickN 10 [0, 2, 4, 5, 6] (by decide) rfl) (by kernel_rfl) (by kernel_rfl) (pk_then (pk_in (pk_then (pk_body)))) fun a ha => ?_
     refine d_run (k := 13) [(1, 41, ptr b5 1)] ha (.inr (hS.pickN 10 [0, 2, 4, 5, 6] (by decide) rfl)) (pk_then (pk_in (pk_then (pk_body)))) fun a ha => ?_
     refine d_ld 2 (d := 42) (b := b5) (j := 1) ha (hS.pickN 10 [0, 2, 4, 5, 6] (by decide) rfl) (pk_then (pk_in (pk_then (pk_body)))) (fun _ hw => hw.blk 2 rfl) rfl fun a ha => ?_
     refine d_run (k := 11) [(3, 43, ptr b5 2)] ha (.inr (hS.pickN 10 [0, 2, 4, 5, 6] (by decide) rfl)) (pk_then (pk_in (pk_then (pk_body)))) fun a ha => ?_
     refine d_ld 4 (d := 44) (b := b5) (j := 2) ha (hS.pickN 10 [0, 2, 4, 5, 6] (by decide) rfl) (pk_then (pk_in (pk_then (pk_body)))) (fun _ hw => hw.blk 2 rfl) rfl fun a ha => ?_
     refine d_run (k := 9) [(5, 45, ptr b3 2)] ha (.inr (hS.pickN 10 [0, 2, 4, 5, 6] (by decide) rfl)) (pk_then (pk_in (pk_then (pk_body)))) fun a ha => ?_
     refine d_pure (i := 6) (v := .pointer (some ⟨b3, 2 + (z.b : Int).toNat * 1, none⟩)) ha (by decide) (v_indexA (len := 4) (el := 3) (sz := 1) ha (iAt (op := (Op.indexAddr 111 (Operand.tmp 45) (Operand.tmp 44))) (d := some 46) (ty := 0)) rfl rfl (by kernel_rfl) (by kernel_rfl) (by have := (reg4 (hs.b (by omega))); omega) (by have := (reg4 (hs.b (by omega))); omega)) (.inr (hS.pickN 10 [0, 2, 4, 5, 6] (by decide) rfl)) (by kernel_rfl) (by kernel_rfl) (pk_then (pk_in (pk_then (pk_body)))) fun a ha => ?_
     refine d_val (i := 7) (v := iv (g4 c.r0 c.r1 c.r2 c.r3 z.b)) ha (by decide) (v_load (v := iv (g4 c.r0 c.r1 c.r2 c.r3 z.b)) (cs := [iv c.f, iv c.depth, iv c.r0, iv c.r1, iv c.r2, iv c.r3, .slice s36.A s36.n s36.c, iv c.kind, iv c.value, .bool c.leaving, .bool c.deferred, .bool c.panicking, iv c.panic, .bool c.recovered, iv c.outer]) (T := 113) ha (iAt (op := (Op.load 3 (Operand.tmp 46))) (d := some 47) (ty := 3)) rfl (by kernel_rfl) (fun _ hw => hw.blk 3 rfl) (by rcases (reg4 (hs.b (by omega))) with h | h | h | h <;> simp [h, g4])) (hS.pickN 10 [0, 2, 4, 5, 6] (by decide) rfl) (by kernel_rfl) (by kernel_rfl) (pk_then (pk_in (pk_then (pk_body)))) fun a ha => ?_
     refine d_val (i := 9) ha (by decide) (v_loadW ha (iAt (op := (Op.load 113 (Operand.tmp 5))) (d := some 49) (ty := 113)) rfl (by kernel_rfl) (fun _ hw => hw.blk 3 rfl)) (hS.pickN 10 [0, 2, 4, 5, 6] (by decide) rfl) (by kernel_rfl) (by kernel_rfl) (pk_then (pk_in (pk_then (pk_body)))) fun a ha => ?_
     refine d_run (k := 5) [(10, 50, iv at_)] ha (.inr (hS.pickN 10 [0, 2, 4, 5, 6] (by decide) rfl)) (pk_then (pk_in (pk_then (pk_body)))) fun a ha => ?_
     refine d_pure (i := 11) (v := iv (at_ + 1)) ha (by decide) ((v_pure (v := .int .i64 (IntKind.i64.wrap (at_ + 1))) ha (iAt (op := (Op.binOp BinOp.add 3 (Operand.tmp 50) (Operand.const (Value.int IntKind.i64 1)) 3)) (d := some 51) (ty := 3)) (by kernel_rfl) (fun _ => by kernel_rfl)).as (by rw [wrap_i64 (by omega) (by omega)])) (.inr (hS.pickN 10 [0, 2, 4, 5, 6] (by decide) rfl)) (by kernel_rfl) (by kernel_rfl) (pk_then (pk_in (pk_then (pk_body)))) fun a ha => ?_
     refine d_one (i := 8) (by kernel_rfl) (o_ret ha (by decide) (iAt (op := (Op.call { callee := (Callee.value (Operand.func 105)), args := #[(Operand.tmp 40), (Operand.const (Value.int IntKind.i64 2)), (Operand.tmp 42), (Operand.tmp 47)], argTypes := #[110, 3, 3, 3] })) (d := some 48) (ty := 110)) rfl Try.func105 (by kernel_rfl) (q_tell m (hS.pickN 10 [7, 0, 1, 2, 3, 4, 5, 6, 8, 9] (by decide) rfl) (by exact hlen.1)) fun v39 w a hp40 ha => ?_)
     obtain ⟨s38, rfl, hS⟩ := hp40
     refine ⟨.inr (hS.pickN 10 [1, 3, 5, 6, 7] (by decide) rfl), ?_⟩
     refine d_one (i := 12) (by kernel_rfl) (o_storeAgg 4 ha (iAt (op := (Op.store 110 (Operand.tmp 8) (Operand.tmp 48))) (ty := 0)) rfl rfl rfl (by kernel_rfl) hS rfl (Nat.le_of_ble_eq_true rfl) rfl fun w a hS ha => ?_)
     refine ⟨.inr (hS.pickN 10 [1, 3, 5, 6, 7] (by decide) rfl), ?_⟩
     refine d_one (i := 13) (by kernel_rfl) (o_storeAgg 3 ha (iAt (op := (Op.store 113 (Operand.tmp 9) (Operand.tmp 49))) (ty := 0)) rfl rfl rfl (by kernel_rfl) hS rfl (Nat.le_of_ble_eq_true rfl) rfl fun w a hS ha => ?_)
     refine ⟨.inl (by kernel_rfl), ?_⟩
     refine d_run (k := 0) [(14, 10, iv (at_ + 1))] ha (.inl (by kernel_rfl)) (pk_then (pk_in (pk_then (pk_body)))) fun a ha => ?_
     refine d_end (by kernel_rfl) ?_ _
     refine then_n ?_
     refine wp_ret ?_
     refine in_r ?_
     refine then_r ?_
     refine end_res3 ha (by kernel_rfl) (resC (t := 8) (ty := 110) (i := 4) ha rfl hS rfl (by kernel_rfl)) (resC (t := 9) (ty := 113) (i := 3) ha rfl hS rfl (by kernel_rfl)) (resT (t := 10) ha rfl) ?_
     have hE : qMake (qCall P fuel d) m c at_ z = ((⟨m.spent, m.shared, m.made, m.deep, m.trace ++ [(2, z.a, g4 c.r0 c.r1 c.r2 c.r3 z.b)], m.seen⟩ : MQ), (⟨c.f, c.depth, c.r0, c.r1, c.r2, c.r3, c.defers ++ [(z.a, g4 c.r0 c.r1 c.r2 c.r3 z.b)], c.kind, c.value, c.leaving, c.deferred, c.panicking, c.panic, c.recovered, c.outer⟩ : FQ), at_ + 1) := by (unfold qMake; simp only [c11, c14, FQ.get, if_true, if_false]) <;> rfl
     replace hS : Sat w0 w ((rE s38 (m.trace ++ [(2, z.a, g4 c.r0 c.r1 c.r2 c.r3 z.b)])) :: (rS se m.seen) :: (rS s36 (c.defers ++ [(z.a, g4 c.r0 c.r1 c.r2 c.r3 z.b)])) :: Rs) := hS.pickN 10 [0, 8, 2] (by decide) rfl
     exact ⟨_, s38, se, s36, hE.symm, rfl, hS⟩
   ·
    refine id (o_new (cs := [iv z.a, iv (g4 c.r0 c.r1 c.r2 c.r3 z.b)]) (T := 153) (fun b => .slice (some ⟨b, 0, none⟩) 1 1) ha (by decide) (iAt (op := (Op.buildSlice 108 1 #[(0, (Operand.tmp 36))])) (d := some 37) (ty := 108)) (by kernel_rfl) hS (fun _ => by kernel_rfl) fun b41 w a hb42 hS ha => ?_)
    refine ⟨.inr (hS.pickN 9 [1, 2, 3, 4, 5] (by decide) rfl), ?_⟩
    refine d_one (i := 0) (by kernel_rfl) (o_new (cs := []) (T := 153) (fun b => .slice (some ⟨b, 0, none⟩) 0 0) ha (by decide) (iAt (op := (Op.buildSlice 108 0 #[])) (d := some 25) (ty := 108)) (by kernel_rfl) hS (fun _ => by kernel_rfl) fun b43 w a hb44 hS ha => ?_)
    refine ⟨.inr (hS.pickN 10 [2, 3, 4, 5, 6] (by decide) rfl), ?_⟩
    refine d_one (i := 3) (by kernel_rfl) (o_appRow0 (m := df.n) (z := .agg #[iv 0, iv 0]) (sz := 2) (bytes := 16) (ys' := encR c.defers) 0 9 ha (by decide) (iAt (op := (Op.call { callee := (Callee.builtin Builtin.append), args := #[(Operand.tmp 25), (Operand.tmp 27)], argTypes := #[108, 108] })) (d := some 28) (ty := 108)) rfl rfl (by kernel_rfl) (by kernel_rfl) rfl (by decide) hS rfl rfl (Nat.le_refl _) (encR_one _) (by rw [encR_length]; have := hlen.2; omega) (by decide) (encR_all (hS.rowL (s := df) (enc := cellsR) 9 cellsR_len (by decide) rfl)) fun s45 w a hS hn46 ha => ?_)
    refine ⟨.inr (hS.pickN 10 [2, 3, 4, 5, 6] (by decide) rfl), ?_⟩
    refine d_one (i := 13) (by kernel_rfl) (o_appE (news := [iv z.a, iv (g4 c.r0 c.r1 c.r2 c.r3 z.b)]) (z := .agg #[iv 0, iv 0]) (sz := 2) (bytes := 16) (T2 := 153) (xs' := encR (c.defers ++ [(z.a, g4 c.r0 c.r1 c.r2 c.r3 z.b)])) 0 1 ha (by decide) (iAt (op := (Op.call { callee := (Callee.builtin Builtin.append), args := #[(Operand.tmp 28), (Operand.tmp 37)], argTypes := #[108, 108] })) (d := some 38) (ty := 108)) rfl rfl (by kernel_rfl) (by kernel_rfl) rfl (by decide) hS rfl rfl (by simp) rfl (by rw [encR_length]; simp only [List.length_cons, List.length_nil]; have := hlen.2; omega) (by decide) (encR_snoc _ _ _) fun s50 w a hS hn51 ha => ?_)
    refine ⟨.inr (hS.pickN 10 [2, 3, 4, 5, 6] (by decide) rfl), ?_⟩
    refine d_run (k := 1) [(14, 39, ptr b3 6)] ha (.inr (hS.pickN 10 [2, 3, 4, 5, 6] (by decide) rfl)) (pk_then (pk_in (pk_then (pk_body)))) fun a ha => ?_
    refine d_one (i := 15) (by kernel_rfl) (o_st b3 6 (.slice s50.A s50.n s50.c) 5 ha hS rfl rfl fun w a hS ha => ?_)
    refine ⟨.inl (by kernel_rfl), ?_⟩
    refine d_end (by kernel_rfl) ?_ _
    replace ha := ha.as [(2, iv at_), (4, ptr b1 0), (5, ptr b3 0), (7, ptr b5 0), (8, ptr b7 0), (9, ptr b9 0), (10, iv 0)] rfl
    refine then_n ?_
    refine wp_seq ?_
    refine d_startP 13 15 (hS.pickN 10 [1, 2, 4, 5, 6] (by decide) rfl) hS fun w hS => ?_
    refine d_val (i := 0) ha (by decide) (v_loadW ha (iAt (op := (Op.load 110 (Operand.tmp 4))) (d := some 40) (ty := 110)) rfl (by kernel_rfl) (fun _ hw => hw.blk 4 rfl)) (hS.pickN 10 [1, 2, 4, 5, 6] (by decide) rfl) (by kernel_rfl) (by kernel_rfl) (pk_then (pk_in (pk_then (pk_body)))) fun a ha => ?_
    refine d_run (k := 13) [(1, 41, ptr b5 1)] ha (.inr (hS.pickN 10 [1, 2, 4, 5, 6] (by decide) rfl)) (pk_then (pk_in (pk_then (pk_body)))) fun a ha => ?_
    refine d_ld 2 (d := 42) (b := b5) (j := 1) ha (hS.pickN 10 [1, 2, 4, 5, 6] (by decide) rfl) (pk_then (pk_in (pk_then (pk_body)))) (fun _ hw => hw.blk 2 rfl) rfl fun a ha => ?_
    refine d_run (k := 11) [(3, 43, ptr b5 2)] ha (.inr (hS.pickN 10 [1, 2, 4, 5, 6] (by decide) rfl)) (pk_then (pk_in (pk_then (pk_body)))) fun a ha => ?_
    refine d_ld 4 (d := 44) (b := b5) (j := 2) ha (hS.pickN 10 [1, 2, 4, 5, 6] (by decide) rfl) (pk_then (pk_in (pk_then (pk_body)))) (fun _ hw => hw.blk 2 rfl) rfl fun a ha => ?_
    refine d_run (k := 9) [(5, 45, ptr b3 2)] ha (.inr (hS.pickN 10 [1, 2, 4, 5, 6] (by decide) rfl)) (pk_then (pk_in (pk_then (pk_body)))) fun a ha => ?_
    refine d_pure (i := 6) (v := .pointer (some ⟨b3, 2 + (z.b : Int).toNat * 1, none⟩)) ha (by decide) (v_indexA (len := 4) (el := 3) (sz := 1) ha (iAt (op := (Op.indexAddr 111 (Operand.tmp 45) (Operand.tmp 44))) (d := some 46) (ty := 0)) rfl rfl (by kernel_rfl) (by kernel_rfl) (by have := (reg4 (hs.b (by omega))); omega) (by have := (reg4 (hs.b (by omega))); omega)) (.inr (hS.pickN 10 [1, 2, 4, 5, 6] (by decide) rfl)) (by kernel_rfl) (by kernel_rfl) (pk_then (pk_in (pk_then (pk_body)))) fun a ha => ?_
    refine d_val (i := 7) (v := iv (g4 c.r0 c.r1 c.r2 c.r3 z.b)) ha (by decide) (v_load (v := iv (g4 c.r0 c.r1 c.r2 c.r3 z.b)) (cs := [iv c.f, iv c.depth, iv c.r0, iv c.r1, iv c.r2, iv c.r3, .slice s50.A s50.n s50.c, iv c.kind, iv c.value, .bool c.leaving, .bool c.deferred, .bool c.panicking, iv c.panic, .bool c.recovered, iv c.outer]) (T := 113) ha (iAt (op := (Op.load 3 (Operand.tmp 46))) (d := some 47) (ty := 3)) rfl (by kernel_rfl) (fun _ hw => hw.blk 3 rfl) (by rcases (reg4 (hs.b (by omega))) with h | h | h | h <;> simp [h, g4])) (hS.pickN 10 [1, 2, 4, 5, 6] (by decide) rfl) (by kernel_rfl) (by kernel_rfl) (pk_then (pk_in (pk_then (pk_body)))) fun a ha => ?_
    refine d_val (i := 9) ha (by decide) (v_loadW ha (iAt (op := (Op.load 113 (Operand.tmp 5))) (d := some 49) (ty := 113)) rfl (by kernel_rfl) (fun _ hw => hw.blk 3 rfl)) (hS.pickN 10 [1, 2, 4, 5, 6] (by decide) rfl) (by kernel_rfl) (by kernel_rfl) (pk_then (pk_in (pk_then (pk_body)))) fun a ha => ?_
    refine d_run (k := 5) [(10, 50, iv at_)] ha (.inr (hS.pickN 10 [1, 2, 4, 5, 6] (by decide) rfl)) (pk_then (pk_in (pk_then (pk_body)))) fun a ha => ?_
    refine d_pure (i := 11) (v := iv (at_ + 1)) ha (by decide) ((v_pure (v := .int .i64 (IntKind.i64.wrap (at_ + 1))) ha (iAt (op := (Op.binOp BinOp.add 3 (Operand.tmp 50) (Operand.const (Value.int IntKind.i64 1)) 3)) (d := some 51) (ty := 3)) (by kernel_rfl) (fun _ => by kernel_rfl)).as (by rw [wrap_i64 (by omega) (by omega)])) (.inr (hS.pickN 10 [1, 2, 4, 5, 6] (by decide) rfl)) (by kernel_rfl) (by kernel_rfl) (pk_then (pk_in (pk_then (pk_body)))) fun a ha => ?_
    refine d_one (i := 8) (by kernel_rfl) (o_ret ha (by decide) (iAt (op := (Op.call { callee := (Callee.value (Operand.func 105)), args := #[(Operand.tmp 40), (Operand.const (Value.int IntKind.i64 2)), (Operand.tmp 42), (Operand.tmp 47)], argTypes := #[110, 3, 3, 3] })) (d := some 48) (ty := 110)) rfl Try.func105 (by kernel_rfl) (q_tell m (hS.pickN 10 [7, 0, 1, 2, 3, 4, 5, 6, 8, 9] (by decide) rfl) (by exact hlen.1)) fun v53 w a hp54 ha => ?_)
    obtain ⟨s52, rfl, hS⟩ := hp54
    refine ⟨.inr (hS.pickN 10 [2, 3, 5, 6, 7] (by decide) rfl), ?_⟩
    refine d_one (i := 12) (by kernel_rfl) (o_storeAgg 4 ha (iAt (op := (Op.store 110 (Operand.tmp 8) (Operand.tmp 48))) (ty := 0)) rfl rfl rfl (by kernel_rfl) hS rfl (Nat.le_of_ble_eq_true rfl) rfl fun w a hS ha => ?_)
    refine ⟨.inr (hS.pickN 10 [2, 3, 5, 6, 7] (by decide) rfl), ?_⟩
    refine d_one (i := 13) (by kernel_rfl) (o_storeAgg 3 ha (iAt (op := (Op.store 113 (Operand.tmp 9) (Operand.tmp 49))) (ty := 0)) rfl rfl rfl (by kernel_rfl) hS rfl (Nat.le_of_ble_eq_true rfl) rfl fun w a hS ha => ?_)
    refine ⟨.inl (by kernel_rfl), ?_⟩
    refine d_run (k := 0) [(14, 10, iv (at_ + 1))] ha (.inl (by kernel_rfl)) (pk_then (pk_in (pk_then (pk_body)))) fun a ha => ?_
    refine d_end (by kernel_rfl) ?_ _
    refine then_n ?_
    refine wp_ret ?_
    refine in_r ?_
    refine then_r ?_
    refine end_res3 ha (by kernel_rfl) (resC (t := 8) (ty := 110) (i := 4) ha rfl hS rfl (by kernel_rfl)) (resC (t := 9) (ty := 113) (i := 3) ha rfl hS rfl (by kernel_rfl)) (resT (t := 10) ha rfl) ?_
    have hE : qMake (qCall P fuel d) m c at_ z = ((⟨m.spent, m.shared, m.made, m.deep, m.trace ++ [(2, z.a, g4 c.r0 c.r1 c.r2 c.r3 z.b)], m.seen⟩ : MQ), (⟨c.f, c.depth, c.r0, c.r1, c.r2, c.r3, c.defers ++ [(z.a, g4 c.r0 c.r1 c.r2 c.r3 z.b)], c.kind, c.value, c.leaving, c.deferred, c.panicking, c.panic, c.recovered, c.outer⟩ : FQ), at_ + 1) := by (unfold qMake; simp only [c11, c14, FQ.get, if_true, if_false]) <;> rfl
    replace hS : Sat w0 w ((rE s52 (m.trace ++ [(2, z.a, g4 c.r0 c.r1 c.r2 c.r3 z.b)])) :: (rS se m.seen) :: (rS s50 (c.defers ++ [(z.a, g4 c.r0 c.r1 c.r2 c.r3 z.b)])) :: Rs) := hS.pickN 10 [0, 8, 1] (by decide) rfl
    exact ⟨_, s52, se, s50, hE.symm, rfl, hS⟩
  ·
   refine c_false ha rfl (decide_eq_false c14) ?_
   refine wp_seq ?_
   refine p_beginL [0, 1] ?_
   refine p_run [(0, 53, .bool (decide (z.k = 6))), (1, 52, .bool (decide (z.k = 6)))] ha fun a ha => ?_
   refine p_end ?_
   refine then_n ?_
   by_cases c55 : z.k = 6
   ·
    refine c_true ha rfl (decide_eq_true c55) ?_
    refine wp_seq ?_
    refine p_beginL [0, 1] ?_
    refine p_run [(0, 54, ptr b3 7)] ha fun a ha => ?_
    refine p_op (o_st b3 7 (iv 2) 3 ha hS rfl rfl fun w a hS ha => ?_)
    refine p_end ?_
    refine then_n ?_
    refine wp_seq ?_
    refine p_beginL [0, 1, 2, 3, 4, 5, 6] ?_
    refine p_run [(0, 55, ptr b5 1)] ha fun a ha => ?_
    refine p_ld (d := 56) (b := b5) (j := 1) ha (hS.blk 2 rfl) rfl fun a ha => ?_
    refine p_run [(2, 57, ptr b3 2)] ha fun a ha => ?_
    refine p_val (v := .pointer (some ⟨b3, 2 + (z.a : Int).toNat * 1, none⟩)) ha (by decide) (v_indexA (len := 4) (el := 3) (sz := 1) ha (iAt (op := (Op.indexAddr 111 (Operand.tmp 57) (Operand.tmp 56))) (d := some 58) (ty := 0)) rfl rfl (by kernel_rfl) (by kernel_rfl) (by have := (reg4 (hs.a (by omega) (by omega) (by omega) (by omega))); omega) (by have := (reg4 (hs.a (by omega) (by omega) (by omega) (by omega))); omega)) (fun a ha => ?_)
    refine p_val (v := iv (g4 c.r0 c.r1 c.r2 c.r3 z.a)) ha (by decide) (v_load (v := iv (g4 c.r0 c.r1 c.r2 c.r3 z.a)) (cs := [iv c.f, iv c.depth, iv c.r0, iv c.r1, iv c.r2, iv c.r3, .slice df.A df.n df.c, iv 2, iv c.value, .bool c.leaving, .bool c.deferred, .bool c.panicking, iv c.panic, .bool c.recovered, iv c.outer]) (T := 113) ha (iAt (op := (Op.load 3 (Operand.tmp 58))) (d := some 59) (ty := 3)) rfl (by kernel_rfl) (fun _ hw => by rw [hw]; exact hS.blk 3 rfl) (by rcases (reg4 (hs.a (by omega) (by omega) (by omega) (by omega))) with h | h | h | h <;> simp [h, g4])) (fun a ha => ?_)
    refine p_run [(5, 60, ptr b3 8)] ha fun a ha => ?_
    refine p_op (o_st b3 8 (iv (g4 c.r0 c.r1 c.r2 c.r3 z.a)) 3 ha hS rfl rfl fun w a hS ha => ?_)
    refine p_end ?_
    refine then_n ?_
    refine wp_seq ?_
    refine d_startP 8 10 (hS.pickN 8 [0, 2, 3, 4] (by decide) rfl) hS fun w hS => ?_
    refine d_val (i := 0) ha (by decide) (v_loadW ha (iAt (op := (Op.load 110 (Operand.tmp 4))) (d := some 61) (ty := 110)) rfl (by kernel_rfl) (fun _ hw => hw.blk 3 rfl)) (hS.pickN 8 [0, 2, 3, 4] (by decide) rfl) (by kernel_rfl) (by kernel_rfl) (pk_then (pk_in (pk_then (pk_body)))) fun a ha => ?_
    refine d_run (k := 8) [(1, 62, ptr b3 0)] ha (.inr (hS.pickN 8 [0, 2, 3, 4] (by decide) rfl)) (pk_then (pk_in (pk_then (pk_body)))) fun a ha => ?_
    refine d_ld 2 (d := 63) (b := b3) (j := 0) ha (hS.pickN 8 [0, 2, 3, 4] (by decide) rfl) (pk_then (pk_in (pk_then (pk_body)))) (fun _ hw => hw.blk 2 rfl) rfl fun a ha => ?_
    refine d_run (k := 6) [(3, 64, ptr b3 8)] ha (.inr (hS.pickN 8 [0, 2, 3, 4] (by decide) rfl)) (pk_then (pk_in (pk_then (pk_body)))) fun a ha => ?_
    refine d_ld 4 (d := 65) (b := b3) (j := 8) ha (hS.pickN 8 [0, 2, 3, 4] (by decide) rfl) (pk_then (pk_in (pk_then (pk_body)))) (fun _ hw => hw.blk 2 rfl) rfl fun a ha => ?_
    refine d_val (i := 6) ha (by decide) (v_loadW ha (iAt (op := (Op.load 113 (Operand.tmp 5))) (d := some 67) (ty := 113)) rfl (by kernel_rfl) (fun _ hw => hw.blk 2 rfl)) (hS.pickN 8 [0, 2, 3, 4] (by decide) rfl) (by kernel_rfl) (by kernel_rfl) (pk_then (pk_in (pk_then (pk_body)))) fun a ha => ?_
    refine d_one (i := 5) (by kernel_rfl) (o_ret ha (by decide) (iAt (op := (Op.call { callee := (Callee.value (Operand.func 105)), args := #[(Operand.tmp 61), (Operand.const (Value.int IntKind.i64 5)), (Operand.tmp 63), (Operand.tmp 65)], argTypes := #[110, 3, 3, 3] })) (d := some 66) (ty := 110)) rfl Try.func105 (by kernel_rfl) (q_tell m (hS.pickN 8 [5, 0, 1, 2, 3, 4, 6, 7] (by decide) rfl) (by exact hlen.1)) fun v57 w a hp58 ha => ?_)
    obtain ⟨s56, rfl, hS⟩ := hp58
    refine ⟨.inr (hS.pickN 8 [1, 3, 4, 5] (by decide) rfl), ?_⟩
    refine d_one (i := 7) (by kernel_rfl) (o_storeAgg 2 ha (iAt (op := (Op.store 110 (Operand.tmp 8) (Operand.tmp 66))) (ty := 0)) rfl rfl rfl (by kernel_rfl) hS rfl (Nat.le_of_ble_eq_true rfl) rfl fun w a hS ha => ?_)
    refine ⟨.inr (hS.pickN 8 [1, 3, 4, 5] (by decide) rfl), ?_⟩
    refine d_one (i := 8) (by kernel_rfl) (o_storeAgg 1 ha (iAt (op := (Op.store 113 (Operand.tmp 9) (Operand.tmp 67))) (ty := 0)) rfl rfl rfl (by kernel_rfl) hS rfl (Nat.le_of_ble_eq_true rfl) rfl fun w a hS ha => ?_)
    refine ⟨.inl (by kernel_rfl), ?_⟩
    refine d_run (k := 0) [(9, 10, iv (-1))] ha (.inl (by kernel_rfl)) (pk_then (pk_in (pk_then (pk_body)))) fun a ha => ?_
    refine d_end (by kernel_rfl) ?_ _
    replace ha := ha.as [(2, iv at_), (4, ptr b1 0), (5, ptr b3 0), (7, ptr b5 0), (8, ptr b7 0), (9, ptr b9 0), (10, iv (-1))] rfl
    refine then_n ?_
    refine wp_ret ?_
    refine in_r ?_
    refine then_r ?_
    refine end_res3 ha (by kernel_rfl) (resC (t := 8) (ty := 110) (i := 2) ha rfl hS rfl (by kernel_rfl)) (resC (t := 9) (ty := 113) (i := 1) ha rfl hS rfl (by kernel_rfl)) (resT (t := 10) ha rfl) ?_
    have hE : qMake (qCall P fuel d) m c at_ z = ((⟨m.spent, m.shared, m.made, m.deep, m.trace ++ [(5, c.f, g4 c.r0 c.r1 c.r2 c.r3 z.a)], m.seen⟩ : MQ), (⟨c.f, c.depth, c.r0, c.r1, c.r2, c.r3, c.defers, 2, g4 c.r0 c.r1 c.r2 c.r3 z.a, c.leaving, c.deferred, c.panicking, c.panic, c.recovered, c.outer⟩ : FQ), (-1)) := by (unfold qMake; simp only [c11, c14, c55, FQ.get, if_true, if_false]) <;> rfl
    replace hS : Sat w0 w ((rE s56 (m.trace ++ [(5, c.f, g4 c.r0 c.r1 c.r2 c.r3 z.a)])) :: (rS se m.seen) :: (rS df c.defers) :: Rs) := hS.pickN 8 [0, 6, 7] (by decide) rfl
    exact ⟨_, s56, se, df, hE.symm, rfl, hS⟩
   ·
    refine c_false ha rfl (decide_eq_false c55) ?_
    refine wp_seq ?_
    refine p_beginL [0, 1] ?_
    refine p_run [(0, 69, .bool (decide (z.k = 8))), (1, 68, .bool (decide (z.k = 8)))] ha fun a ha => ?_
    refine p_end ?_
    refine then_n ?_
    by_cases c59 : z.k = 8
    ·
     refine c_true ha rfl (decide_eq_true c59) ?_
     refine wp_seq ?_
     refine p_beginL [0, 1, 2, 3, 4, 5, 6, 7] ?_
     refine p_run [(0, 70, ptr b5 1)] ha fun a ha => ?_
     refine p_ld (d := 71) (b := b5) (j := 1) ha (hS.blk 2 rfl) rfl fun a ha => ?_
     refine p_run [(2, 72, ptr b3 2)] ha fun a ha => ?_
     refine p_val (v := .pointer (some ⟨b3, 2 + (z.a : Int).toNat * 1, none⟩)) ha (by decide) (v_indexA (len := 4) (el := 3) (sz := 1) ha (iAt (op := (Op.indexAddr 111 (Operand.tmp 72) (Operand.tmp 71))) (d := some 73) (ty := 0)) rfl rfl (by kernel_rfl) (by kernel_rfl) (by have := (reg4 (hs.a (by omega) (by omega) (by omega) (by omega))); omega) (by have := (reg4 (hs.a (by omega) (by omega) (by omega) (by omega))); omega)) (fun a ha => ?_)
     refine p_val (v := iv (g4 c.r0 c.r1 c.r2 c.r3 z.a)) ha (by decide) (v_load (v := iv (g4 c.r0 c.r1 c.r2 c.r3 z.a)) (cs := [iv c.f, iv c.depth, iv c.r0, iv c.r1, iv c.r2, iv c.r3, .slice df.A df.n df.c, iv c.kind, iv c.value, .bool c.leaving, .bool c.deferred, .bool c.panicking, iv c.panic, .bool c.recovered, iv c.outer]) (T := 113) ha (iAt (op := (Op.load 3 (Operand.tmp 73))) (d := some 74) (ty := 3)) rfl (by kernel_rfl) (fun _ hw => by rw [hw]; exact hS.blk 3 rfl) (by rcases (reg4 (hs.a (by omega) (by omega) (by omega) (by omega))) with h | h | h | h <;> simp [h, g4])) (fun a ha => ?_)
     refine p_run [(5, 75, ptr b3 2), (6, 76, ptr b3 3)] ha fun a ha => ?_
     refine p_op (o_st b3 3 (iv (g4 c.r0 c.r1 c.r2 c.r3 z.a)) 3 ha hS rfl rfl fun w a hS ha => ?_)
     refine p_end ?_
     refine then_n ?_
     refine wp_seq ?_
     refine d_startP 3 5 (hS.pickN 8 [0, 2, 3, 4] (by decide) rfl) hS fun w hS => ?_
     refine d_val (i := 0) ha (by decide) (v_loadW ha (iAt (op := (Op.load 110 (Operand.tmp 4))) (d := some 77) (ty := 110)) rfl (by kernel_rfl) (fun _ hw => hw.blk 3 rfl)) (hS.pickN 8 [0, 2, 3, 4] (by decide) rfl) (by kernel_rfl) (by kernel_rfl) (pk_then (pk_in (pk_then (pk_body)))) fun a ha => ?_
     refine d_val (i := 1) ha (by decide) (v_loadW ha (iAt (op := (Op.load 113 (Operand.tmp 5))) (d := some 78) (ty := 113)) rfl (by kernel_rfl) (fun _ hw => hw.blk 2 rfl)) (hS.pickN 8 [0, 2, 3, 4] (by decide) rfl) (by kernel_rfl) (by kernel_rfl) (pk_then (pk_in (pk_then (pk_body)))) fun a ha => ?_
     refine d_one (i := 2) (by kernel_rfl) (o_storeAgg 1 ha (iAt (op := (Op.store 110 (Operand.tmp 8) (Operand.tmp 77))) (ty := 0)) rfl rfl rfl (by kernel_rfl) hS rfl (Nat.le_of_ble_eq_true rfl) rfl fun w a hS ha => ?_)
     refine ⟨.inr (hS.pickN 8 [0, 2, 3, 4] (by decide) rfl), ?_⟩
     refine d_one (i := 3) (by kernel_rfl) (o_storeAgg 0 ha (iAt (op := (Op.store 113 (Operand.tmp 9) (Operand.tmp 78))) (ty := 0)) rfl rfl rfl (by kernel_rfl) hS rfl (Nat.le_of_ble_eq_true rfl) rfl fun w a hS ha => ?_)
     refine ⟨.inl (by kernel_rfl), ?_⟩
     refine d_run (k := 0) [(4, 10, iv (-1))] ha (.inl (by kernel_rfl)) (pk_then (pk_in (pk_then (pk_body)))) fun a ha => ?_
     refine d_end (by kernel_rfl) ?_ _
     replace ha := ha.as [(2, iv at_), (4, ptr b1 0), (5, ptr b3 0), (7, ptr b5 0), (8, ptr b7 0), (9, ptr b9 0), (10, iv (-1))] rfl
     refine then_n ?_
     refine wp_ret ?_
     refine in_r ?_
     refine then_r ?_
     refine end_res3 ha (by kernel_rfl) (resC (t := 8) (ty := 110) (i := 1) ha rfl hS rfl (by kernel_rfl)) (resC (t := 9) (ty := 113) (i := 0) ha rfl hS rfl (by kernel_rfl)) (resT (t := 10) ha rfl) ?_
     have hE : qMake (qCall P fuel d) m c at_ z = (m, (⟨c.f, c.depth, c.r0, g4 c.r0 c.r1 c.r2 c.r3 z.a, c.r2, c.r3, c.defers, c.kind, c.value, c.leaving, c.deferred, c.panicking, c.panic, c.recovered, c.outer⟩ : FQ), (-1)) := by (unfold qMake; simp only [c11, c14, c55, c59, FQ.get, if_true, if_false]) <;> rfl
     replace hS : Sat w0 w ((rE tr m.trace) :: (rS se m.seen) :: (rS df c.defers) :: Rs) := hS.pickN 8 [5, 6, 7] (by decide) rfl
     exact ⟨_, tr, se, df, hE.symm, rfl, hS⟩
    ·
     refine c_false ha rfl (decide_eq_false c59) ?_
     refine wp_seq ?_
     refine p_beginL [0, 1] ?_
     refine p_run [(0, 80, .bool (decide (z.k = 10))), (1, 79, .bool (decide (z.k = 10)))] ha fun a ha => ?_
     refine p_end ?_
     refine then_n ?_
     by_cases c60 : z.k = 10
     ·
      refine c_true ha rfl (decide_eq_true c60) ?_
      refine wp_seq ?_
      refine p_beginL [0, 1] ?_
      refine p_run [(0, 81, ptr b3 7)] ha fun a ha => ?_
      refine p_op (o_st b3 7 (iv 3) 3 ha hS rfl rfl fun w a hS ha => ?_)
      refine p_end ?_
      refine then_n ?_
      refine wp_seq ?_
      refine p_beginL [0, 1] ?_
      refine p_run [(0, 82, ptr b3 9)] ha fun a ha => ?_
      refine p_op (o_st b3 9 (.bool true) 3 ha hS rfl rfl fun w a hS ha => ?_)
      refine p_end ?_
      refine then_n ?_
      refine wp_seq ?_
      refine d_startP 3 5 (hS.pickN 8 [0, 2, 3, 4] (by decide) rfl) hS fun w hS => ?_
      refine d_val (i := 0) ha (by decide) (v_loadW ha (iAt (op := (Op.load 110 (Operand.tmp 4))) (d := some 83) (ty := 110)) rfl (by kernel_rfl) (fun _ hw => hw.blk 3 rfl)) (hS.pickN 8 [0, 2, 3, 4] (by decide) rfl) (by kernel_rfl) (by kernel_rfl) (pk_then (pk_in (pk_then (pk_body)))) fun a ha => ?_
      refine d_val (i := 1) ha (by decide) (v_loadW ha (iAt (op := (Op.load 113 (Operand.tmp 5))) (d := some 84) (ty := 113)) rfl (by kernel_rfl) (fun _ hw => hw.blk 2 rfl)) (hS.pickN 8 [0, 2, 3, 4] (by decide) rfl) (by kernel_rfl) (by kernel_rfl) (pk_then (pk_in (pk_then (pk_body)))) fun a ha => ?_
      refine d_one (i := 2) (by kernel_rfl) (o_storeAgg 1 ha (iAt (op := (Op.store 110 (Operand.tmp 8) (Operand.tmp 83))) (ty := 0)) rfl rfl rfl (by kernel_rfl) hS rfl (Nat.le_of_ble_eq_true rfl) rfl fun w a hS ha => ?_)
      refine ⟨.inr (hS.pickN 8 [0, 2, 3, 4] (by decide) rfl), ?_⟩
      refine d_one (i := 3) (by kernel_rfl) (o_storeAgg 0 ha (iAt (op := (Op.store 113 (Operand.tmp 9) (Operand.tmp 84))) (ty := 0)) rfl rfl rfl (by kernel_rfl) hS rfl (Nat.le_of_ble_eq_true rfl) rfl fun w a hS ha => ?_)
      refine ⟨.inl (by kernel_rfl), ?_⟩
      refine d_run (k := 0) [(4, 10, iv (-1))] ha (.inl (by kernel_rfl)) (pk_then (pk_in (pk_then (pk_body)))) fun a ha => ?_
      refine d_end (by kernel_rfl) ?_ _
      replace ha := ha.as [(2, iv at_), (4, ptr b1 0), (5, ptr b3 0), (7, ptr b5 0), (8, ptr b7 0), (9, ptr b9 0), (10, iv (-1))] rfl
      refine then_n ?_
      refine wp_ret ?_
      refine in_r ?_
      refine then_r ?_
      refine end_res3 ha (by kernel_rfl) (resC (t := 8) (ty := 110) (i := 1) ha rfl hS rfl (by kernel_rfl)) (resC (t := 9) (ty := 113) (i := 0) ha rfl hS rfl (by kernel_rfl)) (resT (t := 10) ha rfl) ?_
      have hE : qMake (qCall P fuel d) m c at_ z = (m, (⟨c.f, c.depth, c.r0, c.r1, c.r2, c.r3, c.defers, 3, c.value, true, c.deferred, c.panicking, c.panic, c.recovered, c.outer⟩ : FQ), (-1)) := by (unfold qMake; simp only [c11, c14, c55, c59, c60, FQ.get, if_true, if_false]) <;> rfl
      replace hS : Sat w0 w ((rE tr m.trace) :: (rS se m.seen) :: (rS df c.defers) :: Rs) := hS.pickN 8 [5, 6, 7] (by decide) rfl
      exact ⟨_, tr, se, df, hE.symm, rfl, hS⟩
     ·
      refine c_false ha rfl (decide_eq_false c60) ?_
      refine wp_seq ?_
      refine p_beginL [0, 1] ?_
      refine p_run [(0, 86, .bool (decide (z.k = 11))), (1, 85, .bool (decide (z.k = 11)))] ha fun a ha => ?_
      refine p_end ?_
      refine then_n ?_
      by_cases c61 : z.k = 11
      ·
       refine c_true ha rfl (decide_eq_true c61) ?_
       refine wp_seq ?_
       refine wp_seq ?_
       refine p_beginL [0, 1, 2, 3, 4, 5] ?_
       refine p_run [(0, 87, ptr b5 2)] ha fun a ha => ?_
       refine p_ld (d := 88) (b := b5) (j := 2) ha (hS.blk 2 rfl) rfl fun a ha => ?_
       refine p_run [(2, 89, ptr b3 2)] ha fun a ha => ?_
       refine p_val (v := .pointer (some ⟨b3, 2 + (z.b : Int).toNat * 1, none⟩)) ha (by decide) (v_indexA (len := 4) (el := 3) (sz := 1) ha (iAt (op := (Op.indexAddr 111 (Operand.tmp 89) (Operand.tmp 88))) (d := some 90) (ty := 0)) rfl rfl (by kernel_rfl) (by kernel_rfl) (by have := (reg4 (hs.b (by omega))); omega) (by have := (reg4 (hs.b (by omega))); omega)) (fun a ha => ?_)
       refine p_val (v := iv (g4 c.r0 c.r1 c.r2 c.r3 z.b)) ha (by decide) (v_load (v := iv (g4 c.r0 c.r1 c.r2 c.r3 z.b)) (cs := [iv c.f, iv c.depth, iv c.r0, iv c.r1, iv c.r2, iv c.r3, .slice df.A df.n df.c, iv c.kind, iv c.value, .bool c.leaving, .bool c.deferred, .bool c.panicking, iv c.panic, .bool c.recovered, iv c.outer]) (T := 113) ha (iAt (op := (Op.load 3 (Operand.tmp 90))) (d := some 91) (ty := 3)) rfl (by kernel_rfl) (fun _ hw => by rw [hw]; exact hS.blk 3 rfl) (by rcases (reg4 (hs.b (by omega))) with h | h | h | h <;> simp [h, g4])) (fun a ha => ?_)
       refine p_run [(5, 92, .bool (decide ((g4 c.r0 c.r1 c.r2 c.r3 z.b) > 0)))] ha fun a ha => ?_
       refine p_end ?_
       replace ha := ha.as [(2, iv at_), (4, ptr b1 0), (5, ptr b3 0), (7, ptr b5 0), (8, ptr b7 0), (9, ptr b9 0), (10, iv 0), (92, .bool (decide ((g4 c.r0 c.r1 c.r2 c.r3 z.b) > 0)))] rfl
       refine then_n ?_
       by_cases c62 : (g4 c.r0 c.r1 c.r2 c.r3 z.b) > 0
       ·
        refine c_true ha rfl (decide_eq_true c62) ?_
        refine wp_seq ?_
        refine d_startP 7 7 (hS.pickN 8 [2, 3, 4] (by decide) rfl) hS fun w hS => ?_
        refine d_val (i := 0) ha (by decide) (v_loadW ha (iAt (op := (Op.load 110 (Operand.tmp 4))) (d := some 93) (ty := 110)) rfl (by kernel_rfl) (fun _ hw => hw.blk 2 rfl)) (hS.pickN 8 [2, 3, 4] (by decide) rfl) (by kernel_rfl) (by kernel_rfl) (pk_then (pk_then (pk_in (pk_then (pk_body))))) fun a ha => ?_
        refine d_val (i := 1) ha (by decide) (v_loadW ha (iAt (op := (Op.load 113 (Operand.tmp 5))) (d := some 94) (ty := 113)) rfl (by kernel_rfl) (fun _ hw => hw.blk 1 rfl)) (hS.pickN 8 [2, 3, 4] (by decide) rfl) (by kernel_rfl) (by kernel_rfl) (pk_then (pk_then (pk_in (pk_then (pk_body))))) fun a ha => ?_
        refine d_run (k := 4) [(2, 95, ptr b5 1)] ha (.inr (hS.pickN 8 [2, 3, 4] (by decide) rfl)) (pk_then (pk_then (pk_in (pk_then (pk_body))))) fun a ha => ?_
        refine d_ld 3 (d := 96) (b := b5) (j := 1) ha (hS.pickN 8 [2, 3, 4] (by decide) rfl) (pk_then (pk_then (pk_in (pk_then (pk_body))))) (fun _ hw => hw.blk 0 rfl) rfl fun a ha => ?_
        refine d_one (i := 4) (by kernel_rfl) (o_storeAgg 1 ha (iAt (op := (Op.store 110 (Operand.tmp 8) (Operand.tmp 93))) (ty := 0)) rfl rfl rfl (by kernel_rfl) hS rfl (Nat.le_of_ble_eq_true rfl) rfl fun w a hS ha => ?_)
        refine ⟨.inr (hS.pickN 8 [2, 3, 4] (by decide) rfl), ?_⟩
        refine d_one (i := 5) (by kernel_rfl) (o_storeAgg 0 ha (iAt (op := (Op.store 113 (Operand.tmp 9) (Operand.tmp 94))) (ty := 0)) rfl rfl rfl (by kernel_rfl) hS rfl (Nat.le_of_ble_eq_true rfl) rfl fun w a hS ha => ?_)
        refine ⟨.inr (hS.pickN 8 [2, 3, 4] (by decide) rfl), ?_⟩
        refine d_run (k := 0) [(6, 10, iv z.a)] ha (.inr (hS.pickN 8 [2, 3, 4] (by decide) rfl)) (pk_then (pk_then (pk_in (pk_then (pk_body))))) fun a ha => ?_
        refine d_end (by kernel_rfl) ?_ _
        refine then_n ?_
        refine wp_ret ?_
        refine then_r ?_
        refine in_r ?_
        refine then_r ?_
        refine end_res3 ha (by kernel_rfl) (resC (t := 8) (ty := 110) (i := 1) ha rfl hS rfl (by kernel_rfl)) (resC (t := 9) (ty := 113) (i := 0) ha rfl hS rfl (by kernel_rfl)) (resT (t := 10) ha rfl) ?_
        have hE : qMake (qCall P fuel d) m c at_ z = (m, c, z.a) := by (unfold qMake; simp only [c11, c14, c55, c59, c60, c61, c62, FQ.get, if_true, if_false]) <;> rfl
        replace hS : Sat w0 w ((rE tr m.trace) :: (rS se m.seen) :: (rS df c.defers) :: Rs) := hS.pickN 8 [5, 6, 7] (by decide) rfl
        exact ⟨_, tr, se, df, hE.symm, rfl, hS⟩
       ·
        refine c_false ha rfl (decide_eq_false c62) ?_
        refine wp_skip ?_
        refine then_n ?_
        refine wp_seq ?_
        refine d_startP 5 7 (hS.pickN 8 [0, 2, 3, 4] (by decide) rfl) hS fun w hS => ?_
        refine d_val (i := 0) ha (by decide) (v_loadW ha (iAt (op := (Op.load 110 (Operand.tmp 4))) (d := some 97) (ty := 110)) rfl (by kernel_rfl) (fun _ hw => hw.blk 3 rfl)) (hS.pickN 8 [0, 2, 3, 4] (by decide) rfl) (by kernel_rfl) (by kernel_rfl) (pk_then (pk_in (pk_then (pk_body)))) fun a ha => ?_
        refine d_val (i := 1) ha (by decide) (v_loadW ha (iAt (op := (Op.load 113 (Operand.tmp 5))) (d := some 98) (ty := 113)) rfl (by kernel_rfl) (fun _ hw => hw.blk 2 rfl)) (hS.pickN 8 [0, 2, 3, 4] (by decide) rfl) (by kernel_rfl) (by kernel_rfl) (pk_then (pk_in (pk_then (pk_body)))) fun a ha => ?_
        refine d_run (k := 4) [(2, 99, iv at_)] ha (.inr (hS.pickN 8 [0, 2, 3, 4] (by decide) rfl)) (pk_then (pk_in (pk_then (pk_body)))) fun a ha => ?_
        refine d_pure (i := 3) (v := iv (at_ + 1)) ha (by decide) ((v_pure (v := .int .i64 (IntKind.i64.wrap (at_ + 1))) ha (iAt (op := (Op.binOp BinOp.add 3 (Operand.tmp 99) (Operand.const (Value.int IntKind.i64 1)) 3)) (d := some 100) (ty := 3)) (by kernel_rfl) (fun _ => by kernel_rfl)).as (by rw [wrap_i64 (by omega) (by omega)])) (.inr (hS.pickN 8 [0, 2, 3, 4] (by decide) rfl)) (by kernel_rfl) (by kernel_rfl) (pk_then (pk_in (pk_then (pk_body)))) fun a ha => ?_
        refine d_one (i := 4) (by kernel_rfl) (o_storeAgg 1 ha (iAt (op := (Op.store 110 (Operand.tmp 8) (Operand.tmp 97))) (ty := 0)) rfl rfl rfl (by kernel_rfl) hS rfl (Nat.le_of_ble_eq_true rfl) rfl fun w a hS ha => ?_)
        refine ⟨.inr (hS.pickN 8 [0, 2, 3, 4] (by decide) rfl), ?_⟩
        refine d_one (i := 5) (by kernel_rfl) (o_storeAgg 0 ha (iAt (op := (Op.store 113 (Operand.tmp 9) (Operand.tmp 98))) (ty := 0)) rfl rfl rfl (by kernel_rfl) hS rfl (Nat.le_of_ble_eq_true rfl) rfl fun w a hS ha => ?_)
        refine ⟨.inl (by kernel_rfl), ?_⟩
        refine d_run (k := 0) [(6, 10, iv (at_ + 1))] ha (.inl (by kernel_rfl)) (pk_then (pk_in (pk_then (pk_body)))) fun a ha => ?_
        refine d_end (by kernel_rfl) ?_ _
        refine then_n ?_
        refine wp_ret ?_
        refine in_r ?_
        refine then_r ?_
        refine end_res3 ha (by kernel_rfl) (resC (t := 8) (ty := 110) (i := 1) ha rfl hS rfl (by kernel_rfl)) (resC (t := 9) (ty := 113) (i := 0) ha rfl hS rfl (by kernel_rfl)) (resT (t := 10) ha rfl) ?_
        have hE : qMake (qCall P fuel d) m c at_ z = (m, c, at_ + 1) := by (unfold qMake; simp only [c11, c14, c55, c59, c60, c61, c62, FQ.get, if_true, if_false]) <;> rfl
        replace hS : Sat w0 w ((rE tr m.trace) :: (rS se m.seen) :: (rS df c.defers) :: Rs) := hS.pickN 8 [5, 6, 7] (by decide) rfl
        exact ⟨_, tr, se, df, hE.symm, rfl, hS⟩
      ·
       refine c_false ha rfl (decide_eq_false c61) ?_
       refine wp_skip ?_
       refine in_n ?_
       refine then_n ?_
       refine wp_seq ?_
       refine p_beginL [0, 1, 2, 3, 4, 5, 6, 7, 8] ?_
       refine p_val ha (by decide) (v_loadW ha (iAt (op := (Op.load 110 (Operand.tmp 4))) (d := some 102) (ty := 110)) rfl (by kernel_rfl) (fun _ hw => by rw [hw]; exact hS.blk 4 rfl)) (fun a ha => ?_)
       refine p_val ha (by decide) (v_loadW ha (iAt (op := (Op.load 113 (Operand.tmp 5))) (d := some 103) (ty := 113)) rfl (by kernel_rfl) (fun _ hw => by rw [hw]; exact hS.blk 3 rfl)) (fun a ha => ?_)
       refine p_val ha (by decide) (v_loadW ha (iAt (op := (Op.load 144 (Operand.tmp 7))) (d := some 104) (ty := 144)) rfl (by kernel_rfl) (fun _ hw => by rw [hw]; exact hS.blk 2 rfl)) (fun a ha => ?_)
       refine p_op (o_ret ha (by decide) (iAt (op := (Op.call { callee := (Callee.value (Operand.func 117)), args := #[(Operand.tmp 102), (Operand.tmp 103), (Operand.tmp 104)], argTypes := #[110, 113, 144] })) (d := some 105) (ty := 114)) rfl Try.func117 (by kernel_rfl) (q_simple m c z (df := df) (hS.pickN 8 [5, 0, 1, 2, 3, 4, 6, 7] (by decide) rfl) hlen.1 hs c11 c14 c60 c61 hk) fun v63 w a hp64 ha => ?_)
       obtain ⟨tr2, rfl, hS⟩ := hp64
       refine p_run [(4, 101, .tuple #[(mG pv fuel ((qSimple m c z).1.spent) ((qSimple m c z).1.shared) ((qSimple m c z).1.made) ((qSimple m c z).1.deep) tr2 se), (cG ((qSimple m c z).2.f) ((qSimple m c z).2.depth) ((qSimple m c z).2.r0) ((qSimple m c z).2.r1) ((qSimple m c z).2.r2) ((qSimple m c z).2.r3) df ((qSimple m c z).2.kind) ((qSimple m c z).2.value) ((qSimple m c z).2.leaving) ((qSimple m c z).2.deferred) ((qSimple m c z).2.panicking) ((qSimple m c z).2.panic) ((qSimple m c z).2.recovered) ((qSimple m c z).2.outer))]), (5, 106, (mG pv fuel ((qSimple m c z).1.spent) ((qSimple m c z).1.shared) ((qSimple m c z).1.made) ((qSimple m c z).1.deep) tr2 se)), (6, 107, (cG ((qSimple m c z).2.f) ((qSimple m c z).2.depth) ((qSimple m c z).2.r0) ((qSimple m c z).2.r1) ((qSimple m c z).2.r2) ((qSimple m c z).2.r3) df ((qSimple m c z).2.kind) ((qSimple m c z).2.value) ((qSimple m c z).2.leaving) ((qSimple m c z).2.deferred) ((qSimple m c z).2.panicking) ((qSimple m c z).2.panic) ((qSimple m c z).2.recovered) ((qSimple m c z).2.outer)))] ha fun a ha => ?_
       refine p_op (o_storeAgg 5 ha (iAt (op := (Op.store 110 (Operand.tmp 4) (Operand.tmp 106))) (ty := 0)) rfl rfl rfl (by kernel_rfl) hS rfl (Nat.le_of_ble_eq_true rfl) rfl fun w a hS ha => ?_)
       refine p_op (o_storeAgg 4 ha (iAt (op := (Op.store 113 (Operand.tmp 5) (Operand.tmp 107))) (ty := 0)) rfl rfl rfl (by kernel_rfl) hS rfl (Nat.le_of_ble_eq_true rfl) rfl fun w a hS ha => ?_)
       refine p_end ?_
       replace ha := ha.as [(2, iv at_), (4, ptr b1 0), (5, ptr b3 0), (8, ptr b7 0), (9, ptr b9 0), (10, iv 0)] rfl
       refine then_n ?_
       refine wp_seq ?_
       refine d_startP 5 7 (hS.pickN 8 [1, 3, 4, 5] (by decide) rfl) hS fun w hS => ?_
       refine d_val (i := 0) ha (by decide) (v_loadW ha (iAt (op := (Op.load 110 (Operand.tmp 4))) (d := some 108) (ty := 110)) rfl (by kernel_rfl) (fun _ hw => hw.blk 3 rfl)) (hS.pickN 8 [1, 3, 4, 5] (by decide) rfl) (by kernel_rfl) (by kernel_rfl) (pk_then (pk_body)) fun a ha => ?_
       refine d_val (i := 1) ha (by decide) (v_loadW ha (iAt (op := (Op.load 113 (Operand.tmp 5))) (d := some 109) (ty := 113)) rfl (by kernel_rfl) (fun _ hw => hw.blk 2 rfl)) (hS.pickN 8 [1, 3, 4, 5] (by decide) rfl) (by kernel_rfl) (by kernel_rfl) (pk_then (pk_body)) fun a ha => ?_
       refine d_run (k := 4) [(2, 110, iv at_)] ha (.inr (hS.pickN 8 [1, 3, 4, 5] (by decide) rfl)) (pk_then (pk_body)) fun a ha => ?_
       refine d_pure (i := 3) (v := iv (at_ + 1)) ha (by decide) ((v_pure (v := .int .i64 (IntKind.i64.wrap (at_ + 1))) ha (iAt (op := (Op.binOp BinOp.add 3 (Operand.tmp 110) (Operand.const (Value.int IntKind.i64 1)) 3)) (d := some 111) (ty := 3)) (by kernel_rfl) (fun _ => by kernel_rfl)).as (by rw [wrap_i64 (by omega) (by omega)])) (.inr (hS.pickN 8 [1, 3, 4, 5] (by decide) rfl)) (by kernel_rfl) (by kernel_rfl) (pk_then (pk_body)) fun a ha => ?_
       refine d_one (i := 4) (by kernel_rfl) (o_storeAgg 2 ha (iAt (op := (Op.store 110 (Operand.tmp 8) (Operand.tmp 108))) (ty := 0)) rfl rfl rfl (by kernel_rfl) hS rfl (Nat.le_of_ble_eq_true rfl) rfl fun w a hS ha => ?_)
       refine ⟨.inr (hS.pickN 8 [1, 3, 4, 5] (by decide) rfl), ?_⟩
       refine d_one (i := 5) (by kernel_rfl) (o_storeAgg 1 ha (iAt (op := (Op.store 113 (Operand.tmp 9) (Operand.tmp 109))) (ty := 0)) rfl rfl rfl (by kernel_rfl) hS rfl (Nat.le_of_ble_eq_true rfl) rfl fun w a hS ha => ?_)
       refine ⟨.inl (by kernel_rfl), ?_⟩
       refine d_run (k := 0) [(6, 10, iv (at_ + 1))] ha (.inl (by kernel_rfl)) (pk_then (pk_body)) fun a ha => ?_
       refine d_end (by kernel_rfl) ?_ _
       refine then_n ?_
       refine wp_ret ?_
       refine end_res3 ha (by kernel_rfl) (resC (t := 8) (ty := 110) (i := 2) ha rfl hS rfl (by kernel_rfl)) (resC (t := 9) (ty := 113) (i := 1) ha rfl hS rfl (by kernel_rfl)) (resT (t := 10) ha rfl) ?_
       have hE : qMake (qCall P fuel d) m c at_ z = ((qSimple m c z).1, (qSimple m c z).2, at_ + 1) := by (unfold qMake; simp only [c11, c14, c55, c59, c60, c61, FQ.get, if_true, if_false]) <;> rfl
       replace hS : Sat w0 w ((rE tr2 ((qSimple m c z).1.trace)) :: (rS se m.seen) :: (rS df c.defers) :: Rs) := hS.pickN 8 [0, 6, 7] (by decide) rfl
       exact ⟨_, tr2, se, df, hE.symm, rfl, by show Sat w0 w (rE tr2 (qSimple m c z).1.trace :: rS se (qSimple m c z).1.seen :: rS df (qSimple m c z).2.defers :: Rs); rw [qSimple_seen, qSimple_defers]; exact hS⟩
theorem code107 : Try.f107.body = some (Code.seq (Code.region 0 (regOf Try.f107 0) false) (Code.seq (Code.region 1 (regOf Try.f107 1) false) (Code.seq (Code.region 2 (regOf Try.f107 2) false) (Code.seq (Code.region 3 (regOf Try.f107 3) false) (Code.seq (Code.region 4 (regOf Try.f107 4) false) (Code.seq (Code.seq (Code.region 5 (regOf Try.f107 5) false) (Code.cond (Operand.tmp 39) (Code.seq (Code.region 6 (regOf Try.f107 6) false) (Code.region 7 (regOf Try.f107 7) false)) Code.skip)) (Code.seq (Code.region 8 (regOf Try.f107 8) false) (Code.seq (Code.seq (Code.region 9 (regOf Try.f107 9) false) (Code.cond (Operand.tmp 51) (Code.seq (Code.region 10 (regOf Try.f107 10) true) Code.ret) Code.skip)) (Code.seq (Code.region 11 (regOf Try.f107 11) false) (Code.seq (Code.region 12 (regOf Try.f107 12) false) (Code.seq (Code.seq (Code.region 13 (regOf Try.f107 13) false) (Code.cond (Operand.tmp 66) (Code.seq (Code.region 14 (regOf Try.f107 14) false) (Code.seq (Code.region 15 (regOf Try.f107 15) false) (Code.cond (Operand.tmp 69) (Code.region 16 (regOf Try.f107 16) false) Code.skip))) Code.skip)) (Code.seq (Code.seq (Code.region 17 (regOf Try.f107 17) false) (Code.cond (Operand.tmp 73) (Code.seq (Code.region 18 (regOf Try.f107 18) false) (Code.region 19 (regOf Try.f107 19) false)) Code.skip)) (Code.seq (Code.seq (Code.region 20 (regOf Try.f107 20) false) (Code.cond (Operand.tmp 80) (Code.region 21 (regOf Try.f107 21) false) Code.skip)) (Code.seq (Code.region 22 (regOf Try.f107 22) true) Code.ret)))))))))))))) := by kernel_rfl
set_option maxRecDepth 20000 in
set_option maxHeartbeats 1000000 in
theorem q_last {P : List (List Stp)} {pv : Sl} {fuel : Int} {sbs : List Sl} {d : Nat} (IH : CallCQ P fuel pv sbs d) {w0 w : World} {Rs : List Asn} (m : MQ) (c : FQ) (z : Int × Int) {tr se df : Sl} (x : Nat) (hS : Sat w0 w (rE tr m.trace :: rS se m.seen :: rS df c.defers :: Rs)) (hm : OkQ fuel m (x + 2)) (hk : OkC P.length c) (hz : c.defers.getLast? = some z) (hlen : c.defers.length ≤ 1000) (hd1 : c.depth + d + 1 = 9) (hd2 : 1 ≤ c.depth) (hPr : Keeps w0 Rs (fun w => RdProg w pv sbs P)) :
  Calls Try.prog 107 #[mV pv fuel m tr se, cV c df] w (Ret fun r w' => ∃ (q : MQ × FQ) (tr' se' df' : Sl), q = qLast (qCall P fuel d) m c z ∧ r = .tuple #[mV pv fuel q.1 tr' se', cV q.2 df'] ∧ Sat w0 w' (rE tr' q.1.trace :: rS se' q.1.seen :: rS df' q.2.defers :: Rs)) := by
 replace hS : Sat w0 w ((rE tr m.trace) :: (rS se m.seen) :: (rS df c.defers) :: Rs) := hS
 have hdn : df.n = c.defers.length := hS.rowL (s := df) (enc := cellsR) 2 cellsR_len (by decide) rfl
 have hz1 : c.defers[df.n - 1]? = some z := by rw [hdn, ← List.getLast?_eq_getElem?]; exact hz
 have hz2 := hk.defers z (List.mem_of_getLast? hz)
 have hpos : 0 < df.n := by have := (List.getElem?_eq_some_iff.1 hz1).1; omega
 have hk1 : OkC P.length { c with defers := c.defers.dropLast } := ⟨hk.f0, hk.f1, fun y hy => hk.defers y (List.dropLast_subset _ hy), hk.a0, hk.a1, hk.a2, hk.a3, hk.va, hk.pa, hk.ou⟩
 refine enter (n := 84) Try.func107 code107 (by kernel_rfl) (Nat.le_of_ble_eq_true rfl) (fun a ha => ?_)
 replace ha : Has 84 [(0, (mG pv fuel m.spent m.shared m.made m.deep tr se)), (1, (cG c.f c.depth c.r0 c.r1 c.r2 c.r3 df c.kind c.value c.leaving c.deferred c.panicking c.panic c.recovered c.outer))] a := ha
 refine wp_seq ?_
 refine p_beginL [0, 1, 2, 3] ?_
 refine p_op (o_new (cs := (mL pv fuel m.spent m.shared m.made m.deep tr se)) (T := 110) (fun b => .pointer (some ⟨b, 0, none⟩)) ha (by decide) (iAt (op := (Op.box 110 (Operand.tmp 0))) (d := some 2) (ty := 0)) (by kernel_rfl) hS (fun _ => by kernel_rfl) fun b1 w a hb2 hS ha => ?_)
 refine p_op (o_new (cs := (cL c.f c.depth c.r0 c.r1 c.r2 c.r3 df c.kind c.value c.leaving c.deferred c.panicking c.panic c.recovered c.outer)) (T := 113) (fun b => .pointer (some ⟨b, 0, none⟩)) ha (by decide) (iAt (op := (Op.box 113 (Operand.tmp 1))) (d := some 3) (ty := 0)) (by kernel_rfl) hS (fun _ => by kernel_rfl) fun b3 w a hb4 hS ha => ?_)
 refine p_op (o_new (cs := (mL (⟨none, 0, 0⟩) 0 false 0 0 0 (⟨none, 0, 0⟩) (⟨none, 0, 0⟩))) (T := 110) (fun b => .pointer (some ⟨b, 0, none⟩)) ha (by decide) (iAt (op := (Op.alloc 110)) (d := some 4) (ty := 0)) (by kernel_rfl) hS (fun _ => by kernel_rfl) fun b5 w a hb6 hS ha => ?_)
 refine p_op (o_new (cs := (cL 0 0 0 0 0 0 (⟨none, 0, 0⟩) 0 0 false false false 0 false 0)) (T := 113) (fun b => .pointer (some ⟨b, 0, none⟩)) ha (by decide) (iAt (op := (Op.alloc 113)) (d := some 5) (ty := 0)) (by kernel_rfl) hS (fun _ => by kernel_rfl) fun b7 w a hb8 hS ha => ?_)
 refine p_end ?_
 refine then_n ?_
 refine wp_seq ?_
 refine p_beginL [0, 1, 2, 3, 4] ?_
 refine p_run [(0, 9, ptr b3 6)] ha fun a ha => ?_
 refine p_ld (d := 10) (b := b3) (j := 6) ha (hS.blk 2 rfl) rfl fun a ha => ?_
 refine p_run [(2, 11, iv (df.n : Int))] ha fun a ha => ?_
 refine p_val (v := iv ((df.n : Int) - 1)) ha (by decide) ((v_pure (v := .int .i64 (IntKind.i64.wrap ((df.n : Int) - 1))) ha (iAt (op := (Op.binOp BinOp.sub 3 (Operand.tmp 11) (Operand.const (Value.int IntKind.i64 1)) 3)) (d := some 12) (ty := 3)) (by kernel_rfl) (fun _ => by kernel_rfl)).as (by rw [wrap_i64 (by omega) (by omega)])) (fun a ha => ?_)
 refine p_run [(4, 6, iv ((df.n : Int) - 1))] ha fun a ha => ?_
 refine p_end ?_
 refine then_n ?_
 refine wp_seq ?_
 refine p_beginL [0, 1, 2, 3, 4, 5, 6] ?_
 refine p_run [(0, 13, ptr b3 6)] ha fun a ha => ?_
 refine p_ld (d := 14) (b := b3) (j := 6) ha (hS.blk 2 rfl) rfl fun a ha => ?_
 refine p_run [(2, 15, iv ((df.n : Int) - 1))] ha fun a ha => ?_
 refine p_val (v := .pointer (some ⟨bk df, (df.n - 1) * 2, none⟩)) ha (by decide) (v_indexO (s := df) (el := 153) (sz := 2) (j := (df.n - 1)) ha (iAt (op := (Op.indexAddr 108 (Operand.tmp 14) (Operand.tmp 15))) (d := some 16) (ty := 0)) rfl rfl (by kernel_rfl) (by kernel_rfl) (hS.rowA (s := df) 6 rfl (by have := (List.getElem?_eq_some_iff.1 hz1).1; rw [encR_length]; omega)) (by omega) (by have h9 := hS.rowL (s := df) (enc := cellsR) 6 cellsR_len (by decide) rfl; have := (List.getElem?_eq_some_iff.1 hz1).1; omega)) (fun a ha => ?_)
 refine p_val (v := .agg #[iv z.1, iv z.2]) ha (by decide) (v_loadL (v := .agg #[iv z.1, iv z.2]) ha (iAt (op := (Op.load 153 (Operand.tmp 16))) (d := some 17) (ty := 153)) rfl (fun w' hw => by rw [hw]; exact run_loadVar_agg (vs := [iv z.1, iv z.2]) (by kernel_rfl) (fun i u hu => by match i, hu with | 0, hu => rw [add0]; rw [← Option.some.inj hu]; exact ((hS.rdC (s := df) 6 rfl).cells _ _ ((flat_get (enc := cellsR) (o := 0) cellsR_len hz1 (by decide)).trans rfl)) | 1, hu => rw [add0]; rw [← Option.some.inj hu]; exact ((hS.rdC (s := df) 6 rfl).cells _ _ ((flat_get (enc := cellsR) (o := 1) cellsR_len hz1 (by decide)).trans rfl)) | n + 2, hu => simp at hu))) (fun a ha => ?_)
 refine p_op (o_new (cs := [iv 0, iv 0]) (T := 153) (fun b => .pointer (some ⟨b, 0, none⟩)) ha (by decide) (iAt (op := (Op.alloc 153)) (d := some 7) (ty := 0)) (by kernel_rfl) hS (fun _ => by kernel_rfl) fun b9 w a hb10 hS ha => ?_)
 refine p_op (o_storeAgg 0 ha (iAt (op := (Op.store 153 (Operand.tmp 7) (Operand.tmp 17))) (ty := 0)) rfl rfl rfl (by kernel_rfl) hS rfl (Nat.le_of_ble_eq_true rfl) rfl fun w a hS ha => ?_)
 refine p_end ?_
 refine then_n ?_
 refine wp_seq ?_
 refine p_beginL [0, 1, 2, 3, 4, 5, 6, 7] ?_
 refine p_op (o_new (cs := []) (T := 153) (fun b => .slice (some ⟨b, 0, none⟩) 0 0) ha (by decide) (iAt (op := (Op.buildSlice 108 0 #[])) (d := some 18) (ty := 108)) (by kernel_rfl) hS (fun _ => by kernel_rfl) fun b11 w a hb12 hS ha => ?_)
 refine p_run [(1, 19, ptr b3 6)] ha fun a ha => ?_
 refine p_ld (d := 20) (b := b3) (j := 6) ha (hS.blk 4 rfl) rfl fun a ha => ?_
 refine p_run [(3, 21, iv ((df.n : Int) - 1))] ha fun a ha => ?_
 refine p_val (v := .slice df.A (df.n - 1) df.c) ha (by decide) (v_takeZ (el := 153) (j := df.n - 1) ha (iAt (op := (Op.slice 108 (Operand.tmp 20) none (some (Operand.tmp 21)) none)) (d := some 22) (ty := 108)) rfl rfl (by kernel_rfl) (by kernel_rfl) (by omega) (Nat.sub_le _ _) (row_cap hS 8 rfl)) (fun a ha => ?_)
 refine p_op (o_appRow0 (m := (df.n - 1)) (z := .agg #[iv 0, iv 0]) (sz := 2) (bytes := 16) (ys' := encR c.defers.dropLast) 0 8 ha (by decide) (iAt (op := (Op.call { callee := (Callee.builtin Builtin.append), args := #[(Operand.tmp 18), (Operand.tmp 22)], argTypes := #[108, 108] })) (d := some 23) (ty := 108)) rfl rfl (by kernel_rfl) (by kernel_rfl) rfl (by decide) hS rfl rfl (Nat.sub_le _ _) (encR_one _) (by rw [encR_length]; have := hlen; omega) (by decide) (by rw [encR_take, List.dropLast_eq_take, hdn]) fun s13 w a hS hn14 ha => ?_)
 refine p_run [(6, 24, ptr b3 6)] ha fun a ha => ?_
 refine p_op (o_st b3 6 (.slice s13.A s13.n s13.c) 4 ha hS rfl rfl fun w a hS ha => ?_)
 refine p_end ?_
 refine then_n ?_
 refine wp_seq ?_
 refine p_beginL [0, 1, 2, 3, 4, 5, 6, 7, 8, 9, 10, 11, 12, 13] ?_
 refine p_run [(0, 25, ptr b9 0)] ha fun a ha => ?_
 refine p_ld (d := 26) (b := b9) (j := 0) ha (hS.blk 1 rfl) rfl fun a ha => ?_
 refine p_run [(2, 27, ptr b3 1)] ha fun a ha => ?_
 refine p_ld (d := 28) (b := b3) (j := 1) ha (hS.blk 4 rfl) rfl fun a ha => ?_
 refine p_val (v := iv (c.depth + 1)) ha (by decide) ((v_pure (v := .int .i64 (IntKind.i64.wrap (c.depth + 1))) ha (iAt (op := (Op.binOp BinOp.add 3 (Operand.tmp 28) (Operand.const (Value.int IntKind.i64 1)) 3)) (d := some 29) (ty := 3)) (by kernel_rfl) (fun _ => by kernel_rfl)).as (by rw [wrap_i64 (by omega) (by omega)])) (fun a ha => ?_)
 refine p_run [(5, 30, ptr b9 1)] ha fun a ha => ?_
 refine p_ld (d := 31) (b := b9) (j := 1) ha (hS.blk 1 rfl) rfl fun a ha => ?_
 refine p_run [(7, 32, .agg #[iv z.2, iv 0, iv 0, iv 0]), (8, 33, ptr b3 2), (9, 34, ptr b3 3)] ha fun a ha => ?_
 refine p_ld (d := 35) (b := b3) (j := 3) ha (hS.blk 4 rfl) rfl fun a ha => ?_
 refine p_run [(11, 36, (cG z.1 (c.depth + 1) z.2 0 0 0 (⟨none, 0, 0⟩) 0 0 false true false 0 false c.r1))] ha fun a ha => ?_
 refine p_op (o_new (cs := (cL 0 0 0 0 0 0 (⟨none, 0, 0⟩) 0 0 false false false 0 false 0)) (T := 113) (fun b => .pointer (some ⟨b, 0, none⟩)) ha (by decide) (iAt (op := (Op.alloc 113)) (d := some 8) (ty := 0)) (by kernel_rfl) hS (fun _ => by kernel_rfl) fun b15 w a hb16 hS ha => ?_)
 refine p_op (o_storeAgg 0 ha (iAt (op := (Op.store 113 (Operand.tmp 8) (Operand.tmp 36))) (ty := 0)) rfl rfl rfl (by kernel_rfl) hS rfl (Nat.le_of_ble_eq_true rfl) rfl fun w a hS ha => ?_)
 refine p_end ?_
 replace ha := ha.as [(2, ptr b1 0), (3, ptr b3 0), (4, ptr b5 0), (5, ptr b7 0), (8, ptr b15 0)] rfl
 refine then_n ?_
 refine wp_seq ?_
 refine wp_seq ?_
 refine p_beginL [0, 1, 2] ?_
 refine p_run [(0, 37, ptr b3 7)] ha fun a ha => ?_
 refine p_ld (d := 38) (b := b3) (j := 7) ha (hS.blk 5 rfl) rfl fun a ha => ?_
 refine p_run [(2, 39, .bool (decide (c.kind = 2)))] ha fun a ha => ?_
 refine p_end ?_
 refine then_n ?_
 refine then_cut (J := fun a_ w_ => Has 84 [(2, ptr b1 0), (3, ptr b3 0), (4, ptr b5 0), (5, ptr b7 0), (8, ptr b15 0), (39, .bool (decide (c.kind = 2)))] a_ ∧ Sat w0 w_ ((SX.blk b15 (cL z.1 (c.depth + 1) z.2 0 0 0 (⟨none, 0, 0⟩) 0 0 false true (decide (c.kind = 2)) (if c.kind = 2 then c.value else 0) false c.r1) 113) :: (rS s13 c.defers.dropLast) :: (SX.blk b9 [iv z.1, iv z.2] 153) :: (SX.blk b7 (cL 0 0 0 0 0 0 (⟨none, 0, 0⟩) 0 0 false false false 0 false 0) 113) :: (SX.blk b5 (mL (⟨none, 0, 0⟩) 0 false 0 0 0 (⟨none, 0, 0⟩) (⟨none, 0, 0⟩)) 110) :: (SX.blk b3 (cL c.f c.depth c.r0 c.r1 c.r2 c.r3 s13 c.kind c.value c.leaving c.deferred c.panicking c.panic c.recovered c.outer) 113) :: (SX.blk b1 (mL pv fuel m.spent m.shared m.made m.deep tr se) 110) :: (rE tr m.trace) :: (rS se m.seen) :: (rS df c.defers) :: Rs)) ?_ ?_
 ·
  by_cases c17 : c.kind = 2
  ·
   refine c_true ha rfl (decide_eq_true c17) ?_
   refine wp_seq ?_
   refine p_beginL [0, 1] ?_
   refine p_run [(0, 40, ptr b15 11)] ha fun a ha => ?_
   refine p_op (o_st b15 11 (.bool true) 0 ha hS rfl rfl fun w a hS ha => ?_)
   refine p_end ?_
   refine then_n ?_
   refine p_beginL [0, 1, 2, 3] ?_
   refine p_run [(0, 41, ptr b3 8)] ha fun a ha => ?_
   refine p_ld (d := 42) (b := b3) (j := 8) ha (hS.blk 5 rfl) rfl fun a ha => ?_
   refine p_run [(2, 43, ptr b15 12)] ha fun a ha => ?_
   refine p_op (o_st b15 12 (iv c.value) 0 ha hS rfl rfl fun w a hS ha => ?_)
   refine p_end ?_
   have e18 : ((if c.kind = 2 then c.value else 0) : Int) = c.value := by simp [c17]
   have e19 : (decide (c.kind = 2)) = true := by simp [c17]
   refine then_n ⟨?_, ?_⟩
   · first | (rw [e18, e19]; exact ha.keeps [2, 3, 4, 5, 8, 39] _ rfl) | exact ha.keeps [2, 3, 4, 5, 8, 39] _ rfl
   · first | (rw [e18, e19]; exact hS) | exact hS
  ·
   refine c_false ha rfl (decide_eq_false c17) ?_
   refine wp_skip ?_
   have e20 : ((if c.kind = 2 then c.value else 0) : Int) = 0 := by simp [c17]
   have e21 : (decide (c.kind = 2)) = false := by simp [c17]
   refine then_n ⟨?_, ?_⟩
   · first | (rw [e20, e21]; exact ha.keeps [2, 3, 4, 5, 8, 39] _ rfl) | exact ha.keeps [2, 3, 4, 5, 8, 39] _ rfl
   · first | (rw [e20, e21]; exact hS) | exact hS
 ·
  rintro a w ⟨ha, hS⟩
  refine wp_seq ?_
  refine p_beginL [0, 1, 2, 3, 4, 5, 6, 7] ?_
  refine p_val ha (by decide) (v_loadW ha (iAt (op := (Op.load 110 (Operand.tmp 2))) (d := some 45) (ty := 110)) rfl (by kernel_rfl) (fun _ hw => by rw [hw]; exact hS.blk 6 rfl)) (fun a ha => ?_)
  refine p_val ha (by decide) (v_loadW ha (iAt (op := (Op.load 113 (Operand.tmp 8))) (d := some 46) (ty := 113)) rfl (by kernel_rfl) (fun _ hw => by rw [hw]; exact hS.blk 0 rfl)) (fun a ha => ?_)
  refine p_op (o_ret ha (by decide) (iAt (op := (Op.call { callee := (Callee.value (Operand.func 95)), args := #[(Operand.tmp 45), (Operand.tmp 46)], argTypes := #[110, 113] })) (d := some 47) (ty := 114)) rfl Try.func95 (by kernel_rfl) (IH w0 _ _ m (qNew { c with defers := c.defers.dropLast } z) _ _ (⟨none, 0, 0⟩ : Sl) x ((Sat.nilRow (T := 153) (sz := 2) hS).pickN 11 [8, 9, 0, 1, 2, 3, 4, 5, 6, 7, 10] (by decide) rfl) hm (qNew_ok hk1 hz2) rfl (by simp only [qNew]; omega) (by simp only [qNew]; omega) (hPr.more [_, _, _, _, _, _, _, _])) fun v22 w a hp23 ha => ?_)
  obtain ⟨q1, tr1, se1, df1, hq1, rfl, hS⟩ := hp23
  replace hq1 : qCall P fuel d m (qNew { c with defers := c.defers.dropLast } z) = q1 := hq1.symm
  refine p_run [(3, 44, .tuple #[(mG pv fuel q1.1.spent q1.1.shared q1.1.made q1.1.deep tr1 se1), (cG q1.2.f q1.2.depth q1.2.r0 q1.2.r1 q1.2.r2 q1.2.r3 df1 q1.2.kind q1.2.value q1.2.leaving q1.2.deferred q1.2.panicking q1.2.panic q1.2.recovered q1.2.outer)]), (4, 48, (mG pv fuel q1.1.spent q1.1.shared q1.1.made q1.1.deep tr1 se1)), (5, 49, (cG q1.2.f q1.2.depth q1.2.r0 q1.2.r1 q1.2.r2 q1.2.r3 df1 q1.2.kind q1.2.value q1.2.leaving q1.2.deferred q1.2.panicking q1.2.panic q1.2.recovered q1.2.outer))] ha fun a ha => ?_
  refine p_op (o_storeAgg 9 ha (iAt (op := (Op.store 110 (Operand.tmp 2) (Operand.tmp 48))) (ty := 0)) rfl rfl rfl (by kernel_rfl) hS rfl (Nat.le_of_ble_eq_true rfl) rfl fun w a hS ha => ?_)
  refine p_op (o_storeAgg 3 ha (iAt (op := (Op.store 113 (Operand.tmp 8) (Operand.tmp 49))) (ty := 0)) rfl rfl rfl (by kernel_rfl) hS rfl (Nat.le_of_ble_eq_true rfl) rfl fun w a hS ha => ?_)
  refine p_end ?_
  refine then_n ?_
  refine wp_seq ?_
  refine wp_seq ?_
  refine p_beginL [0, 1] ?_
  refine p_run [(0, 50, ptr b1 2)] ha fun a ha => ?_
  refine p_ld (d := 51) (b := b1) (j := 2) ha (hS.blk 9 rfl) rfl fun a ha => ?_
  refine p_end ?_
  refine then_n ?_
  rcases Bool.eq_false_or_eq_true q1.1.spent with c24 | c24
  ·
   refine c_true ha rfl c24 ?_
   refine wp_seq ?_
   refine d_startP 3 4 (hS.pickN 11 [3, 5, 6, 8, 9] (by decide) rfl) hS fun w hS => ?_
   refine d_val (i := 0) ha (by decide) (v_loadW ha (iAt (op := (Op.load 110 (Operand.tmp 2))) (d := some 52) (ty := 110)) rfl (by kernel_rfl) (fun _ hw => hw.blk 4 rfl)) (hS.pickN 11 [3, 5, 6, 8, 9] (by decide) rfl) (by kernel_rfl) (by kernel_rfl) (pk_then (pk_then (pk_body))) fun a ha => ?_
   refine d_val (i := 1) ha (by decide) (v_loadW ha (iAt (op := (Op.load 113 (Operand.tmp 3))) (d := some 53) (ty := 113)) rfl (by kernel_rfl) (fun _ hw => hw.blk 3 rfl)) (hS.pickN 11 [3, 5, 6, 8, 9] (by decide) rfl) (by kernel_rfl) (by kernel_rfl) (pk_then (pk_then (pk_body))) fun a ha => ?_
   refine d_one (i := 2) (by kernel_rfl) (o_storeAgg 7 ha (iAt (op := (Op.store 110 (Operand.tmp 4) (Operand.tmp 52))) (ty := 0)) rfl rfl rfl (by kernel_rfl) hS rfl (Nat.le_of_ble_eq_true rfl) rfl fun w a hS ha => ?_)
   refine ⟨.inr (hS.pickN 11 [3, 5, 6, 8, 9] (by decide) rfl), ?_⟩
   refine d_one (i := 3) (by kernel_rfl) (o_storeAgg 6 ha (iAt (op := (Op.store 113 (Operand.tmp 5) (Operand.tmp 53))) (ty := 0)) rfl rfl rfl (by kernel_rfl) hS rfl (Nat.le_of_ble_eq_true rfl) rfl fun w a hS ha => ?_)
   refine ⟨.inl (by kernel_rfl), ?_⟩
   refine d_end (by kernel_rfl) ?_ _
   refine then_n ?_
   refine wp_ret ?_
   refine then_r ?_
   refine end_res2 ha (by kernel_rfl) (resC (t := 4) (ty := 110) (i := 7) ha rfl hS rfl (by kernel_rfl)) (resC (t := 5) (ty := 113) (i := 6) ha rfl hS rfl (by kernel_rfl)) ?_
   have hE : qLast (qCall P fuel d) m c z = (q1.1, (⟨c.f, c.depth, c.r0, c.r1, c.r2, c.r3, c.defers.dropLast, c.kind, c.value, c.leaving, c.deferred, c.panicking, c.panic, c.recovered, c.outer⟩ : FQ)) := by (unfold qLast; simp only [hq1, c24, if_true, if_false, Bool.false_eq_true]) <;> rfl
   rw [hE]
   replace hS : Sat w0 w ((rE tr1 q1.1.trace) :: (rS se1 q1.1.seen) :: (rS s13 c.defers.dropLast) :: Rs) := hS.pickN 11 [0, 1, 4] (by decide) rfl
   exact ⟨_, tr1, se1, s13, rfl, rfl, hS⟩
  ·
   refine c_false ha rfl c24 ?_
   refine wp_skip ?_
   refine then_n ?_
   refine wp_seq ?_
   refine p_beginL [0, 1, 2, 3, 4] ?_
   refine p_run [(0, 54, ptr b15 14)] ha fun a ha => ?_
   refine p_ld (d := 55) (b := b15) (j := 14) ha (hS.blk 3 rfl) rfl fun a ha => ?_
   refine p_run [(2, 56, ptr b3 2), (3, 57, ptr b3 3)] ha fun a ha => ?_
   refine p_op (o_st b3 3 (iv q1.2.outer) 8 ha hS rfl rfl fun w a hS ha => ?_)
   refine p_end ?_
   refine then_n ?_
   refine seq_cut (J := fun a_ w_ => Has 84 [(2, ptr b1 0), (3, ptr b3 0), (4, ptr b5 0), (5, ptr b7 0), (8, ptr b15 0)] a_ ∧ Sat w0 w_ ((rE tr1 q1.1.trace) :: (rS se1 q1.1.seen) :: (rS df1 q1.2.defers) :: (SX.blk b15 (cL q1.2.f q1.2.depth q1.2.r0 q1.2.r1 q1.2.r2 q1.2.r3 df1 q1.2.kind q1.2.value q1.2.leaving q1.2.deferred q1.2.panicking q1.2.panic q1.2.recovered q1.2.outer) 113) :: (rS s13 c.defers.dropLast) :: (SX.blk b9 [iv z.1, iv z.2] 153) :: (SX.blk b7 (cL 0 0 0 0 0 0 (⟨none, 0, 0⟩) 0 0 false false false 0 false 0) 113) :: (SX.blk b5 (mL (⟨none, 0, 0⟩) 0 false 0 0 0 (⟨none, 0, 0⟩) (⟨none, 0, 0⟩)) 110) :: (SX.blk b3 (cL c.f c.depth c.r0 q1.2.outer c.r2 c.r3 s13 c.kind c.value (c.leaving || q1.2.leaving) c.deferred c.panicking c.panic c.recovered c.outer) 113) :: (SX.blk b1 (mL pv fuel q1.1.spent q1.1.shared q1.1.made q1.1.deep tr1 se1) 110) :: (rS df c.defers) :: Rs)) ?_ ?_
   ·
    refine p_beginL [0, 1, 2, 3, 4, 5, 6, 7] ?_
    refine p_run [(0, 58, ptr b3 9)] ha fun a ha => ?_
    refine p_ld (d := 59) (b := b3) (j := 9) ha (hS.blk 8 rfl) rfl fun a ha => ?_
    refine p_run [(2, 60, .bool c.leaving)] ha fun a ha => ?_
    rcases Bool.eq_false_or_eq_true c.leaving with c25 | c25
    ·
     replace ha := ha.turn 59 (.bool true) rfl (congrArg Value.bool c25)
     replace ha := ha.turn 60 (.bool true) rfl (congrArg Value.bool c25)
     refine p_run [(3, 61, undef), (4, 62, undef), (5, 63, .bool true), (6, 64, ptr b3 9)] ha fun a ha => ?_
     refine p_op (o_st b3 9 (.bool true) 8 ha hS rfl rfl fun w a hS ha => ?_)
     refine p_end ?_
     replace ha := ha.as [(2, ptr b1 0), (3, ptr b3 0), (4, ptr b5 0), (5, ptr b7 0), (8, ptr b15 0)] rfl
     have e26 : (c.leaving || q1.2.leaving) = true := by simp [c24, c25]
     refine then_n ⟨?_, ?_⟩
     · first | (rw [e26]; exact ha.keeps [2, 3, 4, 5, 8] _ rfl) | exact ha.keeps [2, 3, 4, 5, 8] _ rfl
     · first | (rw [e26]; exact hS) | exact hS
    ·
     replace ha := ha.turn 59 (.bool false) rfl (congrArg Value.bool c25)
     replace ha := ha.turn 60 (.bool false) rfl (congrArg Value.bool c25)
     refine p_run [(3, 61, ptr b15 9)] ha fun a ha => ?_
     refine p_ld (d := 62) (b := b15) (j := 9) ha (hS.blk 3 rfl) rfl fun a ha => ?_
     refine p_run [(5, 63, .bool q1.2.leaving), (6, 64, ptr b3 9)] ha fun a ha => ?_
     refine p_op (o_st b3 9 (.bool q1.2.leaving) 8 ha hS rfl rfl fun w a hS ha => ?_)
     refine p_end ?_
     replace ha := ha.as [(2, ptr b1 0), (3, ptr b3 0), (4, ptr b5 0), (5, ptr b7 0), (8, ptr b15 0)] rfl
     have e27 : (c.leaving || q1.2.leaving) = q1.2.leaving := by simp [c24, c25]
     refine then_n ⟨?_, ?_⟩
     · first | (rw [e27]; exact ha.keeps [2, 3, 4, 5, 8] _ rfl) | exact ha.keeps [2, 3, 4, 5, 8] _ rfl
     · first | (rw [e27]; exact hS) | exact hS
   ·
    rintro a w ⟨ha, hS⟩
    refine wp_seq ?_
    refine wp_seq ?_
    refine p_beginL [0, 1] ?_
    refine p_run [(0, 65, ptr b15 13)] ha fun a ha => ?_
    refine p_ld (d := 66) (b := b15) (j := 13) ha (hS.blk 3 rfl) rfl fun a ha => ?_
    refine p_end ?_
    refine then_n ?_
    refine then_cut (J := fun a_ w_ => Has 84 [(2, ptr b1 0), (3, ptr b3 0), (4, ptr b5 0), (5, ptr b7 0), (8, ptr b15 0), (66, .bool q1.2.recovered)] a_ ∧ Sat w0 w_ ((rE tr1 q1.1.trace) :: (rS se1 q1.1.seen) :: (rS df1 q1.2.defers) :: (SX.blk b15 (cL q1.2.f q1.2.depth q1.2.r0 q1.2.r1 q1.2.r2 q1.2.r3 df1 q1.2.kind q1.2.value q1.2.leaving q1.2.deferred q1.2.panicking q1.2.panic q1.2.recovered q1.2.outer) 113) :: (rS s13 c.defers.dropLast) :: (SX.blk b9 [iv z.1, iv z.2] 153) :: (SX.blk b7 (cL 0 0 0 0 0 0 (⟨none, 0, 0⟩) 0 0 false false false 0 false 0) 113) :: (SX.blk b5 (mL (⟨none, 0, 0⟩) 0 false 0 0 0 (⟨none, 0, 0⟩) (⟨none, 0, 0⟩)) 110) :: (SX.blk b3 (cL c.f c.depth c.r0 q1.2.outer c.r2 c.r3 s13 (if q1.2.recovered = true then (if (c.leaving || q1.2.leaving) = true then 3 else 1) else c.kind) c.value (c.leaving || q1.2.leaving) c.deferred c.panicking c.panic c.recovered c.outer) 113) :: (SX.blk b1 (mL pv fuel q1.1.spent q1.1.shared q1.1.made q1.1.deep tr1 se1) 110) :: (rS df c.defers) :: Rs)) ?_ ?_
    ·
     rcases Bool.eq_false_or_eq_true q1.2.recovered with c28 | c28
     ·
      refine c_true ha rfl c28 ?_
      refine wp_seq ?_
      refine p_beginL [0, 1] ?_
      refine p_run [(0, 67, ptr b3 7)] ha fun a ha => ?_
      refine p_op (o_st b3 7 (iv 1) 8 ha hS rfl rfl fun w a hS ha => ?_)
      refine p_end ?_
      replace ha := ha.as [(2, ptr b1 0), (3, ptr b3 0), (4, ptr b5 0), (5, ptr b7 0), (8, ptr b15 0), (66, .bool q1.2.recovered)] rfl
      refine then_n ?_
      refine wp_seq ?_
      refine p_beginL [0, 1] ?_
      refine p_run [(0, 68, ptr b3 9)] ha fun a ha => ?_
      refine p_ld (d := 69) (b := b3) (j := 9) ha (hS.blk 8 rfl) rfl fun a ha => ?_
      refine p_end ?_
      refine then_n ?_
      rcases Bool.eq_false_or_eq_true (c.leaving || q1.2.leaving) with c29 | c29
      ·
       refine c_true ha rfl c29 ?_
       refine p_beginL [0, 1] ?_
       refine p_run [(0, 70, ptr b3 7)] ha fun a ha => ?_
       refine p_op (o_st b3 7 (iv 3) 8 ha hS rfl rfl fun w a hS ha => ?_)
       refine p_end ?_
       have e30 : ((if q1.2.recovered = true then (if (c.leaving || q1.2.leaving) = true then 3 else 1) else c.kind) : Int) = 3 := by simp [c24, c28, c29]
       refine then_n ⟨?_, ?_⟩
       · first | (rw [e30]; exact ha.keeps [2, 3, 4, 5, 8, 66] _ rfl) | exact ha.keeps [2, 3, 4, 5, 8, 66] _ rfl
       · first | (rw [e30]; exact hS) | exact hS
      ·
       refine c_false ha rfl c29 ?_
       refine wp_skip ?_
       have e31 : ((if q1.2.recovered = true then (if (c.leaving || q1.2.leaving) = true then 3 else 1) else c.kind) : Int) = 1 := by simp [c24, c28, c29]
       refine then_n ⟨?_, ?_⟩
       · first | (rw [e31]; exact ha.keeps [2, 3, 4, 5, 8, 66] _ rfl) | exact ha.keeps [2, 3, 4, 5, 8, 66] _ rfl
       · first | (rw [e31]; exact hS) | exact hS
     ·
      refine c_false ha rfl c28 ?_
      refine wp_skip ?_
      have e32 : ((if q1.2.recovered = true then (if (c.leaving || q1.2.leaving) = true then 3 else 1) else c.kind) : Int) = c.kind := by simp [c24, c28]
      refine then_n ⟨?_, ?_⟩
      · first | (rw [e32]; exact ha.keeps [2, 3, 4, 5, 8, 66] _ rfl) | exact ha.keeps [2, 3, 4, 5, 8, 66] _ rfl
      · first | (rw [e32]; exact hS) | exact hS
    ·
     rintro a w ⟨ha, hS⟩
     refine wp_seq ?_
     refine wp_seq ?_
     refine p_beginL [0, 1, 2] ?_
     refine p_run [(0, 71, ptr b15 7)] ha fun a ha => ?_
     refine p_ld (d := 72) (b := b15) (j := 7) ha (hS.blk 3 rfl) rfl fun a ha => ?_
     refine p_run [(2, 73, .bool (decide (q1.2.kind = 2)))] ha fun a ha => ?_
     refine p_end ?_
     replace ha := ha.as [(2, ptr b1 0), (3, ptr b3 0), (4, ptr b5 0), (5, ptr b7 0), (8, ptr b15 0), (73, .bool (decide (q1.2.kind = 2)))] rfl
     refine then_n ?_
     refine then_cut (J := fun a_ w_ => Has 84 [(2, ptr b1 0), (3, ptr b3 0), (4, ptr b5 0), (5, ptr b7 0), (8, ptr b15 0), (73, .bool (decide (q1.2.kind = 2)))] a_ ∧ Sat w0 w_ ((rE tr1 q1.1.trace) :: (rS se1 q1.1.seen) :: (rS df1 q1.2.defers) :: (SX.blk b15 (cL q1.2.f q1.2.depth q1.2.r0 q1.2.r1 q1.2.r2 q1.2.r3 df1 q1.2.kind q1.2.value q1.2.leaving q1.2.deferred q1.2.panicking q1.2.panic q1.2.recovered q1.2.outer) 113) :: (rS s13 c.defers.dropLast) :: (SX.blk b9 [iv z.1, iv z.2] 153) :: (SX.blk b7 (cL 0 0 0 0 0 0 (⟨none, 0, 0⟩) 0 0 false false false 0 false 0) 113) :: (SX.blk b5 (mL (⟨none, 0, 0⟩) 0 false 0 0 0 (⟨none, 0, 0⟩) (⟨none, 0, 0⟩)) 110) :: (SX.blk b3 (cL c.f c.depth c.r0 q1.2.outer c.r2 c.r3 s13 (if q1.2.kind = 2 then 2 else (if q1.2.recovered = true then (if (c.leaving || q1.2.leaving) = true then 3 else 1) else c.kind)) (if q1.2.kind = 2 then q1.2.value else c.value) (c.leaving || q1.2.leaving) c.deferred c.panicking c.panic c.recovered c.outer) 113) :: (SX.blk b1 (mL pv fuel q1.1.spent q1.1.shared q1.1.made q1.1.deep tr1 se1) 110) :: (rS df c.defers) :: Rs)) ?_ ?_
     ·
      by_cases c33 : q1.2.kind = 2
      ·
       refine c_true ha rfl (decide_eq_true c33) ?_
       refine wp_seq ?_
       refine p_beginL [0, 1] ?_
       refine p_run [(0, 74, ptr b3 7)] ha fun a ha => ?_
       refine p_op (o_st b3 7 (iv 2) 8 ha hS rfl rfl fun w a hS ha => ?_)
       refine p_end ?_
       refine then_n ?_
       refine p_beginL [0, 1, 2, 3] ?_
       refine p_run [(0, 75, ptr b15 8)] ha fun a ha => ?_
       refine p_ld (d := 76) (b := b15) (j := 8) ha (hS.blk 3 rfl) rfl fun a ha => ?_
       refine p_run [(2, 77, ptr b3 8)] ha fun a ha => ?_
       refine p_op (o_st b3 8 (iv q1.2.value) 8 ha hS rfl rfl fun w a hS ha => ?_)
       refine p_end ?_
       have e34 : ((if q1.2.kind = 2 then 2 else (if q1.2.recovered = true then (if (c.leaving || q1.2.leaving) = true then 3 else 1) else c.kind)) : Int) = 2 := by simp [c24, c33]
       have e35 : ((if q1.2.kind = 2 then q1.2.value else c.value) : Int) = q1.2.value := by simp [c24, c33]
       refine then_n ⟨?_, ?_⟩
       · first | (rw [e34, e35]; exact ha.keeps [2, 3, 4, 5, 8, 73] _ rfl) | exact ha.keeps [2, 3, 4, 5, 8, 73] _ rfl
       · first | (rw [e34, e35]; exact hS) | exact hS
      ·
       refine c_false ha rfl (decide_eq_false c33) ?_
       refine wp_skip ?_
       have e36 : ((if q1.2.kind = 2 then 2 else (if q1.2.recovered = true then (if (c.leaving || q1.2.leaving) = true then 3 else 1) else c.kind)) : Int) = (if q1.2.recovered = true then (if (c.leaving || q1.2.leaving) = true then 3 else 1) else c.kind) := by simp [c24, c33]
       have e37 : ((if q1.2.kind = 2 then q1.2.value else c.value) : Int) = c.value := by simp [c24, c33]
       refine then_n ⟨?_, ?_⟩
       · first | (rw [e36, e37]; exact ha.keeps [2, 3, 4, 5, 8, 73] _ rfl) | exact ha.keeps [2, 3, 4, 5, 8, 73] _ rfl
       · first | (rw [e36, e37]; exact hS) | exact hS
     ·
      rintro a w ⟨ha, hS⟩
      refine wp_seq ?_
      refine wp_seq ?_
      refine p_beginL [0, 1, 2] ?_
      refine p_run [(0, 78, ptr b15 7)] ha fun a ha => ?_
      refine p_ld (d := 79) (b := b15) (j := 7) ha (hS.blk 3 rfl) rfl fun a ha => ?_
      refine p_run [(2, 80, .bool (decide (q1.2.kind = 3)))] ha fun a ha => ?_
      refine p_end ?_
      refine then_n ?_
      refine then_cut (J := fun a_ w_ => Has 84 [(2, ptr b1 0), (3, ptr b3 0), (4, ptr b5 0), (5, ptr b7 0), (80, .bool (decide (q1.2.kind = 3)))] a_ ∧ Sat w0 w_ ((rE tr1 q1.1.trace) :: (rS se1 q1.1.seen) :: (rS df1 q1.2.defers) :: (SX.blk b15 (cL q1.2.f q1.2.depth q1.2.r0 q1.2.r1 q1.2.r2 q1.2.r3 df1 q1.2.kind q1.2.value q1.2.leaving q1.2.deferred q1.2.panicking q1.2.panic q1.2.recovered q1.2.outer) 113) :: (rS s13 c.defers.dropLast) :: (SX.blk b9 [iv z.1, iv z.2] 153) :: (SX.blk b7 (cL 0 0 0 0 0 0 (⟨none, 0, 0⟩) 0 0 false false false 0 false 0) 113) :: (SX.blk b5 (mL (⟨none, 0, 0⟩) 0 false 0 0 0 (⟨none, 0, 0⟩) (⟨none, 0, 0⟩)) 110) :: (SX.blk b3 (cL c.f c.depth c.r0 q1.2.outer c.r2 c.r3 s13 (if q1.2.kind = 3 then 3 else (if q1.2.kind = 2 then 2 else (if q1.2.recovered = true then (if (c.leaving || q1.2.leaving) = true then 3 else 1) else c.kind))) (if q1.2.kind = 2 then q1.2.value else c.value) (c.leaving || q1.2.leaving) c.deferred c.panicking c.panic c.recovered c.outer) 113) :: (SX.blk b1 (mL pv fuel q1.1.spent q1.1.shared q1.1.made q1.1.deep tr1 se1) 110) :: (rS df c.defers) :: Rs)) ?_ ?_
      ·
       by_cases c38 : q1.2.kind = 3
       ·
        refine c_true ha rfl (decide_eq_true c38) ?_
        refine p_beginL [0, 1] ?_
        refine p_run [(0, 81, ptr b3 7)] ha fun a ha => ?_
        refine p_op (o_st b3 7 (iv 3) 8 ha hS rfl rfl fun w a hS ha => ?_)
        refine p_end ?_
        have e39 : ((if q1.2.kind = 3 then 3 else (if q1.2.kind = 2 then 2 else (if q1.2.recovered = true then (if (c.leaving || q1.2.leaving) = true then 3 else 1) else c.kind))) : Int) = 3 := by simp [c24, c38]
        refine then_n ⟨?_, ?_⟩
        · first | (rw [e39]; exact ha.keeps [2, 3, 4, 5, 80] _ rfl) | exact ha.keeps [2, 3, 4, 5, 80] _ rfl
        · first | (rw [e39]; exact hS) | exact hS
       ·
        refine c_false ha rfl (decide_eq_false c38) ?_
        refine wp_skip ?_
        have e40 : ((if q1.2.kind = 3 then 3 else (if q1.2.kind = 2 then 2 else (if q1.2.recovered = true then (if (c.leaving || q1.2.leaving) = true then 3 else 1) else c.kind))) : Int) = (if q1.2.kind = 2 then 2 else (if q1.2.recovered = true then (if (c.leaving || q1.2.leaving) = true then 3 else 1) else c.kind)) := by simp [c24, c38]
        refine then_n ⟨?_, ?_⟩
        · first | (rw [e40]; exact ha.keeps [2, 3, 4, 5, 80] _ rfl) | exact ha.keeps [2, 3, 4, 5, 80] _ rfl
        · first | (rw [e40]; exact hS) | exact hS
      ·
       rintro a w ⟨ha, hS⟩
       refine wp_seq ?_
       refine d_startP 3 4 (hS.pickN 11 [3, 5, 6, 8, 9] (by decide) rfl) hS fun w hS => ?_
       refine d_val (i := 0) ha (by decide) (v_loadW ha (iAt (op := (Op.load 110 (Operand.tmp 2))) (d := some 82) (ty := 110)) rfl (by kernel_rfl) (fun _ hw => hw.blk 4 rfl)) (hS.pickN 11 [3, 5, 6, 8, 9] (by decide) rfl) (by kernel_rfl) (by kernel_rfl) (pk_then (pk_body)) fun a ha => ?_
       refine d_val (i := 1) ha (by decide) (v_loadW ha (iAt (op := (Op.load 113 (Operand.tmp 3))) (d := some 83) (ty := 113)) rfl (by kernel_rfl) (fun _ hw => hw.blk 3 rfl)) (hS.pickN 11 [3, 5, 6, 8, 9] (by decide) rfl) (by kernel_rfl) (by kernel_rfl) (pk_then (pk_body)) fun a ha => ?_
       refine d_one (i := 2) (by kernel_rfl) (o_storeAgg 7 ha (iAt (op := (Op.store 110 (Operand.tmp 4) (Operand.tmp 82))) (ty := 0)) rfl rfl rfl (by kernel_rfl) hS rfl (Nat.le_of_ble_eq_true rfl) rfl fun w a hS ha => ?_)
       refine ⟨.inr (hS.pickN 11 [3, 5, 6, 8, 9] (by decide) rfl), ?_⟩
       refine d_one (i := 3) (by kernel_rfl) (o_storeAgg 6 ha (iAt (op := (Op.store 113 (Operand.tmp 5) (Operand.tmp 83))) (ty := 0)) rfl rfl rfl (by kernel_rfl) hS rfl (Nat.le_of_ble_eq_true rfl) rfl fun w a hS ha => ?_)
       refine ⟨.inl (by kernel_rfl), ?_⟩
       refine d_end (by kernel_rfl) ?_ _
       refine then_n ?_
       refine wp_ret ?_
       refine end_res2 ha (by kernel_rfl) (resC (t := 4) (ty := 110) (i := 7) ha rfl hS rfl (by kernel_rfl)) (resC (t := 5) (ty := 113) (i := 6) ha rfl hS rfl (by kernel_rfl)) ?_
       have hE : qLast (qCall P fuel d) m c z = (q1.1, (⟨c.f, c.depth, c.r0, q1.2.outer, c.r2, c.r3, c.defers.dropLast, (if q1.2.kind = 3 then 3 else (if q1.2.kind = 2 then 2 else (if q1.2.recovered = true then (if (c.leaving || q1.2.leaving) = true then 3 else 1) else c.kind))), (if q1.2.kind = 2 then q1.2.value else c.value), (c.leaving || q1.2.leaving), c.deferred, c.panicking, c.panic, c.recovered, c.outer⟩ : FQ)) := by (unfold qLast; simp only [hq1, c24, if_true, if_false, Bool.false_eq_true]) <;> rfl
       rw [hE]
       replace hS : Sat w0 w ((rE tr1 q1.1.trace) :: (rS se1 q1.1.seen) :: (rS s13 c.defers.dropLast) :: Rs) := hS.pickN 11 [0, 1, 4] (by decide) rfl
       exact ⟨_, tr1, se1, s13, rfl, rfl, hS⟩
end SX
end Go.Proofs.Ytdbbafepjgnmeaa
end
section
namespace Go.Proofs.Ytdbbafepjgnmeaa
namespace SX
open Go.RowKit
set_option linter.unusedVariables false
set_option linter.unusedSimpArgs false
theorem code95 : Try.f95.body = some (Code.seq (Code.region 0 (regOf Try.f95 0) false) (Code.seq (Code.seq (Code.region 1 (regOf Try.f95 1) false) (Code.cond (Operand.tmp 11) (Code.seq (Code.region 2 (regOf Try.f95 2) false) (Code.seq (Code.region 3 (regOf Try.f95 3) true) Code.ret)) Code.skip)) (Code.seq (Code.region 4 (regOf Try.f95 4) false) (Code.seq (Code.region 5 (regOf Try.f95 5) false) (Code.seq (Code.seq (Code.region 6 (regOf Try.f95 6) false) (Code.cond (Operand.tmp 22) (Code.region 7 (regOf Try.f95 7) false) Code.skip)) (Code.seq (Code.region 8 (regOf Try.f95 8) false) (Code.seq (Code.region 9 (regOf Try.f95 9) false) (Code.seq (Code.region 10 (regOf Try.f95 10) false) (Code.seq (Code.seq (Code.region 11 (regOf Try.f95 11) false) (Code.block 0 (Code.loop (Code.seq (Code.seq (Code.region 12 (regOf Try.f95 12) false) (Code.cond (Operand.tmp 46) Code.skip (Code.exit 0))) (Code.block 1 (Code.seq (Code.seq (Code.region 13 (regOf Try.f95 13) false) (Code.cond (Operand.tmp 51) (Code.seq (Code.region 14 (regOf Try.f95 14) false) (Code.seq (Code.region 15 (regOf Try.f95 15) true) Code.ret)) Code.skip)) (Code.seq (Code.region 16 (regOf Try.f95 16) false) (Code.seq (Code.region 17 (regOf Try.f95 17) false) (Code.seq (Code.region 18 (regOf Try.f95 18) true) (Code.seq (Code.region 19 (regOf Try.f95 19) false) (Code.cond (Operand.tmp 81) (Code.seq (Code.region 20 (regOf Try.f95 20) true) Code.ret) Code.skip))))))))))) (Code.seq (Code.block 2 (Code.loop (Code.seq (Code.seq (Code.region 21 (regOf Try.f95 21) false) (Code.cond (Operand.tmp 87) Code.skip (Code.exit 2))) (Code.block 3 (Code.seq (Code.region 22 (regOf Try.f95 22) false) (Code.seq (Code.region 23 (regOf Try.f95 23) false) (Code.cond (Operand.tmp 95) (Code.seq (Code.region 24 (regOf Try.f95 24) true) Code.ret) Code.skip))))))) (Code.seq (Code.seq (Code.region 25 (regOf Try.f95 25) false) (Code.block 4 (Code.seq (Code.region 26 (regOf Try.f95 26) false) (Code.cond (Operand.tmp 100) (Code.region 27 (regOf Try.f95 27) false) (Code.seq (Code.region 28 (regOf Try.f95 28) false) (Code.cond (Operand.tmp 109) (Code.region 29 (regOf Try.f95 29) false) (Code.seq (Code.region 30 (regOf Try.f95 30) false) (Code.cond (Operand.tmp 117) (Code.region 31 (regOf Try.f95 31) false) Code.skip)))))))) (Code.seq (Code.region 32 (regOf Try.f95 32) true) Code.ret)))))))))))) := by kernel_rfl
set_option maxRecDepth 20000 in
set_option maxHeartbeats 1000000 in
theorem q_call {P : List (List Stp)} (hP : ProgOk P) {pv : Sl} {fuel : Int} {sbs : List Sl} (D : Nat) (IH : ∀ d, D = d + 1 → CallCQ P fuel pv sbs d) {w0 w : World} {Rs : List Asn} (m : MQ) (c : FQ) {tr se df : Sl} (x : Nat) (hS : Sat w0 w (rE tr m.trace :: rS se m.seen :: rS df c.defers :: Rs)) (hm : OkQ fuel m (x + 2)) (hk : OkC P.length c) (hcz : c.defers = []) (hd1 : c.depth + D = 9) (hd2 : 1 ≤ c.depth) (hPr : Keeps w0 Rs (fun w => RdProg w pv sbs P)) :
  Calls Try.prog 95 #[mV pv fuel m tr se, cV c df] w (Ret fun r w' => ∃ (q : MQ × FQ) (tr' se' df' : Sl), q = qCall P fuel D m c ∧ r = .tuple #[mV pv fuel q.1 tr' se', cV q.2 df'] ∧ Sat w0 w' (rE tr' q.1.trace :: rS se' q.1.seen :: rS df' q.2.defers :: Rs)) := by
 obtain ⟨body, hbody⟩ := get_int P hk.f0 hk.f1
 have hrest : Sat w0 w Rs := Sat.rest [rE tr m.trace, rS se m.seen, rS df c.defers] hS
 obtain ⟨sb, hbn, hbA, hsb⟩ := RdProg.body hPr hrest hbody
 have hpn := (hPr w hrest).len
 have hpA := (hPr w hrest).A (by have := hP.some_; omega)
 have hbm := List.mem_of_getElem? hbody
 have hsteps := hP.steps body hbm
 have hb8 := hP.short body hbm
 have hm1 := hm.made1
 have hmb := hm.bnd
 replace hS : Sat w0 w ((rE tr m.trace) :: (rS se m.seen) :: (rS df c.defers) :: Rs) := hS
 refine enter (n := 125) Try.func95 code95 (by kernel_rfl) (Nat.le_of_ble_eq_true rfl) (fun a ha => ?_)
 replace ha : Has 125 [(0, (mG pv fuel m.spent m.shared m.made m.deep tr se)), (1, (cG c.f c.depth c.r0 c.r1 c.r2 c.r3 df c.kind c.value c.leaving c.deferred c.panicking c.panic c.recovered c.outer))] a := ha
 refine wp_seq ?_
 refine p_beginL [0, 1, 2, 3] ?_
 refine p_op (o_new (cs := (mL pv fuel m.spent m.shared m.made m.deep tr se)) (T := 110) (fun b => .pointer (some ⟨b, 0, none⟩)) ha (by decide) (iAt (op := (Op.box 110 (Operand.tmp 0))) (d := some 2) (ty := 0)) (by kernel_rfl) hS (fun _ => by kernel_rfl) fun b1 w a hb2 hS ha => ?_)
 refine p_op (o_new (cs := (cL c.f c.depth c.r0 c.r1 c.r2 c.r3 df c.kind c.value c.leaving c.deferred c.panicking c.panic c.recovered c.outer)) (T := 113) (fun b => .pointer (some ⟨b, 0, none⟩)) ha (by decide) (iAt (op := (Op.box 113 (Operand.tmp 1))) (d := some 3) (ty := 0)) (by kernel_rfl) hS (fun _ => by kernel_rfl) fun b3 w a hb4 hS ha => ?_)
 refine p_op (o_new (cs := (mL (⟨none, 0, 0⟩) 0 false 0 0 0 (⟨none, 0, 0⟩) (⟨none, 0, 0⟩))) (T := 110) (fun b => .pointer (some ⟨b, 0, none⟩)) ha (by decide) (iAt (op := (Op.alloc 110)) (d := some 4) (ty := 0)) (by kernel_rfl) hS (fun _ => by kernel_rfl) fun b5 w a hb6 hS ha => ?_)
 refine p_op (o_new (cs := (cL 0 0 0 0 0 0 (⟨none, 0, 0⟩) 0 0 false false false 0 false 0)) (T := 113) (fun b => .pointer (some ⟨b, 0, none⟩)) ha (by decide) (iAt (op := (Op.alloc 113)) (d := some 5) (ty := 0)) (by kernel_rfl) hS (fun _ => by kernel_rfl) fun b7 w a hb8 hS ha => ?_)
 refine p_end ?_
 refine then_n ?_
 refine wp_seq ?_
 refine wp_seq ?_
 refine p_beginL [0, 1, 2] ?_
 refine p_run [(0, 9, ptr b3 1)] ha fun a ha => ?_
 refine p_ld (d := 10) (b := b3) (j := 1) ha (hS.blk 2 rfl) rfl fun a ha => ?_
 refine p_run [(2, 11, .bool (decide (c.depth > 8)))] ha fun a ha => ?_
 refine p_end ?_
 refine then_n ?_
 by_cases c9 : c.depth > 8
 ·
  refine c_true ha rfl (decide_eq_true c9) ?_
  refine wp_seq ?_
  refine p_beginL [0, 1] ?_
  refine p_run [(0, 12, ptr b1 2)] ha fun a ha => ?_
  refine p_op (o_st b1 2 (.bool true) 3 ha hS rfl rfl fun w a hS ha => ?_)
  refine p_end ?_
  refine then_n ?_
  refine wp_seq ?_
  refine d_startP 3 4 (hS.pickN 7 [0, 2, 3] (by decide) rfl) hS fun w hS => ?_
  refine d_val (i := 0) ha (by decide) (v_loadW ha (iAt (op := (Op.load 110 (Operand.tmp 2))) (d := some 13) (ty := 110)) rfl (by kernel_rfl) (fun _ hw => hw.blk 2 rfl)) (hS.pickN 7 [0, 2, 3] (by decide) rfl) (by kernel_rfl) (by kernel_rfl) (pk_then (pk_then (pk_body))) fun a ha => ?_
  refine d_val (i := 1) ha (by decide) (v_loadW ha (iAt (op := (Op.load 113 (Operand.tmp 3))) (d := some 14) (ty := 113)) rfl (by kernel_rfl) (fun _ hw => hw.blk 1 rfl)) (hS.pickN 7 [0, 2, 3] (by decide) rfl) (by kernel_rfl) (by kernel_rfl) (pk_then (pk_then (pk_body))) fun a ha => ?_
  refine d_one (i := 2) (by kernel_rfl) (o_storeAgg 1 ha (iAt (op := (Op.store 110 (Operand.tmp 4) (Operand.tmp 13))) (ty := 0)) rfl rfl rfl (by kernel_rfl) hS rfl (Nat.le_of_ble_eq_true rfl) rfl fun w a hS ha => ?_)
  refine ⟨.inr (hS.pickN 7 [0, 2, 3] (by decide) rfl), ?_⟩
  refine d_one (i := 3) (by kernel_rfl) (o_storeAgg 0 ha (iAt (op := (Op.store 113 (Operand.tmp 5) (Operand.tmp 14))) (ty := 0)) rfl rfl rfl (by kernel_rfl) hS rfl (Nat.le_of_ble_eq_true rfl) rfl fun w a hS ha => ?_)
  refine ⟨.inl (by kernel_rfl), ?_⟩
  refine d_end (by kernel_rfl) ?_ _
  refine then_n ?_
  refine wp_ret ?_
  refine then_r ?_
  refine end_res2 ha (by kernel_rfl) (resC (t := 4) (ty := 110) (i := 1) ha rfl hS rfl (by kernel_rfl)) (resC (t := 5) (ty := 113) (i := 0) ha rfl hS rfl (by kernel_rfl)) ?_
  obtain rfl : D = 0 := by omega
  have hE : qCall P fuel 0 m c = ((⟨true, m.shared, m.made, m.deep, m.trace, m.seen⟩ : MQ), c) := rfl
  rw [hE]
  replace hS : Sat w0 w ((rE tr m.trace) :: (rS se m.seen) :: (rS df c.defers) :: Rs) := hS.pickN 7 [4, 5, 6] (by decide) rfl
  exact ⟨_, tr, se, df, rfl, rfl, hS⟩
 ·
  refine c_false ha rfl (decide_eq_false c9) ?_
  refine wp_skip ?_
  refine then_n ?_
  refine wp_seq ?_
  obtain ⟨d, rfl⟩ : ∃ d', D = d' + 1 := ⟨D - 1, by omega⟩
  refine p_beginL [0, 1, 2, 3, 4, 5, 6] ?_
  refine p_run [(0, 15, ptr b1 5)] ha fun a ha => ?_
  refine p_ld (d := 16) (b := b1) (j := 5) ha (hS.blk 3 rfl) rfl fun a ha => ?_
  refine p_run [(2, 17, ptr b3 1)] ha fun a ha => ?_
  refine p_ld (d := 18) (b := b3) (j := 1) ha (hS.blk 2 rfl) rfl fun a ha => ?_
  refine p_op (o_ret ha (by decide) (iAt (op := (Op.call { callee := (Callee.value (Operand.func 104)), args := #[(Operand.tmp 16), (Operand.tmp 18)], argTypes := #[3, 3] })) (d := some 19) (ty := 3)) rfl Try.func104 (by kernel_rfl) (q_most hS) fun v10 w a hp11 ha => ?_)
  obtain ⟨rfl, hS⟩ := hp11
  refine p_run [(5, 20, ptr b1 5)] ha fun a ha => ?_
  refine p_op (o_st b1 5 (iv (max m.deep c.depth)) 3 ha hS rfl rfl fun w a hS ha => ?_)
  refine p_end ?_
  refine then_n ?_
  refine wp_seq ?_
  refine p_beginL [0] ?_
  refine p_run [(0, 6, iv 1)] ha fun a ha => ?_
  refine p_end ?_
  refine then_n ?_
  refine wp_seq ?_
  refine wp_seq ?_
  refine p_beginL [0, 1] ?_
  refine p_run [(0, 21, ptr b3 10)] ha fun a ha => ?_
  refine p_ld (d := 22) (b := b3) (j := 10) ha (hS.blk 2 rfl) rfl fun a ha => ?_
  refine p_end ?_
  refine then_n ?_
  refine then_cut (J := fun a_ w_ => Has 125 [(2, ptr b1 0), (3, ptr b3 0), (4, ptr b5 0), (5, ptr b7 0), (6, iv (if c.deferred = true then 3 else 1)), (22, .bool c.deferred)] a_ ∧ Sat w0 w_ ((SX.blk b7 (cL 0 0 0 0 0 0 (⟨none, 0, 0⟩) 0 0 false false false 0 false 0) 113) :: (SX.blk b5 (mL (⟨none, 0, 0⟩) 0 false 0 0 0 (⟨none, 0, 0⟩) (⟨none, 0, 0⟩)) 110) :: (SX.blk b3 (cL c.f c.depth c.r0 c.r1 c.r2 c.r3 df c.kind c.value c.leaving c.deferred c.panicking c.panic c.recovered c.outer) 113) :: (SX.blk b1 (mL pv fuel m.spent m.shared m.made (max m.deep c.depth) tr se) 110) :: (rE tr m.trace) :: (rS se m.seen) :: (rS df c.defers) :: Rs)) ?_ ?_
  ·
   rcases Bool.eq_false_or_eq_true c.deferred with c12 | c12
   ·
    refine c_true ha rfl c12 ?_
    refine p_beginL [0] ?_
    refine p_run [(0, 6, iv 3)] ha fun a ha => ?_
    refine p_end ?_
    have e13 : ((if c.deferred = true then 3 else 1) : Int) = 3 := by simp [c9, c12]
    refine then_n ⟨?_, ?_⟩
    · first | (rw [e13]; exact ha.keeps [2, 3, 4, 5, 6, 22] _ rfl) | exact ha.keeps [2, 3, 4, 5, 6, 22] _ rfl
    · first | (rw [e13]; exact hS) | exact hS
   ·
    refine c_false ha rfl c12 ?_
    refine wp_skip ?_
    have e14 : ((if c.deferred = true then 3 else 1) : Int) = 1 := by simp [c9, c12]
    refine then_n ⟨?_, ?_⟩
    · first | (rw [e14]; exact ha.keeps [2, 3, 4, 5, 6, 22] _ rfl) | exact ha.keeps [2, 3, 4, 5, 6, 22] _ rfl
    · first | (rw [e14]; exact hS) | exact hS
  ·
   rintro a w ⟨ha, hS⟩
   refine wp_seq ?_
   refine p_beginL [0, 1, 2, 3, 4, 5, 6, 7, 8] ?_
   refine p_val ha (by decide) (v_loadW ha (iAt (op := (Op.load 110 (Operand.tmp 2))) (d := some 23) (ty := 110)) rfl (by kernel_rfl) (fun _ hw => by rw [hw]; exact hS.blk 3 rfl)) (fun a ha => ?_)
   refine p_run [(1, 24, iv (if c.deferred = true then 3 else 1)), (2, 25, ptr b3 0)] ha fun a ha => ?_
   refine p_ld (d := 26) (b := b3) (j := 0) ha (hS.blk 2 rfl) rfl fun a ha => ?_
   refine p_run [(4, 27, ptr b3 2), (5, 28, ptr b3 2)] ha fun a ha => ?_
   refine p_ld (d := 29) (b := b3) (j := 2) ha (hS.blk 2 rfl) rfl fun a ha => ?_
   refine p_op (o_ret ha (by decide) (iAt (op := (Op.call { callee := (Callee.value (Operand.func 105)), args := #[(Operand.tmp 23), (Operand.tmp 24), (Operand.tmp 26), (Operand.tmp 29)], argTypes := #[110, 3, 3, 3] })) (d := some 30) (ty := 110)) rfl Try.func105 (by kernel_rfl) (q_tell (⟨m.spent, m.shared, m.made, max m.deep c.depth, m.trace, m.seen⟩ : MQ) (hS.pickN 7 [4, 0, 1, 2, 3, 5, 6] (by decide) rfl) (by have := hm.bnd; have := hm.made1; simp only []; omega)) fun v16 w a hp17 ha => ?_)
   obtain ⟨s15, rfl, hS⟩ := hp17
   refine p_op (o_storeAgg 4 ha (iAt (op := (Op.store 110 (Operand.tmp 2) (Operand.tmp 30))) (ty := 0)) rfl rfl rfl (by kernel_rfl) hS rfl (Nat.le_of_ble_eq_true rfl) rfl fun w a hS ha => ?_)
   refine p_end ?_
   replace ha := ha.as [(2, ptr b1 0), (3, ptr b3 0), (4, ptr b5 0), (5, ptr b7 0)] rfl
   refine then_n ?_
   refine wp_seq ?_
   refine p_beginL [0, 1] ?_
   refine p_run [(0, 31, ptr b3 7)] ha fun a ha => ?_
   refine p_op (o_st b3 7 (iv 1) 3 ha hS rfl rfl fun w a hS ha => ?_)
   refine p_end ?_
   refine then_n ?_
   refine wp_seq ?_
   refine p_beginL [0, 1, 2, 3, 4, 5, 6, 7] ?_
   refine p_run [(0, 32, ptr b1 0), (1, 33, ptr b1 0)] ha fun a ha => ?_
   refine p_ld (d := 34) (b := b1) (j := 0) ha (hS.blk 4 rfl) rfl fun a ha => ?_
   refine p_run [(3, 35, ptr b3 0)] ha fun a ha => ?_
   refine p_ld (d := 36) (b := b3) (j := 0) ha (hS.blk 3 rfl) rfl fun a ha => ?_
   refine p_val (v := .pointer (some ⟨bk pv, of_ pv + c.f.toNat * 1, none⟩)) ha (by decide) (v_indexQ (s := pv) (el := 117) (sz := 1) (j := c.f.toNat) ha (iAt (op := (Op.indexAddr 29 (Operand.tmp 34) (Operand.tmp 36))) (d := some 37) (ty := 0)) rfl rfl (by kernel_rfl) (by kernel_rfl) hpA (Int.toNat_of_nonneg hk.f0).symm (by rw [hpn]; have := hk.f1; have := hk.f0; omega)) (fun a ha => ?_)
   refine p_val (v := .slice sb.A sb.n sb.c) ha (by decide) (v_loadC (v := .slice sb.A sb.n sb.c) ha (iAt (op := (Op.load 117 (Operand.tmp 37))) (d := some 38) (ty := 117)) rfl (by kernel_rfl) (fun w' hw => by rw [hw, Nat.mul_one]; exact ((hsb.more [_, _, _, _, _, _, _]) _ hS).1)) (fun a ha => ?_)
   refine p_run [(7, 7, .slice sb.A sb.n sb.c)] ha fun a ha => ?_
   refine p_end ?_
   refine then_n ?_
   refine wp_seq ?_
   refine wp_seq ?_
   have hPb : P.getD c.f.toNat [] = body := by rw [List.getD_eq_getElem?_getD, hbody]; rfl
   refine p_beginL [0] ?_
   refine p_run [(0, 8, iv 0)] ha fun a ha => ?_
   refine p_end ?_
   refine then_n ?_
   refine wp_block ?_
   replace hS : Sat w0 w ((SX.blk b1 (mL pv fuel m.spent m.shared m.made (max m.deep c.depth) s15 se) 110) :: (SX.blk b3 (cL c.f c.depth c.r0 c.r1 c.r2 c.r3 df 1 c.value c.leaving c.deferred c.panicking c.panic c.recovered c.outer) 113) :: (SX.blk b5 (mL (⟨none, 0, 0⟩) 0 false 0 0 0 (⟨none, 0, 0⟩) (⟨none, 0, 0⟩)) 110) :: (SX.blk b7 (cL 0 0 0 0 0 0 (⟨none, 0, 0⟩) 0 0 false false false 0 false 0) 113) :: (rE s15 (m.trace ++ [((if c.deferred = true then 3 else 1), c.f, c.r0)])) :: (rS se m.seen) :: (rS df c.defers) :: Rs) := hS.pickN 7 [4, 3, 2, 1, 0, 5, 6] (by decide) rfl
   generalize hR0 : qBody fuel (qCall P fuel d) body (fuel - m.made).toNat.succ (qEnter m c) { c with kind := 1 } 0 = R_
   refine wp_loop_ghost (fun n_ a_ w_ => ∃ (k : Nat) (q : MQ) (c1 : FQ) (at_ : Int) (tr1 : Sl) (se1 : Sl) (df1 : Sl), n_ = (1 + k) ∧ (qBody fuel (qCall P fuel d) body k q c1 at_ = R_) ∧ ((fuel - q.made).toNat < k) ∧ (OkQ fuel q (2 * c1.defers.length + (x + 1))) ∧ (OkC P.length c1) ∧ (c1.depth = c.depth) ∧ (c1.f = c.f) ∧ (-1 ≤ at_ ∧ at_ ≤ 8) ∧ Has 125 [(2, ptr b1 0), (3, ptr b3 0), (4, ptr b5 0), (5, ptr b7 0), (7, .slice sb.A sb.n sb.c), (8, iv at_)] a_ ∧ Sat w0 w_ ((SX.blk b1 (mL pv fuel q.spent q.shared q.made q.deep tr1 se1) 110) :: (SX.blk b3 (cL c1.f c1.depth c1.r0 c1.r1 c1.r2 c1.r3 df1 c1.kind c1.value c1.leaving c1.deferred c1.panicking c1.panic c1.recovered c1.outer) 113) :: (SX.blk b5 (mL (⟨none, 0, 0⟩) 0 false 0 0 0 (⟨none, 0, 0⟩) (⟨none, 0, 0⟩)) 110) :: (SX.blk b7 (cL 0 0 0 0 0 0 (⟨none, 0, 0⟩) 0 0 false false false 0 false 0) 113) :: (rE tr1 q.trace) :: (rS se1 q.seen) :: (rS df1 c1.defers) :: Rs)) _ ⟨_, (qEnter m c), ({ c with kind := 1 } : FQ), 0, s15, se, df, rfl, hR0, Nat.lt_succ_self _, (by rw [show ({ c with kind := 1 } : FQ).defers = [] from hcz]; simpa using qEnter_ok (c := c) hm), ⟨hk.f0, hk.f1, hk.defers, hk.a0, hk.a1, hk.a2, hk.a3, hk.va, hk.pa, hk.ou⟩, rfl, rfl, by omega, ha.keeps [2, 3, 4, 5, 7, 8] _ rfl, hS⟩ ?_
   -- the loop's round
   rintro n_ a w ⟨k, q, c1, at_, tr1, se1, df1, rfl, hR, hk1, hok, hoc, hcd, hcf, hat, ha, hS⟩
   obtain ⟨k, rfl⟩ : ∃ k', k = k' + 1 := ⟨k - 1, by omega⟩
   have hb0 := hok.made0
   have hb1 := hok.made1
   have hb2 := hok.fuel1
   have hb3 := hok.seen
   have hsp1 := hok.sp
   have hsl : q.seen.length ≤ 1000 := by omega
   refine wp_seq ?_
   refine seq_cut (J := fun a_ w_ => Has 125 [(2, ptr b1 0), (3, ptr b3 0), (4, ptr b5 0), (5, ptr b7 0), (7, .slice sb.A sb.n sb.c), (8, iv at_), (46, .bool (decide (0 ≤ at_ ∧ at_ < (sb.n : Int))))] a_ ∧ Sat w0 w_ ((SX.blk b1 (mL pv fuel q.spent q.shared q.made q.deep tr1 se1) 110) :: (SX.blk b3 (cL c1.f c1.depth c1.r0 c1.r1 c1.r2 c1.r3 df1 c1.kind c1.value c1.leaving c1.deferred c1.panicking c1.panic c1.recovered c1.outer) 113) :: (SX.blk b5 (mL (⟨none, 0, 0⟩) 0 false 0 0 0 (⟨none, 0, 0⟩) (⟨none, 0, 0⟩)) 110) :: (SX.blk b7 (cL 0 0 0 0 0 0 (⟨none, 0, 0⟩) 0 0 false false false 0 false 0) 113) :: (rE tr1 q.trace) :: (rS se1 q.seen) :: (rS df1 c1.defers) :: Rs)) ?_ ?_
   ·
    refine p_beginL [0, 1, 2, 3, 4, 5, 6, 7] ?_
    refine p_run [(0, 39, iv at_), (1, 40, .bool (decide (at_ ≥ 0))), (2, 41, .bool (decide (at_ ≥ 0)))] ha fun a ha => ?_
    by_cases c18 : at_ ≥ 0
    ·
     replace ha := ha.turn 40 (.bool true) rfl (congrArg Value.bool (decide_eq_true c18))
     replace ha := ha.turn 41 (.bool true) rfl (congrArg Value.bool (decide_eq_true c18))
     refine p_run [(3, 42, iv at_), (4, 43, .slice sb.A sb.n sb.c), (5, 44, iv (sb.n : Int)), (6, 45, .bool (decide (at_ < (sb.n : Int)))), (7, 46, .bool (decide (at_ < (sb.n : Int))))] ha fun a ha => ?_
     refine p_end ?_
     have e19 : (decide (0 ≤ at_ ∧ at_ < (sb.n : Int))) = (decide (at_ < (sb.n : Int))) := by simp [c9, c18]
     refine then_n ⟨?_, ?_⟩
     · first | (rw [e19]; exact ha.keeps [2, 3, 4, 5, 7, 8, 46] _ rfl) | exact ha.keeps [2, 3, 4, 5, 7, 8, 46] _ rfl
     · first | (rw [e19]; exact hS) | exact hS
    ·
     replace ha := ha.turn 40 (.bool false) rfl (congrArg Value.bool (decide_eq_false c18))
     replace ha := ha.turn 41 (.bool false) rfl (congrArg Value.bool (decide_eq_false c18))
     refine p_run [(3, 42, undef), (4, 43, undef), (5, 44, undef), (6, 45, undef), (7, 46, .bool false)] ha fun a ha => ?_
     refine p_end ?_
     have e20 : (decide (0 ≤ at_ ∧ at_ < (sb.n : Int))) = false := by simp [c9, c18]
     refine then_n ⟨?_, ?_⟩
     · first | (rw [e20]; exact ha.keeps [2, 3, 4, 5, 7, 8, 46] _ rfl) | exact ha.keeps [2, 3, 4, 5, 7, 8, 46] _ rfl
     · first | (rw [e20]; exact hS) | exact hS
   ·
    rintro a w ⟨ha, hS⟩
    by_cases c21 : 0 ≤ at_ ∧ at_ < (sb.n : Int)
    ·
     have hin := c21
     obtain ⟨z, hz⟩ : ∃ z, body[at_.toNat]? = some z := ⟨_, List.getElem?_eq_getElem (by omega)⟩
     refine c_true ha rfl (decide_eq_true c21) ?_
     refine wp_skip ?_
     refine then_n ?_
     refine wp_block ?_
     refine wp_seq ?_
     refine wp_seq ?_
     refine p_beginL [0, 1, 2, 3, 4] ?_
     refine p_run [(0, 47, ptr b1 4)] ha fun a ha => ?_
     refine p_ld (d := 48) (b := b1) (j := 4) ha (hS.blk 0 rfl) rfl fun a ha => ?_
     refine p_run [(2, 49, ptr b1 1)] ha fun a ha => ?_
     refine p_ld (d := 50) (b := b1) (j := 1) ha (hS.blk 0 rfl) rfl fun a ha => ?_
     refine p_run [(4, 51, .bool (decide (q.made = fuel)))] ha fun a ha => ?_
     refine p_end ?_
     refine then_n ?_
     by_cases c22 : q.made = fuel
     ·
      refine c_true ha rfl (decide_eq_true c22) ?_
      refine wp_seq ?_
      refine p_beginL [0, 1] ?_
      refine p_run [(0, 52, ptr b1 2)] ha fun a ha => ?_
      refine p_op (o_st b1 2 (.bool true) 0 ha hS rfl rfl fun w a hS ha => ?_)
      refine p_end ?_
      refine then_n ?_
      refine wp_seq ?_
      refine d_startP 3 4 (hS.pickN 7 [0, 1, 3] (by decide) rfl) hS fun w hS => ?_
      refine d_val (i := 0) ha (by decide) (v_loadW ha (iAt (op := (Op.load 110 (Operand.tmp 2))) (d := some 53) (ty := 110)) rfl (by kernel_rfl) (fun _ hw => hw.blk 0 rfl)) (hS.pickN 7 [0, 1, 3] (by decide) rfl) (by kernel_rfl) (by kernel_rfl) (pk_then (pk_then (pk_in (pk_then (pk_in (pk_then (pk_body))))))) fun a ha => ?_
      refine d_val (i := 1) ha (by decide) (v_loadW ha (iAt (op := (Op.load 113 (Operand.tmp 3))) (d := some 54) (ty := 113)) rfl (by kernel_rfl) (fun _ hw => hw.blk 1 rfl)) (hS.pickN 7 [0, 1, 3] (by decide) rfl) (by kernel_rfl) (by kernel_rfl) (pk_then (pk_then (pk_in (pk_then (pk_in (pk_then (pk_body))))))) fun a ha => ?_
      refine d_one (i := 2) (by kernel_rfl) (o_storeAgg 2 ha (iAt (op := (Op.store 110 (Operand.tmp 4) (Operand.tmp 53))) (ty := 0)) rfl rfl rfl (by kernel_rfl) hS rfl (Nat.le_of_ble_eq_true rfl) rfl fun w a hS ha => ?_)
      refine ⟨.inr (hS.pickN 7 [0, 1, 3] (by decide) rfl), ?_⟩
      refine d_one (i := 3) (by kernel_rfl) (o_storeAgg 3 ha (iAt (op := (Op.store 113 (Operand.tmp 5) (Operand.tmp 54))) (ty := 0)) rfl rfl rfl (by kernel_rfl) hS rfl (Nat.le_of_ble_eq_true rfl) rfl fun w a hS ha => ?_)
      refine ⟨.inl (by kernel_rfl), ?_⟩
      refine d_end (by kernel_rfl) ?_ _
      refine then_n ?_
      refine wp_ret ?_
      refine then_r ?_
      refine in_r ?_
      refine then_r ?_
      refine in_r ?_
      refine then_r ?_
      refine end_res2 ha (by kernel_rfl) (resC (t := 4) (ty := 110) (i := 2) ha rfl hS rfl (by kernel_rfl)) (resC (t := 5) (ty := 113) (i := 3) ha rfl hS rfl (by kernel_rfl)) ?_
      have hE : qCall P fuel (d + 1) m c = ((⟨true, q.shared, q.made, q.deep, q.trace, q.seen⟩ : MQ), c1) := by
       have h9 : R_ = ({ q with spent := true }, c1) := by rw [← hR]; simp only [qBody, if_pos hin.1, hz, if_pos c22]
       simp only [qCall, hPb, hR0, h9, if_true]
      rw [hE]
      replace hS : Sat w0 w ((rE tr1 q.trace) :: (rS se1 q.seen) :: (rS df1 c1.defers) :: Rs) := hS.pickN 7 [4, 5, 6] (by decide) rfl
      exact ⟨_, tr1, se1, df1, rfl, rfl, hS⟩
     ·
      refine c_false ha rfl (decide_eq_false c22) ?_
      refine wp_skip ?_
      refine then_n ?_
      refine wp_seq ?_
      refine p_beginL [0, 1, 2, 3, 4] ?_
      refine p_run [(0, 55, ptr b1 4)] ha fun a ha => ?_
      refine p_ld (d := 56) (b := b1) (j := 4) ha (hS.blk 0 rfl) rfl fun a ha => ?_
      refine p_val (v := iv (q.made + 1)) ha (by decide) ((v_pure (v := .int .i64 (IntKind.i64.wrap (q.made + 1))) ha (iAt (op := (Op.binOp BinOp.add 3 (Operand.tmp 56) (Operand.const (Value.int IntKind.i64 1)) 3)) (d := some 57) (ty := 3)) (by kernel_rfl) (fun _ => by kernel_rfl)).as (by rw [wrap_i64 (by omega) (by omega)])) (fun a ha => ?_)
      refine p_run [(3, 58, ptr b1 4)] ha fun a ha => ?_
      refine p_op (o_st b1 4 (iv (q.made + 1)) 0 ha hS rfl rfl fun w a hS ha => ?_)
      refine p_end ?_
      refine then_n ?_
      refine wp_seq ?_
      refine p_beginL [0, 1, 2, 3, 4, 5, 6, 7, 8, 9] ?_
      refine p_run [(0, 59, ptr b1 7)] ha fun a ha => ?_
      refine p_ld (d := 60) (b := b1) (j := 7) ha (hS.blk 0 rfl) rfl fun a ha => ?_
      refine p_run [(2, 61, ptr b3 0)] ha fun a ha => ?_
      refine p_ld (d := 62) (b := b3) (j := 0) ha (hS.blk 1 rfl) rfl fun a ha => ?_
      refine p_run [(4, 63, iv at_), (5, 64, .agg #[iv c1.f, iv at_])] ha fun a ha => ?_
      refine p_op (o_new (cs := [iv c1.f, iv at_]) (T := 153) (fun b => .slice (some ⟨b, 0, none⟩) 1 1) ha (by decide) (iAt (op := (Op.buildSlice 108 1 #[(0, (Operand.tmp 64))])) (d := some 65) (ty := 108)) (by kernel_rfl) hS (fun _ => by kernel_rfl) fun b23 w a hb24 hS ha => ?_)
      refine p_op (o_appE (news := [iv c1.f, iv at_]) (z := .agg #[iv 0, iv 0]) (sz := 2) (bytes := 16) (T2 := 153) (xs' := encR (q.seen ++ [(c1.f, at_)])) 6 0 ha (by decide) (iAt (op := (Op.call { callee := (Callee.builtin Builtin.append), args := #[(Operand.tmp 60), (Operand.tmp 65)], argTypes := #[108, 108] })) (d := some 66) (ty := 108)) rfl rfl (by kernel_rfl) (by kernel_rfl) rfl (by decide) hS rfl rfl (by simp) rfl (by rw [encR_length]; simp only [List.length_cons, List.length_nil]; have := hsl; omega) (by decide) (encR_snoc _ _ _) fun s28 w a hS hn29 ha => ?_)
      refine p_run [(8, 67, ptr b1 7)] ha fun a ha => ?_
      refine p_op (o_st b1 7 (.slice s28.A s28.n s28.c) 1 ha hS rfl rfl fun w a hS ha => ?_)
      refine p_end ?_
      refine then_n ?_
      refine wp_seq ?_
      refine d_start 7 15 hS fun w hS => ?_
      refine d_val (i := 0) ha (by decide) (v_loadW ha (iAt (op := (Op.load 110 (Operand.tmp 2))) (d := some 69) (ty := 110)) rfl (by kernel_rfl) (fun _ hw => hw.blk 1 rfl)) hS (by kernel_rfl) (by kernel_rfl) (pk_then (pk_in (pk_then (pk_in (pk_then (pk_body)))))) fun a ha => ?_
      refine d_val (i := 1) ha (by decide) (v_loadW ha (iAt (op := (Op.load 113 (Operand.tmp 3))) (d := some 70) (ty := 113)) rfl (by kernel_rfl) (fun _ hw => hw.blk 2 rfl)) hS (by kernel_rfl) (by kernel_rfl) (pk_then (pk_in (pk_then (pk_in (pk_then (pk_body)))))) fun a ha => ?_
      refine d_run (k := 10) [(2, 71, iv at_), (3, 72, .slice sb.A sb.n sb.c), (4, 73, iv at_)] ha (.inr hS) (pk_then (pk_in (pk_then (pk_in (pk_then (pk_body)))))) fun a ha => ?_
      refine d_pure (i := 5) (v := .pointer (some ⟨bk sb, of_ sb + at_.toNat * 3, none⟩)) ha (by decide) (v_indexQ (s := sb) (el := 144) (sz := 3) (j := at_.toNat) ha (iAt (op := (Op.indexAddr 117 (Operand.tmp 72) (Operand.tmp 73))) (d := some 74) (ty := 0)) rfl rfl (by kernel_rfl) (by kernel_rfl) (hbA (by omega)) (Int.toNat_of_nonneg hin.1).symm (by omega)) (.inr hS) (by kernel_rfl) (by kernel_rfl) (pk_then (pk_in (pk_then (pk_in (pk_then (pk_body)))))) fun a ha => ?_
      refine d_val (i := 6) (v := .agg #[iv z.k, iv z.a, iv z.b]) ha (by decide) (v_loadL (v := .agg #[iv z.k, iv z.a, iv z.b]) ha (iAt (op := (Op.load 144 (Operand.tmp 74))) (d := some 75) (ty := 144)) rfl (fun w' hw => (((hsb.more [_, _, _, _, _, _, _, _]) _ hw).2).load hz)) hS (by kernel_rfl) (by kernel_rfl) (pk_then (pk_in (pk_then (pk_in (pk_then (pk_body)))))) fun a ha => ?_
      refine d_one (i := 7) (by kernel_rfl) (o_ret ha (by decide) (iAt (op := (Op.call { callee := (Callee.value (Operand.func 106)), args := #[(Operand.tmp 69), (Operand.tmp 70), (Operand.tmp 71), (Operand.tmp 75)], argTypes := #[110, 113, 3, 144] })) (d := some 76) (ty := 154)) rfl Try.func106 (by kernel_rfl) (q_make (IH d rfl) (q.step c1.f at_) c1 at_ z (x + 1) (hS.pickN 8 [5, 6, 7, 0, 1, 2, 3, 4] (by decide) rfl) (hok.step c22 c1.f at_) hoc (hsteps z (List.mem_of_getElem? hz)) (by omega) (by omega) hin.1 (by omega) (hPr.more [_, _, _, _, _])) fun v30 w a hp31 ha => ?_)
      obtain ⟨q1, tr2, se2, df2, hq1, rfl, hS⟩ := hp31
      refine ⟨.inl (by kernel_rfl), ?_⟩
      refine d_run (k := 3) [(8, 68, .tuple #[(mG pv fuel q1.1.spent q1.1.shared q1.1.made q1.1.deep tr2 se2), (cG q1.2.1.f q1.2.1.depth q1.2.1.r0 q1.2.1.r1 q1.2.1.r2 q1.2.1.r3 df2 q1.2.1.kind q1.2.1.value q1.2.1.leaving q1.2.1.deferred q1.2.1.panicking q1.2.1.panic q1.2.1.recovered q1.2.1.outer), iv q1.2.2]), (9, 77, (mG pv fuel q1.1.spent q1.1.shared q1.1.made q1.1.deep tr2 se2)), (10, 78, (cG q1.2.1.f q1.2.1.depth q1.2.1.r0 q1.2.1.r1 q1.2.1.r2 q1.2.1.r3 df2 q1.2.1.kind q1.2.1.value q1.2.1.leaving q1.2.1.deferred q1.2.1.panicking q1.2.1.panic q1.2.1.recovered q1.2.1.outer)), (11, 79, iv q1.2.2)] ha (.inl (by kernel_rfl)) (pk_then (pk_in (pk_then (pk_in (pk_then (pk_body)))))) fun a ha => ?_
      refine d_one (i := 12) (by kernel_rfl) (o_storeAgg 4 ha (iAt (op := (Op.store 110 (Operand.tmp 2) (Operand.tmp 77))) (ty := 0)) rfl rfl rfl (by kernel_rfl) hS rfl (Nat.le_of_ble_eq_true rfl) rfl fun w a hS ha => ?_)
      refine ⟨.inl (by kernel_rfl), ?_⟩
      refine d_one (i := 13) (by kernel_rfl) (o_storeAgg 5 ha (iAt (op := (Op.store 113 (Operand.tmp 3) (Operand.tmp 78))) (ty := 0)) rfl rfl rfl (by kernel_rfl) hS rfl (Nat.le_of_ble_eq_true rfl) rfl fun w a hS ha => ?_)
      refine ⟨.inl (by kernel_rfl), ?_⟩
      refine d_run (k := 0) [(14, 8, iv q1.2.2)] ha (.inl (by kernel_rfl)) (pk_then (pk_in (pk_then (pk_in (pk_then (pk_body)))))) fun a ha => ?_
      refine d_end (by kernel_rfl) ?_ _
      refine then_n ?_
      refine wp_seq ?_
      refine p_beginL [0, 1] ?_
      refine p_run [(0, 80, ptr b1 2)] ha fun a ha => ?_
      refine p_ld (d := 81) (b := b1) (j := 2) ha (hS.blk 4 rfl) rfl fun a ha => ?_
      refine p_end ?_
      refine then_n ?_
      rcases Bool.eq_false_or_eq_true q1.1.spent with c32 | c32
      ·
       refine c_true ha rfl c32 ?_
       refine wp_seq ?_
       refine d_startP 3 4 (hS.pickN 8 [3, 4, 5, 7] (by decide) rfl) hS fun w hS => ?_
       refine d_val (i := 0) ha (by decide) (v_loadW ha (iAt (op := (Op.load 110 (Operand.tmp 2))) (d := some 82) (ty := 110)) rfl (by kernel_rfl) (fun _ hw => hw.blk 1 rfl)) (hS.pickN 8 [3, 4, 5, 7] (by decide) rfl) (by kernel_rfl) (by kernel_rfl) (pk_then (pk_in (pk_then (pk_in (pk_then (pk_body)))))) fun a ha => ?_
       refine d_val (i := 1) ha (by decide) (v_loadW ha (iAt (op := (Op.load 113 (Operand.tmp 3))) (d := some 83) (ty := 113)) rfl (by kernel_rfl) (fun _ hw => hw.blk 2 rfl)) (hS.pickN 8 [3, 4, 5, 7] (by decide) rfl) (by kernel_rfl) (by kernel_rfl) (pk_then (pk_in (pk_then (pk_in (pk_then (pk_body)))))) fun a ha => ?_
       refine d_one (i := 2) (by kernel_rfl) (o_storeAgg 6 ha (iAt (op := (Op.store 110 (Operand.tmp 4) (Operand.tmp 82))) (ty := 0)) rfl rfl rfl (by kernel_rfl) hS rfl (Nat.le_of_ble_eq_true rfl) rfl fun w a hS ha => ?_)
       refine ⟨.inr (hS.pickN 8 [3, 4, 5, 7] (by decide) rfl), ?_⟩
       refine d_one (i := 3) (by kernel_rfl) (o_storeAgg 7 ha (iAt (op := (Op.store 113 (Operand.tmp 5) (Operand.tmp 83))) (ty := 0)) rfl rfl rfl (by kernel_rfl) hS rfl (Nat.le_of_ble_eq_true rfl) rfl fun w a hS ha => ?_)
       refine ⟨.inl (by kernel_rfl), ?_⟩
       refine d_end (by kernel_rfl) ?_ _
       refine then_n ?_
       refine wp_ret ?_
       refine in_r ?_
       refine then_r ?_
       refine in_r ?_
       refine then_r ?_
       refine end_res2 ha (by kernel_rfl) (resC (t := 4) (ty := 110) (i := 6) ha rfl hS rfl (by kernel_rfl)) (resC (t := 5) (ty := 113) (i := 7) ha rfl hS rfl (by kernel_rfl)) ?_
       have hE : qCall P fuel (d + 1) m c = (q1.1, q1.2.1) := by
        have h9 : R_ = (q1.1, q1.2.1) := by rw [← hR]; simp only [qBody, if_pos hin.1, hz, if_neg c22, ← hq1, c32, if_true]
        simp only [qCall, hPb, hR0, h9, c32, if_true]
       rw [hE]
       replace hS : Sat w0 w ((rE tr2 q1.1.trace) :: (rS se2 q1.1.seen) :: (rS df2 q1.2.1.defers) :: Rs) := hS.pickN 8 [0, 1, 2] (by decide) rfl
       exact ⟨_, tr2, se2, df2, rfl, rfl, hS⟩
      ·
       refine c_false ha rfl c32 ?_
       refine wp_skip ?_
       refine in_n ?_
       refine then_n ?_
       replace hS : Sat w0 w ((SX.blk b1 (mL pv fuel q1.1.spent q1.1.shared q1.1.made q1.1.deep tr2 se2) 110) :: (SX.blk b3 (cL q1.2.1.f q1.2.1.depth q1.2.1.r0 q1.2.1.r1 q1.2.1.r2 q1.2.1.r3 df2 q1.2.1.kind q1.2.1.value q1.2.1.leaving q1.2.1.deferred q1.2.1.panicking q1.2.1.panic q1.2.1.recovered q1.2.1.outer) 113) :: (SX.blk b5 (mL (⟨none, 0, 0⟩) 0 false 0 0 0 (⟨none, 0, 0⟩) (⟨none, 0, 0⟩)) 110) :: (SX.blk b7 (cL 0 0 0 0 0 0 (⟨none, 0, 0⟩) 0 0 false false false 0 false 0) 113) :: (rE tr2 q1.1.trace) :: (rS se2 q1.1.seen) :: (rS df2 q1.2.1.defers) :: Rs) := hS.pickN 8 [4, 5, 6, 7, 0, 1, 2] (by decide) rfl
       have hgo : ¬ (0 ≤ at_ ∧ at_ < (sb.n : Int)) → False := fun h => h c21
       obtain ⟨g1, g2, g3, g4_, g5, g6⟩ := qMake_ok (qCall_ok hP fuel d) (x := x + 1) (hsteps z (List.mem_of_getElem? hz)) (hok.step c22 c1.f at_) hoc hin.1 (by omega) (by rw [← hq1]; exact c32)
       rw [← hq1] at g1 g2 g3 g4_ g5 g6
       exact ⟨_, (show 1 + k < 1 + (k + 1) by omega), k, q1.1, q1.2.1, q1.2.2, tr2, se2, df2, rfl, by rw [← hR]; simp only [qBody, if_pos hin.1, hz, if_neg c22, ← hq1, c32, Bool.false_eq_true, if_false], by have h9 : (q.step c1.f at_).made = q.made + 1 := rfl; omega, g1, g2, g3.trans hcd, g4_.trans hcf, g5, ha.keeps [2, 3, 4, 5, 7, 8] _ rfl, hS⟩
    ·
     have h9 : R_ = (q, c1) := by rw [← hR]; exact qBody_out _ _ _ _ _ _ (fun h => c21 ⟨h.1, by omega⟩)
     have h9s : q.spent = false := hsp1
     refine c_false ha rfl (decide_eq_false c21) ?_
     refine wp_exit ?_
     refine then_x ?_
     refine then_x ?_
     refine in_x ?_
     refine then_n ?_
     refine wp_seq ?_
     refine wp_block ?_
     replace hS : Sat w0 w ((SX.blk b1 (mL pv fuel q.spent q.shared q.made q.deep tr1 se1) 110) :: (SX.blk b3 (cL c1.f c1.depth c1.r0 c1.r1 c1.r2 c1.r3 df1 c1.kind c1.value c1.leaving c1.deferred c1.panicking c1.panic c1.recovered c1.outer) 113) :: (SX.blk b5 (mL (⟨none, 0, 0⟩) 0 false 0 0 0 (⟨none, 0, 0⟩) (⟨none, 0, 0⟩)) 110) :: (SX.blk b7 (cL 0 0 0 0 0 0 (⟨none, 0, 0⟩) 0 0 false false false 0 false 0) 113) :: (rE tr1 q.trace) :: (rS se1 q.seen) :: (rS df1 c1.defers) :: Rs) := hS
     generalize hR20 : qRuns (qCall P fuel d) c1.defers.length q c1 = R2_
     refine wp_loop_ghost (fun n_ a_ w_ => ∃ (k : Nat) (q : MQ) (c2 : FQ) (tr1 : Sl) (se1 : Sl) (df1 : Sl), n_ = (1 + k) ∧ (qRuns (qCall P fuel d) k q c2 = R2_) ∧ (c2.defers.length = k) ∧ (OkQ fuel q (2 * c2.defers.length + (x + 1))) ∧ (OkC P.length c2) ∧ (c2.depth = c.depth) ∧ (c2.f = c.f) ∧ Has 125 [(2, ptr b1 0), (3, ptr b3 0), (4, ptr b5 0), (5, ptr b7 0)] a_ ∧ Sat w0 w_ ((SX.blk b1 (mL pv fuel q.spent q.shared q.made q.deep tr1 se1) 110) :: (SX.blk b3 (cL c2.f c2.depth c2.r0 c2.r1 c2.r2 c2.r3 df1 c2.kind c2.value c2.leaving c2.deferred c2.panicking c2.panic c2.recovered c2.outer) 113) :: (SX.blk b5 (mL (⟨none, 0, 0⟩) 0 false 0 0 0 (⟨none, 0, 0⟩) (⟨none, 0, 0⟩)) 110) :: (SX.blk b7 (cL 0 0 0 0 0 0 (⟨none, 0, 0⟩) 0 0 false false false 0 false 0) 113) :: (rE tr1 q.trace) :: (rS se1 q.seen) :: (rS df1 c2.defers) :: Rs)) _ ⟨_, q, c1, tr1, se1, df1, rfl, hR20, rfl, hok, hoc, hcd, hcf, ha.keeps [2, 3, 4, 5] _ rfl, hS⟩ ?_
     -- the loop's round
     rintro n_ a w ⟨k, q, c2, tr1, se1, df1, rfl, hR2, hk2, hok2, hoc2, hcd2, hcf2, ha, hS⟩
     have hdn : df1.n = c2.defers.length := hS.rowL (s := df1) (enc := cellsR) 6 cellsR_len (by decide) rfl
     have hsp2 := hok2.sp
     have hb6 := hok2.bnd
     have hb7 := hok2.made1
     refine wp_seq ?_
     refine wp_seq ?_
     refine p_beginL [0, 1, 2, 3] ?_
     refine p_run [(0, 84, ptr b3 6)] ha fun a ha => ?_
     refine p_ld (d := 85) (b := b3) (j := 6) ha (hS.blk 1 rfl) rfl fun a ha => ?_
     refine p_run [(2, 86, iv (df1.n : Int)), (3, 87, .bool (decide ((df1.n : Int) > 0)))] ha fun a ha => ?_
     refine p_end ?_
     refine then_n ?_
     by_cases c33 : (df1.n : Int) > 0
     ·
      obtain ⟨k', hkk⟩ : ∃ k', k = k' + 1 := ⟨k - 1, by have := c33; omega⟩
      obtain ⟨z9, hz9⟩ : ∃ z, c2.defers.getLast? = some z := ⟨_, List.getLast?_eq_getElem? .. ▸ List.getElem?_eq_getElem (by have := c33; omega)⟩
      refine c_true ha rfl (decide_eq_true c33) ?_
      refine wp_skip ?_
      refine then_n ?_
      refine wp_block ?_
      refine wp_seq ?_
      refine p_beginL [0, 1, 2, 3, 4, 5, 6, 7] ?_
      refine p_val ha (by decide) (v_loadW ha (iAt (op := (Op.load 110 (Operand.tmp 2))) (d := some 89) (ty := 110)) rfl (by kernel_rfl) (fun _ hw => by rw [hw]; exact hS.blk 0 rfl)) (fun a ha => ?_)
      refine p_val ha (by decide) (v_loadW ha (iAt (op := (Op.load 113 (Operand.tmp 3))) (d := some 90) (ty := 113)) rfl (by kernel_rfl) (fun _ hw => by rw [hw]; exact hS.blk 1 rfl)) (fun a ha => ?_)
      refine p_op (o_ret ha (by decide) (iAt (op := (Op.call { callee := (Callee.value (Operand.func 107)), args := #[(Operand.tmp 89), (Operand.tmp 90)], argTypes := #[110, 113] })) (d := some 91) (ty := 114)) rfl Try.func107 (by kernel_rfl) (q_last (IH d rfl) q c2 z9 (2 * k' + (x + 1)) (hS.pickN 7 [4, 5, 6, 0, 1, 2, 3] (by decide) rfl) (hok2.less (by omega)) hoc2 hz9 (by omega) (by omega) (by omega) (hPr.more [_, _, _, _])) fun v34 w a hp35 ha => ?_)
      obtain ⟨q2, tr3, se3, df3, hq2, rfl, hS⟩ := hp35
      refine p_run [(3, 88, .tuple #[(mG pv fuel q2.1.spent q2.1.shared q2.1.made q2.1.deep tr3 se3), (cG q2.2.f q2.2.depth q2.2.r0 q2.2.r1 q2.2.r2 q2.2.r3 df3 q2.2.kind q2.2.value q2.2.leaving q2.2.deferred q2.2.panicking q2.2.panic q2.2.recovered q2.2.outer)]), (4, 92, (mG pv fuel q2.1.spent q2.1.shared q2.1.made q2.1.deep tr3 se3)), (5, 93, (cG q2.2.f q2.2.depth q2.2.r0 q2.2.r1 q2.2.r2 q2.2.r3 df3 q2.2.kind q2.2.value q2.2.leaving q2.2.deferred q2.2.panicking q2.2.panic q2.2.recovered q2.2.outer))] ha fun a ha => ?_
      refine p_op (o_storeAgg 3 ha (iAt (op := (Op.store 110 (Operand.tmp 2) (Operand.tmp 92))) (ty := 0)) rfl rfl rfl (by kernel_rfl) hS rfl (Nat.le_of_ble_eq_true rfl) rfl fun w a hS ha => ?_)
      refine p_op (o_storeAgg 4 ha (iAt (op := (Op.store 113 (Operand.tmp 3) (Operand.tmp 93))) (ty := 0)) rfl rfl rfl (by kernel_rfl) hS rfl (Nat.le_of_ble_eq_true rfl) rfl fun w a hS ha => ?_)
      refine p_end ?_
      refine then_n ?_
      refine wp_seq ?_
      refine p_beginL [0, 1] ?_
      refine p_run [(0, 94, ptr b1 2)] ha fun a ha => ?_
      refine p_ld (d := 95) (b := b1) (j := 2) ha (hS.blk 3 rfl) rfl fun a ha => ?_
      refine p_end ?_
      refine then_n ?_
      rcases Bool.eq_false_or_eq_true q2.1.spent with c36 | c36
      ·
       refine c_true ha rfl c36 ?_
       refine wp_seq ?_
       refine d_startP 3 4 (hS.pickN 7 [3, 4, 6] (by decide) rfl) hS fun w hS => ?_
       refine d_val (i := 0) ha (by decide) (v_loadW ha (iAt (op := (Op.load 110 (Operand.tmp 2))) (d := some 96) (ty := 110)) rfl (by kernel_rfl) (fun _ hw => hw.blk 0 rfl)) (hS.pickN 7 [3, 4, 6] (by decide) rfl) (by kernel_rfl) (by kernel_rfl) (pk_then (pk_in (pk_then (pk_in (pk_then (pk_body)))))) fun a ha => ?_
       refine d_val (i := 1) ha (by decide) (v_loadW ha (iAt (op := (Op.load 113 (Operand.tmp 3))) (d := some 97) (ty := 113)) rfl (by kernel_rfl) (fun _ hw => hw.blk 1 rfl)) (hS.pickN 7 [3, 4, 6] (by decide) rfl) (by kernel_rfl) (by kernel_rfl) (pk_then (pk_in (pk_then (pk_in (pk_then (pk_body)))))) fun a ha => ?_
       refine d_one (i := 2) (by kernel_rfl) (o_storeAgg 5 ha (iAt (op := (Op.store 110 (Operand.tmp 4) (Operand.tmp 96))) (ty := 0)) rfl rfl rfl (by kernel_rfl) hS rfl (Nat.le_of_ble_eq_true rfl) rfl fun w a hS ha => ?_)
       refine ⟨.inr (hS.pickN 7 [3, 4, 6] (by decide) rfl), ?_⟩
       refine d_one (i := 3) (by kernel_rfl) (o_storeAgg 6 ha (iAt (op := (Op.store 113 (Operand.tmp 5) (Operand.tmp 97))) (ty := 0)) rfl rfl rfl (by kernel_rfl) hS rfl (Nat.le_of_ble_eq_true rfl) rfl fun w a hS ha => ?_)
       refine ⟨.inl (by kernel_rfl), ?_⟩
       refine d_end (by kernel_rfl) ?_ _
       refine then_n ?_
       refine wp_ret ?_
       refine in_r ?_
       refine then_r ?_
       refine in_r ?_
       refine then_r ?_
       refine end_res2 ha (by kernel_rfl) (resC (t := 4) (ty := 110) (i := 5) ha rfl hS rfl (by kernel_rfl)) (resC (t := 5) (ty := 113) (i := 6) ha rfl hS rfl (by kernel_rfl)) ?_
       have hE : qCall P fuel (d + 1) m c = (q2.1, q2.2) := by
        have h8 : R2_ = (q2.1, q2.2) := by rw [← hR2, hkk]; simp only [qRuns, hz9, ← hq2, c36, if_true]
        simp only [qCall, hPb, hR0, h9, h9s, Bool.false_eq_true, if_false, hR20, h8, qTail, c36, if_true]
       rw [hE]
       replace hS : Sat w0 w ((rE tr3 q2.1.trace) :: (rS se3 q2.1.seen) :: (rS df3 q2.2.defers) :: Rs) := hS.pickN 7 [0, 1, 2] (by decide) rfl
       exact ⟨_, tr3, se3, df3, rfl, rfl, hS⟩
      ·
       refine c_false ha rfl c36 ?_
       refine wp_skip ?_
       refine in_n ?_
       refine then_n ?_
       replace hS : Sat w0 w ((SX.blk b1 (mL pv fuel q2.1.spent q2.1.shared q2.1.made q2.1.deep tr3 se3) 110) :: (SX.blk b3 (cL q2.2.f q2.2.depth q2.2.r0 q2.2.r1 q2.2.r2 q2.2.r3 df3 q2.2.kind q2.2.value q2.2.leaving q2.2.deferred q2.2.panicking q2.2.panic q2.2.recovered q2.2.outer) 113) :: (SX.blk b5 (mL (⟨none, 0, 0⟩) 0 false 0 0 0 (⟨none, 0, 0⟩) (⟨none, 0, 0⟩)) 110) :: (SX.blk b7 (cL 0 0 0 0 0 0 (⟨none, 0, 0⟩) 0 0 false false false 0 false 0) 113) :: (rE tr3 q2.1.trace) :: (rS se3 q2.1.seen) :: (rS df3 q2.2.defers) :: Rs) := hS.pickN 7 [3, 4, 5, 6, 0, 1, 2] (by decide) rfl
       obtain ⟨g1, g2, g3, g4_, g5, g6⟩ := qLast_ok (qCall_ok hP fuel d) (x := 2 * k' + (x + 1)) (hok2.less (by omega)) hoc2 (List.mem_of_getLast? hz9) (by rw [← hq2]; exact c36)
       rw [← hq2] at g1 g2 g3 g4_ g5 g6
       have hdl : q2.2.defers.length = k' := by rw [g5, List.length_dropLast]; omega
       exact ⟨_, (show 1 + k' < 1 + k by omega), k', q2.1, q2.2, tr3, se3, df3, rfl, by rw [← hR2, hkk]; simp only [qRuns, hz9, ← hq2, c36, Bool.false_eq_true, if_false], hdl, by rw [hdl]; exact g1, g2, g3.trans hcd2, g4_.trans hcf2, ha.keeps [2, 3, 4, 5] _ rfl, hS⟩
     ·
      have hk0 : k = 0 := by have := c33; omega
      refine c_false ha rfl (decide_eq_false c33) ?_
      refine wp_exit ?_
      refine then_x ?_
      refine then_x ?_
      refine in_x ?_
      refine then_n ?_
      refine wp_seq ?_
      refine wp_seq ?_
      refine p_beginL [0, 1] ?_
      refine p_run [(0, 98, ptr b3 7)] ha fun a ha => ?_
      refine p_ld (d := 99) (b := b3) (j := 7) ha (hS.blk 1 rfl) rfl fun a ha => ?_
      refine p_end ?_
      refine then_n ?_
      refine wp_block ?_
      refine wp_seq ?_
      refine p_beginL [0, 1] ?_
      refine p_run [(0, 101, .bool (decide (c2.kind = 1))), (1, 100, .bool (decide (c2.kind = 1)))] ha fun a ha => ?_
      refine p_end ?_
      refine then_n ?_
      by_cases c37 : c2.kind = 1
      ·
       refine c_true ha rfl (decide_eq_true c37) ?_
       refine p_beginL [0, 1, 2, 3, 4, 5, 6, 7] ?_
       refine p_val ha (by decide) (v_loadW ha (iAt (op := (Op.load 110 (Operand.tmp 2))) (d := some 102) (ty := 110)) rfl (by kernel_rfl) (fun _ hw => by rw [hw]; exact hS.blk 0 rfl)) (fun a ha => ?_)
       refine p_run [(1, 103, ptr b3 0)] ha fun a ha => ?_
       refine p_ld (d := 104) (b := b3) (j := 0) ha (hS.blk 1 rfl) rfl fun a ha => ?_
       refine p_run [(3, 105, ptr b3 2), (4, 106, ptr b3 3)] ha fun a ha => ?_
       refine p_ld (d := 107) (b := b3) (j := 3) ha (hS.blk 1 rfl) rfl fun a ha => ?_
       refine p_op (o_ret ha (by decide) (iAt (op := (Op.call { callee := (Callee.value (Operand.func 105)), args := #[(Operand.tmp 102), (Operand.const (Value.int IntKind.i64 7)), (Operand.tmp 104), (Operand.tmp 107)], argTypes := #[110, 3, 3, 3] })) (d := some 108) (ty := 110)) rfl Try.func105 (by kernel_rfl) (q_tell q (hS.pickN 7 [4, 0, 1, 2, 3, 5, 6] (by decide) rfl) (by omega)) fun v39 w a hp40 ha => ?_)
       obtain ⟨s38, rfl, hS⟩ := hp40
       refine p_op (o_storeAgg 1 ha (iAt (op := (Op.store 110 (Operand.tmp 2) (Operand.tmp 108))) (ty := 0)) rfl rfl rfl (by kernel_rfl) hS rfl (Nat.le_of_ble_eq_true rfl) rfl fun w a hS ha => ?_)
       refine p_end ?_
       replace ha := ha.as [(2, ptr b1 0), (3, ptr b3 0), (4, ptr b5 0), (5, ptr b7 0)] rfl
       refine in_n ?_
       refine then_n ?_
       refine wp_seq ?_
       refine d_startP 3 4 (hS.pickN 7 [1, 2, 4] (by decide) rfl) hS fun w hS => ?_
       refine d_val (i := 0) ha (by decide) (v_loadW ha (iAt (op := (Op.load 110 (Operand.tmp 2))) (d := some 123) (ty := 110)) rfl (by kernel_rfl) (fun _ hw => hw.blk 0 rfl)) (hS.pickN 7 [1, 2, 4] (by decide) rfl) (by kernel_rfl) (by kernel_rfl) (pk_then (pk_body)) fun a ha => ?_
       refine d_val (i := 1) ha (by decide) (v_loadW ha (iAt (op := (Op.load 113 (Operand.tmp 3))) (d := some 124) (ty := 113)) rfl (by kernel_rfl) (fun _ hw => hw.blk 1 rfl)) (hS.pickN 7 [1, 2, 4] (by decide) rfl) (by kernel_rfl) (by kernel_rfl) (pk_then (pk_body)) fun a ha => ?_
       refine d_one (i := 2) (by kernel_rfl) (o_storeAgg 3 ha (iAt (op := (Op.store 110 (Operand.tmp 4) (Operand.tmp 123))) (ty := 0)) rfl rfl rfl (by kernel_rfl) hS rfl (Nat.le_of_ble_eq_true rfl) rfl fun w a hS ha => ?_)
       refine ⟨.inr (hS.pickN 7 [1, 2, 4] (by decide) rfl), ?_⟩
       refine d_one (i := 3) (by kernel_rfl) (o_storeAgg 4 ha (iAt (op := (Op.store 113 (Operand.tmp 5) (Operand.tmp 124))) (ty := 0)) rfl rfl rfl (by kernel_rfl) hS rfl (Nat.le_of_ble_eq_true rfl) rfl fun w a hS ha => ?_)
       refine ⟨.inl (by kernel_rfl), ?_⟩
       refine d_end (by kernel_rfl) ?_ _
       refine then_n ?_
       refine wp_ret ?_
       refine end_res2 ha (by kernel_rfl) (resC (t := 4) (ty := 110) (i := 3) ha rfl hS rfl (by kernel_rfl)) (resC (t := 5) (ty := 113) (i := 4) ha rfl hS rfl (by kernel_rfl)) ?_
       have hE : qCall P fuel (d + 1) m c = ((⟨q.spent, q.shared, q.made, q.deep, q.trace ++ [(7, c2.f, c2.r1)], q.seen⟩ : MQ), c2) := by
        have h8 : R2_ = (q, c2) := by rw [← hR2, hk0]; rfl
        (simp only [qCall, hPb, hR0, h9, h9s, Bool.false_eq_true, if_false, hR20, h8, qTail, hsp2, qEnd, qTell, c37, if_true]) <;> rfl
       rw [hE]
       replace hS : Sat w0 w ((rE s38 (q.trace ++ [(7, c2.f, c2.r1)])) :: (rS se1 q.seen) :: (rS df1 c2.defers) :: Rs) := hS.pickN 7 [0, 5, 6] (by decide) rfl
       exact ⟨_, s38, se1, df1, rfl, rfl, hS⟩
      ·
       refine c_false ha rfl (decide_eq_false c37) ?_
       refine wp_seq ?_
       refine p_beginL [0, 1] ?_
       refine p_run [(0, 110, .bool (decide (c2.kind = 2))), (1, 109, .bool (decide (c2.kind = 2)))] ha fun a ha => ?_
       refine p_end ?_
       replace ha := ha.as [(2, ptr b1 0), (3, ptr b3 0), (4, ptr b5 0), (5, ptr b7 0), (99, iv c2.kind), (109, .bool (decide (c2.kind = 2)))] rfl
       refine then_n ?_
       by_cases c41 : c2.kind = 2
       ·
        refine c_true ha rfl (decide_eq_true c41) ?_
        refine p_beginL [0, 1, 2, 3, 4, 5, 6] ?_
        refine p_val ha (by decide) (v_loadW ha (iAt (op := (Op.load 110 (Operand.tmp 2))) (d := some 111) (ty := 110)) rfl (by kernel_rfl) (fun _ hw => by rw [hw]; exact hS.blk 0 rfl)) (fun a ha => ?_)
        refine p_run [(1, 112, ptr b3 0)] ha fun a ha => ?_
        refine p_ld (d := 113) (b := b3) (j := 0) ha (hS.blk 1 rfl) rfl fun a ha => ?_
        refine p_run [(3, 114, ptr b3 8)] ha fun a ha => ?_
        refine p_ld (d := 115) (b := b3) (j := 8) ha (hS.blk 1 rfl) rfl fun a ha => ?_
        refine p_op (o_ret ha (by decide) (iAt (op := (Op.call { callee := (Callee.value (Operand.func 105)), args := #[(Operand.tmp 111), (Operand.const (Value.int IntKind.i64 8)), (Operand.tmp 113), (Operand.tmp 115)], argTypes := #[110, 3, 3, 3] })) (d := some 116) (ty := 110)) rfl Try.func105 (by kernel_rfl) (q_tell q (hS.pickN 7 [4, 0, 1, 2, 3, 5, 6] (by decide) rfl) (by omega)) fun v43 w a hp44 ha => ?_)
        obtain ⟨s42, rfl, hS⟩ := hp44
        refine p_op (o_storeAgg 1 ha (iAt (op := (Op.store 110 (Operand.tmp 2) (Operand.tmp 116))) (ty := 0)) rfl rfl rfl (by kernel_rfl) hS rfl (Nat.le_of_ble_eq_true rfl) rfl fun w a hS ha => ?_)
        refine p_end ?_
        refine in_n ?_
        refine then_n ?_
        refine wp_seq ?_
        refine d_startP 3 4 (hS.pickN 7 [1, 2, 4] (by decide) rfl) hS fun w hS => ?_
        refine d_val (i := 0) ha (by decide) (v_loadW ha (iAt (op := (Op.load 110 (Operand.tmp 2))) (d := some 123) (ty := 110)) rfl (by kernel_rfl) (fun _ hw => hw.blk 0 rfl)) (hS.pickN 7 [1, 2, 4] (by decide) rfl) (by kernel_rfl) (by kernel_rfl) (pk_then (pk_body)) fun a ha => ?_
        refine d_val (i := 1) ha (by decide) (v_loadW ha (iAt (op := (Op.load 113 (Operand.tmp 3))) (d := some 124) (ty := 113)) rfl (by kernel_rfl) (fun _ hw => hw.blk 1 rfl)) (hS.pickN 7 [1, 2, 4] (by decide) rfl) (by kernel_rfl) (by kernel_rfl) (pk_then (pk_body)) fun a ha => ?_
        refine d_one (i := 2) (by kernel_rfl) (o_storeAgg 3 ha (iAt (op := (Op.store 110 (Operand.tmp 4) (Operand.tmp 123))) (ty := 0)) rfl rfl rfl (by kernel_rfl) hS rfl (Nat.le_of_ble_eq_true rfl) rfl fun w a hS ha => ?_)
        refine ⟨.inr (hS.pickN 7 [1, 2, 4] (by decide) rfl), ?_⟩
        refine d_one (i := 3) (by kernel_rfl) (o_storeAgg 4 ha (iAt (op := (Op.store 113 (Operand.tmp 5) (Operand.tmp 124))) (ty := 0)) rfl rfl rfl (by kernel_rfl) hS rfl (Nat.le_of_ble_eq_true rfl) rfl fun w a hS ha => ?_)
        refine ⟨.inl (by kernel_rfl), ?_⟩
        refine d_end (by kernel_rfl) ?_ _
        refine then_n ?_
        refine wp_ret ?_
        refine end_res2 ha (by kernel_rfl) (resC (t := 4) (ty := 110) (i := 3) ha rfl hS rfl (by kernel_rfl)) (resC (t := 5) (ty := 113) (i := 4) ha rfl hS rfl (by kernel_rfl)) ?_
        have hE : qCall P fuel (d + 1) m c = ((⟨q.spent, q.shared, q.made, q.deep, q.trace ++ [(8, c2.f, c2.value)], q.seen⟩ : MQ), c2) := by
         have h8 : R2_ = (q, c2) := by rw [← hR2, hk0]; rfl
         (simp only [qCall, hPb, hR0, h9, h9s, Bool.false_eq_true, if_false, hR20, h8, qTail, hsp2, qEnd, qTell, c37, c41, if_true]) <;> rfl
        rw [hE]
        replace hS : Sat w0 w ((rE s42 (q.trace ++ [(8, c2.f, c2.value)])) :: (rS se1 q.seen) :: (rS df1 c2.defers) :: Rs) := hS.pickN 7 [0, 5, 6] (by decide) rfl
        exact ⟨_, s42, se1, df1, rfl, rfl, hS⟩
       ·
        refine c_false ha rfl (decide_eq_false c41) ?_
        refine wp_seq ?_
        refine p_beginL [0, 1] ?_
        refine p_run [(0, 118, .bool (decide (c2.kind = 3))), (1, 117, .bool (decide (c2.kind = 3)))] ha fun a ha => ?_
        refine p_end ?_
        refine then_n ?_
        by_cases c45 : c2.kind = 3
        ·
         refine c_true ha rfl (decide_eq_true c45) ?_
         refine p_beginL [0, 1, 2, 3, 4] ?_
         refine p_val ha (by decide) (v_loadW ha (iAt (op := (Op.load 110 (Operand.tmp 2))) (d := some 119) (ty := 110)) rfl (by kernel_rfl) (fun _ hw => by rw [hw]; exact hS.blk 0 rfl)) (fun a ha => ?_)
         refine p_run [(1, 120, ptr b3 0)] ha fun a ha => ?_
         refine p_ld (d := 121) (b := b3) (j := 0) ha (hS.blk 1 rfl) rfl fun a ha => ?_
         refine p_op (o_ret ha (by decide) (iAt (op := (Op.call { callee := (Callee.value (Operand.func 105)), args := #[(Operand.tmp 119), (Operand.const (Value.int IntKind.i64 9)), (Operand.tmp 121), (Operand.const (Value.int IntKind.i64 0))], argTypes := #[110, 3, 3, 3] })) (d := some 122) (ty := 110)) rfl Try.func105 (by kernel_rfl) (q_tell q (hS.pickN 7 [4, 0, 1, 2, 3, 5, 6] (by decide) rfl) (by omega)) fun v47 w a hp48 ha => ?_)
         obtain ⟨s46, rfl, hS⟩ := hp48
         refine p_op (o_storeAgg 1 ha (iAt (op := (Op.store 110 (Operand.tmp 2) (Operand.tmp 122))) (ty := 0)) rfl rfl rfl (by kernel_rfl) hS rfl (Nat.le_of_ble_eq_true rfl) rfl fun w a hS ha => ?_)
         refine p_end ?_
         refine in_n ?_
         refine then_n ?_
         refine wp_seq ?_
         refine d_startP 3 4 (hS.pickN 7 [1, 2, 4] (by decide) rfl) hS fun w hS => ?_
         refine d_val (i := 0) ha (by decide) (v_loadW ha (iAt (op := (Op.load 110 (Operand.tmp 2))) (d := some 123) (ty := 110)) rfl (by kernel_rfl) (fun _ hw => hw.blk 0 rfl)) (hS.pickN 7 [1, 2, 4] (by decide) rfl) (by kernel_rfl) (by kernel_rfl) (pk_then (pk_body)) fun a ha => ?_
         refine d_val (i := 1) ha (by decide) (v_loadW ha (iAt (op := (Op.load 113 (Operand.tmp 3))) (d := some 124) (ty := 113)) rfl (by kernel_rfl) (fun _ hw => hw.blk 1 rfl)) (hS.pickN 7 [1, 2, 4] (by decide) rfl) (by kernel_rfl) (by kernel_rfl) (pk_then (pk_body)) fun a ha => ?_
         refine d_one (i := 2) (by kernel_rfl) (o_storeAgg 3 ha (iAt (op := (Op.store 110 (Operand.tmp 4) (Operand.tmp 123))) (ty := 0)) rfl rfl rfl (by kernel_rfl) hS rfl (Nat.le_of_ble_eq_true rfl) rfl fun w a hS ha => ?_)
         refine ⟨.inr (hS.pickN 7 [1, 2, 4] (by decide) rfl), ?_⟩
         refine d_one (i := 3) (by kernel_rfl) (o_storeAgg 4 ha (iAt (op := (Op.store 113 (Operand.tmp 5) (Operand.tmp 124))) (ty := 0)) rfl rfl rfl (by kernel_rfl) hS rfl (Nat.le_of_ble_eq_true rfl) rfl fun w a hS ha => ?_)
         refine ⟨.inl (by kernel_rfl), ?_⟩
         refine d_end (by kernel_rfl) ?_ _
         refine then_n ?_
         refine wp_ret ?_
         refine end_res2 ha (by kernel_rfl) (resC (t := 4) (ty := 110) (i := 3) ha rfl hS rfl (by kernel_rfl)) (resC (t := 5) (ty := 113) (i := 4) ha rfl hS rfl (by kernel_rfl)) ?_
         have hE : qCall P fuel (d + 1) m c = ((⟨q.spent, q.shared, q.made, q.deep, q.trace ++ [(9, c2.f, 0)], q.seen⟩ : MQ), c2) := by
          have h8 : R2_ = (q, c2) := by rw [← hR2, hk0]; rfl
          (simp only [qCall, hPb, hR0, h9, h9s, Bool.false_eq_true, if_false, hR20, h8, qTail, hsp2, qEnd, qTell, c37, c41, c45, if_true]) <;> rfl
         rw [hE]
         replace hS : Sat w0 w ((rE s46 (q.trace ++ [(9, c2.f, 0)])) :: (rS se1 q.seen) :: (rS df1 c2.defers) :: Rs) := hS.pickN 7 [0, 5, 6] (by decide) rfl
         exact ⟨_, s46, se1, df1, rfl, rfl, hS⟩
        ·
         refine c_false ha rfl (decide_eq_false c45) ?_
         refine wp_skip ?_
         refine in_n ?_
         refine then_n ?_
         refine wp_seq ?_
         refine d_startP 3 4 (hS.pickN 7 [0, 1, 3] (by decide) rfl) hS fun w hS => ?_
         refine d_val (i := 0) ha (by decide) (v_loadW ha (iAt (op := (Op.load 110 (Operand.tmp 2))) (d := some 123) (ty := 110)) rfl (by kernel_rfl) (fun _ hw => hw.blk 0 rfl)) (hS.pickN 7 [0, 1, 3] (by decide) rfl) (by kernel_rfl) (by kernel_rfl) (pk_then (pk_body)) fun a ha => ?_
         refine d_val (i := 1) ha (by decide) (v_loadW ha (iAt (op := (Op.load 113 (Operand.tmp 3))) (d := some 124) (ty := 113)) rfl (by kernel_rfl) (fun _ hw => hw.blk 1 rfl)) (hS.pickN 7 [0, 1, 3] (by decide) rfl) (by kernel_rfl) (by kernel_rfl) (pk_then (pk_body)) fun a ha => ?_
         refine d_one (i := 2) (by kernel_rfl) (o_storeAgg 2 ha (iAt (op := (Op.store 110 (Operand.tmp 4) (Operand.tmp 123))) (ty := 0)) rfl rfl rfl (by kernel_rfl) hS rfl (Nat.le_of_ble_eq_true rfl) rfl fun w a hS ha => ?_)
         refine ⟨.inr (hS.pickN 7 [0, 1, 3] (by decide) rfl), ?_⟩
         refine d_one (i := 3) (by kernel_rfl) (o_storeAgg 3 ha (iAt (op := (Op.store 113 (Operand.tmp 5) (Operand.tmp 124))) (ty := 0)) rfl rfl rfl (by kernel_rfl) hS rfl (Nat.le_of_ble_eq_true rfl) rfl fun w a hS ha => ?_)
         refine ⟨.inl (by kernel_rfl), ?_⟩
         refine d_end (by kernel_rfl) ?_ _
         refine then_n ?_
         refine wp_ret ?_
         refine end_res2 ha (by kernel_rfl) (resC (t := 4) (ty := 110) (i := 2) ha rfl hS rfl (by kernel_rfl)) (resC (t := 5) (ty := 113) (i := 3) ha rfl hS rfl (by kernel_rfl)) ?_
         have hE : qCall P fuel (d + 1) m c = (q, c2) := by
          have h8 : R2_ = (q, c2) := by rw [← hR2, hk0]; rfl
          (simp only [qCall, hPb, hR0, h9, h9s, Bool.false_eq_true, if_false, hR20, h8, qTail, hsp2, qEnd, qTell, c37, c41, c45, if_true]) <;> rfl
         rw [hE]
         replace hS : Sat w0 w ((rE tr1 q.trace) :: (rS se1 q.seen) :: (rS df1 c2.defers) :: Rs) := hS.pickN 7 [4, 5, 6] (by decide) rfl
         exact ⟨_, tr1, se1, df1, rfl, rfl, hS⟩
theorem q_calls {P : List (List Stp)} (hP : ProgOk P) (fuel : Int) (pv : Sl) (sbs : List Sl) : ∀ d, CallCQ P fuel pv sbs d := by
 intro d
 induction d with
 | zero => exact fun w0 w Rs m c tr se df x hS hm hk hcz hd1 hd2 hPr => q_call hP 0 (fun d h => by omega) m c x hS hm hk hcz hd1 hd2 hPr
 | succ d ih => exact fun w0 w Rs m c tr se df x hS hm hk hcz hd1 hd2 hPr => q_call hP (d + 1) (fun d' h => (show d = d' by omega) ▸ ih) m c x hS hm hk hcz hd1 hd2 hPr
end SX
end Go.Proofs.Ytdbbafepjgnmeaa
end
