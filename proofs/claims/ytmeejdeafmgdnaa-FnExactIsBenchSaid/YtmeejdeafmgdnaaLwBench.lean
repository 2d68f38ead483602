/- The law of IsBench: what it does, step by step. -/
import Derived.Test.YtmeejdeafmgdnaaGivL
import Derived.Test.YtmeejdeafmgdnaaGB
import Derived.Test.YtmeejdeafmgdnaaGx3
import Derived.Test.YtmeejdeafmgdnaaGx6
namespace Go.Proofs.Ytmeejdeafmgdnaa.G
open Go.RowKit Go.Proofs.Ytmeejdeafmgdnaa.SX Go.Proofs.YtmeejdeafmgdnaaW.PrintWords Go.Proofs.YtmeejdeafmgdnaaW.PrintLast Go.Proofs.YtmeejdeafmgdnaaW.PrintMore
set_option linter.unusedVariables false
set_option linter.unusedSimpArgs false
theorem code15 : Try.f15.body = some (Code.seq (Code.region 0 (regOf Try.f15 0) false) (Code.seq (Code.region 1 (regOf Try.f15 1) false) (Code.seq (Code.seq (Code.region 2 (regOf Try.f15 2) false) (Code.cond (Operand.tmp 10) (Code.seq (Code.region 3 (regOf Try.f15 3) false) Code.ret) Code.skip)) (Code.seq (Code.region 4 (regOf Try.f15 4) false) Code.ret)))) := by kernel_rfl
set_option maxRecDepth 20000 in
set_option maxHeartbeats 1000000 in
theorem szBench_sat0 {w0 : World} {s0 : Sl} {l0 : List (List LT)} {x1 x2 left : Int} (hr0 : RdA w0 s0 l0) (h0 : 0 ≤ left) (h1 : left ≤ 1048576) :
    Calls Try.prog 15 #[.agg #[.slice s0.A s0.n s0.c, .int .i64 x1, .int .i64 x2], .int .i64 left] w0 (Ret fun r w' => r = .int .i64 (szP l0 left) ∧ Sat w0 w' []) := by
  have hS : Sat w0 w0 [] := Sat.start w0
  refine enter (n := 12) Try.func15 code15 (by kernel_rfl) (Nat.le_of_ble_eq_true rfl) (fun a ha => ?_)
  replace ha : Has 12 [(0, .agg #[.slice s0.A s0.n s0.c, .int .i64 x1, .int .i64 x2]), (1, .int .i64 left)] a := ha
  refine wp_seq ?_
  refine p_begin ?_
  refine p_op (o_new (cs := [.slice s0.A s0.n s0.c, .int .i64 x1, .int .i64 x2]) (T := 26) (fun b => .pointer (some ⟨b, 0, none⟩)) ha (by decide) (At.here (by kernel_rfl : ((regOf Try.f15 0)[0]?).map spec = some ((Op.box 26 (Operand.tmp 0)), some 2, 0, none))) (by kernel_rfl) hS (fun _ => by kernel_rfl) (fun b5 w3 a1 hb6 (hS4 : Sat w0 w3 ((SX.blk b5 [.slice s0.A s0.n s0.c, .int .i64 x1, .int .i64 x2] 26) :: [])) ha2 => ?_))
  refine p_val (v := .int .i64 0) ha2 (by decide) (v_pure ha2 (At.here (by kernel_rfl : ((regOf Try.f15 0)[1]?).map spec = some ((Op.assign (Operand.const (Value.int IntKind.i64 0))), some 4, 3, none))) (by kernel_rfl) (fun _ => by kernel_rfl)) (fun a7 ha8 => ?_)
  refine p_end ?_
  have ha9 := ha8.keeps [1, 2, 4] [(1, .int .i64 left), (2, .pointer (some ⟨b5, 0, none⟩)), (4, .int .i64 0)] rfl
  clear ha8 ha2 a1 hS ha a
  refine then_n ?_
  refine wp_seq ?_
  refine p_begin ?_
  refine p_val (v := .pointer (some ⟨b5, 0, none⟩)) ha9 (by decide) (v_pure ha9 (At.here (by kernel_rfl : ((regOf Try.f15 1)[0]?).map spec = some ((Op.fieldAddr 26 (Operand.tmp 2) 0), some 5, 0, none))) (by kernel_rfl) (fun _ => by kernel_rfl)) (fun a10 ha11 => ?_)
  refine p_val (v := .agg #[.slice s0.A s0.n s0.c]) ha11 (by decide) (v_loadAgg (vs := [.slice s0.A s0.n s0.c]) (cs := [.slice s0.A s0.n s0.c, .int .i64 x1, .int .i64 x2]) (T := 26) ha11 (At.here (by kernel_rfl : ((regOf Try.f15 1)[1]?).map spec = some ((Op.load 24 (Operand.tmp 5)), some 6, 24, none))) rfl (by kernel_rfl) (fun _ hw => by rw [hw]; exact hS4.blk 0 rfl) rfl) (fun a12 ha13 => ?_)
  refine p_val (v := .int .i64 left) ha13 (by decide) (v_pure ha13 (At.here (by kernel_rfl : ((regOf Try.f15 1)[2]?).map spec = some ((Op.move (Operand.tmp 1)), some 7, 3, none))) (by kernel_rfl) (fun _ => by kernel_rfl)) (fun a14 ha15 => ?_)
  refine p_op (o_ret (Post := fun r w' => r = .int .i64 (szP l0 left) ∧ Sat w0 w' ((SX.blk b5 [.slice s0.A s0.n s0.c, .int .i64 x1, .int .i64 x2] 26) :: [])) ha15 (by decide) (At.here (by kernel_rfl : ((regOf Try.f15 1)[3]?).map spec = some ((Op.call { callee := (Callee.value (Operand.func 20)), args := #[(Operand.tmp 6), (Operand.tmp 7)], argTypes := #[24, 3] }), some 8, 3, none))) rfl Try.func20 (by kernel_rfl) (szProgram_sat hS4 (hr0.sat hS4) h0 h1) (fun v20 w18 a16 hp21 ha17 => ?_))
  obtain ⟨rfl, hS19⟩ := hp21
  have ha22 : Has 12 [(1, .int .i64 left), (2, .pointer (some ⟨b5, 0, none⟩)), (4, .int .i64 0), (5, .pointer (some ⟨b5, 0, none⟩)), (6, .agg #[.slice s0.A s0.n s0.c]), (7, .int .i64 left), (8, .int .i64 (szP l0 left))] a16 := ha17.keeps [1, 2, 4, 5, 6, 7, 8] _ rfl
  refine p_val (v := .int .i64 (szP l0 left)) ha22 (by decide) (v_pure ha22 (At.here (by kernel_rfl : ((regOf Try.f15 1)[4]?).map spec = some ((Op.assign (Operand.tmp 8)), some 1, 3, none))) (by kernel_rfl) (fun _ => by kernel_rfl)) (fun a23 ha24 => ?_)
  refine p_end ?_
  have ha25 := ha24.keeps [4, 1] [(4, .int .i64 0), (1, .int .i64 (szP l0 left))] rfl
  clear ha24 ha22 a16 ha17 hS4 ha15 a14 ha13 a12 ha11 a10 ha9 a7
  refine then_n ?_
  refine wp_seq ?_
  refine wp_seq ?_
  refine p_begin ?_
  refine p_val (v := .int .i64 (szP l0 left)) ha25 (by decide) (v_pure ha25 (At.here (by kernel_rfl : ((regOf Try.f15 2)[0]?).map spec = some ((Op.move (Operand.tmp 1)), some 9, 3, none))) (by kernel_rfl) (fun _ => by kernel_rfl)) (fun a26 ha27 => ?_)
  refine p_val (v := .bool (decide ((szP l0 left) < 0))) ha27 (by decide) (v_pure ha27 (At.here (by kernel_rfl : ((regOf Try.f15 2)[1]?).map spec = some ((Op.binOp BinOp.lss 3 (Operand.tmp 9) (Operand.const (Value.int IntKind.i64 0)) 3), some 10, 4, none))) (by kernel_rfl) (fun _ => by kernel_rfl)) (fun a28 ha29 => ?_)
  refine p_end ?_
  have ha30 := ha29.keeps [4, 1, 10] [(4, .int .i64 0), (1, .int .i64 (szP l0 left)), (10, .bool (decide ((szP l0 left) < 0)))] rfl
  clear ha29 ha27 a26 ha25 a23
  refine then_n ?_
  by_cases c31 : (szP l0 left) < 0
  ·
    have ha32 : Has 12 [(4, .int .i64 0), (1, .int .i64 (szP l0 left)), (10, .bool true)] a28 := by have hh : Has 12 [(4, .int .i64 0), (1, .int .i64 (szP l0 left)), (10, .bool (decide ((szP l0 left) < 0)))] a28 := ha30.keeps [4, 1, 10] _ rfl; simp only [decide_eq_true c31, Bool.not_true, Bool.not_false] at hh; exact hh
    refine c_true ha32 rfl rfl ?_
    refine wp_seq ?_
    refine p_begin ?_
    refine p_val (v := .int .i64 (-1)) ha32 (by decide) (v_pure ha32 (At.here (by kernel_rfl : ((regOf Try.f15 3)[0]?).map spec = some ((Op.assign (Operand.const (Value.int IntKind.i64 (-1)))), some 4, 3, none))) (by kernel_rfl) (fun _ => by kernel_rfl)) (fun a33 ha34 => ?_)
    refine p_end ?_
    have ha35 := ha34.keeps [1, 4] [(1, .int .i64 (szP l0 left)), (4, .int .i64 (-1))] rfl
    clear ha34 ha32 a28 ha30
    refine then_n ?_
    refine wp_ret ?_
    refine then_r ?_
    refine end_res1 ha35 (by kernel_rfl) (resT (t := 4) ha35 rfl) ?_
    have hS36 : Sat w0 w18 ([]) := hS19.pickR (l := [SX.blk b5 [.slice s0.A s0.n s0.c, .int .i64 x1, .int .i64 x2] 26]) [] (by decide) [] rfl
    have h9 := szP_le l0 left h0
    exact ⟨congrArg (Value.int .i64) (by omega), hS36⟩
  ·
    have ha37 : Has 12 [(4, .int .i64 0), (1, .int .i64 (szP l0 left)), (10, .bool false)] a28 := by have hh : Has 12 [(4, .int .i64 0), (1, .int .i64 (szP l0 left)), (10, .bool (decide ((szP l0 left) < 0)))] a28 := ha30.keeps [4, 1, 10] _ rfl; simp only [decide_eq_false c31, Bool.not_true, Bool.not_false] at hh; exact hh
    refine c_false ha37 rfl rfl ?_
    refine wp_skip ?_
    refine then_n ?_
    refine wp_seq ?_
    refine p_begin ?_
    refine p_val (v := .int .i64 (szP l0 left)) ha37 (by decide) (v_pure ha37 (At.here (by kernel_rfl : ((regOf Try.f15 4)[0]?).map spec = some ((Op.move (Operand.tmp 1)), some 11, 3, none))) (by kernel_rfl) (fun _ => by kernel_rfl)) (fun a38 ha39 => ?_)
    refine p_val (v := .int .i64 (szP l0 left)) ha39 (by decide) (v_pure ha39 (At.here (by kernel_rfl : ((regOf Try.f15 4)[1]?).map spec = some ((Op.assign (Operand.tmp 11)), some 4, 3, none))) (by kernel_rfl) (fun _ => by kernel_rfl)) (fun a40 ha41 => ?_)
    refine p_end ?_
    have ha42 := ha41.keeps [4] [(4, .int .i64 (szP l0 left))] rfl
    clear ha41 ha39 a38 ha37 a28 ha30
    refine then_n ?_
    refine wp_ret ?_
    refine end_res1 ha42 (by kernel_rfl) (resT (t := 4) ha42 rfl) ?_
    have hS43 : Sat w0 w18 ([]) := hS19.pickR (l := [SX.blk b5 [.slice s0.A s0.n s0.c, .int .i64 x1, .int .i64 x2] 26]) [] (by decide) [] rfl
    exact ⟨rfl, hS43⟩

theorem code17 : Try.f17.body = some (Code.seq (Code.region 0 (regOf Try.f17 0) false) (Code.seq (Code.region 1 (regOf Try.f17 1) false) (Code.seq (Code.region 2 (regOf Try.f17 2) false) (Code.seq (Code.region 3 (regOf Try.f17 3) false) (Code.seq (Code.region 4 (regOf Try.f17 4) false) (Code.seq (Code.region 5 (regOf Try.f17 5) false) Code.ret)))))) := by kernel_rfl
set_option maxRecDepth 20000 in
set_option maxHeartbeats 1000000 in
theorem toBench_sat0 {w0 : World} {s0 : Sl} {l0 : List (List LT)} {x1 x2 : Int} (hr0 : RdA w0 s0 l0) (hf : Fits l0) :
    Calls Try.prog 17 #[.agg #[.slice s0.A s0.n s0.c, .int .i64 x1, .int .i64 x2]] w0 (Ret fun r w' => ∃ s : Sl, r = .agg #[s.v, .int .i64 x1, .int .i64 x2] ∧ Sat w0 w' [prg w0.heap.size s (toP l0)]) := by
  have hS : Sat w0 w0 [] := Sat.start w0
  refine enter (n := 15) Try.func17 code17 (by kernel_rfl) (Nat.le_of_ble_eq_true rfl) (fun a ha => ?_)
  replace ha : Has 15 [(0, .agg #[.slice s0.A s0.n s0.c, .int .i64 x1, .int .i64 x2])] a := ha
  refine wp_seq ?_
  refine p_begin ?_
  refine p_op (o_new (cs := [.slice s0.A s0.n s0.c, .int .i64 x1, .int .i64 x2]) (T := 26) (fun b => .pointer (some ⟨b, 0, none⟩)) ha (by decide) (At.here (by kernel_rfl : ((regOf Try.f17 0)[0]?).map spec = some ((Op.box 26 (Operand.tmp 0)), some 1, 0, none))) (by kernel_rfl) hS (fun _ => by kernel_rfl) (fun b5 w3 a1 hb6 (hS4 : Sat w0 w3 ((SX.blk b5 [.slice s0.A s0.n s0.c, .int .i64 x1, .int .i64 x2] 26) :: [])) ha2 => ?_))
  refine p_op (o_new (cs := [.slice none 0 0, .int .i64 0, .int .i64 0]) (T := 33) (fun b => .pointer (some ⟨b, 0, none⟩)) ha2 (by decide) (At.here (by kernel_rfl : ((regOf Try.f17 0)[1]?).map spec = some ((Op.alloc 33), some 2, 0, none))) (by kernel_rfl) hS4 (fun _ => by kernel_rfl) (fun b11 w9 a7 hb12 (hS10 : Sat w0 w9 ((SX.blk b11 [.slice none 0 0, .int .i64 0, .int .i64 0] 33) :: (SX.blk b5 [.slice s0.A s0.n s0.c, .int .i64 x1, .int .i64 x2] 26) :: [])) ha8 => ?_))
  refine p_end ?_
  have ha13 := ha8.keeps [1, 2] [(1, .pointer (some ⟨b5, 0, none⟩)), (2, .pointer (some ⟨b11, 0, none⟩))] rfl
  clear ha8 hS4 ha2 a1 hS ha a
  refine then_n ?_
  refine wp_seq ?_
  refine p_begin ?_
  refine p_op (o_new (cs := [.slice none 0 0, .int .i64 0, .int .i64 0]) (T := 33) (fun b => .pointer (some ⟨b, 0, none⟩)) ha13 (by decide) (At.here (by kernel_rfl : ((regOf Try.f17 1)[0]?).map spec = some ((Op.alloc 33), some 3, 0, none))) (by kernel_rfl) hS10 (fun _ => by kernel_rfl) (fun b18 w16 a14 hb19 (hS17 : Sat w0 w16 ((SX.blk b18 [.slice none 0 0, .int .i64 0, .int .i64 0] 33) :: (SX.blk b11 [.slice none 0 0, .int .i64 0, .int .i64 0] 33) :: (SX.blk b5 [.slice s0.A s0.n s0.c, .int .i64 x1, .int .i64 x2] 26) :: [])) ha15 => ?_))
  refine p_end ?_
  have ha20 := ha15.keeps [1, 2, 3] [(1, .pointer (some ⟨b5, 0, none⟩)), (2, .pointer (some ⟨b11, 0, none⟩)), (3, .pointer (some ⟨b18, 0, none⟩))] rfl
  clear ha15 hS10 ha13 a7
  refine then_n ?_
  refine wp_seq ?_
  refine p_begin ?_
  refine p_val (v := .pointer (some ⟨b5, 0, none⟩)) ha20 (by decide) (v_pure ha20 (At.here (by kernel_rfl : ((regOf Try.f17 2)[0]?).map spec = some ((Op.fieldAddr 26 (Operand.tmp 1) 0), some 4, 0, none))) (by kernel_rfl) (fun _ => by kernel_rfl)) (fun a21 ha22 => ?_)
  refine p_val (v := .agg #[.slice s0.A s0.n s0.c]) ha22 (by decide) (v_loadAgg (vs := [.slice s0.A s0.n s0.c]) (cs := [.slice s0.A s0.n s0.c, .int .i64 x1, .int .i64 x2]) (T := 26) ha22 (At.here (by kernel_rfl : ((regOf Try.f17 2)[1]?).map spec = some ((Op.load 24 (Operand.tmp 4)), some 5, 24, none))) rfl (by kernel_rfl) (fun _ hw => by rw [hw]; exact hS17.blk 2 rfl) rfl) (fun a23 ha24 => ?_)
  refine p_op (o_ret (Post := fun r w' => ∃ s1 : Sl, r = .agg #[s1.v] ∧ Sat w0 w' ((prg w0.heap.size s1 (toP l0)) :: (SX.blk b18 [.slice none 0 0, .int .i64 0, .int .i64 0] 33) :: (SX.blk b11 [.slice none 0 0, .int .i64 0, .int .i64 0] 33) :: (SX.blk b5 [.slice s0.A s0.n s0.c, .int .i64 x1, .int .i64 x2] 26) :: [])) ha24 (by decide) (At.here (by kernel_rfl : ((regOf Try.f17 2)[2]?).map spec = some ((Op.call { callee := (Callee.value (Operand.func 22)), args := #[(Operand.tmp 5)], argTypes := #[24] }), some 6, 31, none))) rfl Try.func22 (by kernel_rfl) (toProgram_sat hS17 (hr0.sat hS17) hf) (fun v29 w27 a25 hp30 ha26 => ?_))
  obtain ⟨s1, rfl, hS28⟩ := hp30
  have ha31 : Has 15 [(1, .pointer (some ⟨b5, 0, none⟩)), (2, .pointer (some ⟨b11, 0, none⟩)), (3, .pointer (some ⟨b18, 0, none⟩)), (4, .pointer (some ⟨b5, 0, none⟩)), (5, .agg #[.slice s0.A s0.n s0.c]), (6, .agg #[.slice s1.A s1.n s1.c])] a25 := ha26.keeps [1, 2, 3, 4, 5, 6] _ rfl
  refine p_val (v := .pointer (some ⟨b18, 0, none⟩)) ha31 (by decide) (v_pure ha31 (At.here (by kernel_rfl : ((regOf Try.f17 2)[3]?).map spec = some ((Op.fieldAddr 33 (Operand.tmp 3) 0), some 7, 0, none))) (by kernel_rfl) (fun _ => by kernel_rfl)) (fun a32 ha33 => ?_)
  refine p_op (o_storeAgg (vs := [.slice s1.A s1.n s1.c]) (cs := [.slice none 0 0, .int .i64 0, .int .i64 0]) (cs' := [.slice s1.A s1.n s1.c, .int .i64 0, .int .i64 0]) 1 ha33 (At.here (by kernel_rfl : ((regOf Try.f17 2)[4]?).map spec = some ((Op.store 31 (Operand.tmp 7) (Operand.tmp 6)), none, 0, none))) rfl rfl rfl (by kernel_rfl) hS28 rfl (by simp) rfl (fun w36 a34 (hS37 : Sat w0 w36 ((prg w0.heap.size s1 (toP l0)) :: (SX.blk b18 [.slice s1.A s1.n s1.c, .int .i64 0, .int .i64 0] 33) :: (SX.blk b11 [.slice none 0 0, .int .i64 0, .int .i64 0] 33) :: (SX.blk b5 [.slice s0.A s0.n s0.c, .int .i64 x1, .int .i64 x2] 26) :: [])) ha35 => ?_))
  refine p_end ?_
  have ha38 := ha35.keeps [1, 2, 3] [(1, .pointer (some ⟨b5, 0, none⟩)), (2, .pointer (some ⟨b11, 0, none⟩)), (3, .pointer (some ⟨b18, 0, none⟩))] rfl
  clear ha35 hS28 ha33 a32 ha31 a25 ha26 hS17 ha24 a23 ha22 a21 ha20 a14
  refine then_n ?_
  refine wp_seq ?_
  refine p_begin ?_
  refine p_val (v := .pointer (some ⟨b5, 1, none⟩)) ha38 (by decide) (v_pure ha38 (At.here (by kernel_rfl : ((regOf Try.f17 3)[0]?).map spec = some ((Op.fieldAddr 26 (Operand.tmp 1) 1), some 8, 0, none))) (by kernel_rfl) (fun _ => by kernel_rfl)) (fun a39 ha40 => ?_)
  refine p_val (v := .int .i64 x1) ha40 (by decide) (v_load (cs := [.slice s0.A s0.n s0.c, .int .i64 x1, .int .i64 x2]) (T := 26) ha40 (At.here (by kernel_rfl : ((regOf Try.f17 3)[1]?).map spec = some ((Op.load 3 (Operand.tmp 8)), some 9, 3, none))) rfl (by kernel_rfl) (fun _ hw => by rw [hw]; exact hS37.blk 3 rfl) rfl) (fun a41 ha42 => ?_)
  refine p_val (v := .pointer (some ⟨b18, 1, none⟩)) ha42 (by decide) (v_pure ha42 (At.here (by kernel_rfl : ((regOf Try.f17 3)[2]?).map spec = some ((Op.fieldAddr 33 (Operand.tmp 3) 1), some 10, 0, none))) (by kernel_rfl) (fun _ => by kernel_rfl)) (fun a43 ha44 => ?_)
  refine p_op (o_store (cs := [.slice s1.A s1.n s1.c, .int .i64 0, .int .i64 0]) (cs' := [.slice s1.A s1.n s1.c, .int .i64 x1, .int .i64 0]) 1 ha44 (At.here (by kernel_rfl : ((regOf Try.f17 3)[3]?).map spec = some ((Op.store 3 (Operand.tmp 10) (Operand.tmp 9)), none, 0, none))) rfl rfl rfl (by kernel_rfl) hS37 rfl (by simp) rfl (fun w47 a45 (hS48 : Sat w0 w47 ((prg w0.heap.size s1 (toP l0)) :: (SX.blk b18 [.slice s1.A s1.n s1.c, .int .i64 x1, .int .i64 0] 33) :: (SX.blk b11 [.slice none 0 0, .int .i64 0, .int .i64 0] 33) :: (SX.blk b5 [.slice s0.A s0.n s0.c, .int .i64 x1, .int .i64 x2] 26) :: [])) ha46 => ?_))
  refine p_end ?_
  have ha49 := ha46.keeps [1, 2, 3] [(1, .pointer (some ⟨b5, 0, none⟩)), (2, .pointer (some ⟨b11, 0, none⟩)), (3, .pointer (some ⟨b18, 0, none⟩))] rfl
  clear ha46 hS37 ha44 a43 ha42 a41 ha40 a39 ha38 a34
  refine then_n ?_
  refine wp_seq ?_
  refine p_begin ?_
  refine p_val (v := .pointer (some ⟨b5, 2, none⟩)) ha49 (by decide) (v_pure ha49 (At.here (by kernel_rfl : ((regOf Try.f17 4)[0]?).map spec = some ((Op.fieldAddr 26 (Operand.tmp 1) 2), some 11, 0, none))) (by kernel_rfl) (fun _ => by kernel_rfl)) (fun a50 ha51 => ?_)
  refine p_val (v := .int .i64 x2) ha51 (by decide) (v_load (cs := [.slice s0.A s0.n s0.c, .int .i64 x1, .int .i64 x2]) (T := 26) ha51 (At.here (by kernel_rfl : ((regOf Try.f17 4)[1]?).map spec = some ((Op.load 3 (Operand.tmp 11)), some 12, 3, none))) rfl (by kernel_rfl) (fun _ hw => by rw [hw]; exact hS48.blk 3 rfl) rfl) (fun a52 ha53 => ?_)
  refine p_val (v := .pointer (some ⟨b18, 2, none⟩)) ha53 (by decide) (v_pure ha53 (At.here (by kernel_rfl : ((regOf Try.f17 4)[2]?).map spec = some ((Op.fieldAddr 33 (Operand.tmp 3) 2), some 13, 0, none))) (by kernel_rfl) (fun _ => by kernel_rfl)) (fun a54 ha55 => ?_)
  refine p_op (o_store (cs := [.slice s1.A s1.n s1.c, .int .i64 x1, .int .i64 0]) (cs' := [.slice s1.A s1.n s1.c, .int .i64 x1, .int .i64 x2]) 1 ha55 (At.here (by kernel_rfl : ((regOf Try.f17 4)[3]?).map spec = some ((Op.store 3 (Operand.tmp 13) (Operand.tmp 12)), none, 0, none))) rfl rfl rfl (by kernel_rfl) hS48 rfl (by simp) rfl (fun w58 a56 (hS59 : Sat w0 w58 ((prg w0.heap.size s1 (toP l0)) :: (SX.blk b18 [.slice s1.A s1.n s1.c, .int .i64 x1, .int .i64 x2] 33) :: (SX.blk b11 [.slice none 0 0, .int .i64 0, .int .i64 0] 33) :: (SX.blk b5 [.slice s0.A s0.n s0.c, .int .i64 x1, .int .i64 x2] 26) :: [])) ha57 => ?_))
  refine p_end ?_
  have ha60 := ha57.keeps [2, 3] [(2, .pointer (some ⟨b11, 0, none⟩)), (3, .pointer (some ⟨b18, 0, none⟩))] rfl
  clear ha57 hS48 ha55 a54 ha53 a52 ha51 a50 ha49 a45
  refine then_n ?_
  refine wp_seq ?_
  refine p_begin ?_
  refine p_val (v := .agg #[.slice s1.A s1.n s1.c, .int .i64 x1, .int .i64 x2]) ha60 (by decide) (v_loadAgg (vs := [.slice s1.A s1.n s1.c, .int .i64 x1, .int .i64 x2]) (cs := [.slice s1.A s1.n s1.c, .int .i64 x1, .int .i64 x2]) (T := 33) ha60 (At.here (by kernel_rfl : ((regOf Try.f17 5)[0]?).map spec = some ((Op.load 33 (Operand.tmp 3)), some 14, 33, none))) rfl (by kernel_rfl) (fun _ hw => by rw [hw]; exact hS59.blk 1 rfl) rfl) (fun a61 ha62 => ?_)
  refine p_op (o_storeAgg (vs := [.slice s1.A s1.n s1.c, .int .i64 x1, .int .i64 x2]) (cs := [.slice none 0 0, .int .i64 0, .int .i64 0]) (cs' := [.slice s1.A s1.n s1.c, .int .i64 x1, .int .i64 x2]) 2 ha62 (At.here (by kernel_rfl : ((regOf Try.f17 5)[1]?).map spec = some ((Op.store 33 (Operand.tmp 2) (Operand.tmp 14)), none, 0, none))) rfl rfl rfl (by kernel_rfl) hS59 rfl (by simp) rfl (fun w65 a63 (hS66 : Sat w0 w65 ((prg w0.heap.size s1 (toP l0)) :: (SX.blk b18 [.slice s1.A s1.n s1.c, .int .i64 x1, .int .i64 x2] 33) :: (SX.blk b11 [.slice s1.A s1.n s1.c, .int .i64 x1, .int .i64 x2] 33) :: (SX.blk b5 [.slice s0.A s0.n s0.c, .int .i64 x1, .int .i64 x2] 26) :: [])) ha64 => ?_))
  refine p_end ?_
  have ha67 := ha64.keeps [2] [(2, .pointer (some ⟨b11, 0, none⟩))] rfl
  clear ha64 hS59 ha62 a61 ha60 a56
  refine then_n ?_
  refine wp_ret ?_
  refine end_res1 ha67 (by kernel_rfl) (resC (t := 2) (ty := 33) (i := 2) (cs := [.slice s1.A s1.n s1.c, .int .i64 x1, .int .i64 x2]) ha67 rfl hS66 rfl (by kernel_rfl)) ?_
  have hS68 : Sat w0 w65 ((prg w0.heap.size s1 (toP l0)) :: []) := hS66.pickR (l := [prg w0.heap.size s1 (toP l0), SX.blk b18 [.slice s1.A s1.n s1.c, .int .i64 x1, .int .i64 x2] 33, SX.blk b11 [.slice s1.A s1.n s1.c, .int .i64 x1, .int .i64 x2] 33, SX.blk b5 [.slice s0.A s0.n s0.c, .int .i64 x1, .int .i64 x2] 26]) [0] (by decide) [prg w0.heap.size s1 (toP l0)] rfl
  exact ⟨s1, rfl, hS68⟩

theorem code19 : Try.f19.body = some (Code.seq (Code.region 0 (regOf Try.f19 0) false) (Code.seq (Code.seq (Code.region 1 (regOf Try.f19 1) false) (Code.cond (Operand.tmp 10) (Code.seq (Code.region 2 (regOf Try.f19 2) false) Code.ret) Code.skip)) (Code.seq (Code.seq (Code.region 3 (regOf Try.f19 3) false) (Code.cond (Operand.tmp 15) (Code.seq (Code.region 4 (regOf Try.f19 4) false) Code.ret) Code.skip)) (Code.seq (Code.seq (Code.region 5 (regOf Try.f19 5) false) (Code.cond (Operand.tmp 20) (Code.seq (Code.region 6 (regOf Try.f19 6) false) Code.ret) Code.skip)) (Code.seq (Code.region 7 (regOf Try.f19 7) false) Code.ret))))) := by kernel_rfl
set_option maxRecDepth 20000 in
set_option maxHeartbeats 1000000 in
theorem eqBench_sat0 {w0 : World} {s t : Sl} {l : List (List ST)} {x1 x2 : Int} (hr : RdP w0 s l) (ht : RdP w0 t l) (hf : Fits l) :
    Calls Try.prog 19 #[.agg #[.slice s.A s.n s.c, .int .i64 x1, .int .i64 x2], .agg #[.slice t.A t.n t.c, .int .i64 x1, .int .i64 x2]] w0 (Ret fun r w' => r = .bool true ∧ Sat w0 w' []) := by
  have hS : Sat w0 w0 [] := Sat.start w0
  refine enter (n := 21) Try.func19 code19 (by kernel_rfl) (Nat.le_of_ble_eq_true rfl) (fun a ha => ?_)
  replace ha : Has 21 [(0, .agg #[.slice s.A s.n s.c, .int .i64 x1, .int .i64 x2]), (1, .agg #[.slice t.A t.n t.c, .int .i64 x1, .int .i64 x2])] a := ha
  refine wp_seq ?_
  refine p_begin ?_
  refine p_op (o_new (cs := [.slice s.A s.n s.c, .int .i64 x1, .int .i64 x2]) (T := 33) (fun b => .pointer (some ⟨b, 0, none⟩)) ha (by decide) (At.here (by kernel_rfl : ((regOf Try.f19 0)[0]?).map spec = some ((Op.box 33 (Operand.tmp 0)), some 2, 0, none))) (by kernel_rfl) hS (fun _ => by kernel_rfl) (fun b5 w3 a1 hb6 (hS4 : Sat w0 w3 ((SX.blk b5 [.slice s.A s.n s.c, .int .i64 x1, .int .i64 x2] 33) :: [])) ha2 => ?_))
  refine p_op (o_new (cs := [.slice t.A t.n t.c, .int .i64 x1, .int .i64 x2]) (T := 33) (fun b => .pointer (some ⟨b, 0, none⟩)) ha2 (by decide) (At.here (by kernel_rfl : ((regOf Try.f19 0)[1]?).map spec = some ((Op.box 33 (Operand.tmp 1)), some 3, 0, none))) (by kernel_rfl) hS4 (fun _ => by kernel_rfl) (fun b11 w9 a7 hb12 (hS10 : Sat w0 w9 ((SX.blk b11 [.slice t.A t.n t.c, .int .i64 x1, .int .i64 x2] 33) :: (SX.blk b5 [.slice s.A s.n s.c, .int .i64 x1, .int .i64 x2] 33) :: [])) ha8 => ?_))
  refine p_val (v := .bool false) ha8 (by decide) (v_pure ha8 (At.here (by kernel_rfl : ((regOf Try.f19 0)[2]?).map spec = some ((Op.assign (Operand.const (Value.bool false))), some 4, 4, none))) (by kernel_rfl) (fun _ => by kernel_rfl)) (fun a13 ha14 => ?_)
  refine p_end ?_
  have ha15 := ha14.keeps [2, 3, 4] [(2, .pointer (some ⟨b5, 0, none⟩)), (3, .pointer (some ⟨b11, 0, none⟩)), (4, .bool false)] rfl
  clear ha14 ha8 a7 hS4 ha2 a1 hS ha a
  refine then_n ?_
  refine wp_seq ?_
  refine wp_seq ?_
  refine p_begin ?_
  refine p_val (v := .pointer (some ⟨b5, 0, none⟩)) ha15 (by decide) (v_pure ha15 (At.here (by kernel_rfl : ((regOf Try.f19 1)[0]?).map spec = some ((Op.fieldAddr 33 (Operand.tmp 2) 0), some 5, 0, none))) (by kernel_rfl) (fun _ => by kernel_rfl)) (fun a16 ha17 => ?_)
  refine p_val (v := .agg #[.slice s.A s.n s.c]) ha17 (by decide) (v_loadAgg (vs := [.slice s.A s.n s.c]) (cs := [.slice s.A s.n s.c, .int .i64 x1, .int .i64 x2]) (T := 33) ha17 (At.here (by kernel_rfl : ((regOf Try.f19 1)[1]?).map spec = some ((Op.load 31 (Operand.tmp 5)), some 6, 31, none))) rfl (by kernel_rfl) (fun _ hw => by rw [hw]; exact hS10.blk 1 rfl) rfl) (fun a18 ha19 => ?_)
  refine p_val (v := .pointer (some ⟨b11, 0, none⟩)) ha19 (by decide) (v_pure ha19 (At.here (by kernel_rfl : ((regOf Try.f19 1)[2]?).map spec = some ((Op.fieldAddr 33 (Operand.tmp 3) 0), some 7, 0, none))) (by kernel_rfl) (fun _ => by kernel_rfl)) (fun a20 ha21 => ?_)
  refine p_val (v := .agg #[.slice t.A t.n t.c]) ha21 (by decide) (v_loadAgg (vs := [.slice t.A t.n t.c]) (cs := [.slice t.A t.n t.c, .int .i64 x1, .int .i64 x2]) (T := 33) ha21 (At.here (by kernel_rfl : ((regOf Try.f19 1)[3]?).map spec = some ((Op.load 31 (Operand.tmp 7)), some 8, 31, none))) rfl (by kernel_rfl) (fun _ hw => by rw [hw]; exact hS10.blk 0 rfl) rfl) (fun a22 ha23 => ?_)
  refine p_op (o_ret (Post := fun r w' => r = .bool true ∧ Sat w0 w' ((SX.blk b11 [.slice t.A t.n t.c, .int .i64 x1, .int .i64 x2] 33) :: (SX.blk b5 [.slice s.A s.n s.c, .int .i64 x1, .int .i64 x2] 33) :: [])) ha23 (by decide) (At.here (by kernel_rfl : ((regOf Try.f19 1)[4]?).map spec = some ((Op.call { callee := (Callee.value (Operand.func 24)), args := #[(Operand.tmp 6), (Operand.tmp 8)], argTypes := #[31, 31] }), some 9, 4, none))) rfl Try.func24 (by kernel_rfl) (eqProgram_sat hS10 (hr.sat hS10) (ht.sat hS10) hf) (fun v28 w26 a24 hp29 ha25 => ?_))
  obtain ⟨rfl, hS27⟩ := hp29
  have ha30 : Has 21 [(2, .pointer (some ⟨b5, 0, none⟩)), (3, .pointer (some ⟨b11, 0, none⟩)), (4, .bool false), (5, .pointer (some ⟨b5, 0, none⟩)), (6, .agg #[.slice s.A s.n s.c]), (7, .pointer (some ⟨b11, 0, none⟩)), (8, .agg #[.slice t.A t.n t.c]), (9, .bool true)] a24 := ha25.keeps [2, 3, 4, 5, 6, 7, 8, 9] _ rfl
  refine p_val (v := .bool false) ha30 (by decide) (v_pure ha30 (At.here (by kernel_rfl : ((regOf Try.f19 1)[5]?).map spec = some ((Op.unOp UnOp.not 4 (Operand.tmp 9)), some 10, 4, none))) (by kernel_rfl) (fun _ => by kernel_rfl)) (fun a31 ha32 => ?_)
  refine p_end ?_
  have ha33 := ha32.keeps [2, 3, 4, 10] [(2, .pointer (some ⟨b5, 0, none⟩)), (3, .pointer (some ⟨b11, 0, none⟩)), (4, .bool false), (10, .bool false)] rfl
  clear ha32 ha30 a24 ha25 hS10 ha23 a22 ha21 a20 ha19 a18 ha17 a16 ha15 a13
  refine then_n ?_
  refine c_false ha33 rfl rfl ?_
  refine wp_skip ?_
  refine then_n ?_
  refine wp_seq ?_
  refine wp_seq ?_
  refine p_begin ?_
  refine p_val (v := .pointer (some ⟨b5, 1, none⟩)) ha33 (by decide) (v_pure ha33 (At.here (by kernel_rfl : ((regOf Try.f19 3)[0]?).map spec = some ((Op.fieldAddr 33 (Operand.tmp 2) 1), some 11, 0, none))) (by kernel_rfl) (fun _ => by kernel_rfl)) (fun a34 ha35 => ?_)
  refine p_val (v := .int .i64 x1) ha35 (by decide) (v_load (cs := [.slice s.A s.n s.c, .int .i64 x1, .int .i64 x2]) (T := 33) ha35 (At.here (by kernel_rfl : ((regOf Try.f19 3)[1]?).map spec = some ((Op.load 3 (Operand.tmp 11)), some 12, 3, none))) rfl (by kernel_rfl) (fun _ hw => by rw [hw]; exact hS27.blk 1 rfl) rfl) (fun a36 ha37 => ?_)
  refine p_val (v := .pointer (some ⟨b11, 1, none⟩)) ha37 (by decide) (v_pure ha37 (At.here (by kernel_rfl : ((regOf Try.f19 3)[2]?).map spec = some ((Op.fieldAddr 33 (Operand.tmp 3) 1), some 13, 0, none))) (by kernel_rfl) (fun _ => by kernel_rfl)) (fun a38 ha39 => ?_)
  refine p_val (v := .int .i64 x1) ha39 (by decide) (v_load (cs := [.slice t.A t.n t.c, .int .i64 x1, .int .i64 x2]) (T := 33) ha39 (At.here (by kernel_rfl : ((regOf Try.f19 3)[3]?).map spec = some ((Op.load 3 (Operand.tmp 13)), some 14, 3, none))) rfl (by kernel_rfl) (fun _ hw => by rw [hw]; exact hS27.blk 0 rfl) rfl) (fun a40 ha41 => ?_)
  refine p_val (v := .bool false) ha41 (by decide) ((v_pure (v := .bool (!(decide (x1 = x1)))) ha41 (At.here (by kernel_rfl : ((regOf Try.f19 3)[4]?).map spec = some ((Op.binOp BinOp.neq 3 (Operand.tmp 12) (Operand.tmp 14) 3), some 15, 4, none))) (by kernel_rfl) (fun _ => by kernel_rfl)).as (by simp)) (fun a42 ha43 => ?_)
  refine p_end ?_
  have ha44 := ha43.keeps [2, 3, 4, 15] [(2, .pointer (some ⟨b5, 0, none⟩)), (3, .pointer (some ⟨b11, 0, none⟩)), (4, .bool false), (15, .bool false)] rfl
  clear ha43 ha41 a40 ha39 a38 ha37 a36 ha35 a34 ha33 a31
  refine then_n ?_
  refine c_false ha44 rfl rfl ?_
  refine wp_skip ?_
  refine then_n ?_
  refine wp_seq ?_
  refine wp_seq ?_
  refine p_begin ?_
  refine p_val (v := .pointer (some ⟨b5, 2, none⟩)) ha44 (by decide) (v_pure ha44 (At.here (by kernel_rfl : ((regOf Try.f19 5)[0]?).map spec = some ((Op.fieldAddr 33 (Operand.tmp 2) 2), some 16, 0, none))) (by kernel_rfl) (fun _ => by kernel_rfl)) (fun a45 ha46 => ?_)
  refine p_val (v := .int .i64 x2) ha46 (by decide) (v_load (cs := [.slice s.A s.n s.c, .int .i64 x1, .int .i64 x2]) (T := 33) ha46 (At.here (by kernel_rfl : ((regOf Try.f19 5)[1]?).map spec = some ((Op.load 3 (Operand.tmp 16)), some 17, 3, none))) rfl (by kernel_rfl) (fun _ hw => by rw [hw]; exact hS27.blk 1 rfl) rfl) (fun a47 ha48 => ?_)
  refine p_val (v := .pointer (some ⟨b11, 2, none⟩)) ha48 (by decide) (v_pure ha48 (At.here (by kernel_rfl : ((regOf Try.f19 5)[2]?).map spec = some ((Op.fieldAddr 33 (Operand.tmp 3) 2), some 18, 0, none))) (by kernel_rfl) (fun _ => by kernel_rfl)) (fun a49 ha50 => ?_)
  refine p_val (v := .int .i64 x2) ha50 (by decide) (v_load (cs := [.slice t.A t.n t.c, .int .i64 x1, .int .i64 x2]) (T := 33) ha50 (At.here (by kernel_rfl : ((regOf Try.f19 5)[3]?).map spec = some ((Op.load 3 (Operand.tmp 18)), some 19, 3, none))) rfl (by kernel_rfl) (fun _ hw => by rw [hw]; exact hS27.blk 0 rfl) rfl) (fun a51 ha52 => ?_)
  refine p_val (v := .bool false) ha52 (by decide) ((v_pure (v := .bool (!(decide (x2 = x2)))) ha52 (At.here (by kernel_rfl : ((regOf Try.f19 5)[4]?).map spec = some ((Op.binOp BinOp.neq 3 (Operand.tmp 17) (Operand.tmp 19) 3), some 20, 4, none))) (by kernel_rfl) (fun _ => by kernel_rfl)).as (by simp)) (fun a53 ha54 => ?_)
  refine p_end ?_
  have ha55 := ha54.keeps [4, 20] [(4, .bool false), (20, .bool false)] rfl
  clear ha54 ha52 a51 ha50 a49 ha48 a47 ha46 a45 ha44 a42
  refine then_n ?_
  refine c_false ha55 rfl rfl ?_
  refine wp_skip ?_
  refine then_n ?_
  refine wp_seq ?_
  refine p_begin ?_
  refine p_val (v := .bool true) ha55 (by decide) (v_pure ha55 (At.here (by kernel_rfl : ((regOf Try.f19 7)[0]?).map spec = some ((Op.assign (Operand.const (Value.bool true))), some 4, 4, none))) (by kernel_rfl) (fun _ => by kernel_rfl)) (fun a56 ha57 => ?_)
  refine p_end ?_
  have ha58 := ha57.keeps [4] [(4, .bool true)] rfl
  clear ha57 ha55 a53
  refine then_n ?_
  refine wp_ret ?_
  refine end_res1 ha58 (by kernel_rfl) (resT (t := 4) ha58 rfl) ?_
  have hS59 : Sat w0 w26 ([]) := hS27.pickR (l := [SX.blk b11 [.slice t.A t.n t.c, .int .i64 x1, .int .i64 x2] 33, SX.blk b5 [.slice s.A s.n s.c, .int .i64 x1, .int .i64 x2] 33]) [] (by decide) [] rfl
  exact ⟨rfl, hS59⟩

section
variable {w0 w : World} {Rs : List Asn}
theorem szBench_sat {s0 : Sl} {l0 : List (List LT)} {x1 x2 left : Int} (hS : Sat w0 w Rs) (hr0 : RdA w s0 l0) (h0 : 0 ≤ left) (h1 : left ≤ 1048576) :
    Calls Try.prog 15 #[.agg #[.slice s0.A s0.n s0.c, .int .i64 x1, .int .i64 x2], .int .i64 left] w (Ret fun r w' => r = .int .i64 (szP l0 left) ∧ Sat w0 w' Rs) :=
  (szBench_sat0 hr0 h0 h1).mono fun e w' h => by
    cases e with
    | returned v => exact ⟨h.1, hS.comp h.2⟩
    | _ => exact h.elim
theorem toBench_sat {s0 : Sl} {l0 : List (List LT)} {x1 x2 : Int} (hS : Sat w0 w Rs) (hr0 : RdA w s0 l0) (hf : Fits l0) :
    Calls Try.prog 17 #[.agg #[.slice s0.A s0.n s0.c, .int .i64 x1, .int .i64 x2]] w (Ret fun r w' => ∃ s : Sl, r = .agg #[s.v, .int .i64 x1, .int .i64 x2] ∧ Sat w0 w' (prg w0.heap.size s (toP l0) :: Rs)) :=
  (toBench_sat0 hr0 hf).mono fun e w' h => by
    cases e with
    | returned v =>
      obtain ⟨s, rfl, h4⟩ := h
      have h5 : Sat w0 w' (prg w.heap.size s (toP l0) :: Rs) := hS.comp h4
      exact ⟨s, rfl, h5.turn (i := 0) rfl (prg w0.heap.size s (toP l0)) (kdS_lower hS.below.size w')⟩
    | _ => exact h.elim
theorem eqBench_sat {s t : Sl} {l : List (List ST)} {x1 x2 : Int} (hS : Sat w0 w Rs) (hr : RdP w s l) (ht : RdP w t l) (hf : Fits l) :
    Calls Try.prog 19 #[.agg #[.slice s.A s.n s.c, .int .i64 x1, .int .i64 x2], .agg #[.slice t.A t.n t.c, .int .i64 x1, .int .i64 x2]] w (Ret fun r w' => r = .bool true ∧ Sat w0 w' Rs) :=
  (eqBench_sat0 hr ht hf).mono fun e w' h => by
    cases e with
    | returned v => exact ⟨h.1, hS.comp h.2⟩
    | _ => exact h.elim
def benchB (l : List (List ST)) (x1 x2 : Int) : Bool := programB l && ((decide (0 ≤ x1) && decide (x1 ≤ 200)) && (decide (0 ≤ x2) && decide (x2 ≤ 1000)))
theorem spec_IsBench_sat {s : Sl} {l : List (List ST)} {x1 x2 : Int} (hS : Sat w0 w Rs) (hr : RdP w s l) (hf : Fits l) :
    Calls Try.prog 16 #[.agg #[.slice s.A s.n s.c, .int .i64 x1, .int .i64 x2]] w (Ret fun r w' => r = .bool (benchB l x1 x2) ∧ Sat w0 w' Rs) := by
  have := spec_IsBench.calls 200 s.A s.c l x1 x2 (benchB l x1 x2) w hr.rd hr.le (by simp only [spec_IsBench.f, spec_l12Good.f, l2Program_f l hf.len 200 (by omega), l1In_f, Option.bind_some, and_if, bind_id]; rfl)
  rw [← hr.len] at this
  refine this.mono ?_
  rintro e w' ⟨rfl, hb⟩
  exact ⟨rfl, Sat.skip hS hb⟩
theorem in_f (a lo hi : Int) : impl_in.f a lo hi = some (decide (lo ≤ a) && decide (a ≤ hi)) := by
  unfold impl_in.f
  by_cases h : lo ≤ a <;> simp [h]
theorem impl_IsBench_sat {s : Sl} {l : List (List ST)} {x1 x2 : Int} (hS : Sat w0 w Rs) (hr : RdP w s l) (hf : Fits l) :
    Calls Try.prog 18 #[.agg #[.slice s.A s.n s.c, .int .i64 x1, .int .i64 x2]] w (Ret fun r w' => r = .bool (benchB l x1 x2) ∧ Sat w0 w' Rs) := by
  have := impl_IsBench.calls s.A s.c l x1 x2 (benchB l x1 x2) w hr.rd hr.le (by simp only [impl_IsBench.f, impl_IsProgram.f, in_f, Option.bind_some, and_if, bind_id]; rfl)
  rw [← hr.len] at this
  refine this.mono ?_
  rintro e w' ⟨rfl, hb⟩
  exact ⟨rfl, Sat.skip hS hb⟩
end

theorem code3 : Try.f3.body = some (Code.seq (Code.region 0 (regOf Try.f3 0) false) (Code.seq (Code.region 1 (regOf Try.f3 1) false) (Code.seq (Code.region 2 (regOf Try.f3 2) false) (Code.seq (Code.seq (Code.region 3 (regOf Try.f3 3) false) (Code.cond (Operand.tmp 11) (Code.seq (Code.region 4 (regOf Try.f3 4) false) Code.ret) Code.skip)) (Code.seq (Code.region 5 (regOf Try.f3 5) false) (Code.seq (Code.region 6 (regOf Try.f3 6) false) (Code.seq (Code.region 7 (regOf Try.f3 7) false) (Code.seq (Code.seq (Code.region 8 (regOf Try.f3 8) false) (Code.cond (Operand.tmp 21) (Code.seq (Code.region 9 (regOf Try.f3 9) false) Code.ret) Code.skip)) (Code.seq (Code.seq (Code.region 10 (regOf Try.f3 10) true) (Code.cond (Operand.tmp 26) (Code.seq (Code.region 11 (regOf Try.f3 11) false) Code.ret) Code.skip)) (Code.seq (Code.region 12 (regOf Try.f3 12) false) Code.ret)))))))))) := by kernel_rfl
set_option maxRecDepth 20000 in
set_option maxHeartbeats 1000000 in
theorem law3_walk (w0 : World) (s0 : Sl) (l0 : List (List LT)) (x1 x2 : Int) (hr0 : RdA w0 s0 l0) :
    Calls Try.prog 3 #[.agg #[.slice s0.A s0.n s0.c, .int .i64 x1, .int .i64 x2]] w0 (Ret fun r w' => r = .bool true ∧ Below w0.heap.size w0 w') := by
  have hS : Sat w0 w0 [] := Sat.start w0
  refine enter (n := 27) Try.func3 code3 (by kernel_rfl) (Nat.le_of_ble_eq_true rfl) (fun a ha => ?_)
  replace ha : Has 27 [(0, .agg #[.slice s0.A s0.n s0.c, .int .i64 x1, .int .i64 x2])] a := ha
  refine wp_seq ?_
  refine p_begin ?_
  refine p_op (o_new (cs := [.slice s0.A s0.n s0.c, .int .i64 x1, .int .i64 x2]) (T := 26) (fun b => .pointer (some ⟨b, 0, none⟩)) ha (by decide) (At.here (by kernel_rfl : ((regOf Try.f3 0)[0]?).map spec = some ((Op.box 26 (Operand.tmp 0)), some 1, 0, none))) (by kernel_rfl) hS (fun _ => by kernel_rfl) (fun b5 w3 a1 hb6 (hS4 : Sat w0 w3 ((SX.blk b5 [.slice s0.A s0.n s0.c, .int .i64 x1, .int .i64 x2] 26) :: [])) ha2 => ?_))
  refine p_val (v := .bool false) ha2 (by decide) (v_pure ha2 (At.here (by kernel_rfl : ((regOf Try.f3 0)[1]?).map spec = some ((Op.assign (Operand.const (Value.bool false))), some 2, 4, none))) (by kernel_rfl) (fun _ => by kernel_rfl)) (fun a7 ha8 => ?_)
  refine p_end ?_
  have ha9 := ha8.keeps [1, 2] [(1, .pointer (some ⟨b5, 0, none⟩)), (2, .bool false)] rfl
  clear ha8 ha2 a1 hS ha a
  refine then_n ?_
  refine wp_seq ?_
  refine p_begin ?_
  refine p_val (v := .int .i64 1048576) ha9 (by decide) (v_pure ha9 (At.here (by kernel_rfl : ((regOf Try.f3 1)[0]?).map spec = some ((Op.assign (Operand.const (Value.int IntKind.i64 1048576))), some 3, 3, none))) (by kernel_rfl) (fun _ => by kernel_rfl)) (fun a10 ha11 => ?_)
  refine p_end ?_
  have ha12 := ha11.keeps [1, 2, 3] [(1, .pointer (some ⟨b5, 0, none⟩)), (2, .bool false), (3, .int .i64 1048576)] rfl
  clear ha11 ha9 a7
  refine then_n ?_
  refine wp_seq ?_
  refine p_begin ?_
  refine p_val (v := .agg #[.slice s0.A s0.n s0.c, .int .i64 x1, .int .i64 x2]) ha12 (by decide) (v_loadAgg (vs := [.slice s0.A s0.n s0.c, .int .i64 x1, .int .i64 x2]) (cs := [.slice s0.A s0.n s0.c, .int .i64 x1, .int .i64 x2]) (T := 26) ha12 (At.here (by kernel_rfl : ((regOf Try.f3 2)[0]?).map spec = some ((Op.load 26 (Operand.tmp 1)), some 7, 26, none))) rfl (by kernel_rfl) (fun _ hw => by rw [hw]; exact hS4.blk 0 rfl) rfl) (fun a13 ha14 => ?_)
  refine p_val (v := .int .i64 1048576) ha14 (by decide) (v_pure ha14 (At.here (by kernel_rfl : ((regOf Try.f3 2)[1]?).map spec = some ((Op.move (Operand.tmp 3)), some 8, 3, none))) (by kernel_rfl) (fun _ => by kernel_rfl)) (fun a15 ha16 => ?_)
  refine p_op (o_ret (Post := fun r w' => r = .int .i64 (szP l0 1048576) ∧ Sat w0 w' ((SX.blk b5 [.slice s0.A s0.n s0.c, .int .i64 x1, .int .i64 x2] 26) :: [])) ha16 (by decide) (At.here (by kernel_rfl : ((regOf Try.f3 2)[2]?).map spec = some ((Op.call { callee := (Callee.value (Operand.func 15)), args := #[(Operand.tmp 7), (Operand.tmp 8)], argTypes := #[26, 3] }), some 9, 3, none))) rfl Try.func15 (by kernel_rfl) (szBench_sat hS4 (hr0.sat hS4) (by omega) (by omega)) (fun v21 w19 a17 hp22 ha18 => ?_))
  obtain ⟨rfl, hS20⟩ := hp22
  have ha23 : Has 27 [(1, .pointer (some ⟨b5, 0, none⟩)), (2, .bool false), (3, .int .i64 1048576), (7, .agg #[.slice s0.A s0.n s0.c, .int .i64 x1, .int .i64 x2]), (8, .int .i64 1048576), (9, .int .i64 (szP l0 1048576))] a17 := ha18.keeps [1, 2, 3, 7, 8, 9] _ rfl
  refine p_val (v := .int .i64 (szP l0 1048576)) ha23 (by decide) (v_pure ha23 (At.here (by kernel_rfl : ((regOf Try.f3 2)[3]?).map spec = some ((Op.assign (Operand.tmp 9)), some 3, 3, none))) (by kernel_rfl) (fun _ => by kernel_rfl)) (fun a24 ha25 => ?_)
  refine p_end ?_
  have ha26 := ha25.keeps [1, 2, 3] [(1, .pointer (some ⟨b5, 0, none⟩)), (2, .bool false), (3, .int .i64 (szP l0 1048576))] rfl
  clear ha25 ha23 a17 ha18 hS4 ha16 a15 ha14 a13 ha12 a10
  refine then_n ?_
  refine wp_seq ?_
  refine wp_seq ?_
  refine p_begin ?_
  refine p_val (v := .int .i64 (szP l0 1048576)) ha26 (by decide) (v_pure ha26 (At.here (by kernel_rfl : ((regOf Try.f3 3)[0]?).map spec = some ((Op.move (Operand.tmp 3)), some 10, 3, none))) (by kernel_rfl) (fun _ => by kernel_rfl)) (fun a27 ha28 => ?_)
  refine p_val (v := .bool (decide ((szP l0 1048576) < 0))) ha28 (by decide) (v_pure ha28 (At.here (by kernel_rfl : ((regOf Try.f3 3)[1]?).map spec = some ((Op.binOp BinOp.lss 3 (Operand.tmp 10) (Operand.const (Value.int IntKind.i64 0)) 3), some 11, 4, none))) (by kernel_rfl) (fun _ => by kernel_rfl)) (fun a29 ha30 => ?_)
  refine p_end ?_
  have ha31 := ha30.keeps [1, 2, 11] [(1, .pointer (some ⟨b5, 0, none⟩)), (2, .bool false), (11, .bool (decide ((szP l0 1048576) < 0)))] rfl
  clear ha30 ha28 a27 ha26 a24
  refine then_n ?_
  by_cases c32 : (szP l0 1048576) < 0
  ·
    have ha33 : Has 27 [(1, .pointer (some ⟨b5, 0, none⟩)), (2, .bool false), (11, .bool true)] a29 := by have hh : Has 27 [(1, .pointer (some ⟨b5, 0, none⟩)), (2, .bool false), (11, .bool (decide ((szP l0 1048576) < 0)))] a29 := ha31.keeps [1, 2, 11] _ rfl; simp only [decide_eq_true c32, Bool.not_true, Bool.not_false] at hh; exact hh
    refine c_true ha33 rfl rfl ?_
    refine wp_seq ?_
    refine p_begin ?_
    refine p_val (v := .bool true) ha33 (by decide) (v_pure ha33 (At.here (by kernel_rfl : ((regOf Try.f3 4)[0]?).map spec = some ((Op.assign (Operand.const (Value.bool true))), some 2, 4, none))) (by kernel_rfl) (fun _ => by kernel_rfl)) (fun a34 ha35 => ?_)
    refine p_end ?_
    have ha36 := ha35.keeps [1, 2] [(1, .pointer (some ⟨b5, 0, none⟩)), (2, .bool true)] rfl
    clear ha35 ha33 a29 ha31
    refine then_n ?_
    refine wp_ret ?_
    refine then_r ?_
    refine end_res1 ha36 (by kernel_rfl) (resT (t := 2) ha36 rfl) ?_
    exact ⟨rfl, hS20.below⟩
  ·
    have ha37 : Has 27 [(1, .pointer (some ⟨b5, 0, none⟩)), (2, .bool false), (11, .bool false)] a29 := by have hh : Has 27 [(1, .pointer (some ⟨b5, 0, none⟩)), (2, .bool false), (11, .bool (decide ((szP l0 1048576) < 0)))] a29 := ha31.keeps [1, 2, 11] _ rfl; simp only [decide_eq_false c32, Bool.not_true, Bool.not_false] at hh; exact hh
    have hf : Fits l0 := by have h8 : 0 ≤ szP l0 1048576 := (by omega); have h9 := szP_ok l0 1048576 h8; exact ⟨by omega, by omega⟩
    refine c_false ha37 rfl rfl ?_
    refine wp_skip ?_
    refine then_n ?_
    refine wp_seq ?_
    refine p_begin ?_
    refine p_val (v := .agg #[.slice s0.A s0.n s0.c, .int .i64 x1, .int .i64 x2]) ha37 (by decide) (v_loadAgg (vs := [.slice s0.A s0.n s0.c, .int .i64 x1, .int .i64 x2]) (cs := [.slice s0.A s0.n s0.c, .int .i64 x1, .int .i64 x2]) (T := 26) ha37 (At.here (by kernel_rfl : ((regOf Try.f3 5)[0]?).map spec = some ((Op.load 26 (Operand.tmp 1)), some 12, 26, none))) rfl (by kernel_rfl) (fun _ hw => by rw [hw]; exact hS20.blk 0 rfl) rfl) (fun a38 ha39 => ?_)
    refine p_op (o_ret (Post := fun r w' => ∃ s1 : Sl, r = .agg #[s1.v, .int .i64 x1, .int .i64 x2] ∧ Sat w0 w' ((prg w0.heap.size s1 (toP l0)) :: (SX.blk b5 [.slice s0.A s0.n s0.c, .int .i64 x1, .int .i64 x2] 26) :: [])) ha39 (by decide) (At.here (by kernel_rfl : ((regOf Try.f3 5)[1]?).map spec = some ((Op.call { callee := (Callee.value (Operand.func 17)), args := #[(Operand.tmp 12)], argTypes := #[26] }), some 13, 33, none))) rfl Try.func17 (by kernel_rfl) (toBench_sat hS20 (hr0.sat hS20) hf) (fun v44 w42 a40 hp45 ha41 => ?_))
    obtain ⟨s1, rfl, hS43⟩ := hp45
    have ha46 : Has 27 [(1, .pointer (some ⟨b5, 0, none⟩)), (2, .bool false), (11, .bool false), (12, .agg #[.slice s0.A s0.n s0.c, .int .i64 x1, .int .i64 x2]), (13, .agg #[.slice s1.A s1.n s1.c, .int .i64 x1, .int .i64 x2])] a40 := ha41.keeps [1, 2, 11, 12, 13] _ rfl
    refine p_op (o_ret (Post := fun r w' => r = .bool (benchB (toP l0) x1 x2) ∧ Sat w0 w' ((prg w0.heap.size s1 (toP l0)) :: (SX.blk b5 [.slice s0.A s0.n s0.c, .int .i64 x1, .int .i64 x2] 26) :: [])) ha46 (by decide) (At.here (by kernel_rfl : ((regOf Try.f3 5)[2]?).map spec = some ((Op.call { callee := (Callee.value (Operand.func 16)), args := #[(Operand.tmp 13)], argTypes := #[33] }), some 14, 4, none))) rfl Try.func16 (by kernel_rfl) (spec_IsBench_sat hS43 (hS43.rdS 0 rfl) (toP_fits hf)) (fun v51 w49 a47 hp52 ha48 => ?_))
    obtain ⟨rfl, hS50⟩ := hp52
    have ha53 : Has 27 [(1, .pointer (some ⟨b5, 0, none⟩)), (2, .bool false), (11, .bool false), (12, .agg #[.slice s0.A s0.n s0.c, .int .i64 x1, .int .i64 x2]), (13, .agg #[.slice s1.A s1.n s1.c, .int .i64 x1, .int .i64 x2]), (14, .bool (benchB (toP l0) x1 x2))] a47 := ha48.keeps [1, 2, 11, 12, 13, 14] _ rfl
    refine p_val (v := .bool (benchB (toP l0) x1 x2)) ha53 (by decide) (v_pure ha53 (At.here (by kernel_rfl : ((regOf Try.f3 5)[3]?).map spec = some ((Op.assign (Operand.tmp 14)), some 4, 4, none))) (by kernel_rfl) (fun _ => by kernel_rfl)) (fun a54 ha55 => ?_)
    refine p_end ?_
    have ha56 := ha55.keeps [1, 2, 4] [(1, .pointer (some ⟨b5, 0, none⟩)), (2, .bool false), (4, .bool (benchB (toP l0) x1 x2))] rfl
    clear ha55 ha53 a47 ha48 hS43 ha46 a40 ha41 hS20 ha39 a38 ha37 a29 ha31
    refine then_n ?_
    refine wp_seq ?_
    refine p_begin ?_
    refine p_val (v := .agg #[.slice s0.A s0.n s0.c, .int .i64 x1, .int .i64 x2]) ha56 (by decide) (v_loadAgg (vs := [.slice s0.A s0.n s0.c, .int .i64 x1, .int .i64 x2]) (cs := [.slice s0.A s0.n s0.c, .int .i64 x1, .int .i64 x2]) (T := 26) ha56 (At.here (by kernel_rfl : ((regOf Try.f3 6)[0]?).map spec = some ((Op.load 26 (Operand.tmp 1)), some 15, 26, none))) rfl (by kernel_rfl) (fun _ hw => by rw [hw]; exact hS50.blk 1 rfl) rfl) (fun a57 ha58 => ?_)
    refine p_op (o_ret (Post := fun r w' => ∃ s2 : Sl, r = .agg #[s2.v, .int .i64 x1, .int .i64 x2] ∧ Sat w0 w' ((prg w0.heap.size s2 (toP l0)) :: (prg w0.heap.size s1 (toP l0)) :: (SX.blk b5 [.slice s0.A s0.n s0.c, .int .i64 x1, .int .i64 x2] 26) :: [])) ha58 (by decide) (At.here (by kernel_rfl : ((regOf Try.f3 6)[1]?).map spec = some ((Op.call { callee := (Callee.value (Operand.func 17)), args := #[(Operand.tmp 15)], argTypes := #[26] }), some 16, 33, none))) rfl Try.func17 (by kernel_rfl) (toBench_sat hS50 (hr0.sat hS50) hf) (fun v63 w61 a59 hp64 ha60 => ?_))
    obtain ⟨s2, rfl, hS62⟩ := hp64
    have ha65 : Has 27 [(1, .pointer (some ⟨b5, 0, none⟩)), (2, .bool false), (4, .bool (benchB (toP l0) x1 x2)), (15, .agg #[.slice s0.A s0.n s0.c, .int .i64 x1, .int .i64 x2]), (16, .agg #[.slice s2.A s2.n s2.c, .int .i64 x1, .int .i64 x2])] a59 := ha60.keeps [1, 2, 4, 15, 16] _ rfl
    refine p_op (o_new (cs := [.slice none 0 0, .int .i64 0, .int .i64 0]) (T := 33) (fun b => .pointer (some ⟨b, 0, none⟩)) ha65 (by decide) (At.here (by kernel_rfl : ((regOf Try.f3 6)[2]?).map spec = some ((Op.alloc 33), some 5, 0, none))) (by kernel_rfl) hS62 (fun _ => by kernel_rfl) (fun b70 w68 a66 hb71 (hS69 : Sat w0 w68 ((SX.blk b70 [.slice none 0 0, .int .i64 0, .int .i64 0] 33) :: (prg w0.heap.size s2 (toP l0)) :: (prg w0.heap.size s1 (toP l0)) :: (SX.blk b5 [.slice s0.A s0.n s0.c, .int .i64 x1, .int .i64 x2] 26) :: [])) ha67 => ?_))
    refine p_op (o_storeAgg (vs := [.slice s2.A s2.n s2.c, .int .i64 x1, .int .i64 x2]) (cs := [.slice none 0 0, .int .i64 0, .int .i64 0]) (cs' := [.slice s2.A s2.n s2.c, .int .i64 x1, .int .i64 x2]) 0 ha67 (At.here (by kernel_rfl : ((regOf Try.f3 6)[3]?).map spec = some ((Op.store 33 (Operand.tmp 5) (Operand.tmp 16)), none, 0, none))) rfl rfl rfl (by kernel_rfl) hS69 rfl (by simp) rfl (fun w74 a72 (hS75 : Sat w0 w74 ((SX.blk b70 [.slice s2.A s2.n s2.c, .int .i64 x1, .int .i64 x2] 33) :: (prg w0.heap.size s2 (toP l0)) :: (prg w0.heap.size s1 (toP l0)) :: (SX.blk b5 [.slice s0.A s0.n s0.c, .int .i64 x1, .int .i64 x2] 26) :: [])) ha73 => ?_))
    refine p_end ?_
    have ha76 := ha73.keeps [1, 2, 4, 5] [(1, .pointer (some ⟨b5, 0, none⟩)), (2, .bool false), (4, .bool (benchB (toP l0) x1 x2)), (5, .pointer (some ⟨b70, 0, none⟩))] rfl
    clear ha73 hS69 ha67 a66 hS62 ha65 a59 ha60 hS50 ha58 a57 ha56 a54
    refine then_n ?_
    refine wp_seq ?_
    refine p_begin ?_
    refine p_val (v := .agg #[.slice s2.A s2.n s2.c, .int .i64 x1, .int .i64 x2]) ha76 (by decide) (v_loadAgg (vs := [.slice s2.A s2.n s2.c, .int .i64 x1, .int .i64 x2]) (cs := [.slice s2.A s2.n s2.c, .int .i64 x1, .int .i64 x2]) (T := 33) ha76 (At.here (by kernel_rfl : ((regOf Try.f3 7)[0]?).map spec = some ((Op.load 33 (Operand.tmp 5)), some 17, 33, none))) rfl (by kernel_rfl) (fun _ hw => by rw [hw]; exact hS75.blk 0 rfl) rfl) (fun a77 ha78 => ?_)
    refine p_op (o_ret (Post := fun r w' => r = .bool (benchB (toP l0) x1 x2) ∧ Sat w0 w' ((SX.blk b70 [.slice s2.A s2.n s2.c, .int .i64 x1, .int .i64 x2] 33) :: (prg w0.heap.size s2 (toP l0)) :: (prg w0.heap.size s1 (toP l0)) :: (SX.blk b5 [.slice s0.A s0.n s0.c, .int .i64 x1, .int .i64 x2] 26) :: [])) ha78 (by decide) (At.here (by kernel_rfl : ((regOf Try.f3 7)[1]?).map spec = some ((Op.call { callee := (Callee.value (Operand.func 18)), args := #[(Operand.tmp 17)], argTypes := #[33] }), some 18, 4, none))) rfl Try.func18 (by kernel_rfl) (impl_IsBench_sat hS75 (hS75.rdS 1 rfl) (toP_fits hf)) (fun v83 w81 a79 hp84 ha80 => ?_))
    obtain ⟨rfl, hS82⟩ := hp84
    have ha85 : Has 27 [(1, .pointer (some ⟨b5, 0, none⟩)), (2, .bool false), (4, .bool (benchB (toP l0) x1 x2)), (5, .pointer (some ⟨b70, 0, none⟩)), (17, .agg #[.slice s2.A s2.n s2.c, .int .i64 x1, .int .i64 x2]), (18, .bool (benchB (toP l0) x1 x2))] a79 := ha80.keeps [1, 2, 4, 5, 17, 18] _ rfl
    refine p_val (v := .bool (benchB (toP l0) x1 x2)) ha85 (by decide) (v_pure ha85 (At.here (by kernel_rfl : ((regOf Try.f3 7)[2]?).map spec = some ((Op.assign (Operand.tmp 18)), some 6, 4, none))) (by kernel_rfl) (fun _ => by kernel_rfl)) (fun a86 ha87 => ?_)
    refine p_end ?_
    have ha88 := ha87.keeps [1, 2, 4, 5, 6] [(1, .pointer (some ⟨b5, 0, none⟩)), (2, .bool false), (4, .bool (benchB (toP l0) x1 x2)), (5, .pointer (some ⟨b70, 0, none⟩)), (6, .bool (benchB (toP l0) x1 x2))] rfl
    clear ha87 ha85 a79 ha80 hS75 ha78 a77 ha76 a72
    refine then_n ?_
    refine wp_seq ?_
    refine wp_seq ?_
    refine p_begin ?_
    refine p_val (v := .bool (benchB (toP l0) x1 x2)) ha88 (by decide) (v_pure ha88 (At.here (by kernel_rfl : ((regOf Try.f3 8)[0]?).map spec = some ((Op.move (Operand.tmp 6)), some 19, 4, none))) (by kernel_rfl) (fun _ => by kernel_rfl)) (fun a89 ha90 => ?_)
    refine p_val (v := .bool (benchB (toP l0) x1 x2)) ha90 (by decide) (v_pure ha90 (At.here (by kernel_rfl : ((regOf Try.f3 8)[1]?).map spec = some ((Op.move (Operand.tmp 4)), some 20, 4, none))) (by kernel_rfl) (fun _ => by kernel_rfl)) (fun a91 ha92 => ?_)
    rcases Bool.eq_false_or_eq_true (benchB (toP l0) x1 x2) with c93 | c93
    ·
      have ha94 : Has 27 [(1, .pointer (some ⟨b5, 0, none⟩)), (2, .bool false), (4, .bool true), (5, .pointer (some ⟨b70, 0, none⟩)), (6, .bool true), (19, .bool true), (20, .bool true)] a91 := by have hh : Has 27 [(1, .pointer (some ⟨b5, 0, none⟩)), (2, .bool false), (4, .bool (benchB (toP l0) x1 x2)), (5, .pointer (some ⟨b70, 0, none⟩)), (6, .bool (benchB (toP l0) x1 x2)), (19, .bool (benchB (toP l0) x1 x2)), (20, .bool (benchB (toP l0) x1 x2))] a91 := ha92.keeps [1, 2, 4, 5, 6, 19, 20] _ rfl; simp only [c93, Bool.not_true, Bool.not_false] at hh; exact hh
      refine p_val (v := .bool false) ha94 (by decide) ((v_pure (v := .bool (!(true == true))) ha94 (At.here (by kernel_rfl : ((regOf Try.f3 8)[2]?).map spec = some ((Op.binOp BinOp.neq 4 (Operand.tmp 19) (Operand.tmp 20) 4), some 21, 4, none))) (by kernel_rfl) (fun _ => by kernel_rfl)).as (by simp)) (fun a95 ha96 => ?_)
      refine p_end ?_
      have ha97 := ha96.keeps [1, 2, 5, 21] [(1, .pointer (some ⟨b5, 0, none⟩)), (2, .bool false), (5, .pointer (some ⟨b70, 0, none⟩)), (21, .bool false)] rfl
      clear ha96 ha94 a91 ha92 ha90 a89 ha88 a86
      refine then_n ?_
      refine c_false ha97 rfl rfl ?_
      refine wp_skip ?_
      refine then_n ?_
      refine wp_seq ?_
      refine wp_seq ?_
      refine d_begin (m := 5) (F := fun w' => w'.heap[b70]? = some (.cells ([.slice s2.A s2.n s2.c, .int .i64 x1, .int .i64 x2]).toArray 33 (0, 0)) ∧ w'.heap[b5]? = some (.cells ([.slice s0.A s0.n s0.c, .int .i64 x1, .int .i64 x2]).toArray 26 (0, 0))) (by kernel_rfl) ?_
      have hS98 := hS82.drew
      generalize hw_ : w81.drew = w99 at hS98 ⊢
      clear hw_
      change wpD _ _ _ _ _ 5 (List.replicate 5 false).toArray _ _
      have hF100 : (fun w' => w'.heap[b70]? = some (.cells ([.slice s2.A s2.n s2.c, .int .i64 x1, .int .i64 x2]).toArray 33 (0, 0)) ∧ w'.heap[b5]? = some (.cells ([.slice s0.A s0.n s0.c, .int .i64 x1, .int .i64 x2]).toArray 26 (0, 0))) w99 := ⟨hS98.blk 0 rfl, hS98.blk 3 rfl⟩
      refine d_val (i := 0) (v := .agg #[.slice s2.A s2.n s2.c, .int .i64 x1, .int .i64 x2]) ha97 (by decide) (v_loadAgg (vs := [.slice s2.A s2.n s2.c, .int .i64 x1, .int .i64 x2]) (cs := [.slice s2.A s2.n s2.c, .int .i64 x1, .int .i64 x2]) (T := 33) ha97 (At.here (by kernel_rfl : ((regOf Try.f3 10)[0]?).map spec = some ((Op.load 33 (Operand.tmp 5)), some 22, 33, none))) rfl (by kernel_rfl) (fun _ hw => hw.1) rfl) hF100 (by kernel_rfl) (by kernel_rfl) (pk_then (pk_then (pk_body))) (fun a101 ha102 => ?_)
      change wpD _ _ _ _ _ 4 #[true, false, false, false, false] _ _
      refine d_val (i := 1) (v := .agg #[.slice s0.A s0.n s0.c, .int .i64 x1, .int .i64 x2]) ha102 (by decide) (v_loadAgg (vs := [.slice s0.A s0.n s0.c, .int .i64 x1, .int .i64 x2]) (cs := [.slice s0.A s0.n s0.c, .int .i64 x1, .int .i64 x2]) (T := 26) ha102 (At.here (by kernel_rfl : ((regOf Try.f3 10)[1]?).map spec = some ((Op.load 26 (Operand.tmp 1)), some 23, 26, none))) rfl (by kernel_rfl) (fun _ hw => hw.2) rfl) hF100 (by kernel_rfl) (by kernel_rfl) (pk_then (pk_then (pk_body))) (fun a103 ha104 => ?_)
      change wpD _ _ _ _ _ 3 #[true, true, false, false, false] _ _
      refine d_one (i := 2) (by kernel_rfl) (o_ret (Post := fun r w' => ∃ s3 : Sl, r = .agg #[s3.v, .int .i64 x1, .int .i64 x2] ∧ Sat w0 w' ((prg w0.heap.size s3 (toP l0)) :: (SX.blk b70 [.slice s2.A s2.n s2.c, .int .i64 x1, .int .i64 x2] 33) :: (prg w0.heap.size s2 (toP l0)) :: (prg w0.heap.size s1 (toP l0)) :: (SX.blk b5 [.slice s0.A s0.n s0.c, .int .i64 x1, .int .i64 x2] 26) :: [])) ha104 (by decide) (At.here (by kernel_rfl : ((regOf Try.f3 10)[2]?).map spec = some ((Op.call { callee := (Callee.value (Operand.func 17)), args := #[(Operand.tmp 23)], argTypes := #[26] }), some 24, 33, none))) rfl Try.func17 (by kernel_rfl) (toBench_sat hS98 (hr0.sat hS98) hf) (fun v109 w107 a105 hp110 ha106 => ?_))
      obtain ⟨s3, rfl, hS108⟩ := hp110
      have ha111 : Has 27 [(1, .pointer (some ⟨b5, 0, none⟩)), (2, .bool false), (5, .pointer (some ⟨b70, 0, none⟩)), (21, .bool false), (22, .agg #[.slice s2.A s2.n s2.c, .int .i64 x1, .int .i64 x2]), (23, .agg #[.slice s0.A s0.n s0.c, .int .i64 x1, .int .i64 x2]), (24, .agg #[.slice s3.A s3.n s3.c, .int .i64 x1, .int .i64 x2])] a105 := ha106.keeps [1, 2, 5, 21, 22, 23, 24] _ rfl
      have hF112 : (fun w' => w'.heap[b70]? = some (.cells ([.slice s2.A s2.n s2.c, .int .i64 x1, .int .i64 x2]).toArray 33 (0, 0)) ∧ w'.heap[b5]? = some (.cells ([.slice s0.A s0.n s0.c, .int .i64 x1, .int .i64 x2]).toArray 26 (0, 0))) w107 := ⟨hS108.blk 1 rfl, hS108.blk 4 rfl⟩
      refine ⟨.inr hF112, ?_⟩
      change wpD _ _ _ _ _ 2 #[true, true, true, false, false] _ _
      refine d_one (i := 3) (by kernel_rfl) (o_ret (Post := fun r w' => r = .bool true ∧ Sat w0 w' ((prg w0.heap.size s3 (toP l0)) :: (SX.blk b70 [.slice s2.A s2.n s2.c, .int .i64 x1, .int .i64 x2] 33) :: (prg w0.heap.size s2 (toP l0)) :: (prg w0.heap.size s1 (toP l0)) :: (SX.blk b5 [.slice s0.A s0.n s0.c, .int .i64 x1, .int .i64 x2] 26) :: [])) ha111 (by decide) (At.here (by kernel_rfl : ((regOf Try.f3 10)[3]?).map spec = some ((Op.call { callee := (Callee.value (Operand.func 19)), args := #[(Operand.tmp 22), (Operand.tmp 24)], argTypes := #[33, 33] }), some 25, 4, none))) rfl Try.func19 (by kernel_rfl) (eqBench_sat hS108 (hS108.rdS 2 rfl) (hS108.rdS 0 rfl) (toP_fits hf)) (fun v117 w115 a113 hp118 ha114 => ?_))
      obtain ⟨rfl, hS116⟩ := hp118
      have ha119 : Has 27 [(1, .pointer (some ⟨b5, 0, none⟩)), (2, .bool false), (5, .pointer (some ⟨b70, 0, none⟩)), (21, .bool false), (22, .agg #[.slice s2.A s2.n s2.c, .int .i64 x1, .int .i64 x2]), (23, .agg #[.slice s0.A s0.n s0.c, .int .i64 x1, .int .i64 x2]), (24, .agg #[.slice s3.A s3.n s3.c, .int .i64 x1, .int .i64 x2]), (25, .bool true)] a113 := ha114.keeps [1, 2, 5, 21, 22, 23, 24, 25] _ rfl
      have hF120 : (fun w' => w'.heap[b70]? = some (.cells ([.slice s2.A s2.n s2.c, .int .i64 x1, .int .i64 x2]).toArray 33 (0, 0)) ∧ w'.heap[b5]? = some (.cells ([.slice s0.A s0.n s0.c, .int .i64 x1, .int .i64 x2]).toArray 26 (0, 0))) w115 := ⟨hS116.blk 1 rfl, hS116.blk 4 rfl⟩
      refine ⟨.inr hF120, ?_⟩
      change wpD _ _ _ _ _ 1 #[true, true, true, true, false] _ _
      refine d_pure (i := 4) (v := .bool false) ha119 (by decide) (v_pure ha119 (At.here (by kernel_rfl : ((regOf Try.f3 10)[4]?).map spec = some ((Op.unOp UnOp.not 4 (Operand.tmp 25)), some 26, 4, none))) (by kernel_rfl) (fun _ => by kernel_rfl)) (.inr hF120) (by kernel_rfl) (by kernel_rfl) (pk_then (pk_then (pk_body))) (fun a121 ha122 => ?_)
      change wpD _ _ _ _ _ 0 #[true, true, true, true, true] _ _
      refine d_end (by kernel_rfl) ?_ 0
      have ha123 := ha122.keeps [2, 26] [(2, .bool false), (26, .bool false)] rfl
      clear ha122 ha119 a113 ha114 hS108 ha111 a105 ha106 hS98 ha104 a103 ha102 a101 ha97 a95 hS82
      refine then_n ?_
      refine c_false ha123 rfl rfl ?_
      refine wp_skip ?_
      refine then_n ?_
      refine wp_seq ?_
      refine p_begin ?_
      refine p_val (v := .bool true) ha123 (by decide) (v_pure ha123 (At.here (by kernel_rfl : ((regOf Try.f3 12)[0]?).map spec = some ((Op.assign (Operand.const (Value.bool true))), some 2, 4, none))) (by kernel_rfl) (fun _ => by kernel_rfl)) (fun a124 ha125 => ?_)
      refine p_end ?_
      have ha126 := ha125.keeps [2] [(2, .bool true)] rfl
      clear ha125 ha123 a121
      refine then_n ?_
      refine wp_ret ?_
      refine end_res1 ha126 (by kernel_rfl) (resT (t := 2) ha126 rfl) ?_
      exact ⟨rfl, hS116.below⟩
    ·
      have ha127 : Has 27 [(1, .pointer (some ⟨b5, 0, none⟩)), (2, .bool false), (4, .bool false), (5, .pointer (some ⟨b70, 0, none⟩)), (6, .bool false), (19, .bool false), (20, .bool false)] a91 := by have hh : Has 27 [(1, .pointer (some ⟨b5, 0, none⟩)), (2, .bool false), (4, .bool (benchB (toP l0) x1 x2)), (5, .pointer (some ⟨b70, 0, none⟩)), (6, .bool (benchB (toP l0) x1 x2)), (19, .bool (benchB (toP l0) x1 x2)), (20, .bool (benchB (toP l0) x1 x2))] a91 := ha92.keeps [1, 2, 4, 5, 6, 19, 20] _ rfl; simp only [c93, Bool.not_true, Bool.not_false] at hh; exact hh
      refine p_val (v := .bool false) ha127 (by decide) ((v_pure (v := .bool (!(false == false))) ha127 (At.here (by kernel_rfl : ((regOf Try.f3 8)[2]?).map spec = some ((Op.binOp BinOp.neq 4 (Operand.tmp 19) (Operand.tmp 20) 4), some 21, 4, none))) (by kernel_rfl) (fun _ => by kernel_rfl)).as (by simp)) (fun a128 ha129 => ?_)
      refine p_end ?_
      have ha130 := ha129.keeps [1, 2, 5, 21] [(1, .pointer (some ⟨b5, 0, none⟩)), (2, .bool false), (5, .pointer (some ⟨b70, 0, none⟩)), (21, .bool false)] rfl
      clear ha129 ha127 a91 ha92 ha90 a89 ha88 a86
      refine then_n ?_
      refine c_false ha130 rfl rfl ?_
      refine wp_skip ?_
      refine then_n ?_
      refine wp_seq ?_
      refine wp_seq ?_
      refine d_begin (m := 5) (F := fun w' => w'.heap[b70]? = some (.cells ([.slice s2.A s2.n s2.c, .int .i64 x1, .int .i64 x2]).toArray 33 (0, 0)) ∧ w'.heap[b5]? = some (.cells ([.slice s0.A s0.n s0.c, .int .i64 x1, .int .i64 x2]).toArray 26 (0, 0))) (by kernel_rfl) ?_
      have hS131 := hS82.drew
      generalize hw_ : w81.drew = w132 at hS131 ⊢
      clear hw_
      change wpD _ _ _ _ _ 5 (List.replicate 5 false).toArray _ _
      have hF133 : (fun w' => w'.heap[b70]? = some (.cells ([.slice s2.A s2.n s2.c, .int .i64 x1, .int .i64 x2]).toArray 33 (0, 0)) ∧ w'.heap[b5]? = some (.cells ([.slice s0.A s0.n s0.c, .int .i64 x1, .int .i64 x2]).toArray 26 (0, 0))) w132 := ⟨hS131.blk 0 rfl, hS131.blk 3 rfl⟩
      refine d_val (i := 0) (v := .agg #[.slice s2.A s2.n s2.c, .int .i64 x1, .int .i64 x2]) ha130 (by decide) (v_loadAgg (vs := [.slice s2.A s2.n s2.c, .int .i64 x1, .int .i64 x2]) (cs := [.slice s2.A s2.n s2.c, .int .i64 x1, .int .i64 x2]) (T := 33) ha130 (At.here (by kernel_rfl : ((regOf Try.f3 10)[0]?).map spec = some ((Op.load 33 (Operand.tmp 5)), some 22, 33, none))) rfl (by kernel_rfl) (fun _ hw => hw.1) rfl) hF133 (by kernel_rfl) (by kernel_rfl) (pk_then (pk_then (pk_body))) (fun a134 ha135 => ?_)
      change wpD _ _ _ _ _ 4 #[true, false, false, false, false] _ _
      refine d_val (i := 1) (v := .agg #[.slice s0.A s0.n s0.c, .int .i64 x1, .int .i64 x2]) ha135 (by decide) (v_loadAgg (vs := [.slice s0.A s0.n s0.c, .int .i64 x1, .int .i64 x2]) (cs := [.slice s0.A s0.n s0.c, .int .i64 x1, .int .i64 x2]) (T := 26) ha135 (At.here (by kernel_rfl : ((regOf Try.f3 10)[1]?).map spec = some ((Op.load 26 (Operand.tmp 1)), some 23, 26, none))) rfl (by kernel_rfl) (fun _ hw => hw.2) rfl) hF133 (by kernel_rfl) (by kernel_rfl) (pk_then (pk_then (pk_body))) (fun a136 ha137 => ?_)
      change wpD _ _ _ _ _ 3 #[true, true, false, false, false] _ _
      refine d_one (i := 2) (by kernel_rfl) (o_ret (Post := fun r w' => ∃ s4 : Sl, r = .agg #[s4.v, .int .i64 x1, .int .i64 x2] ∧ Sat w0 w' ((prg w0.heap.size s4 (toP l0)) :: (SX.blk b70 [.slice s2.A s2.n s2.c, .int .i64 x1, .int .i64 x2] 33) :: (prg w0.heap.size s2 (toP l0)) :: (prg w0.heap.size s1 (toP l0)) :: (SX.blk b5 [.slice s0.A s0.n s0.c, .int .i64 x1, .int .i64 x2] 26) :: [])) ha137 (by decide) (At.here (by kernel_rfl : ((regOf Try.f3 10)[2]?).map spec = some ((Op.call { callee := (Callee.value (Operand.func 17)), args := #[(Operand.tmp 23)], argTypes := #[26] }), some 24, 33, none))) rfl Try.func17 (by kernel_rfl) (toBench_sat hS131 (hr0.sat hS131) hf) (fun v142 w140 a138 hp143 ha139 => ?_))
      obtain ⟨s4, rfl, hS141⟩ := hp143
      have ha144 : Has 27 [(1, .pointer (some ⟨b5, 0, none⟩)), (2, .bool false), (5, .pointer (some ⟨b70, 0, none⟩)), (21, .bool false), (22, .agg #[.slice s2.A s2.n s2.c, .int .i64 x1, .int .i64 x2]), (23, .agg #[.slice s0.A s0.n s0.c, .int .i64 x1, .int .i64 x2]), (24, .agg #[.slice s4.A s4.n s4.c, .int .i64 x1, .int .i64 x2])] a138 := ha139.keeps [1, 2, 5, 21, 22, 23, 24] _ rfl
      have hF145 : (fun w' => w'.heap[b70]? = some (.cells ([.slice s2.A s2.n s2.c, .int .i64 x1, .int .i64 x2]).toArray 33 (0, 0)) ∧ w'.heap[b5]? = some (.cells ([.slice s0.A s0.n s0.c, .int .i64 x1, .int .i64 x2]).toArray 26 (0, 0))) w140 := ⟨hS141.blk 1 rfl, hS141.blk 4 rfl⟩
      refine ⟨.inr hF145, ?_⟩
      change wpD _ _ _ _ _ 2 #[true, true, true, false, false] _ _
      refine d_one (i := 3) (by kernel_rfl) (o_ret (Post := fun r w' => r = .bool true ∧ Sat w0 w' ((prg w0.heap.size s4 (toP l0)) :: (SX.blk b70 [.slice s2.A s2.n s2.c, .int .i64 x1, .int .i64 x2] 33) :: (prg w0.heap.size s2 (toP l0)) :: (prg w0.heap.size s1 (toP l0)) :: (SX.blk b5 [.slice s0.A s0.n s0.c, .int .i64 x1, .int .i64 x2] 26) :: [])) ha144 (by decide) (At.here (by kernel_rfl : ((regOf Try.f3 10)[3]?).map spec = some ((Op.call { callee := (Callee.value (Operand.func 19)), args := #[(Operand.tmp 22), (Operand.tmp 24)], argTypes := #[33, 33] }), some 25, 4, none))) rfl Try.func19 (by kernel_rfl) (eqBench_sat hS141 (hS141.rdS 2 rfl) (hS141.rdS 0 rfl) (toP_fits hf)) (fun v150 w148 a146 hp151 ha147 => ?_))
      obtain ⟨rfl, hS149⟩ := hp151
      have ha152 : Has 27 [(1, .pointer (some ⟨b5, 0, none⟩)), (2, .bool false), (5, .pointer (some ⟨b70, 0, none⟩)), (21, .bool false), (22, .agg #[.slice s2.A s2.n s2.c, .int .i64 x1, .int .i64 x2]), (23, .agg #[.slice s0.A s0.n s0.c, .int .i64 x1, .int .i64 x2]), (24, .agg #[.slice s4.A s4.n s4.c, .int .i64 x1, .int .i64 x2]), (25, .bool true)] a146 := ha147.keeps [1, 2, 5, 21, 22, 23, 24, 25] _ rfl
      have hF153 : (fun w' => w'.heap[b70]? = some (.cells ([.slice s2.A s2.n s2.c, .int .i64 x1, .int .i64 x2]).toArray 33 (0, 0)) ∧ w'.heap[b5]? = some (.cells ([.slice s0.A s0.n s0.c, .int .i64 x1, .int .i64 x2]).toArray 26 (0, 0))) w148 := ⟨hS149.blk 1 rfl, hS149.blk 4 rfl⟩
      refine ⟨.inr hF153, ?_⟩
      change wpD _ _ _ _ _ 1 #[true, true, true, true, false] _ _
      refine d_pure (i := 4) (v := .bool false) ha152 (by decide) (v_pure ha152 (At.here (by kernel_rfl : ((regOf Try.f3 10)[4]?).map spec = some ((Op.unOp UnOp.not 4 (Operand.tmp 25)), some 26, 4, none))) (by kernel_rfl) (fun _ => by kernel_rfl)) (.inr hF153) (by kernel_rfl) (by kernel_rfl) (pk_then (pk_then (pk_body))) (fun a154 ha155 => ?_)
      change wpD _ _ _ _ _ 0 #[true, true, true, true, true] _ _
      refine d_end (by kernel_rfl) ?_ 0
      have ha156 := ha155.keeps [2, 26] [(2, .bool false), (26, .bool false)] rfl
      clear ha155 ha152 a146 ha147 hS141 ha144 a138 ha139 hS131 ha137 a136 ha135 a134 ha130 a128 hS82
      refine then_n ?_
      refine c_false ha156 rfl rfl ?_
      refine wp_skip ?_
      refine then_n ?_
      refine wp_seq ?_
      refine p_begin ?_
      refine p_val (v := .bool true) ha156 (by decide) (v_pure ha156 (At.here (by kernel_rfl : ((regOf Try.f3 12)[0]?).map spec = some ((Op.assign (Operand.const (Value.bool true))), some 2, 4, none))) (by kernel_rfl) (fun _ => by kernel_rfl)) (fun a157 ha158 => ?_)
      refine p_end ?_
      have ha159 := ha158.keeps [2] [(2, .bool true)] rfl
      clear ha158 ha156 a154
      refine then_n ?_
      refine wp_ret ?_
      refine end_res1 ha159 (by kernel_rfl) (resT (t := 2) ha159 rfl) ?_
      exact ⟨rfl, hS149.below⟩
end Go.Proofs.Ytmeejdeafmgdnaa.G
