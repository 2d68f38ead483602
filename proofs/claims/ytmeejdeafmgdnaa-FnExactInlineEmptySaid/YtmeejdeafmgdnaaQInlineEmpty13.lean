/- What the claim FnExactInlineEmpty rests on, part 13 of 15; the last part proves it: for every input the law answers true, and its arguments read behind the call as before it. No condition. -/
import Derived.Test.YtmeejdeafmgdnaaQInlineEmpty7
import Derived.Test.YtmeejdeafmgdnaaQInlineEmpty12
section
namespace Go.Proofs.Ytmeejdeafmgdnaa.G
open Go.RowKit Go.Proofs.Ytmeejdeafmgdnaa.SX Go.Proofs.YtmeejdeafmgdnaaW.PrintWords Go.Proofs.YtmeejdeafmgdnaaW.PrintLast Go.Proofs.YtmeejdeafmgdnaaW.PrintMore
set_option linter.unusedVariables false
set_option linter.unusedSimpArgs false
def inS (l : List (List ST)) (s : ST) : ST := if s.f0 = 4 ∧ (l.getD s.f1.toNat []).length = 0 then ⟨1, 2, 0⟩ else s
def inlineP (l : List (List ST)) (f : Int) : List (List ST) × Bool := if okF l f = true then (l.set f.toNat ((l.getD f.toNat []).map (inS l)), true) else ([], false)
theorem call_ok {l : List (List ST)} {f : Int} {b : List ST} {x : ST} (h : okF l f = true) (hb : b ∈ l) (hx : x ∈ b) (h4 : x.f0 = 4) : 0 ≤ x.f1 ∧ x.f1 < (l.length : Int) := by
  simp only [okF, programB, bodyB, Bool.and_eq_true, List.all_eq_true, decide_eq_true_eq] at h
  have h1 := (h.1.2 b hb).2 x hx
  unfold stepB at h1
  rw [if_pos (Or.inl h4)] at h1
  simp only [Bool.and_eq_true, decide_eq_true_eq] at h1
  omega
theorem code28 : Try.f28.body = some (Code.seq (Code.region 0 (regOf Try.f28 0) false) (Code.seq (Code.seq (Code.region 1 (regOf Try.f28 1) false) (Code.cond (Operand.tmp 12) (Code.seq (Code.region 2 (regOf Try.f28 2) false) Code.ret) Code.skip)) (Code.seq (Code.region 3 (regOf Try.f28 3) false) (Code.seq (Code.seq (Code.region 4 (regOf Try.f28 4) false) (Code.block 0 (Code.loop (Code.seq (Code.region 5 (regOf Try.f28 5) false) (Code.seq (Code.cond (Operand.tmp 23) Code.skip (Code.exit 0)) (Code.seq (Code.block 1 (Code.seq (Code.region 6 (regOf Try.f28 6) false) (Code.seq (Code.region 7 (regOf Try.f28 7) false) (Code.cond (Operand.tmp 39) (Code.region 8 (regOf Try.f28 8) false) Code.skip)))) (Code.region 9 (regOf Try.f28 9) false))))))) (Code.seq (Code.region 10 (regOf Try.f28 10) false) Code.ret))))) := by kernel_rfl
set_option maxRecDepth 20000 in
set_option maxHeartbeats 1000000 in
theorem impl_InlineEmpty_sat0 {w0 : World} {s0 : Sl} {l : List (List ST)} {x1 : Int} (hr : RdP w0 s0 l) (hf : Fits l) :
    Calls Try.prog 28 #[.agg #[.slice s0.A s0.n s0.c], .int .i64 x1] w0 (Ret fun r w' => ∃ s : Sl, r = .tuple #[.agg #[s.v], .bool (inlineP l x1).2] ∧ Sat w0 w' [prg w0.heap.size s (inlineP l x1).1]) := by
  have hS : Sat w0 w0 [] := Sat.start w0
  refine enter (n := 50) Try.func28 code28 (by kernel_rfl) (Nat.le_of_ble_eq_true rfl) (fun a ha => ?_)
  replace ha : Has 50 [(0, .agg #[.slice s0.A s0.n s0.c]), (1, .int .i64 x1)] a := ha
  refine wp_seq ?_
  refine p_begin ?_
  refine p_op (o_new (cs := [.slice s0.A s0.n s0.c]) (T := 31) (fun b => .pointer (some ⟨b, 0, none⟩)) ha (by decide) (At.here (by kernel_rfl : ((regOf Try.f28 0)[0]?).map spec = some ((Op.box 31 (Operand.tmp 0)), some 2, 0, none))) (by kernel_rfl) hS (fun _ => by kernel_rfl) (fun b5 w3 a1 hb6 (hS4 : Sat w0 w3 ((SX.blk b5 [.slice s0.A s0.n s0.c] 31) :: [])) ha2 => ?_))
  refine p_op (o_new (cs := [.slice none 0 0]) (T := 31) (fun b => .pointer (some ⟨b, 0, none⟩)) ha2 (by decide) (At.here (by kernel_rfl : ((regOf Try.f28 0)[1]?).map spec = some ((Op.alloc 31), some 4, 0, none))) (by kernel_rfl) hS4 (fun _ => by kernel_rfl) (fun b11 w9 a7 hb12 (hS10 : Sat w0 w9 ((SX.blk b11 [.slice none 0 0] 31) :: (SX.blk b5 [.slice s0.A s0.n s0.c] 31) :: [])) ha8 => ?_))
  refine p_val (v := .bool false) ha8 (by decide) (v_pure ha8 (At.here (by kernel_rfl : ((regOf Try.f28 0)[2]?).map spec = some ((Op.assign (Operand.const (Value.bool false))), some 5, 4, none))) (by kernel_rfl) (fun _ => by kernel_rfl)) (fun a13 ha14 => ?_)
  refine p_end ?_
  have ha15 := ha14.keeps [1, 2, 4, 5] [(1, .int .i64 x1), (2, .pointer (some ⟨b5, 0, none⟩)), (4, .pointer (some ⟨b11, 0, none⟩)), (5, .bool false)] rfl
  clear ha14 ha8 a7 hS4 ha2 a1 hS ha a
  refine then_n ?_
  refine wp_seq ?_
  refine wp_seq ?_
  refine p_begin ?_
  refine p_val (v := .agg #[.slice s0.A s0.n s0.c]) ha15 (by decide) (v_loadAgg (vs := [.slice s0.A s0.n s0.c]) (cs := [.slice s0.A s0.n s0.c]) (T := 31) ha15 (At.here (by kernel_rfl : ((regOf Try.f28 1)[0]?).map spec = some ((Op.load 31 (Operand.tmp 2)), some 9, 31, none))) rfl (by kernel_rfl) (fun _ hw => by rw [hw]; exact hS10.blk 1 rfl) rfl) (fun a16 ha17 => ?_)
  refine p_val (v := .int .i64 x1) ha17 (by decide) (v_pure ha17 (At.here (by kernel_rfl : ((regOf Try.f28 1)[1]?).map spec = some ((Op.move (Operand.tmp 1)), some 10, 3, none))) (by kernel_rfl) (fun _ => by kernel_rfl)) (fun a18 ha19 => ?_)
  refine p_op (o_ret (Post := fun r w' => r = .bool (okF l x1) ∧ Sat w0 w' ((SX.blk b11 [.slice none 0 0] 31) :: (SX.blk b5 [.slice s0.A s0.n s0.c] 31) :: [])) ha19 (by decide) (At.here (by kernel_rfl : ((regOf Try.f28 1)[2]?).map spec = some ((Op.call { callee := (Callee.value (Operand.func 62)), args := #[(Operand.tmp 9), (Operand.tmp 10)], argTypes := #[31, 3] }), some 11, 4, none))) rfl Try.func62 (by kernel_rfl) (isFunction_sat hS10 (hr.sat hS10) hf) (fun v24 w22 a20 hp25 ha21 => ?_))
  obtain ⟨rfl, hS23⟩ := hp25
  have ha26 : Has 50 [(1, .int .i64 x1), (2, .pointer (some ⟨b5, 0, none⟩)), (4, .pointer (some ⟨b11, 0, none⟩)), (5, .bool false), (9, .agg #[.slice s0.A s0.n s0.c]), (10, .int .i64 x1), (11, .bool (okF l x1))] a20 := ha21.keeps [1, 2, 4, 5, 9, 10, 11] _ rfl
  refine p_val (v := .bool (!(okF l x1))) ha26 (by decide) (v_pure ha26 (At.here (by kernel_rfl : ((regOf Try.f28 1)[3]?).map spec = some ((Op.unOp UnOp.not 4 (Operand.tmp 11)), some 12, 4, none))) (by kernel_rfl) (fun _ => by kernel_rfl)) (fun a27 ha28 => ?_)
  refine p_end ?_
  have ha29 := ha28.keeps [1, 2, 4, 5, 12] [(1, .int .i64 x1), (2, .pointer (some ⟨b5, 0, none⟩)), (4, .pointer (some ⟨b11, 0, none⟩)), (5, .bool false), (12, .bool (!(okF l x1)))] rfl
  clear ha28 ha26 a20 ha21 hS10 ha19 a18 ha17 a16 ha15 a13
  refine then_n ?_
  rcases Bool.eq_false_or_eq_true (okF l x1) with c30 | c30
  ·
    have ha31 : Has 50 [(1, .int .i64 x1), (2, .pointer (some ⟨b5, 0, none⟩)), (4, .pointer (some ⟨b11, 0, none⟩)), (5, .bool false), (12, .bool false)] a27 := by have hh : Has 50 [(1, .int .i64 x1), (2, .pointer (some ⟨b5, 0, none⟩)), (4, .pointer (some ⟨b11, 0, none⟩)), (5, .bool false), (12, .bool (!(okF l x1)))] a27 := ha29.keeps [1, 2, 4, 5, 12] _ rfl; simp only [c30, Bool.not_true, Bool.not_false] at hh; exact hh
    have hx1 := okF_lt c30
    obtain ⟨b, hb⟩ : ∃ b, l[x1.toNat]? = some b := ⟨_, List.getElem?_eq_getElem (by omega)⟩
    have hb1 : b.length ≤ 1048576 := hf.each b (List.mem_of_getElem? hb)
    refine c_false ha31 rfl rfl ?_
    refine wp_skip ?_
    refine then_n ?_
    refine wp_seq ?_
    refine p_begin ?_
    refine p_val (v := .agg #[.slice s0.A s0.n s0.c]) ha31 (by decide) (v_loadAgg (vs := [.slice s0.A s0.n s0.c]) (cs := [.slice s0.A s0.n s0.c]) (T := 31) ha31 (At.here (by kernel_rfl : ((regOf Try.f28 3)[0]?).map spec = some ((Op.load 31 (Operand.tmp 2)), some 14, 31, none))) rfl (by kernel_rfl) (fun _ hw => by rw [hw]; exact hS23.blk 1 rfl) rfl) (fun a32 ha33 => ?_)
    refine p_op (o_ret (Post := fun r w' => ∃ s1 : Sl, r = .agg #[s1.v] ∧ Sat w0 w' ((prg w0.heap.size s1 l) :: (SX.blk b11 [.slice none 0 0] 31) :: (SX.blk b5 [.slice s0.A s0.n s0.c] 31) :: [])) ha33 (by decide) (At.here (by kernel_rfl : ((regOf Try.f28 3)[1]?).map spec = some ((Op.call { callee := (Callee.value (Operand.func 63)), args := #[(Operand.tmp 14)], argTypes := #[31] }), some 15, 31, none))) rfl Try.func63 (by kernel_rfl) (copied_sat hS23 (hr.sat hS23) hf) (fun v38 w36 a34 hp39 ha35 => ?_))
    obtain ⟨s1, rfl, hS37⟩ := hp39
    have ha40 : Has 50 [(1, .int .i64 x1), (2, .pointer (some ⟨b5, 0, none⟩)), (4, .pointer (some ⟨b11, 0, none⟩)), (5, .bool false), (12, .bool false), (14, .agg #[.slice s0.A s0.n s0.c]), (15, .agg #[.slice s1.A s1.n s1.c])] a34 := ha35.keeps [1, 2, 4, 5, 12, 14, 15] _ rfl
    refine p_op (o_new (cs := [.slice none 0 0]) (T := 31) (fun b => .pointer (some ⟨b, 0, none⟩)) ha40 (by decide) (At.here (by kernel_rfl : ((regOf Try.f28 3)[2]?).map spec = some ((Op.alloc 31), some 6, 0, none))) (by kernel_rfl) hS37 (fun _ => by kernel_rfl) (fun b45 w43 a41 hb46 (hS44 : Sat w0 w43 ((SX.blk b45 [.slice none 0 0] 31) :: (prg w0.heap.size s1 l) :: (SX.blk b11 [.slice none 0 0] 31) :: (SX.blk b5 [.slice s0.A s0.n s0.c] 31) :: [])) ha42 => ?_))
    refine p_op (o_storeAgg (vs := [.slice s1.A s1.n s1.c]) (cs := [.slice none 0 0]) (cs' := [.slice s1.A s1.n s1.c]) 0 ha42 (At.here (by kernel_rfl : ((regOf Try.f28 3)[3]?).map spec = some ((Op.store 31 (Operand.tmp 6) (Operand.tmp 15)), none, 0, none))) rfl rfl rfl (by kernel_rfl) hS44 rfl (by simp) rfl (fun w49 a47 (hS50 : Sat w0 w49 ((SX.blk b45 [.slice s1.A s1.n s1.c] 31) :: (prg w0.heap.size s1 l) :: (SX.blk b11 [.slice none 0 0] 31) :: (SX.blk b5 [.slice s0.A s0.n s0.c] 31) :: [])) ha48 => ?_))
    refine p_end ?_
    have ha51 := ha48.keeps [1, 2, 4, 5, 6] [(1, .int .i64 x1), (2, .pointer (some ⟨b5, 0, none⟩)), (4, .pointer (some ⟨b11, 0, none⟩)), (5, .bool false), (6, .pointer (some ⟨b45, 0, none⟩))] rfl
    clear ha48 hS44 ha42 a41 hS37 ha40 a34 ha35 hS23 ha33 a32 ha31 a27 ha29
    refine then_n ?_
    refine wp_seq ?_
    refine wp_seq ?_
    have hS52 : Sat w0 w49 ((prg w0.heap.size s1 l) :: (SX.blk b45 [.slice s1.A s1.n s1.c] 31) :: (SX.blk b11 [.slice none 0 0] 31) :: (SX.blk b5 [.slice s0.A s0.n s0.c] 31) :: []) := hS50.pickR (l := [SX.blk b45 [.slice s1.A s1.n s1.c] 31, prg w0.heap.size s1 l, SX.blk b11 [.slice none 0 0] 31, SX.blk b5 [.slice s0.A s0.n s0.c] 31]) [1, 0, 2, 3] (by decide) [prg w0.heap.size s1 l, SX.blk b45 [.slice s1.A s1.n s1.c] 31, SX.blk b11 [.slice none 0 0] 31, SX.blk b5 [.slice s0.A s0.n s0.c] 31] rfl
    obtain ⟨vs, z, hvl, hz, hS53⟩ := openFn hS52 hb
    replace hS53 : Sat w0 w49 ((SX.row (.slice s1.A s1.n s1.c) 74 1 (encSl vs)) :: (SX.row (.slice z.A z.n z.c) 76 3 (encS3 b)) :: (holeA w0.heap.size l vs x1.toNat) :: (SX.blk b45 [.slice s1.A s1.n s1.c] 31) :: (SX.blk b11 [.slice none 0 0] 31) :: (SX.blk b5 [.slice s0.A s0.n s0.c] 31) :: []) := hS53
    refine p_begin ?_
    refine p_val (v := .pointer (some ⟨b45, 0, none⟩)) ha51 (by decide) (v_pure ha51 (At.here (by kernel_rfl : ((regOf Try.f28 4)[0]?).map spec = some ((Op.fieldAddr 31 (Operand.tmp 6) 0), some 16, 0, none))) (by kernel_rfl) (fun _ => by kernel_rfl)) (fun a54 ha55 => ?_)
    refine p_val (v := .slice s1.A s1.n s1.c) ha55 (by decide) (v_load (cs := [.slice s1.A s1.n s1.c]) (T := 31) ha55 (At.here (by kernel_rfl : ((regOf Try.f28 4)[1]?).map spec = some ((Op.load 29 (Operand.tmp 16)), some 17, 29, none))) rfl (by kernel_rfl) (fun _ hw => by rw [hw]; exact hS53.blk 3 rfl) rfl) (fun a56 ha57 => ?_)
    refine p_val (v := .int .i64 x1) ha57 (by decide) (v_pure ha57 (At.here (by kernel_rfl : ((regOf Try.f28 4)[2]?).map spec = some ((Op.move (Operand.tmp 1)), some 18, 3, none))) (by kernel_rfl) (fun _ => by kernel_rfl)) (fun a58 ha59 => ?_)
    refine p_val (v := .pointer (some ⟨bk s1, x1.toNat * 1, none⟩)) ha59 (by decide) (v_indexO (s := s1) (el := 74) (sz := 1) (j := x1.toNat) ha59 (At.here (by kernel_rfl : ((regOf Try.f28 4)[3]?).map spec = some ((Op.indexAddr 29 (Operand.tmp 17) (Operand.tmp 18)), some 19, 0, none))) rfl rfl (by kernel_rfl) (by kernel_rfl) (hS53.rowA (s := s1) 0 rfl (by have := (List.getElem?_eq_some_iff.1 hz).1; rw [encSl_length]; omega)) ((Int.toNat_of_nonneg hx1.1).symm) (by have h9 := hS53.rowL (s := s1) (enc := cSl) 0 cSl_len (by decide) rfl; have := (List.getElem?_eq_some_iff.1 hz).1; omega)) (fun a60 ha61 => ?_)
    refine p_val (v := .slice z.A z.n z.c) ha61 (by decide) (v_loadC (v := .slice z.A z.n z.c) ha61 (At.here (by kernel_rfl : ((regOf Try.f28 4)[4]?).map spec = some ((Op.load 74 (Operand.tmp 19)), some 20, 74, none))) rfl (by kernel_rfl) (fun w' hw => by rw [hw]; exact (hS53.rdC (s := s1) 0 rfl).cells _ _ ((flat_get (enc := cSl) (o := 0) cSl_len hz (by decide)).trans rfl))) (fun a62 ha63 => ?_)
    refine p_val (v := .int .i64 (z.n : Int)) ha63 (by decide) (v_pure ha63 (At.here (by kernel_rfl : ((regOf Try.f28 4)[5]?).map spec = some ((Op.call { callee := (Callee.builtin Builtin.len), args := #[(Operand.tmp 20)], argTypes := #[74] }), some 21, 3, none))) (by kernel_rfl) (fun _ => by kernel_rfl)) (fun a64 ha65 => ?_)
    refine p_val (v := .int .i64 0) ha65 (by decide) (v_pure ha65 (At.here (by kernel_rfl : ((regOf Try.f28 4)[6]?).map spec = some ((Op.move (Operand.const (Value.int IntKind.i64 0))), some 22, 3, none))) (by kernel_rfl) (fun _ => by kernel_rfl)) (fun a66 ha67 => ?_)
    refine p_end ?_
    have ha68 := ha67.keeps [1, 2, 4, 5, 6, 20, 21, 22] [(1, .int .i64 x1), (2, .pointer (some ⟨b5, 0, none⟩)), (4, .pointer (some ⟨b11, 0, none⟩)), (5, .bool false), (6, .pointer (some ⟨b45, 0, none⟩)), (20, .slice z.A z.n z.c), (21, .int .i64 (z.n : Int)), (22, .int .i64 0)] rfl
    clear ha67 ha65 a64 ha63 a62 ha61 a60 ha59 a58 ha57 a56 ha55 a54 ha51 a47 hS52 hS50
    refine then_n ?_
    refine wp_block ?_
    have hS69 : Sat w0 w49 ((SX.row (.slice s1.A s1.n s1.c) 74 1 (encSl vs)) :: (SX.row (.slice z.A z.n z.c) 76 3 (encS3 (cur (inS l) b 0))) :: (holeA w0.heap.size l vs x1.toNat) :: (SX.blk b45 [.slice s1.A s1.n s1.c] 31) :: (SX.blk b11 [.slice none 0 0] 31) :: (SX.blk b5 [.slice s0.A s0.n s0.c] 31) :: []) := by rw [cur_zero]; exact hS53
    refine wp_loop_ghost (fun n_ a_ w_ => ∃ (i : Nat), n_ = b.length - i ∧ (i ≤ b.length) ∧ Has 50 [(1, .int .i64 x1), (2, .pointer (some ⟨b5, 0, none⟩)), (4, .pointer (some ⟨b11, 0, none⟩)), (5, .bool false), (6, .pointer (some ⟨b45, 0, none⟩)), (20, .slice z.A z.n z.c), (21, .int .i64 (z.n : Int)), (22, .int .i64 (i : Int))] a_ ∧ Sat w0 w_ ((SX.row (.slice s1.A s1.n s1.c) 74 1 (encSl vs)) :: (SX.row (.slice z.A z.n z.c) 76 3 (encS3 (cur (inS l) b i))) :: (holeA w0.heap.size l vs x1.toNat) :: (SX.blk b45 [.slice s1.A s1.n s1.c] 31) :: (SX.blk b11 [.slice none 0 0] 31) :: (SX.blk b5 [.slice s0.A s0.n s0.c] 31) :: [])) _ ⟨0, rfl, Nat.zero_le _, ha68.keeps [1, 2, 4, 5, 6, 20, 21, 22] _ rfl, hS69⟩ ?_
    -- the loop's round
    rintro n_ a70 w71 ⟨i, rfl, hi, ha72, hS73⟩
    refine wp_seq ?_
    refine p_begin ?_
    refine p_val (v := .bool (decide ((i : Int) < (z.n : Int)))) ha72 (by decide) (v_pure ha72 (At.here (by kernel_rfl : ((regOf Try.f28 5)[0]?).map spec = some ((Op.binOp BinOp.lss 3 (Operand.tmp 22) (Operand.tmp 21) 3), some 23, 0, none))) (by kernel_rfl) (fun _ => by kernel_rfl)) (fun a74 ha75 => ?_)
    refine p_end ?_
    have ha76 := ha75.keeps [1, 2, 4, 5, 6, 20, 21, 22, 23] [(1, .int .i64 x1), (2, .pointer (some ⟨b5, 0, none⟩)), (4, .pointer (some ⟨b11, 0, none⟩)), (5, .bool false), (6, .pointer (some ⟨b45, 0, none⟩)), (20, .slice z.A z.n z.c), (21, .int .i64 (z.n : Int)), (22, .int .i64 (i : Int)), (23, .bool (decide ((i : Int) < (z.n : Int))))] rfl
    clear ha75 ha72 a70
    refine then_n ?_
    refine wp_seq ?_
    by_cases c77 : (i : Int) < (z.n : Int)
    ·
      have ha78 : Has 50 [(1, .int .i64 x1), (2, .pointer (some ⟨b5, 0, none⟩)), (4, .pointer (some ⟨b11, 0, none⟩)), (5, .bool false), (6, .pointer (some ⟨b45, 0, none⟩)), (20, .slice z.A z.n z.c), (21, .int .i64 (z.n : Int)), (22, .int .i64 (i : Int)), (23, .bool true)] a74 := by have hh : Has 50 [(1, .int .i64 x1), (2, .pointer (some ⟨b5, 0, none⟩)), (4, .pointer (some ⟨b11, 0, none⟩)), (5, .bool false), (6, .pointer (some ⟨b45, 0, none⟩)), (20, .slice z.A z.n z.c), (21, .int .i64 (z.n : Int)), (22, .int .i64 (i : Int)), (23, .bool (decide ((i : Int) < (z.n : Int))))] a74 := ha76.keeps [1, 2, 4, 5, 6, 20, 21, 22, 23] _ rfl; simp only [decide_eq_true c77, Bool.not_true, Bool.not_false] at hh; exact hh
      have hzl : z.n = b.length := by have h9 := hS73.rowL (s := z) (enc := cT) 1 cT_len (by decide) rfl; rw [h9, cur_len]
      have hlt : i < b.length := by have := c77; omega
      obtain ⟨x, hx⟩ : ∃ x, b[i]? = some x := ⟨_, List.getElem?_eq_getElem hlt⟩
      refine c_true ha78 rfl rfl ?_
      refine wp_skip ?_
      refine then_n ?_
      refine wp_seq ?_
      refine wp_block ?_
      refine wp_seq ?_
      refine p_begin ?_
      refine p_val (v := .int .i64 (i : Int)) ha78 (by decide) (v_pure ha78 (At.here (by kernel_rfl : ((regOf Try.f28 6)[0]?).map spec = some ((Op.move (Operand.tmp 22)), some 24, 3, none))) (by kernel_rfl) (fun _ => by kernel_rfl)) (fun a79 ha80 => ?_)
      refine p_val (v := .pointer (some ⟨bk z, i * 3, none⟩)) ha80 (by decide) (v_indexO (s := z) (el := 76) (sz := 3) (j := i) ha80 (At.here (by kernel_rfl : ((regOf Try.f28 6)[1]?).map spec = some ((Op.indexAddr 74 (Operand.tmp 20) (Operand.tmp 22)), some 25, 0, none))) rfl rfl (by kernel_rfl) (by kernel_rfl) (hS73.rowA (s := z) 1 rfl (by have := (List.getElem?_eq_some_iff.1 (cur_get (g := (inS l)) hx)).1; rw [encS3_length]; omega)) (rfl) (by have h9 := hS73.rowL (s := z) (enc := cT) 1 cT_len (by decide) rfl; have := (List.getElem?_eq_some_iff.1 (cur_get (g := (inS l)) hx)).1; omega)) (fun a81 ha82 => ?_)
      refine p_val (v := .agg #[.int .i64 x.f0, .int .i64 x.f1, .int .i64 x.f2]) ha82 (by decide) (v_loadL (v := .agg #[.int .i64 x.f0, .int .i64 x.f1, .int .i64 x.f2]) ha82 (At.here (by kernel_rfl : ((regOf Try.f28 6)[2]?).map spec = some ((Op.load 76 (Operand.tmp 25)), some 26, 76, none))) rfl (fun w' hw => by rw [hw]; exact run_loadVar_agg (vs := [.int .i64 x.f0, .int .i64 x.f1, .int .i64 x.f2]) (by kernel_rfl) (fun i u hu => by match i, hu with | 0, hu => rw [add0]; rw [← Option.some.inj hu]; exact ((hS73.rdC (s := z) 1 rfl).cells _ _ ((flat_get (enc := cT) (o := 0) cT_len (cur_get (g := (inS l)) hx) (by decide)).trans rfl)) | 1, hu => rw [add0]; rw [← Option.some.inj hu]; exact ((hS73.rdC (s := z) 1 rfl).cells _ _ ((flat_get (enc := cT) (o := 1) cT_len (cur_get (g := (inS l)) hx) (by decide)).trans rfl)) | 2, hu => rw [add0]; rw [← Option.some.inj hu]; exact ((hS73.rdC (s := z) 1 rfl).cells _ _ ((flat_get (enc := cT) (o := 2) cT_len (cur_get (g := (inS l)) hx) (by decide)).trans rfl)) | n + 3, hu => simp at hu))) (fun a83 ha84 => ?_)
      refine p_op (o_new (cs := [.int .i64 0, .int .i64 0, .int .i64 0]) (T := 76) (fun b => .pointer (some ⟨b, 0, none⟩)) ha84 (by decide) (At.here (by kernel_rfl : ((regOf Try.f28 6)[3]?).map spec = some ((Op.alloc 76), some 8, 0, none))) (by kernel_rfl) hS73 (fun _ => by kernel_rfl) (fun b89 w87 a85 hb90 (hS88 : Sat w0 w87 ((SX.blk b89 [.int .i64 0, .int .i64 0, .int .i64 0] 76) :: (SX.row (.slice s1.A s1.n s1.c) 74 1 (encSl vs)) :: (SX.row (.slice z.A z.n z.c) 76 3 (encS3 (cur (inS l) b i))) :: (holeA w0.heap.size l vs x1.toNat) :: (SX.blk b45 [.slice s1.A s1.n s1.c] 31) :: (SX.blk b11 [.slice none 0 0] 31) :: (SX.blk b5 [.slice s0.A s0.n s0.c] 31) :: [])) ha86 => ?_))
      refine p_val (v := .int .i64 (i : Int)) ha86 (by decide) (v_pure ha86 (At.here (by kernel_rfl : ((regOf Try.f28 6)[4]?).map spec = some ((Op.assign (Operand.tmp 24)), some 7, 3, none))) (by kernel_rfl) (fun _ => by kernel_rfl)) (fun a91 ha92 => ?_)
      refine p_op (o_storeAgg (vs := [.int .i64 x.f0, .int .i64 x.f1, .int .i64 x.f2]) (cs := [.int .i64 0, .int .i64 0, .int .i64 0]) (cs' := [.int .i64 x.f0, .int .i64 x.f1, .int .i64 x.f2]) 0 ha92 (At.here (by kernel_rfl : ((regOf Try.f28 6)[5]?).map spec = some ((Op.store 76 (Operand.tmp 8) (Operand.tmp 26)), none, 0, none))) rfl rfl rfl (by kernel_rfl) hS88 rfl (by simp) rfl (fun w95 a93 (hS96 : Sat w0 w95 ((SX.blk b89 [.int .i64 x.f0, .int .i64 x.f1, .int .i64 x.f2] 76) :: (SX.row (.slice s1.A s1.n s1.c) 74 1 (encSl vs)) :: (SX.row (.slice z.A z.n z.c) 76 3 (encS3 (cur (inS l) b i))) :: (holeA w0.heap.size l vs x1.toNat) :: (SX.blk b45 [.slice s1.A s1.n s1.c] 31) :: (SX.blk b11 [.slice none 0 0] 31) :: (SX.blk b5 [.slice s0.A s0.n s0.c] 31) :: [])) ha94 => ?_))
      refine p_end ?_
      have ha97 := ha94.keeps [1, 2, 4, 5, 6, 20, 21, 22, 23, 24, 25, 26, 8, 7] [(1, .int .i64 x1), (2, .pointer (some ⟨b5, 0, none⟩)), (4, .pointer (some ⟨b11, 0, none⟩)), (5, .bool false), (6, .pointer (some ⟨b45, 0, none⟩)), (20, .slice z.A z.n z.c), (21, .int .i64 (z.n : Int)), (22, .int .i64 (i : Int)), (23, .bool true), (24, .int .i64 (i : Int)), (25, .pointer (some ⟨bk z, i * 3, none⟩)), (26, .agg #[.int .i64 x.f0, .int .i64 x.f1, .int .i64 x.f2]), (8, .pointer (some ⟨b89, 0, none⟩)), (7, .int .i64 (i : Int))] rfl
      clear ha94 hS88 ha92 a91 ha86 a85 hS73 ha84 a83 ha82 a81 ha80 a79 ha78 a74 ha76
      refine then_n ?_
      refine wp_seq ?_
      refine p_begin ?_
      refine p_val (v := .pointer (some ⟨b89, 0, none⟩)) ha97 (by decide) (v_pure ha97 (At.here (by kernel_rfl : ((regOf Try.f28 7)[0]?).map spec = some ((Op.fieldAddr 76 (Operand.tmp 8) 0), some 27, 0, none))) (by kernel_rfl) (fun _ => by kernel_rfl)) (fun a98 ha99 => ?_)
      refine p_val (v := .int .i64 x.f0) ha99 (by decide) (v_load (cs := [.int .i64 x.f0, .int .i64 x.f1, .int .i64 x.f2]) (T := 76) ha99 (At.here (by kernel_rfl : ((regOf Try.f28 7)[1]?).map spec = some ((Op.load 3 (Operand.tmp 27)), some 28, 3, none))) rfl (by kernel_rfl) (fun _ hw => by rw [hw]; exact hS96.blk 0 rfl) rfl) (fun a100 ha101 => ?_)
      refine p_val (v := .bool (decide (x.f0 = 4))) ha101 (by decide) (v_pure ha101 (At.here (by kernel_rfl : ((regOf Try.f28 7)[2]?).map spec = some ((Op.binOp BinOp.eql 3 (Operand.tmp 28) (Operand.const (Value.int IntKind.i64 4)) 3), some 29, 4, none))) (by kernel_rfl) (fun _ => by kernel_rfl)) (fun a102 ha103 => ?_)
      refine p_val (v := .bool (decide (x.f0 = 4))) ha103 (by decide) (v_pure ha103 (At.here (by kernel_rfl : ((regOf Try.f28 7)[3]?).map spec = some ((Op.move (Operand.tmp 29)), some 30, 4, none))) (by kernel_rfl) (fun _ => by kernel_rfl)) (fun a104 ha105 => ?_)
      by_cases c106 : x.f0 = 4
      ·
        have ha107 : Has 50 [(1, .int .i64 x1), (2, .pointer (some ⟨b5, 0, none⟩)), (4, .pointer (some ⟨b11, 0, none⟩)), (5, .bool false), (6, .pointer (some ⟨b45, 0, none⟩)), (20, .slice z.A z.n z.c), (21, .int .i64 (z.n : Int)), (22, .int .i64 (i : Int)), (23, .bool true), (24, .int .i64 (i : Int)), (25, .pointer (some ⟨bk z, i * 3, none⟩)), (26, .agg #[.int .i64 x.f0, .int .i64 x.f1, .int .i64 x.f2]), (8, .pointer (some ⟨b89, 0, none⟩)), (7, .int .i64 (i : Int)), (27, .pointer (some ⟨b89, 0, none⟩)), (28, .int .i64 x.f0), (29, .bool true), (30, .bool true)] a104 := by have hh : Has 50 [(1, .int .i64 x1), (2, .pointer (some ⟨b5, 0, none⟩)), (4, .pointer (some ⟨b11, 0, none⟩)), (5, .bool false), (6, .pointer (some ⟨b45, 0, none⟩)), (20, .slice z.A z.n z.c), (21, .int .i64 (z.n : Int)), (22, .int .i64 (i : Int)), (23, .bool true), (24, .int .i64 (i : Int)), (25, .pointer (some ⟨bk z, i * 3, none⟩)), (26, .agg #[.int .i64 x.f0, .int .i64 x.f1, .int .i64 x.f2]), (8, .pointer (some ⟨b89, 0, none⟩)), (7, .int .i64 (i : Int)), (27, .pointer (some ⟨b89, 0, none⟩)), (28, .int .i64 x.f0), (29, .bool (decide (x.f0 = 4))), (30, .bool (decide (x.f0 = 4)))] a104 := ha105.keeps [1, 2, 4, 5, 6, 20, 21, 22, 23, 24, 25, 26, 8, 7, 27, 28, 29, 30] _ rfl; simp only [decide_eq_true c106, Bool.not_true, Bool.not_false] at hh; exact hh
        have hcl : 0 ≤ x.f1 ∧ x.f1 < (l.length : Int) := call_ok c30 (List.mem_of_getElem? hb) (List.mem_of_getElem? hx) c106
        obtain ⟨b2, hb2⟩ : ∃ b2, l[x.f1.toNat]? = some b2 := ⟨_, List.getElem?_eq_getElem (by omega)⟩
        obtain ⟨hA2, A2, c2, hc2, hl2, _⟩ := rows_cells hr.rd x.f1.toNat b2 hb2
        refine p_val (v := .pointer (some ⟨b5, 0, none⟩)) ha107 (by decide) (v_pure ha107 (AtG.here (gd := 30) ⟨(by kernel_rfl : ((regOf Try.f28 7)[4]?).map spec = some ((Op.fieldAddr 31 (Operand.tmp 2) 0), some 31, 0, some (3, true))), by kernel_rfl⟩ ha107 rfl) (by kernel_rfl) (fun _ => by kernel_rfl)) (fun a108 ha109 => ?_)
        refine p_val (v := .slice s0.A s0.n s0.c) ha109 (by decide) (v_load (cs := [.slice s0.A s0.n s0.c]) (T := 31) ha109 (AtG.here (gd := 30) ⟨(by kernel_rfl : ((regOf Try.f28 7)[5]?).map spec = some ((Op.load 29 (Operand.tmp 31)), some 32, 29, some (3, true))), by kernel_rfl⟩ ha109 rfl) rfl (by kernel_rfl) (fun _ hw => by rw [hw]; exact hS96.blk 6 rfl) rfl) (fun a110 ha111 => ?_)
        refine p_val (v := .pointer (some ⟨b89, 1, none⟩)) ha111 (by decide) (v_pure ha111 (AtG.here (gd := 30) ⟨(by kernel_rfl : ((regOf Try.f28 7)[6]?).map spec = some ((Op.fieldAddr 76 (Operand.tmp 8) 1), some 33, 0, some (3, true))), by kernel_rfl⟩ ha111 rfl) (by kernel_rfl) (fun _ => by kernel_rfl)) (fun a112 ha113 => ?_)
        refine p_val (v := .int .i64 x.f1) ha113 (by decide) (v_load (cs := [.int .i64 x.f0, .int .i64 x.f1, .int .i64 x.f2]) (T := 76) ha113 (AtG.here (gd := 30) ⟨(by kernel_rfl : ((regOf Try.f28 7)[7]?).map spec = some ((Op.load 3 (Operand.tmp 33)), some 34, 3, some (3, true))), by kernel_rfl⟩ ha113 rfl) rfl (by kernel_rfl) (fun _ hw => by rw [hw]; exact hS96.blk 0 rfl) rfl) (fun a114 ha115 => ?_)
        refine p_val (v := .pointer (some ⟨bk s0, of_ s0 + x.f1.toNat * 1, none⟩)) ha115 (by decide) (v_indexQ (s := s0) (el := 74) (sz := 1) (j := x.f1.toNat) ha115 (AtG.here (gd := 30) ⟨(by kernel_rfl : ((regOf Try.f28 7)[8]?).map spec = some ((Op.indexAddr 29 (Operand.tmp 32) (Operand.tmp 34)), some 35, 0, some (3, true))), by kernel_rfl⟩ ha115 rfl) rfl rfl (by kernel_rfl) (by kernel_rfl) hA2 (Int.toNat_of_nonneg hcl.1).symm (by rw [hr.len]; omega)) (fun a116 ha117 => ?_)
        refine p_val (v := .slice A2 b2.length c2) ha117 (by decide) (v_loadC (v := .slice A2 b2.length c2) (p := ⟨bk s0, of_ s0 + x.f1.toNat * 1, none⟩) ha117 (AtG.here (gd := 30) ⟨(by kernel_rfl : ((regOf Try.f28 7)[9]?).map spec = some ((Op.load 74 (Operand.tmp 35)), some 36, 74, some (3, true))), by kernel_rfl⟩ ha117 rfl) rfl (by kernel_rfl) (fun w' hw => by rw [hw, Nat.mul_one]; exact pw_cell_below hS96.below hc2)) (fun a118 ha119 => ?_)
        refine p_val (v := .int .i64 (b2.length : Int)) ha119 (by decide) (v_pure ha119 (AtG.here (gd := 30) ⟨(by kernel_rfl : ((regOf Try.f28 7)[10]?).map spec = some ((Op.call { callee := (Callee.builtin Builtin.len), args := #[(Operand.tmp 36)], argTypes := #[74] }), some 37, 3, some (3, true))), by kernel_rfl⟩ ha119 rfl) (by kernel_rfl) (fun _ => by kernel_rfl)) (fun a120 ha121 => ?_)
        refine p_val (v := .bool (decide ((b2.length : Int) = 0))) ha121 (by decide) (v_pure ha121 (AtG.here (gd := 30) ⟨(by kernel_rfl : ((regOf Try.f28 7)[11]?).map spec = some ((Op.binOp BinOp.eql 3 (Operand.tmp 37) (Operand.const (Value.int IntKind.i64 0)) 3), some 38, 4, some (3, true))), by kernel_rfl⟩ ha121 rfl) (by kernel_rfl) (fun _ => by kernel_rfl)) (fun a122 ha123 => ?_)
        refine p_val (v := .bool (decide ((b2.length : Int) = 0))) ha123 (by decide) (v_pure ha123 (At.here (by kernel_rfl : ((regOf Try.f28 7)[12]?).map spec = some ((Op.pick (Operand.tmp 30) (Operand.tmp 38) (Operand.const (Value.bool false))), some 39, 4, none))) (by kernel_rfl) (fun _ => by kernel_rfl)) (fun a124 ha125 => ?_)
        refine p_end ?_
        have ha126 := ha125.keeps [1, 2, 4, 5, 6, 20, 21, 22, 23, 24, 25, 26, 8, 7, 27, 28, 29, 30, 31, 32, 33, 34, 35, 36, 37, 38, 39] [(1, .int .i64 x1), (2, .pointer (some ⟨b5, 0, none⟩)), (4, .pointer (some ⟨b11, 0, none⟩)), (5, .bool false), (6, .pointer (some ⟨b45, 0, none⟩)), (20, .slice z.A z.n z.c), (21, .int .i64 (z.n : Int)), (22, .int .i64 (i : Int)), (23, .bool true), (24, .int .i64 (i : Int)), (25, .pointer (some ⟨bk z, i * 3, none⟩)), (26, .agg #[.int .i64 x.f0, .int .i64 x.f1, .int .i64 x.f2]), (8, .pointer (some ⟨b89, 0, none⟩)), (7, .int .i64 (i : Int)), (27, .pointer (some ⟨b89, 0, none⟩)), (28, .int .i64 x.f0), (29, .bool true), (30, .bool true), (31, .pointer (some ⟨b5, 0, none⟩)), (32, .slice s0.A s0.n s0.c), (33, .pointer (some ⟨b89, 1, none⟩)), (34, .int .i64 x.f1), (35, .pointer (some ⟨bk s0, of_ s0 + x.f1.toNat * 1, none⟩)), (36, .slice A2 b2.length c2), (37, .int .i64 (b2.length : Int)), (38, .bool (decide ((b2.length : Int) = 0))), (39, .bool (decide ((b2.length : Int) = 0)))] rfl
        clear ha125 ha123 a122 ha121 a120 ha119 a118 ha117 a116 ha115 a114 ha113 a112 ha111 a110 ha109 a108 ha107 a104 ha105 ha103 a102 ha101 a100 ha99 a98 ha97 a93
        refine then_n ?_
        by_cases c127 : (b2.length : Int) = 0
        ·
          have ha128 : Has 50 [(1, .int .i64 x1), (2, .pointer (some ⟨b5, 0, none⟩)), (4, .pointer (some ⟨b11, 0, none⟩)), (5, .bool false), (6, .pointer (some ⟨b45, 0, none⟩)), (20, .slice z.A z.n z.c), (21, .int .i64 (z.n : Int)), (22, .int .i64 (i : Int)), (23, .bool true), (24, .int .i64 (i : Int)), (25, .pointer (some ⟨bk z, i * 3, none⟩)), (26, .agg #[.int .i64 x.f0, .int .i64 x.f1, .int .i64 x.f2]), (8, .pointer (some ⟨b89, 0, none⟩)), (7, .int .i64 (i : Int)), (27, .pointer (some ⟨b89, 0, none⟩)), (28, .int .i64 x.f0), (29, .bool true), (30, .bool true), (31, .pointer (some ⟨b5, 0, none⟩)), (32, .slice s0.A s0.n s0.c), (33, .pointer (some ⟨b89, 1, none⟩)), (34, .int .i64 x.f1), (35, .pointer (some ⟨bk s0, of_ s0 + x.f1.toNat * 1, none⟩)), (36, .slice A2 b2.length c2), (37, .int .i64 (b2.length : Int)), (38, .bool true), (39, .bool true)] a124 := by have hh : Has 50 [(1, .int .i64 x1), (2, .pointer (some ⟨b5, 0, none⟩)), (4, .pointer (some ⟨b11, 0, none⟩)), (5, .bool false), (6, .pointer (some ⟨b45, 0, none⟩)), (20, .slice z.A z.n z.c), (21, .int .i64 (z.n : Int)), (22, .int .i64 (i : Int)), (23, .bool true), (24, .int .i64 (i : Int)), (25, .pointer (some ⟨bk z, i * 3, none⟩)), (26, .agg #[.int .i64 x.f0, .int .i64 x.f1, .int .i64 x.f2]), (8, .pointer (some ⟨b89, 0, none⟩)), (7, .int .i64 (i : Int)), (27, .pointer (some ⟨b89, 0, none⟩)), (28, .int .i64 x.f0), (29, .bool true), (30, .bool true), (31, .pointer (some ⟨b5, 0, none⟩)), (32, .slice s0.A s0.n s0.c), (33, .pointer (some ⟨b89, 1, none⟩)), (34, .int .i64 x.f1), (35, .pointer (some ⟨bk s0, of_ s0 + x.f1.toNat * 1, none⟩)), (36, .slice A2 b2.length c2), (37, .int .i64 (b2.length : Int)), (38, .bool (decide ((b2.length : Int) = 0))), (39, .bool (decide ((b2.length : Int) = 0)))] a124 := ha126.keeps [1, 2, 4, 5, 6, 20, 21, 22, 23, 24, 25, 26, 8, 7, 27, 28, 29, 30, 31, 32, 33, 34, 35, 36, 37, 38, 39] _ rfl; simp only [decide_eq_true c127, Bool.not_true, Bool.not_false] at hh; exact hh
          refine c_true ha128 rfl rfl ?_
          refine p_begin ?_
          refine p_val (v := .pointer (some ⟨b45, 0, none⟩)) ha128 (by decide) (v_pure ha128 (At.here (by kernel_rfl : ((regOf Try.f28 8)[0]?).map spec = some ((Op.fieldAddr 31 (Operand.tmp 6) 0), some 40, 0, none))) (by kernel_rfl) (fun _ => by kernel_rfl)) (fun a129 ha130 => ?_)
          refine p_val (v := .slice s1.A s1.n s1.c) ha130 (by decide) (v_load (cs := [.slice s1.A s1.n s1.c]) (T := 31) ha130 (At.here (by kernel_rfl : ((regOf Try.f28 8)[1]?).map spec = some ((Op.load 29 (Operand.tmp 40)), some 41, 29, none))) rfl (by kernel_rfl) (fun _ hw => by rw [hw]; exact hS96.blk 4 rfl) rfl) (fun a131 ha132 => ?_)
          refine p_val (v := .int .i64 x1) ha132 (by decide) (v_pure ha132 (At.here (by kernel_rfl : ((regOf Try.f28 8)[2]?).map spec = some ((Op.move (Operand.tmp 1)), some 42, 3, none))) (by kernel_rfl) (fun _ => by kernel_rfl)) (fun a133 ha134 => ?_)
          refine p_val (v := .pointer (some ⟨bk s1, x1.toNat * 1, none⟩)) ha134 (by decide) (v_indexO (s := s1) (el := 74) (sz := 1) (j := x1.toNat) ha134 (At.here (by kernel_rfl : ((regOf Try.f28 8)[3]?).map spec = some ((Op.indexAddr 29 (Operand.tmp 41) (Operand.tmp 42)), some 43, 0, none))) rfl rfl (by kernel_rfl) (by kernel_rfl) (hS96.rowA (s := s1) 1 rfl (by have := (List.getElem?_eq_some_iff.1 hz).1; rw [encSl_length]; omega)) ((Int.toNat_of_nonneg hx1.1).symm) (by have h9 := hS96.rowL (s := s1) (enc := cSl) 1 cSl_len (by decide) rfl; have := (List.getElem?_eq_some_iff.1 hz).1; omega)) (fun a135 ha136 => ?_)
          refine p_val (v := .slice z.A z.n z.c) ha136 (by decide) (v_loadC (v := .slice z.A z.n z.c) ha136 (At.here (by kernel_rfl : ((regOf Try.f28 8)[4]?).map spec = some ((Op.load 74 (Operand.tmp 43)), some 44, 74, none))) rfl (by kernel_rfl) (fun w' hw => by rw [hw]; exact (hS96.rdC (s := s1) 1 rfl).cells _ _ ((flat_get (enc := cSl) (o := 0) cSl_len hz (by decide)).trans rfl))) (fun a137 ha138 => ?_)
          refine p_val (v := .int .i64 (i : Int)) ha138 (by decide) (v_pure ha138 (At.here (by kernel_rfl : ((regOf Try.f28 8)[5]?).map spec = some ((Op.move (Operand.tmp 7)), some 45, 3, none))) (by kernel_rfl) (fun _ => by kernel_rfl)) (fun a139 ha140 => ?_)
          refine p_val (v := .agg #[.int .i64 1, .int .i64 2, .int .i64 0]) ha140 (by decide) (v_pure ha140 (At.here (by kernel_rfl : ((regOf Try.f28 8)[6]?).map spec = some ((Op.build 76 #[(0, (Operand.const (Value.int IntKind.i64 1))), (1, (Operand.const (Value.int IntKind.i64 2))), (2, (Operand.const (Value.int IntKind.i64 0)))]), some 46, 76, none))) (by kernel_rfl) (fun _ => by kernel_rfl)) (fun a141 ha142 => ?_)
          refine p_val (v := .pointer (some ⟨bk z, i * 3, none⟩)) ha142 (by decide) (v_indexO (s := z) (el := 76) (sz := 3) (j := i) ha142 (At.here (by kernel_rfl : ((regOf Try.f28 8)[7]?).map spec = some ((Op.indexAddr 74 (Operand.tmp 44) (Operand.tmp 45)), some 47, 0, none))) rfl rfl (by kernel_rfl) (by kernel_rfl) (hS96.rowA (s := z) 2 rfl (by have := (List.getElem?_eq_some_iff.1 (cur_get (g := (inS l)) hx)).1; rw [encS3_length]; omega)) (rfl) (by have h9 := hS96.rowL (s := z) (enc := cT) 2 cT_len (by decide) rfl; have := (List.getElem?_eq_some_iff.1 (cur_get (g := (inS l)) hx)).1; omega)) (fun a143 ha144 => ?_)
          refine p_op (o_storeRowA (s := z) (j := i * 3) (xs := encS3 (cur (inS l) b i)) (xs' := encS3 ((cur (inS l) b i).set i (⟨1, 2, 0⟩ : ST))) (vs := [.int .i64 1, .int .i64 2, .int .i64 0]) 2 ha144 (At.here (by kernel_rfl : ((regOf Try.f28 8)[8]?).map spec = some ((Op.store 76 (Operand.tmp 47) (Operand.tmp 46)), none, 0, none))) rfl rfl rfl (by kernel_rfl) hS96 rfl (by have := (List.getElem?_eq_some_iff.1 (cur_get (g := (inS l)) hx)).1; rw [encS3_length]; simp only [List.length_cons, List.length_nil]; omega) (by decide) (flat_put (enc := cT) (x' := (⟨1, 2, 0⟩ : ST)) cT_len (cur_get (g := (inS l)) hx)) (fun w147 a145 (hS148 : Sat w0 w147 ((SX.blk b89 [.int .i64 x.f0, .int .i64 x.f1, .int .i64 x.f2] 76) :: (SX.row (.slice s1.A s1.n s1.c) 74 1 (encSl vs)) :: (SX.row (.slice z.A z.n z.c) 76 3 (encS3 ((cur (inS l) b i).set i (⟨1, 2, 0⟩ : ST)))) :: (holeA w0.heap.size l vs x1.toNat) :: (SX.blk b45 [.slice s1.A s1.n s1.c] 31) :: (SX.blk b11 [.slice none 0 0] 31) :: (SX.blk b5 [.slice s0.A s0.n s0.c] 31) :: [])) ha146 => ?_))
          refine p_end ?_
          have ha149 := ha146.keeps [1, 2, 4, 5, 6, 20, 21, 22, 23, 24, 25, 26, 8, 7, 27, 28, 29, 30, 31, 32, 33, 34, 35, 36, 37, 38, 39, 40, 41, 42, 43, 44, 45, 46, 47] [(1, .int .i64 x1), (2, .pointer (some ⟨b5, 0, none⟩)), (4, .pointer (some ⟨b11, 0, none⟩)), (5, .bool false), (6, .pointer (some ⟨b45, 0, none⟩)), (20, .slice z.A z.n z.c), (21, .int .i64 (z.n : Int)), (22, .int .i64 (i : Int)), (23, .bool true), (24, .int .i64 (i : Int)), (25, .pointer (some ⟨bk z, i * 3, none⟩)), (26, .agg #[.int .i64 x.f0, .int .i64 x.f1, .int .i64 x.f2]), (8, .pointer (some ⟨b89, 0, none⟩)), (7, .int .i64 (i : Int)), (27, .pointer (some ⟨b89, 0, none⟩)), (28, .int .i64 x.f0), (29, .bool true), (30, .bool true), (31, .pointer (some ⟨b5, 0, none⟩)), (32, .slice s0.A s0.n s0.c), (33, .pointer (some ⟨b89, 1, none⟩)), (34, .int .i64 x.f1), (35, .pointer (some ⟨bk s0, of_ s0 + x.f1.toNat * 1, none⟩)), (36, .slice A2 b2.length c2), (37, .int .i64 (b2.length : Int)), (38, .bool true), (39, .bool true), (40, .pointer (some ⟨b45, 0, none⟩)), (41, .slice s1.A s1.n s1.c), (42, .int .i64 x1), (43, .pointer (some ⟨bk s1, x1.toNat * 1, none⟩)), (44, .slice z.A z.n z.c), (45, .int .i64 (i : Int)), (46, .agg #[.int .i64 1, .int .i64 2, .int .i64 0]), (47, .pointer (some ⟨bk z, i * 3, none⟩))] rfl
          clear ha146 hS96 ha144 a143 ha142 a141 ha140 a139 ha138 a137 ha136 a135 ha134 a133 ha132 a131 ha130 a129 ha128 a124 ha126
          refine in_n ?_
          refine then_n ?_
          refine p_begin ?_
          refine p_val (v := .int .i64 ((i : Int) + 1)) ha149 (by decide) ((v_pure (v := .int .i64 (IntKind.i64.wrap ((i : Int) + 1))) ha149 (At.here (by kernel_rfl : ((regOf Try.f28 9)[0]?).map spec = some ((Op.binOp BinOp.add 3 (Operand.tmp 22) (Operand.const (Value.int IntKind.i64 1)) 3), some 48, 3, none))) (by kernel_rfl) (fun _ => by kernel_rfl)).as (by rw [wrap_i64 (by omega) (by omega)])) (fun a150 ha151 => ?_)
          refine p_val (v := .int .i64 ((i : Int) + 1)) ha151 (by decide) (v_pure ha151 (At.here (by kernel_rfl : ((regOf Try.f28 9)[1]?).map spec = some ((Op.move (Operand.tmp 48)), some 22, 3, none))) (by kernel_rfl) (fun _ => by kernel_rfl)) (fun a152 ha153 => ?_)
          refine p_end ?_
          have ha154 := ha153.keeps [1, 2, 4, 5, 6, 20, 21, 23, 24, 25, 26, 8, 7, 27, 28, 29, 30, 31, 32, 33, 34, 35, 36, 37, 38, 39, 40, 41, 42, 43, 44, 45, 46, 47, 48, 22] [(1, .int .i64 x1), (2, .pointer (some ⟨b5, 0, none⟩)), (4, .pointer (some ⟨b11, 0, none⟩)), (5, .bool false), (6, .pointer (some ⟨b45, 0, none⟩)), (20, .slice z.A z.n z.c), (21, .int .i64 (z.n : Int)), (23, .bool true), (24, .int .i64 (i : Int)), (25, .pointer (some ⟨bk z, i * 3, none⟩)), (26, .agg #[.int .i64 x.f0, .int .i64 x.f1, .int .i64 x.f2]), (8, .pointer (some ⟨b89, 0, none⟩)), (7, .int .i64 (i : Int)), (27, .pointer (some ⟨b89, 0, none⟩)), (28, .int .i64 x.f0), (29, .bool true), (30, .bool true), (31, .pointer (some ⟨b5, 0, none⟩)), (32, .slice s0.A s0.n s0.c), (33, .pointer (some ⟨b89, 1, none⟩)), (34, .int .i64 x.f1), (35, .pointer (some ⟨bk s0, of_ s0 + x.f1.toNat * 1, none⟩)), (36, .slice A2 b2.length c2), (37, .int .i64 (b2.length : Int)), (38, .bool true), (39, .bool true), (40, .pointer (some ⟨b45, 0, none⟩)), (41, .slice s1.A s1.n s1.c), (42, .int .i64 x1), (43, .pointer (some ⟨bk s1, x1.toNat * 1, none⟩)), (44, .slice z.A z.n z.c), (45, .int .i64 (i : Int)), (46, .agg #[.int .i64 1, .int .i64 2, .int .i64 0]), (47, .pointer (some ⟨bk z, i * 3, none⟩)), (48, .int .i64 ((i : Int) + 1)), (22, .int .i64 ((i : Int) + 1))] rfl
          clear ha153 ha151 a150 ha149 a145
          refine then_n ?_
          have hS155 : Sat w0 w147 ((SX.row (.slice s1.A s1.n s1.c) 74 1 (encSl vs)) :: (SX.row (.slice z.A z.n z.c) 76 3 (encS3 ((cur (inS l) b i).set i (⟨1, 2, 0⟩ : ST)))) :: (holeA w0.heap.size l vs x1.toNat) :: (SX.blk b45 [.slice s1.A s1.n s1.c] 31) :: (SX.blk b11 [.slice none 0 0] 31) :: (SX.blk b5 [.slice s0.A s0.n s0.c] 31) :: []) := hS148.pickR (l := [SX.blk b89 [.int .i64 x.f0, .int .i64 x.f1, .int .i64 x.f2] 76, SX.row (.slice s1.A s1.n s1.c) 74 1 (encSl vs), SX.row (.slice z.A z.n z.c) 76 3 (encS3 ((cur (inS l) b i).set i (⟨1, 2, 0⟩ : ST))), holeA w0.heap.size l vs x1.toNat, SX.blk b45 [.slice s1.A s1.n s1.c] 31, SX.blk b11 [.slice none 0 0] 31, SX.blk b5 [.slice s0.A s0.n s0.c] 31]) [1, 2, 3, 4, 5, 6] (by decide) [SX.row (.slice s1.A s1.n s1.c) 74 1 (encSl vs), SX.row (.slice z.A z.n z.c) 76 3 (encS3 ((cur (inS l) b i).set i (⟨1, 2, 0⟩ : ST))), holeA w0.heap.size l vs x1.toNat, SX.blk b45 [.slice s1.A s1.n s1.c] 31, SX.blk b11 [.slice none 0 0] 31, SX.blk b5 [.slice s0.A s0.n s0.c] 31] rfl
          have e9 : ((cur (inS l) b i).set i (⟨1, 2, 0⟩ : ST)) = cur (inS l) b (i + 1) := by
            first | exact cur_same hx (by simp_all [inS, List.getD, hb2]) | (refine (congrArg (List.set _ i) ?_).trans (cur_set hx); simp_all [inS, List.getD, hb2])
          have hS156 : Sat w0 w147 ((SX.row (.slice s1.A s1.n s1.c) 74 1 (encSl vs)) :: (SX.row (.slice z.A z.n z.c) 76 3 (encS3 (cur (inS l) b (i + 1)))) :: (holeA w0.heap.size l vs x1.toNat) :: (SX.blk b45 [.slice s1.A s1.n s1.c] 31) :: (SX.blk b11 [.slice none 0 0] 31) :: (SX.blk b5 [.slice s0.A s0.n s0.c] 31) :: []) := by rw [← e9]; exact hS155
          exact ⟨_, by omega, i + 1, rfl, by omega, ha154.keeps [1, 2, 4, 5, 6, 20, 21, 22] _ rfl, hS156⟩
        ·
          have ha157 : Has 50 [(1, .int .i64 x1), (2, .pointer (some ⟨b5, 0, none⟩)), (4, .pointer (some ⟨b11, 0, none⟩)), (5, .bool false), (6, .pointer (some ⟨b45, 0, none⟩)), (20, .slice z.A z.n z.c), (21, .int .i64 (z.n : Int)), (22, .int .i64 (i : Int)), (23, .bool true), (24, .int .i64 (i : Int)), (25, .pointer (some ⟨bk z, i * 3, none⟩)), (26, .agg #[.int .i64 x.f0, .int .i64 x.f1, .int .i64 x.f2]), (8, .pointer (some ⟨b89, 0, none⟩)), (7, .int .i64 (i : Int)), (27, .pointer (some ⟨b89, 0, none⟩)), (28, .int .i64 x.f0), (29, .bool true), (30, .bool true), (31, .pointer (some ⟨b5, 0, none⟩)), (32, .slice s0.A s0.n s0.c), (33, .pointer (some ⟨b89, 1, none⟩)), (34, .int .i64 x.f1), (35, .pointer (some ⟨bk s0, of_ s0 + x.f1.toNat * 1, none⟩)), (36, .slice A2 b2.length c2), (37, .int .i64 (b2.length : Int)), (38, .bool false), (39, .bool false)] a124 := by have hh : Has 50 [(1, .int .i64 x1), (2, .pointer (some ⟨b5, 0, none⟩)), (4, .pointer (some ⟨b11, 0, none⟩)), (5, .bool false), (6, .pointer (some ⟨b45, 0, none⟩)), (20, .slice z.A z.n z.c), (21, .int .i64 (z.n : Int)), (22, .int .i64 (i : Int)), (23, .bool true), (24, .int .i64 (i : Int)), (25, .pointer (some ⟨bk z, i * 3, none⟩)), (26, .agg #[.int .i64 x.f0, .int .i64 x.f1, .int .i64 x.f2]), (8, .pointer (some ⟨b89, 0, none⟩)), (7, .int .i64 (i : Int)), (27, .pointer (some ⟨b89, 0, none⟩)), (28, .int .i64 x.f0), (29, .bool true), (30, .bool true), (31, .pointer (some ⟨b5, 0, none⟩)), (32, .slice s0.A s0.n s0.c), (33, .pointer (some ⟨b89, 1, none⟩)), (34, .int .i64 x.f1), (35, .pointer (some ⟨bk s0, of_ s0 + x.f1.toNat * 1, none⟩)), (36, .slice A2 b2.length c2), (37, .int .i64 (b2.length : Int)), (38, .bool (decide ((b2.length : Int) = 0))), (39, .bool (decide ((b2.length : Int) = 0)))] a124 := ha126.keeps [1, 2, 4, 5, 6, 20, 21, 22, 23, 24, 25, 26, 8, 7, 27, 28, 29, 30, 31, 32, 33, 34, 35, 36, 37, 38, 39] _ rfl; simp only [decide_eq_false c127, Bool.not_true, Bool.not_false] at hh; exact hh
          refine c_false ha157 rfl rfl ?_
          refine wp_skip ?_
          refine in_n ?_
          refine then_n ?_
          refine p_begin ?_
          refine p_val (v := .int .i64 ((i : Int) + 1)) ha157 (by decide) ((v_pure (v := .int .i64 (IntKind.i64.wrap ((i : Int) + 1))) ha157 (At.here (by kernel_rfl : ((regOf Try.f28 9)[0]?).map spec = some ((Op.binOp BinOp.add 3 (Operand.tmp 22) (Operand.const (Value.int IntKind.i64 1)) 3), some 48, 3, none))) (by kernel_rfl) (fun _ => by kernel_rfl)).as (by rw [wrap_i64 (by omega) (by omega)])) (fun a158 ha159 => ?_)
          refine p_val (v := .int .i64 ((i : Int) + 1)) ha159 (by decide) (v_pure ha159 (At.here (by kernel_rfl : ((regOf Try.f28 9)[1]?).map spec = some ((Op.move (Operand.tmp 48)), some 22, 3, none))) (by kernel_rfl) (fun _ => by kernel_rfl)) (fun a160 ha161 => ?_)
          refine p_end ?_
          have ha162 := ha161.keeps [1, 2, 4, 5, 6, 20, 21, 23, 24, 25, 26, 8, 7, 27, 28, 29, 30, 31, 32, 33, 34, 35, 36, 37, 38, 39, 48, 22] [(1, .int .i64 x1), (2, .pointer (some ⟨b5, 0, none⟩)), (4, .pointer (some ⟨b11, 0, none⟩)), (5, .bool false), (6, .pointer (some ⟨b45, 0, none⟩)), (20, .slice z.A z.n z.c), (21, .int .i64 (z.n : Int)), (23, .bool true), (24, .int .i64 (i : Int)), (25, .pointer (some ⟨bk z, i * 3, none⟩)), (26, .agg #[.int .i64 x.f0, .int .i64 x.f1, .int .i64 x.f2]), (8, .pointer (some ⟨b89, 0, none⟩)), (7, .int .i64 (i : Int)), (27, .pointer (some ⟨b89, 0, none⟩)), (28, .int .i64 x.f0), (29, .bool true), (30, .bool true), (31, .pointer (some ⟨b5, 0, none⟩)), (32, .slice s0.A s0.n s0.c), (33, .pointer (some ⟨b89, 1, none⟩)), (34, .int .i64 x.f1), (35, .pointer (some ⟨bk s0, of_ s0 + x.f1.toNat * 1, none⟩)), (36, .slice A2 b2.length c2), (37, .int .i64 (b2.length : Int)), (38, .bool false), (39, .bool false), (48, .int .i64 ((i : Int) + 1)), (22, .int .i64 ((i : Int) + 1))] rfl
          clear ha161 ha159 a158 ha157 a124 ha126
          refine then_n ?_
          have hS163 : Sat w0 w95 ((SX.row (.slice s1.A s1.n s1.c) 74 1 (encSl vs)) :: (SX.row (.slice z.A z.n z.c) 76 3 (encS3 (cur (inS l) b i))) :: (holeA w0.heap.size l vs x1.toNat) :: (SX.blk b45 [.slice s1.A s1.n s1.c] 31) :: (SX.blk b11 [.slice none 0 0] 31) :: (SX.blk b5 [.slice s0.A s0.n s0.c] 31) :: []) := hS96.pickR (l := [SX.blk b89 [.int .i64 x.f0, .int .i64 x.f1, .int .i64 x.f2] 76, SX.row (.slice s1.A s1.n s1.c) 74 1 (encSl vs), SX.row (.slice z.A z.n z.c) 76 3 (encS3 (cur (inS l) b i)), holeA w0.heap.size l vs x1.toNat, SX.blk b45 [.slice s1.A s1.n s1.c] 31, SX.blk b11 [.slice none 0 0] 31, SX.blk b5 [.slice s0.A s0.n s0.c] 31]) [1, 2, 3, 4, 5, 6] (by decide) [SX.row (.slice s1.A s1.n s1.c) 74 1 (encSl vs), SX.row (.slice z.A z.n z.c) 76 3 (encS3 (cur (inS l) b i)), holeA w0.heap.size l vs x1.toNat, SX.blk b45 [.slice s1.A s1.n s1.c] 31, SX.blk b11 [.slice none 0 0] 31, SX.blk b5 [.slice s0.A s0.n s0.c] 31] rfl
          have e9 : (cur (inS l) b i) = cur (inS l) b (i + 1) := by
            first | exact cur_same hx (by simp_all [inS, List.getD, hb2]) | (refine (congrArg (List.set _ i) ?_).trans (cur_set hx); simp_all [inS, List.getD, hb2])
          have hS164 : Sat w0 w95 ((SX.row (.slice s1.A s1.n s1.c) 74 1 (encSl vs)) :: (SX.row (.slice z.A z.n z.c) 76 3 (encS3 (cur (inS l) b (i + 1)))) :: (holeA w0.heap.size l vs x1.toNat) :: (SX.blk b45 [.slice s1.A s1.n s1.c] 31) :: (SX.blk b11 [.slice none 0 0] 31) :: (SX.blk b5 [.slice s0.A s0.n s0.c] 31) :: []) := by rw [← e9]; exact hS163
          exact ⟨_, by omega, i + 1, rfl, by omega, ha162.keeps [1, 2, 4, 5, 6, 20, 21, 22] _ rfl, hS164⟩
      ·
        have ha165 : Has 50 [(1, .int .i64 x1), (2, .pointer (some ⟨b5, 0, none⟩)), (4, .pointer (some ⟨b11, 0, none⟩)), (5, .bool false), (6, .pointer (some ⟨b45, 0, none⟩)), (20, .slice z.A z.n z.c), (21, .int .i64 (z.n : Int)), (22, .int .i64 (i : Int)), (23, .bool true), (24, .int .i64 (i : Int)), (25, .pointer (some ⟨bk z, i * 3, none⟩)), (26, .agg #[.int .i64 x.f0, .int .i64 x.f1, .int .i64 x.f2]), (8, .pointer (some ⟨b89, 0, none⟩)), (7, .int .i64 (i : Int)), (27, .pointer (some ⟨b89, 0, none⟩)), (28, .int .i64 x.f0), (29, .bool false), (30, .bool false)] a104 := by have hh : Has 50 [(1, .int .i64 x1), (2, .pointer (some ⟨b5, 0, none⟩)), (4, .pointer (some ⟨b11, 0, none⟩)), (5, .bool false), (6, .pointer (some ⟨b45, 0, none⟩)), (20, .slice z.A z.n z.c), (21, .int .i64 (z.n : Int)), (22, .int .i64 (i : Int)), (23, .bool true), (24, .int .i64 (i : Int)), (25, .pointer (some ⟨bk z, i * 3, none⟩)), (26, .agg #[.int .i64 x.f0, .int .i64 x.f1, .int .i64 x.f2]), (8, .pointer (some ⟨b89, 0, none⟩)), (7, .int .i64 (i : Int)), (27, .pointer (some ⟨b89, 0, none⟩)), (28, .int .i64 x.f0), (29, .bool (decide (x.f0 = 4))), (30, .bool (decide (x.f0 = 4)))] a104 := ha105.keeps [1, 2, 4, 5, 6, 20, 21, 22, 23, 24, 25, 26, 8, 7, 27, 28, 29, 30] _ rfl; simp only [decide_eq_false c106, Bool.not_true, Bool.not_false] at hh; exact hh
        refine p_val (v := undef) ha165 (by decide) (v_off (d := 31) (gd := 30) ha165 ⟨(by kernel_rfl : ((regOf Try.f28 7)[4]?).map spec = some ((Op.fieldAddr 31 (Operand.tmp 2) 0), some 31, 0, some (3, true))), by kernel_rfl⟩ rfl) (fun a166 ha167 => ?_)
        refine p_val (v := undef) ha167 (by decide) (v_off (d := 32) (gd := 30) ha167 ⟨(by kernel_rfl : ((regOf Try.f28 7)[5]?).map spec = some ((Op.load 29 (Operand.tmp 31)), some 32, 29, some (3, true))), by kernel_rfl⟩ rfl) (fun a168 ha169 => ?_)
        refine p_val (v := undef) ha169 (by decide) (v_off (d := 33) (gd := 30) ha169 ⟨(by kernel_rfl : ((regOf Try.f28 7)[6]?).map spec = some ((Op.fieldAddr 76 (Operand.tmp 8) 1), some 33, 0, some (3, true))), by kernel_rfl⟩ rfl) (fun a170 ha171 => ?_)
        refine p_val (v := undef) ha171 (by decide) (v_off (d := 34) (gd := 30) ha171 ⟨(by kernel_rfl : ((regOf Try.f28 7)[7]?).map spec = some ((Op.load 3 (Operand.tmp 33)), some 34, 3, some (3, true))), by kernel_rfl⟩ rfl) (fun a172 ha173 => ?_)
        refine p_val (v := undef) ha173 (by decide) (v_off (d := 35) (gd := 30) ha173 ⟨(by kernel_rfl : ((regOf Try.f28 7)[8]?).map spec = some ((Op.indexAddr 29 (Operand.tmp 32) (Operand.tmp 34)), some 35, 0, some (3, true))), by kernel_rfl⟩ rfl) (fun a174 ha175 => ?_)
        refine p_val (v := undef) ha175 (by decide) (v_off (d := 36) (gd := 30) ha175 ⟨(by kernel_rfl : ((regOf Try.f28 7)[9]?).map spec = some ((Op.load 74 (Operand.tmp 35)), some 36, 74, some (3, true))), by kernel_rfl⟩ rfl) (fun a176 ha177 => ?_)
        refine p_val (v := undef) ha177 (by decide) (v_off (d := 37) (gd := 30) ha177 ⟨(by kernel_rfl : ((regOf Try.f28 7)[10]?).map spec = some ((Op.call { callee := (Callee.builtin Builtin.len), args := #[(Operand.tmp 36)], argTypes := #[74] }), some 37, 3, some (3, true))), by kernel_rfl⟩ rfl) (fun a178 ha179 => ?_)
        refine p_val (v := undef) ha179 (by decide) (v_off (d := 38) (gd := 30) ha179 ⟨(by kernel_rfl : ((regOf Try.f28 7)[11]?).map spec = some ((Op.binOp BinOp.eql 3 (Operand.tmp 37) (Operand.const (Value.int IntKind.i64 0)) 3), some 38, 4, some (3, true))), by kernel_rfl⟩ rfl) (fun a180 ha181 => ?_)
        refine p_val (v := .bool false) ha181 (by decide) (v_pure ha181 (At.here (by kernel_rfl : ((regOf Try.f28 7)[12]?).map spec = some ((Op.pick (Operand.tmp 30) (Operand.tmp 38) (Operand.const (Value.bool false))), some 39, 4, none))) (by kernel_rfl) (fun _ => by kernel_rfl)) (fun a182 ha183 => ?_)
        refine p_end ?_
        have ha184 := ha183.keeps [1, 2, 4, 5, 6, 20, 21, 22, 23, 24, 25, 26, 8, 7, 27, 28, 29, 30, 31, 32, 33, 34, 35, 36, 37, 38, 39] [(1, .int .i64 x1), (2, .pointer (some ⟨b5, 0, none⟩)), (4, .pointer (some ⟨b11, 0, none⟩)), (5, .bool false), (6, .pointer (some ⟨b45, 0, none⟩)), (20, .slice z.A z.n z.c), (21, .int .i64 (z.n : Int)), (22, .int .i64 (i : Int)), (23, .bool true), (24, .int .i64 (i : Int)), (25, .pointer (some ⟨bk z, i * 3, none⟩)), (26, .agg #[.int .i64 x.f0, .int .i64 x.f1, .int .i64 x.f2]), (8, .pointer (some ⟨b89, 0, none⟩)), (7, .int .i64 (i : Int)), (27, .pointer (some ⟨b89, 0, none⟩)), (28, .int .i64 x.f0), (29, .bool false), (30, .bool false), (31, undef), (32, undef), (33, undef), (34, undef), (35, undef), (36, undef), (37, undef), (38, undef), (39, .bool false)] rfl
        clear ha183 ha181 a180 ha179 a178 ha177 a176 ha175 a174 ha173 a172 ha171 a170 ha169 a168 ha167 a166 ha165 a104 ha105 ha103 a102 ha101 a100 ha99 a98 ha97 a93
        refine then_n ?_
        refine c_false ha184 rfl rfl ?_
        refine wp_skip ?_
        refine in_n ?_
        refine then_n ?_
        refine p_begin ?_
        refine p_val (v := .int .i64 ((i : Int) + 1)) ha184 (by decide) ((v_pure (v := .int .i64 (IntKind.i64.wrap ((i : Int) + 1))) ha184 (At.here (by kernel_rfl : ((regOf Try.f28 9)[0]?).map spec = some ((Op.binOp BinOp.add 3 (Operand.tmp 22) (Operand.const (Value.int IntKind.i64 1)) 3), some 48, 3, none))) (by kernel_rfl) (fun _ => by kernel_rfl)).as (by rw [wrap_i64 (by omega) (by omega)])) (fun a185 ha186 => ?_)
        refine p_val (v := .int .i64 ((i : Int) + 1)) ha186 (by decide) (v_pure ha186 (At.here (by kernel_rfl : ((regOf Try.f28 9)[1]?).map spec = some ((Op.move (Operand.tmp 48)), some 22, 3, none))) (by kernel_rfl) (fun _ => by kernel_rfl)) (fun a187 ha188 => ?_)
        refine p_end ?_
        have ha189 := ha188.keeps [1, 2, 4, 5, 6, 20, 21, 23, 24, 25, 26, 8, 7, 27, 28, 29, 30, 31, 32, 33, 34, 35, 36, 37, 38, 39, 48, 22] [(1, .int .i64 x1), (2, .pointer (some ⟨b5, 0, none⟩)), (4, .pointer (some ⟨b11, 0, none⟩)), (5, .bool false), (6, .pointer (some ⟨b45, 0, none⟩)), (20, .slice z.A z.n z.c), (21, .int .i64 (z.n : Int)), (23, .bool true), (24, .int .i64 (i : Int)), (25, .pointer (some ⟨bk z, i * 3, none⟩)), (26, .agg #[.int .i64 x.f0, .int .i64 x.f1, .int .i64 x.f2]), (8, .pointer (some ⟨b89, 0, none⟩)), (7, .int .i64 (i : Int)), (27, .pointer (some ⟨b89, 0, none⟩)), (28, .int .i64 x.f0), (29, .bool false), (30, .bool false), (31, undef), (32, undef), (33, undef), (34, undef), (35, undef), (36, undef), (37, undef), (38, undef), (39, .bool false), (48, .int .i64 ((i : Int) + 1)), (22, .int .i64 ((i : Int) + 1))] rfl
        clear ha188 ha186 a185 ha184 a182
        refine then_n ?_
        have hS190 : Sat w0 w95 ((SX.row (.slice s1.A s1.n s1.c) 74 1 (encSl vs)) :: (SX.row (.slice z.A z.n z.c) 76 3 (encS3 (cur (inS l) b i))) :: (holeA w0.heap.size l vs x1.toNat) :: (SX.blk b45 [.slice s1.A s1.n s1.c] 31) :: (SX.blk b11 [.slice none 0 0] 31) :: (SX.blk b5 [.slice s0.A s0.n s0.c] 31) :: []) := hS96.pickR (l := [SX.blk b89 [.int .i64 x.f0, .int .i64 x.f1, .int .i64 x.f2] 76, SX.row (.slice s1.A s1.n s1.c) 74 1 (encSl vs), SX.row (.slice z.A z.n z.c) 76 3 (encS3 (cur (inS l) b i)), holeA w0.heap.size l vs x1.toNat, SX.blk b45 [.slice s1.A s1.n s1.c] 31, SX.blk b11 [.slice none 0 0] 31, SX.blk b5 [.slice s0.A s0.n s0.c] 31]) [1, 2, 3, 4, 5, 6] (by decide) [SX.row (.slice s1.A s1.n s1.c) 74 1 (encSl vs), SX.row (.slice z.A z.n z.c) 76 3 (encS3 (cur (inS l) b i)), holeA w0.heap.size l vs x1.toNat, SX.blk b45 [.slice s1.A s1.n s1.c] 31, SX.blk b11 [.slice none 0 0] 31, SX.blk b5 [.slice s0.A s0.n s0.c] 31] rfl
        have e9 : (cur (inS l) b i) = cur (inS l) b (i + 1) := by
          first | exact cur_same hx (by simp_all [inS]) | (refine (congrArg (List.set _ i) ?_).trans (cur_set hx); simp_all [inS])
        have hS191 : Sat w0 w95 ((SX.row (.slice s1.A s1.n s1.c) 74 1 (encSl vs)) :: (SX.row (.slice z.A z.n z.c) 76 3 (encS3 (cur (inS l) b (i + 1)))) :: (holeA w0.heap.size l vs x1.toNat) :: (SX.blk b45 [.slice s1.A s1.n s1.c] 31) :: (SX.blk b11 [.slice none 0 0] 31) :: (SX.blk b5 [.slice s0.A s0.n s0.c] 31) :: []) := by rw [← e9]; exact hS190
        exact ⟨_, by omega, i + 1, rfl, by omega, ha189.keeps [1, 2, 4, 5, 6, 20, 21, 22] _ rfl, hS191⟩
    ·
      have ha192 : Has 50 [(1, .int .i64 x1), (2, .pointer (some ⟨b5, 0, none⟩)), (4, .pointer (some ⟨b11, 0, none⟩)), (5, .bool false), (6, .pointer (some ⟨b45, 0, none⟩)), (20, .slice z.A z.n z.c), (21, .int .i64 (z.n : Int)), (22, .int .i64 (i : Int)), (23, .bool false)] a74 := by have hh : Has 50 [(1, .int .i64 x1), (2, .pointer (some ⟨b5, 0, none⟩)), (4, .pointer (some ⟨b11, 0, none⟩)), (5, .bool false), (6, .pointer (some ⟨b45, 0, none⟩)), (20, .slice z.A z.n z.c), (21, .int .i64 (z.n : Int)), (22, .int .i64 (i : Int)), (23, .bool (decide ((i : Int) < (z.n : Int))))] a74 := ha76.keeps [1, 2, 4, 5, 6, 20, 21, 22, 23] _ rfl; simp only [decide_eq_false c77, Bool.not_true, Bool.not_false] at hh; exact hh
      have hzl : z.n = b.length := by have h9 := hS73.rowL (s := z) (enc := cT) 1 cT_len (by decide) rfl; rw [h9, cur_len]
      have hend : i = b.length := by have := c77; omega
      have hcur : cur (inS l) b i = (b.map (inS l)) := by rw [hend, cur_end]
      refine c_false ha192 rfl rfl ?_
      refine wp_exit ?_
      refine then_x ?_
      refine then_x ?_
      refine in_x ?_
      refine then_n ?_
      refine wp_seq ?_
      refine p_begin ?_
      refine p_val (v := .agg #[.slice s1.A s1.n s1.c]) ha192 (by decide) (v_loadAgg (vs := [.slice s1.A s1.n s1.c]) (cs := [.slice s1.A s1.n s1.c]) (T := 31) ha192 (At.here (by kernel_rfl : ((regOf Try.f28 10)[0]?).map spec = some ((Op.load 31 (Operand.tmp 6)), some 49, 31, none))) rfl (by kernel_rfl) (fun _ hw => by rw [hw]; exact hS73.blk 3 rfl) rfl) (fun a193 ha194 => ?_)
      refine p_op (o_storeAgg (vs := [.slice s1.A s1.n s1.c]) (cs := [.slice none 0 0]) (cs' := [.slice s1.A s1.n s1.c]) 4 ha194 (At.here (by kernel_rfl : ((regOf Try.f28 10)[1]?).map spec = some ((Op.store 31 (Operand.tmp 4) (Operand.tmp 49)), none, 0, none))) rfl rfl rfl (by kernel_rfl) hS73 rfl (by simp) rfl (fun w197 a195 (hS198 : Sat w0 w197 ((SX.row (.slice s1.A s1.n s1.c) 74 1 (encSl vs)) :: (SX.row (.slice z.A z.n z.c) 76 3 (encS3 (cur (inS l) b i))) :: (holeA w0.heap.size l vs x1.toNat) :: (SX.blk b45 [.slice s1.A s1.n s1.c] 31) :: (SX.blk b11 [.slice s1.A s1.n s1.c] 31) :: (SX.blk b5 [.slice s0.A s0.n s0.c] 31) :: [])) ha196 => ?_))
      refine p_val (v := .bool true) ha196 (by decide) (v_pure ha196 (At.here (by kernel_rfl : ((regOf Try.f28 10)[2]?).map spec = some ((Op.assign (Operand.const (Value.bool true))), some 5, 4, none))) (by kernel_rfl) (fun _ => by kernel_rfl)) (fun a199 ha200 => ?_)
      refine p_end ?_
      have ha201 := ha200.keeps [4, 5] [(4, .pointer (some ⟨b11, 0, none⟩)), (5, .bool true)] rfl
      clear ha200 ha196 a195 hS73 ha194 a193 ha192 a74 ha76
      refine then_n ?_
      refine wp_ret ?_
      refine end_res2 ha201 (by kernel_rfl) (resC (t := 4) (ty := 31) (i := 4) (cs := [.slice s1.A s1.n s1.c]) ha201 rfl hS198 rfl (by kernel_rfl)) (resT (t := 5) ha201 rfl) ?_
      have hd : inlineP l x1 = (l.set x1.toNat (b.map (inS l)), true) := by unfold inlineP; rw [if_pos c30]; simp only [List.getD, hb, Option.getD_some]
      rw [hd]
      have hS202 : Sat w0 w197 ((SX.row (.slice s1.A s1.n s1.c) 74 1 (encSl vs)) :: (SX.row (.slice z.A z.n z.c) 76 3 (encS3 (cur (inS l) b i))) :: (holeA w0.heap.size l vs x1.toNat) :: []) := hS198.pickR (l := [SX.row (.slice s1.A s1.n s1.c) 74 1 (encSl vs), SX.row (.slice z.A z.n z.c) 76 3 (encS3 (cur (inS l) b i)), holeA w0.heap.size l vs x1.toNat, SX.blk b45 [.slice s1.A s1.n s1.c] 31, SX.blk b11 [.slice s1.A s1.n s1.c] 31, SX.blk b5 [.slice s0.A s0.n s0.c] 31]) [0, 1, 2] (by decide) [SX.row (.slice s1.A s1.n s1.c) 74 1 (encSl vs), SX.row (.slice z.A z.n z.c) 76 3 (encS3 (cur (inS l) b i)), holeA w0.heap.size l vs x1.toNat] rfl
      exact ⟨s1, rfl, shutFn' hz (by omega) (by rw [← hcur]; exact hS202)⟩
  ·
    have ha203 : Has 50 [(1, .int .i64 x1), (2, .pointer (some ⟨b5, 0, none⟩)), (4, .pointer (some ⟨b11, 0, none⟩)), (5, .bool false), (12, .bool true)] a27 := by have hh : Has 50 [(1, .int .i64 x1), (2, .pointer (some ⟨b5, 0, none⟩)), (4, .pointer (some ⟨b11, 0, none⟩)), (5, .bool false), (12, .bool (!(okF l x1)))] a27 := ha29.keeps [1, 2, 4, 5, 12] _ rfl; simp only [c30, Bool.not_true, Bool.not_false] at hh; exact hh
    refine c_true ha203 rfl rfl ?_
    refine wp_seq ?_
    refine p_begin ?_
    refine p_val (v := .agg #[.slice none 0 0]) ha203 (by decide) (v_pure ha203 (At.here (by kernel_rfl : ((regOf Try.f28 2)[0]?).map spec = some ((Op.build 31 #[]), some 13, 31, none))) (by kernel_rfl) (fun _ => by kernel_rfl)) (fun a204 ha205 => ?_)
    refine p_op (o_storeAgg (vs := [.slice none 0 0]) (cs := [.slice none 0 0]) (cs' := [.slice none 0 0]) 0 ha205 (At.here (by kernel_rfl : ((regOf Try.f28 2)[1]?).map spec = some ((Op.store 31 (Operand.tmp 4) (Operand.tmp 13)), none, 0, none))) rfl rfl rfl (by kernel_rfl) hS23 rfl (by simp) rfl (fun w208 a206 (hS209 : Sat w0 w208 ((SX.blk b11 [.slice none 0 0] 31) :: (SX.blk b5 [.slice s0.A s0.n s0.c] 31) :: [])) ha207 => ?_))
    refine p_val (v := .bool false) ha207 (by decide) (v_pure ha207 (At.here (by kernel_rfl : ((regOf Try.f28 2)[2]?).map spec = some ((Op.assign (Operand.const (Value.bool false))), some 5, 4, none))) (by kernel_rfl) (fun _ => by kernel_rfl)) (fun a210 ha211 => ?_)
    refine p_end ?_
    have ha212 := ha211.keeps [1, 2, 4, 5] [(1, .int .i64 x1), (2, .pointer (some ⟨b5, 0, none⟩)), (4, .pointer (some ⟨b11, 0, none⟩)), (5, .bool false)] rfl
    clear ha211 ha207 a206 hS23 ha205 a204 ha203 a27 ha29
    refine then_n ?_
    refine wp_ret ?_
    refine then_r ?_
    refine end_res2 ha212 (by kernel_rfl) (resC (t := 4) (ty := 31) (i := 0) (cs := [.slice none 0 0]) ha212 rfl hS209 rfl (by kernel_rfl)) (resT (t := 5) ha212 rfl) ?_
    have hd : inlineP l x1 = ([], false) := by unfold inlineP; rw [if_neg (by rw [c30]; decide)]
    have hS213 : Sat w0 w208 ([]) := hS209.pickR (l := [SX.blk b11 [.slice none 0 0] 31, SX.blk b5 [.slice s0.A s0.n s0.c] 31]) [] (by decide) [] rfl
    rw [hd]
    exact ⟨⟨none, 0, 0⟩, rfl, nilPrg hS213⟩
end Go.Proofs.Ytmeejdeafmgdnaa.G
end
section
namespace Go.Proofs.Ytmeejdeafmgdnaa.G
open Go.RowKit Go.Proofs.Ytmeejdeafmgdnaa.SX Go.Proofs.YtmeejdeafmgdnaaW.PrintWords Go.Proofs.YtmeejdeafmgdnaaW.PrintLast Go.Proofs.YtmeejdeafmgdnaaW.PrintMore
set_option linter.unusedVariables false
set_option linter.unusedSimpArgs false
theorem rdL_at {l : List (List ST)} {f : Int} {b : List ST} (h0 : 0 ≤ f) (hb : l[f.toNat]? = some b) : rd_L4 l f = b := by simp [rd_L4, List.getD, hb]
theorem rdL_set {l : List (List ST)} {f : Int} {b c : List ST} (h0 : 0 ≤ f) (hb : l[f.toNat]? = some b) : rd_L4 (l.set f.toNat c) f = c := rdL_at h0 (by rw [List.getElem?_set_self (List.getElem?_eq_some_iff.1 hb).1])
theorem rdT_at {l : List ST} {i : Nat} {x : ST} (h : l[i]? = some x) : rd_T76 l (i : Int) = x := by simp [rd_T76, List.getD, h]
theorem l2Own_l0 (l : List (List ST)) (hl : l.length ≤ 1048576) (hb : ∀ b ∈ l, b.length ≤ 1048576) : ∀ d i, i + d = l.length → ∀ k, d < k → spec_l2Own.l0 k (i : Int) l (l.take i) = some l := by
  intro d
  induction d with
  | zero =>
    intro i hi k hk
    obtain ⟨k, rfl⟩ : ∃ m, k = m + 1 := ⟨k - 1, by omega⟩
    have : i = l.length := by omega
    subst this
    simp only [spec_l2Own.l0]
    rw [if_neg (by omega), List.take_length]
  | succ d ih =>
    intro i hi k hk
    obtain ⟨k, rfl⟩ : ∃ m, k = m + 1 := ⟨k - 1, by omega⟩
    have hlt : i < l.length := by omega
    have hrd : rd_L4 l (i : Int) = l[i] := by simp [rd_L4, List.getD, hlt]
    simp only [spec_l2Own.l0, hrd, Option.bind_some, List.nil_append]
    rw [if_pos (by omega), if_pos (by omega), if_pos (by have := hb _ (List.getElem_mem hlt); simp; omega)]
    rw [if_pos (by rw [List.length_take]; omega), w64b (by omega) (by omega), show ((i : Int) + 1) = ((i + 1 : Nat) : Int) from rfl]
    have := ih (i + 1) (by omega) k (by omega)
    rw [List.take_add_one, List.getElem?_eq_getElem hlt] at this
    exact this
theorem l2Own_f (l : List (List ST)) (hf : Fits l) (k : Nat) (hk : l.length < k) : spec_l2Own.f k l = some l := by
  have := l2Own_l0 l hf.len hf.each l.length 0 (by omega) k hk
  unfold spec_l2Own.f
  simpa using this
theorem tot_set {α : Type} {l : List (List α)} {f : Nat} {b c : List α} (hb : l[f]? = some b) (hc : c.length ≤ b.length) : tot (l.set f c) ≤ tot l := by
  induction l generalizing f with
  | nil => simp at hb
  | cons d l ih =>
    cases f with
    | zero => simp at hb; subst hb; simp [tot]; omega
    | succ f => simp at hb; have := ih hb; simp [tot]; omega
theorem nil_fits {α : Type} : Fits ([] : List (List α)) := ⟨by simp, by simp [tot]⟩
section
variable {w0 w : World} {Rs : List Asn} {s : Sl} {l : List (List ST)} {f : Int}
end
end Go.Proofs.Ytmeejdeafmgdnaa.G
end
section
namespace Go.Proofs.Ytmeejdeafmgdnaa.G
open Go.RowKit Go.Proofs.YtmeejdeafmgdnaaW.PrintWords Go.Proofs.YtmeejdeafmgdnaaW.PrintLast Go.Proofs.YtmeejdeafmgdnaaW.PrintMore
set_option linter.unusedVariables false
set_option linter.unusedSimpArgs false
mutual
def spec_InlineEmpty.j0 : Nat → Int → Bool → List (List (S76)) → Option ((List (List (S76))) × Bool)
  | 0, _, _, _ => none
  | k + 1, x1, x17, x316000 => if x17 = true then (some (([] : List (List (S76))), false)) else ((spec_l2Own.f k x316000).bind fun t319 => (spec_InlineEmpty.l0 k x1 0 x316000 t319))
def spec_InlineEmpty.l0 : Nat → Int → Int → List (List (S76)) → List (List (S76)) → Option ((List (List (S76))) × Bool)
  | 0, _, _, _, _ => none
  | k + 1, x1, x7, x316000, x323000 => if 0 ≤ x1 then (if x1 < (x316000.length : Int) then (if x7 < ((rd_L4 x316000 x1).length : Int) then (if 0 ≤ x7 then (if ((rd_T76 (rd_L4 x316000 x1) x7).f0) = 4 then (if 0 ≤ ((rd_T76 (rd_L4 x316000 x1) x7).f1) then (if ((rd_T76 (rd_L4 x316000 x1) x7).f1) < (x316000.length : Int) then (if ((rd_L4 x316000 ((rd_T76 (rd_L4 x316000 x1) x7).f1)).length : Int) = 0 then (if x1 < (x323000.length : Int) then (if x7 < ((rd_L4 x323000 x1).length : Int) then (spec_InlineEmpty.l0 k x1 (wrap64 (x7 + 1)) x316000 (x323000.set (x1 : Int).toNat ((rd_L4 x323000 x1).set (x7 : Int).toNat (⟨1, 2, 0⟩ : S76)))) else (none)) else (none)) else (spec_InlineEmpty.l0 k x1 (wrap64 (x7 + 1)) x316000 x323000)) else (none)) else (none)) else (spec_InlineEmpty.l0 k x1 (wrap64 (x7 + 1)) x316000 x323000)) else (none)) else (some (x323000, true))) else (none)) else (none)
end
def spec_InlineEmpty.f (k : Nat) (l0_0 : List (List (S76))) (a1 : Int) : Option ((List (List (S76))) × Bool) := (spec_l2Program.f k l0_0).bind fun t317 => (if t317 = true then ((spec_l2Function.f l0_0 a1).bind fun t318 => (spec_InlineEmpty.j0 k a1 (!t318) l0_0)) else (spec_InlineEmpty.j0 k a1 true l0_0))
set_option maxHeartbeats 8000000 in
set_option maxRecDepth 100000 in
theorem spec_InlineEmpty.calls (k : Nat) (A0_0 : Option Addr) (c0_0 : Nat) (l0_0 : List (List (S76))) (a1 : Int) (r1 : List (List (S76))) (r2 : Bool) (w : World) (hr0_0 : Kd.C (Kd.slice 76 k76) w A0_0 l0_0.length l0_0) (hc0_0 : l0_0.length ≤ c0_0) (h : spec_InlineEmpty.f k l0_0 a1 = some (r1, r2)) :
    Calls Try.prog 27 #[.agg #[.slice A0_0 l0_0.length c0_0], .int .i64 a1] w fun e w' => ∃ v0_ : Value, e = .returned (.tuple #[.agg #[v0_], .bool r2]) ∧ Kd.S (Kd.slice 76 k76) 74 w' w.heap.size (fun _ => True) v0_ r1 ∧ Below w.heap.size w w' := by
  have hu31 := Try.underlying31
  have hu76 := Try.underlying76
  have HR0_0 := Aside0.mk hr0_0
  have HC0_0 := Aside0.mk hc0_0
  clear hr0_0 hc0_0
  have HB := Aside0.mk (Below.refl w.heap.size w)
  have H : ((spec_l2Program.f k l0_0).bind fun t317 => (if t317 = true then ((spec_l2Function.f l0_0 a1).bind fun t318 => (spec_InlineEmpty.j0 k a1 (!t318) l0_0)) else (spec_InlineEmpty.j0 k a1 true l0_0))) = some (r1, r2) := h
  clear h
  have HC3 := Aside0.mk H
  clear H
  go_enter Try.func27, Try.ntmps27
  go_upto_region 1 with (first | ((with_reducible refine gate_dst (N := 2) rfl ?_); (try (refine gate_guard (by rfl) ?_; dsimp only)); refine box_event ?hg (N := 2) ?hd (cs := #[.slice A0_0 l0_0.length c0_0]) (t := 31) ?hr ?_; (case hd => rfl); (case hg => rfl); (case hr => first | (go_simp; done) | (go_simp; rfl)); intro gb315 hg w4 hbox hb; have n0_ := Aside0.mk (below_step (by repeat (first | (with_reducible first | exact HB.out | apply below_alloc | apply pw_below_drewN | apply below_drew1) | exact HB.out)) hb); have n1_ := Aside0.mk (hbox); have n2_ := Aside0.mk ((by rw [hg]; exact (below_size (by repeat (first | (with_reducible first | exact HB.out | apply below_alloc | apply pw_below_drewN | apply below_drew1) | exact HB.out))) : w.heap.size ≤ gb315)); have n3_ := Aside0.mk ((by rw [hg]; exact (below_size (by repeat (first | (with_reducible first | exact HB.out | apply below_alloc | apply pw_below_drewN | apply below_drew1) | exact HB.out))) : w.heap.size ≤ gb315)); clear HB; have HB := n0_; have BK315 := n1_; have GW315 := n2_; have GE315 := n3_; clear n0_ n1_ n2_ n3_; clear hb hbox hg) | ((with_reducible refine gate_dst (N := 4) rfl ?_); (try (refine gate_guard (by rfl) ?_; dsimp only)); refine box_event ?hg (N := 4) ?hd (cs := #[.slice none 0 0]) (t := 31) ?hr ?_; (case hd => rfl); (case hg => rfl); (case hr => first | (go_simp; done) | (go_simp; rfl)); intro gb316 hg w5 hbox hb; have n0_ := Aside0.mk (blk_below (g := gb315) (o := .cells #[.slice A0_0 l0_0.length c0_0] 31 (0, 0)) (by (with_reducible repeat (first | refine blk_drewN ?_ _ | refine blk_drew ?_ | refine blk_alloc ?_ _)); exact BK315.out) hb); have n1_ := Aside0.mk (below_step (by repeat (first | (with_reducible first | exact HB.out | apply below_alloc | apply pw_below_drewN | apply below_drew1 | refine below_set ?_ GE315.out) | exact HB.out)) hb); have n2_ := Aside0.mk (hbox); have n3_ := Aside0.mk ((by rw [hg]; exact (below_size (by repeat (first | (with_reducible first | exact HB.out | apply below_alloc | apply pw_below_drewN | apply below_drew1 | refine below_set ?_ GE315.out) | exact HB.out))) : w.heap.size ≤ gb316)); have n4_ := Aside0.mk ((by rw [hg]; exact (below_size (by repeat (first | (with_reducible first | exact HB.out | apply below_alloc | apply pw_below_drewN | apply below_drew1 | refine below_set ?_ GE315.out) | exact HB.out))) : w.heap.size ≤ gb316)); have n5_ := Aside0.mk ((by rw [hg]; exact Nat.ne_of_lt (blk_lt (g := gb315) (o := .cells #[.slice A0_0 l0_0.length c0_0] 31 (0, 0)) (by (with_reducible repeat (first | refine blk_drewN ?_ _ | refine blk_drew ?_ | refine blk_alloc ?_ _)); exact BK315.out)) : gb315 ≠ gb316)); have n6_ := Aside0.mk ((by rw [hg]; exact Nat.ne_of_gt (blk_lt (g := gb315) (o := .cells #[.slice A0_0 l0_0.length c0_0] 31 (0, 0)) (by (with_reducible repeat (first | refine blk_drewN ?_ _ | refine blk_drew ?_ | refine blk_alloc ?_ _)); exact BK315.out)) : gb316 ≠ gb315)); clear BK315; clear HB; have BK315 := n0_; have HB := n1_; have BK316 := n2_; have GW316 := n3_; have GE316 := n4_; have NB315_316 := n5_; have NB316_315 := n6_; clear n0_ n1_ n2_ n3_ n4_ n5_ n6_; clear hb hbox hg))
  (try simp only [Act.put, List.setIfInBounds_toArray, List.set_cons_zero, List.set_cons_succ])
  go_cut [17] (fun v17 wc => ∃ (kq : Nat) (x17_2 : Bool), v17 = .bool x17_2 ∧ Aside0 (spec_InlineEmpty.j0 kq a1 x17_2 l0_0 = some (r1, r2)) ∧ Aside0 (kq ≤ k) ∧ Aside0 (wc.heap[gb315]? = some (.cells #[(.slice A0_0 l0_0.length c0_0)] 31 (0, 0))) ∧ Aside0 (wc.heap[gb316]? = some (.cells #[(.slice none 0 0)] 31 (0, 0))) ∧ Aside0 (Below w.heap.size w wc))
  case first =>
    have H := HC3.out
    clear HC3
    replace H := Option.bind_eq_some_iff.mp H
    obtain ⟨t317, A60, H⟩ := H
    replace H : (if t317 = true then ((spec_l2Function.f l0_0 a1).bind fun t318 => (spec_InlineEmpty.j0 k a1 (!t318) l0_0)) else (spec_InlineEmpty.j0 k a1 true l0_0)) = some (r1, r2) := H
    have A6 := Aside0.mk A60
    clear A60
    by_cases c7 : t317 = true
    · subst c7
      have H1 : ((spec_l2Function.f l0_0 a1).bind fun t318 => (spec_InlineEmpty.j0 k a1 (!t318) l0_0)) = some (r1, r2) := by rw [if_pos rfl] at H; exact H
      clear H
      have H := H1
      clear H1
      replace H := Option.bind_eq_some_iff.mp H
      obtain ⟨t318, A80, H⟩ := H
      replace H : (spec_InlineEmpty.j0 k a1 (!t318) l0_0) = some (r1, r2) := H
      have A8 := Aside0.mk A80
      clear A80
      have H' := Aside0.mk H
      clear H
      have hnb9 := NB315_316.out
      have hnc9 := NB316_315.out
      have hcz10_0 : w5.cell? ⟨gb315, 0, none⟩ = some (.slice A0_0 l0_0.length c0_0) := (blk_cell BK315.out 0).trans rfl
      have hfz10_0 := blk_frozen BK315.out 0
      go_wp2_with (first | ((with_reducible refine gate_callee (f := 58) rfl ?_); refine goesL_ (some 10) rfl rfl Try.func58 (by kernel_rfl) rfl #[.agg #[.slice A0_0 l0_0.length c0_0]] rfl (by (try simp only [List.map_toArray, List.map_cons, List.map_nil]); first | done | rfl | (simp only [List.length_drop, List.length_take]; rfl)) ?_; (with_reducible refine (spec_l2Program.calls k _ _ l0_0 true _ ?side1 ?side2 A6.out).mono ?_); (case side1 => repeat (first | exact (Kd.C_below HR0_0.out HB.out) | (with_reducible refine Kd.C_alloc ?_ _) | (with_reducible refine Kd.C_drewN ?_ _) | (with_reducible refine Kd.C_drew ?_))); (case side2 => exact HC0_0.out); rintro e w11 ⟨rfl, hb⟩; refine ⟨_, rfl, ?_⟩; have n0_ := Aside0.mk (blk_below (g := gb315) (o := .cells #[.slice A0_0 l0_0.length c0_0] 31 (0, 0)) (by (with_reducible repeat (first | refine blk_drewN ?_ _ | refine blk_drew ?_ | refine blk_alloc ?_ _)); exact BK315.out) hb); have n1_ := Aside0.mk (blk_below (g := gb316) (o := .cells #[.slice none 0 0] 31 (0, 0)) (by (with_reducible repeat (first | refine blk_drewN ?_ _ | refine blk_drew ?_ | refine blk_alloc ?_ _)); exact BK316.out) hb); have n2_ := Aside0.mk (below_step (by repeat (first | (with_reducible first | exact HB.out | apply below_alloc | apply pw_below_drewN | apply below_drew1 | refine below_set ?_ GE315.out | refine below_set ?_ GE316.out) | exact HB.out)) hb); clear BK315; clear BK316; clear HB; have BK315 := n0_; have BK316 := n1_; have HB := n2_; clear n0_ n1_ n2_; (try clear hb); (try clear hb2); (try clear hk); (try clear hi); have hcz12_0 : w11.cell? ⟨gb315, 0, none⟩ = some (.slice A0_0 l0_0.length c0_0) := (blk_cell BK315.out 0).trans rfl; have hfz12_0 := blk_frozen BK315.out 0) | (go_at_call 59; (with_reducible refine (spec_l2Function.calls _ _ l0_0 a1 t318 _ ?side1 ?side2 A8.out).mono ?_); (case side1 => repeat (first | exact (Kd.C_below HR0_0.out HB.out) | (with_reducible refine Kd.C_alloc ?_ _) | (with_reducible refine Kd.C_drewN ?_ _) | (with_reducible refine Kd.C_drew ?_))); (case side2 => exact HC0_0.out); rintro e w13 ⟨rfl, hb⟩; have n0_ := Aside0.mk (blk_below (g := gb315) (o := .cells #[.slice A0_0 l0_0.length c0_0] 31 (0, 0)) (by (with_reducible repeat (first | refine blk_drewN ?_ _ | refine blk_drew ?_ | refine blk_alloc ?_ _)); exact BK315.out) hb); have n1_ := Aside0.mk (blk_below (g := gb316) (o := .cells #[.slice none 0 0] 31 (0, 0)) (by (with_reducible repeat (first | refine blk_drewN ?_ _ | refine blk_drew ?_ | refine blk_alloc ?_ _)); exact BK316.out) hb); have n2_ := Aside0.mk (below_step (by repeat (first | (with_reducible first | exact HB.out | apply below_alloc | apply pw_below_drewN | apply below_drew1 | refine below_set ?_ GE315.out | refine below_set ?_ GE316.out) | exact HB.out)) hb); clear BK315; clear BK316; clear HB; have BK315 := n0_; have BK316 := n1_; have HB := n2_; clear n0_ n1_ n2_; (try clear hb); (try clear hb2); (try clear hk); (try clear hi)))
      go_meet
      case rel => exact ⟨_, (!t318), (by first | rfl | (simp; done) | (simp [*]; done)), H', ⟨by first | omega | exact Nat.le_refl _⟩, ⟨by (with_reducible repeat (first | refine blk_drewN ?_ _ | refine blk_drew ?_ | refine blk_alloc ?_ _)); exact BK315.out⟩, ⟨by (with_reducible repeat (first | refine blk_drewN ?_ _ | refine blk_drew ?_ | refine blk_alloc ?_ _)); exact BK316.out⟩, ⟨by repeat (first | (with_reducible first | exact HB.out | apply below_alloc | apply pw_below_drewN | apply below_drew1 | refine below_set ?_ GE315.out | refine below_set ?_ GE316.out) | exact HB.out)⟩⟩
    · replace c7 := Bool.eq_false_iff.mpr c7
      subst c7
      have H1 : (spec_InlineEmpty.j0 k a1 true l0_0) = some (r1, r2) := by rw [if_neg (show ¬ (false = true) by decide)] at H; exact H
      clear H
      have H := H1
      clear H1
      have H' := Aside0.mk H
      clear H
      have hnb14 := NB315_316.out
      have hnc14 := NB316_315.out
      have hcz15_0 : w5.cell? ⟨gb315, 0, none⟩ = some (.slice A0_0 l0_0.length c0_0) := (blk_cell BK315.out 0).trans rfl
      have hfz15_0 := blk_frozen BK315.out 0
      go_wp2_with (first | ((with_reducible refine gate_callee (f := 58) rfl ?_); refine goesL_ (some 10) rfl rfl Try.func58 (by kernel_rfl) rfl #[.agg #[.slice A0_0 l0_0.length c0_0]] rfl (by (try simp only [List.map_toArray, List.map_cons, List.map_nil]); first | done | rfl | (simp only [List.length_drop, List.length_take]; rfl)) ?_; (with_reducible refine (spec_l2Program.calls k _ _ l0_0 false _ ?side1 ?side2 A6.out).mono ?_); (case side1 => repeat (first | exact (Kd.C_below HR0_0.out HB.out) | (with_reducible refine Kd.C_alloc ?_ _) | (with_reducible refine Kd.C_drewN ?_ _) | (with_reducible refine Kd.C_drew ?_))); (case side2 => exact HC0_0.out); rintro e w16 ⟨rfl, hb⟩; refine ⟨_, rfl, ?_⟩; have n0_ := Aside0.mk (blk_below (g := gb315) (o := .cells #[.slice A0_0 l0_0.length c0_0] 31 (0, 0)) (by (with_reducible repeat (first | refine blk_drewN ?_ _ | refine blk_drew ?_ | refine blk_alloc ?_ _)); exact BK315.out) hb); have n1_ := Aside0.mk (blk_below (g := gb316) (o := .cells #[.slice none 0 0] 31 (0, 0)) (by (with_reducible repeat (first | refine blk_drewN ?_ _ | refine blk_drew ?_ | refine blk_alloc ?_ _)); exact BK316.out) hb); have n2_ := Aside0.mk (below_step (by repeat (first | (with_reducible first | exact HB.out | apply below_alloc | apply pw_below_drewN | apply below_drew1 | refine below_set ?_ GE315.out | refine below_set ?_ GE316.out) | exact HB.out)) hb); clear BK315; clear BK316; clear HB; have BK315 := n0_; have BK316 := n1_; have HB := n2_; clear n0_ n1_ n2_; (try clear hb); (try clear hb2); (try clear hk); (try clear hi)))
      go_meet
      case rel => exact ⟨_, (true), (by first | rfl | (simp; done) | (simp [*]; done)), H', ⟨by first | omega | exact Nat.le_refl _⟩, ⟨by (with_reducible repeat (first | refine blk_drewN ?_ _ | refine blk_drew ?_ | refine blk_alloc ?_ _)); exact BK315.out⟩, ⟨by (with_reducible repeat (first | refine blk_drewN ?_ _ | refine blk_drew ?_ | refine blk_alloc ?_ _)); exact BK316.out⟩, ⟨by repeat (first | (with_reducible first | exact HB.out | apply below_alloc | apply pw_below_drewN | apply below_drew1 | refine below_set ?_ GE315.out | refine below_set ?_ GE316.out) | exact HB.out)⟩⟩
  case rest =>
    clear HC3
    try clear c1
    try clear c2
    try clear p2
    try clear c5
    try clear c7
    try clear c9
    try clear c14
    try clear hcz10_0
    try clear hcz12_0
    try clear hcz15_0
    try clear hfz10_0
    try clear hfz12_0
    try clear hfz15_0
    obtain ⟨kq, x17_2, rfl, HA, HJ2, BK315, BK316, HB⟩ := hcut
    cases kq with
    | zero => exact absurd HA.out (by simp [spec_InlineEmpty.j0])
    | succ kj2 =>
      have H := HA.out
      clear HA
      simp only [spec_InlineEmpty.j0] at H
      by_cases c17 : x17_2 = true
      · subst c17
        have H1 : (some (([] : List (List (S76))), false)) = some (r1, r2) := by rw [if_pos rfl] at H; exact H
        clear H
        have H := H1
        clear H1
        simp only [Option.some.injEq, Prod.mk.injEq] at H
        obtain ⟨rfl, rfl⟩ := H
        have hnb18 := NB316_315.out
        have hnc18 := NB315_316.out
        have hcz19_0 : wc.cell? ⟨gb316, 0, none⟩ = some (.slice none 0 0) := (blk_cell BK316.out 0).trans rfl
        have hfz19_0 := blk_frozen BK316.out 0
        go_wp2
        refine bodyPost_ret (results_ct rfl _ _ gb316 31 #[.slice none 0 0] (0, 0) _ rfl (by (with_reducible repeat (first | refine blk_drewN ?_ _ | refine blk_drew ?_ | refine blk_alloc ?_ _)); refine blk_put (cs := #[.slice none 0 0]) ?_ 0 _ rfl; (with_reducible repeat (first | refine blk_drewN ?_ _ | refine blk_drew ?_ | refine blk_alloc ?_ _)); exact BK316.out) Try.underlying31 rfl (by kernel_rfl)) rfl ?_
        exact ⟨_, by first | rfl | (simp [errW_none, errW_some] <;> rfl) | (simp [*, errW_none, errW_some] <;> rfl), by first | exact Kd.S_nil _ _ _ _ _ | exact Kd.N_nil _ _ _ _ _ | exact Kd.V_nil _ _ _ _ _ | exact Kd.Q_nil _ _ _ _ _ | exact Kd.R_nil _ _ _ _ _, by repeat (first | (with_reducible first | exact HB.out | apply below_alloc | apply pw_below_drewN | apply below_drew1 | refine below_set ?_ GE315.out | refine below_set ?_ GE316.out) | exact HB.out)⟩
      · replace c17 := Bool.eq_false_iff.mpr c17
        subst c17
        have H1 : ((spec_l2Own.f kj2 l0_0).bind fun t319 => (spec_InlineEmpty.l0 kj2 a1 0 l0_0 t319)) = some (r1, r2) := by rw [if_neg (show ¬ (false = true) by decide)] at H; exact H
        clear H
        have H := H1
        clear H1
        replace H := Option.bind_eq_some_iff.mp H
        obtain ⟨t319, A200, H⟩ := H
        replace H : (spec_InlineEmpty.l0 kj2 a1 0 l0_0 t319) = some (r1, r2) := H
        have A20 := Aside0.mk A200
        clear A200
        have H' := Aside0.mk H
        clear H
        have hnb21 := NB315_316.out
        have hnc21 := NB316_315.out
        have hcz22_0 : wc.cell? ⟨gb315, 0, none⟩ = some (.slice A0_0 l0_0.length c0_0) := (blk_cell BK315.out 0).trans rfl
        have hfz22_0 := blk_frozen BK315.out 0
        go_wp2_with (first | ((with_reducible refine gate_callee (f := 60) rfl ?_); refine goesL_ (some 20) rfl rfl Try.func60 (by kernel_rfl) rfl #[.agg #[.slice A0_0 l0_0.length c0_0]] rfl (by (try simp only [List.map_toArray, List.map_cons, List.map_nil]); first | done | rfl | (simp only [List.length_drop, List.length_take]; rfl)) ?_; (with_reducible refine (spec_l2Own.calls kj2 _ _ l0_0 t319 _ ?side1 ?side2 A20.out).mono ?_); (case side1 => repeat (first | exact (Kd.C_below HR0_0.out HB.out) | (with_reducible refine Kd.C_alloc ?_ _) | (with_reducible refine Kd.C_drewN ?_ _) | (with_reducible refine Kd.C_drew ?_))); (case side2 => exact HC0_0.out); rintro e w23 ⟨v320, rfl, ho0, hb⟩; refine ⟨_, rfl, ?_⟩; have n0_ := Aside0.mk (Kd.S_lower ho0 (below_size (by repeat (first | (with_reducible first | exact HB.out | apply below_alloc | apply pw_below_drewN | apply below_drew1 | refine below_set ?_ GE315.out | refine below_set ?_ GE316.out) | exact HB.out)))); have n1_ := Aside0.mk (blk_below (g := gb315) (o := .cells #[.slice A0_0 l0_0.length c0_0] 31 (0, 0)) (by (with_reducible repeat (first | refine blk_drewN ?_ _ | refine blk_drew ?_ | refine blk_alloc ?_ _)); exact BK315.out) hb); have n2_ := Aside0.mk (blk_below (g := gb316) (o := .cells #[.slice none 0 0] 31 (0, 0)) (by (with_reducible repeat (first | refine blk_drewN ?_ _ | refine blk_drew ?_ | refine blk_alloc ?_ _)); exact BK316.out) hb); have n3_ := Aside0.mk (below_step (by repeat (first | (with_reducible first | exact HB.out | apply below_alloc | apply pw_below_drewN | apply below_drew1 | refine below_set ?_ GE315.out | refine below_set ?_ GE316.out) | exact HB.out)) hb); clear BK315; clear BK316; clear HB; have HO321 := n0_; have BK315 := n1_; have BK316 := n2_; have HB := n3_; clear n0_ n1_ n2_ n3_; (try clear hb); (try clear hb2); (try clear hk); (try clear hi); (try clear ho0)) | ((with_reducible refine gate_dst (N := 6) rfl ?_); (try (refine gate_guard (by rfl) ?_; dsimp only)); refine box_event ?hg (N := 6) ?hd (cs := #[.slice none 0 0]) (t := 31) ?hr ?_; (case hd => rfl); (case hg => rfl); (case hr => first | (go_simp; done) | (go_simp; rfl)); intro gb322 hg w24 hbox hb; have n0_ := Aside0.mk (Kd.S_below (by (with_reducible repeat (first | apply Kd.S_alloc | apply Kd.S_drewN | apply Kd.S_drew)); exact HO321.out) hb); have n1_ := Aside0.mk (blk_below (g := gb315) (o := .cells #[.slice A0_0 l0_0.length c0_0] 31 (0, 0)) (by (with_reducible repeat (first | refine blk_drewN ?_ _ | refine blk_drew ?_ | refine blk_alloc ?_ _)); exact BK315.out) hb); have n2_ := Aside0.mk (blk_below (g := gb316) (o := .cells #[.slice none 0 0] 31 (0, 0)) (by (with_reducible repeat (first | refine blk_drewN ?_ _ | refine blk_drew ?_ | refine blk_alloc ?_ _)); exact BK316.out) hb); have n3_ := Aside0.mk (below_step (by repeat (first | (with_reducible first | exact HB.out | apply below_alloc | apply pw_below_drewN | apply below_drew1 | refine below_set ?_ GE315.out | refine below_set ?_ GE316.out) | exact HB.out)) hb); have n4_ := Aside0.mk (hbox); have n5_ := Aside0.mk ((by rw [hg]; exact (below_size (by repeat (first | (with_reducible first | exact HB.out | apply below_alloc | apply pw_below_drewN | apply below_drew1 | refine below_set ?_ GE315.out | refine below_set ?_ GE316.out) | exact HB.out))) : w.heap.size ≤ gb322)); have n6_ := Aside0.mk ((by rw [hg]; exact (below_size (by repeat (first | (with_reducible first | exact HB.out | apply below_alloc | apply pw_below_drewN | apply below_drew1 | refine below_set ?_ GE315.out | refine below_set ?_ GE316.out) | exact HB.out))) : w.heap.size ≤ gb322)); have n7_ := Aside0.mk ((by rw [hg]; exact Nat.ne_of_lt (blk_lt (g := gb315) (o := .cells #[.slice A0_0 l0_0.length c0_0] 31 (0, 0)) (by (with_reducible repeat (first | refine blk_drewN ?_ _ | refine blk_drew ?_ | refine blk_alloc ?_ _)); exact BK315.out)) : gb315 ≠ gb322)); have n8_ := Aside0.mk ((by rw [hg]; exact Nat.ne_of_gt (blk_lt (g := gb315) (o := .cells #[.slice A0_0 l0_0.length c0_0] 31 (0, 0)) (by (with_reducible repeat (first | refine blk_drewN ?_ _ | refine blk_drew ?_ | refine blk_alloc ?_ _)); exact BK315.out)) : gb322 ≠ gb315)); have n9_ := Aside0.mk ((by rw [hg]; exact Nat.ne_of_lt (blk_lt (g := gb316) (o := .cells #[.slice none 0 0] 31 (0, 0)) (by (with_reducible repeat (first | refine blk_drewN ?_ _ | refine blk_drew ?_ | refine blk_alloc ?_ _)); exact BK316.out)) : gb316 ≠ gb322)); have n10_ := Aside0.mk ((by rw [hg]; exact Nat.ne_of_gt (blk_lt (g := gb316) (o := .cells #[.slice none 0 0] 31 (0, 0)) (by (with_reducible repeat (first | refine blk_drewN ?_ _ | refine blk_drew ?_ | refine blk_alloc ?_ _)); exact BK316.out)) : gb322 ≠ gb316)); clear HO321; clear BK315; clear BK316; clear HB; have HO321 := n0_; have BK315 := n1_; have BK316 := n2_; have HB := n3_; have BK322 := n4_; have GW322 := n5_; have GE322 := n6_; have NB315_322 := n7_; have NB322_315 := n8_; have NB316_322 := n9_; have NB322_316 := n10_; clear n0_ n1_ n2_ n3_ n4_ n5_ n6_ n7_ n8_ n9_ n10_; clear hb hbox hg; obtain ⟨Ao25, co25, eo25⟩ := Kd.S_slice HO321.out; subst eo25; have hnb26 := NB322_315.out; have hnc26 := NB315_322.out; have hnb27 := NB322_316.out; have hnc27 := NB316_322.out; have hcz28_0 : w24.cell? ⟨gb322, 0, none⟩ = some (.slice none 0 0) := (blk_cell BK322.out 0).trans rfl; have hfz28_0 := blk_frozen BK322.out 0))
        go_loopg [7] kj2 (fun kq v7 w' => ∃ (x7_2 : Int) (x323000_2 : List (List (S76))) (u323000 : Value), v7 = .int .i64 x7_2 ∧ Aside0 (spec_InlineEmpty.l0 kq a1 x7_2 l0_0 x323000_2 = some (r1, r2)) ∧ Aside0 (kq ≤ kj2) ∧ Aside0 (Kd.S (Kd.slice 76 k76) 74 w' w.heap.size (fun _ => True) u323000 x323000_2) ∧ Aside0 (w'.heap[gb315]? = some (.cells #[(.slice A0_0 l0_0.length c0_0)] 31 (0, 0))) ∧ Aside0 (w'.heap[gb316]? = some (.cells #[(.slice none 0 0)] 31 (0, 0))) ∧ Aside0 (w'.heap[gb322]? = some (.cells #[u323000] 31 (0, 0))) ∧ Aside0 (Below w.heap.size w w'))
        case atStart => exact ⟨(0), (t319), (.slice Ao25 t319.length co25), (by first | rfl | (simp; done) | (simp [*]; done)), H', ⟨Nat.le_refl _⟩, ⟨by (with_reducible repeat (first | apply Kd.S_alloc | apply Kd.S_drewN | apply Kd.S_drew)); exact Kd.S_mono (Kd.S_far (p := ⟨gb322, 0, none⟩) (Kd.S_types HO321.out BK322.out (by decide)) (fun _ hk => hk.2) (.slice Ao25 t319.length co25)) (fun _ hk => trivial)⟩, ⟨by (with_reducible repeat (first | refine blk_drewN ?_ _ | refine blk_drew ?_ | refine blk_alloc ?_ _)); refine blk_far ?_ NB315_322.out _; (with_reducible repeat (first | refine blk_drewN ?_ _ | refine blk_drew ?_ | refine blk_alloc ?_ _)); exact BK315.out⟩, ⟨by (with_reducible repeat (first | refine blk_drewN ?_ _ | refine blk_drew ?_ | refine blk_alloc ?_ _)); refine blk_far ?_ NB316_322.out _; (with_reducible repeat (first | refine blk_drewN ?_ _ | refine blk_drew ?_ | refine blk_alloc ?_ _)); exact BK316.out⟩, ⟨by (with_reducible repeat (first | refine blk_drewN ?_ _ | refine blk_drew ?_ | refine blk_alloc ?_ _)); refine blk_put (cs := #[.slice none 0 0]) ?_ 0 _ rfl; (with_reducible repeat (first | refine blk_drewN ?_ _ | refine blk_drew ?_ | refine blk_alloc ?_ _)); exact BK322.out⟩, ⟨by repeat (first | (with_reducible first | exact HB.out | apply below_alloc | apply pw_below_drewN | apply below_drew1 | refine below_set ?_ GE315.out | refine below_set ?_ GE316.out | refine below_set ?_ GE322.out) | exact HB.out)⟩⟩
        case round =>
          clear H'
          try clear c1
          try clear c2
          try clear p2
          try clear c5
          try clear c6
          try clear c7
          try clear c9
          try clear c14
          try clear c17
          try clear c18
          try clear c21
          try clear c26
          try clear c27
          try clear hcz10_0
          try clear hcz12_0
          try clear hcz15_0
          try clear hcz19_0
          try clear hcz22_0
          try clear hcz28_0
          try clear hfz10_0
          try clear hfz12_0
          try clear hfz15_0
          try clear hfz19_0
          try clear hfz22_0
          try clear hfz28_0
          try clear p2
          obtain ⟨x7_2, x323000_2, u323000, rfl, HA, HK2, HO_323000, BK315, BK316, BK322, HB⟩ := hrel
          cases gk with
          | zero => exact absurd HA.out (by simp [spec_InlineEmpty.l0])
          | succ k2 =>
            have H := HA.out
            clear HA
            simp only [spec_InlineEmpty.l0] at H
            by_cases c29 : 0 ≤ a1
            · rw [if_pos c29] at H
              have c29b0 : decide (0 ≤ a1) = true := decide_eq_true c29
              clear c29
              by_cases c30 : a1 < (l0_0.length : Int)
              · rw [if_pos c30] at H
                have c30b0 : decide (a1 < (l0_0.length : Int)) = true := decide_eq_true c30
                clear c30
                by_cases c31 : x7_2 < ((rd_L4 l0_0 a1).length : Int)
                · rw [if_pos c31] at H
                  have c31b0 : decide (x7_2 < ((rd_L4 l0_0 a1).length : Int)) = true := decide_eq_true c31
                  clear c31
                  by_cases c32 : 0 ≤ x7_2
                  · rw [if_pos c32] at H
                    have c32b0 : decide (0 ≤ x7_2) = true := decide_eq_true c32
                    clear c32
                    by_cases c33 : ((rd_T76 (rd_L4 l0_0 a1) x7_2).f0) = 4
                    · rw [if_pos c33] at H
                      have c33b0 : (((rd_T76 (rd_L4 l0_0 a1) x7_2).f0) == 4) = true := beq_iff_eq.mpr c33
                      have c33b1 : (((rd_T76 (rd_L4 l0_0 a1) x7_2).f0) != 4) = false := bne_eq_false_iff_eq.mpr c33
                      clear c33
                      by_cases c34 : 0 ≤ ((rd_T76 (rd_L4 l0_0 a1) x7_2).f1)
                      · rw [if_pos c34] at H
                        have c34b0 : decide (0 ≤ ((rd_T76 (rd_L4 l0_0 a1) x7_2).f1)) = true := decide_eq_true c34
                        clear c34
                        by_cases c35 : ((rd_T76 (rd_L4 l0_0 a1) x7_2).f1) < (l0_0.length : Int)
                        · rw [if_pos c35] at H
                          have c35b0 : decide (((rd_T76 (rd_L4 l0_0 a1) x7_2).f1) < (l0_0.length : Int)) = true := decide_eq_true c35
                          clear c35
                          by_cases c36 : ((rd_L4 l0_0 ((rd_T76 (rd_L4 l0_0 a1) x7_2).f1)).length : Int) = 0
                          · rw [if_pos c36] at H
                            have c36b0 : (((rd_L4 l0_0 ((rd_T76 (rd_L4 l0_0 a1) x7_2).f1)).length : Int) == 0) = true := beq_iff_eq.mpr c36
                            have c36b1 : (((rd_L4 l0_0 ((rd_T76 (rd_L4 l0_0 a1) x7_2).f1)).length : Int) != 0) = false := bne_eq_false_iff_eq.mpr c36
                            clear c36
                            by_cases c37 : a1 < (x323000_2.length : Int)
                            · rw [if_pos c37] at H
                              have c37b0 : decide (a1 < (x323000_2.length : Int)) = true := decide_eq_true c37
                              clear c37
                              by_cases c38 : x7_2 < ((rd_L4 x323000_2 a1).length : Int)
                              · rw [if_pos c38] at H
                                have c38b0 : decide (x7_2 < ((rd_L4 x323000_2 a1).length : Int)) = true := decide_eq_true c38
                                clear c38
                                obtain ⟨y329, hy329⟩ : ∃ y_ : List (S76), y_ = ((rd_L4 x323000_2 a1).set (x7_2 : Int).toNat (⟨1, 2, 0⟩ : S76)) := ⟨_, rfl⟩
                                replace H : (spec_InlineEmpty.l0 k2 a1 (wrap64 (x7_2 + 1)) l0_0 (x323000_2.set (a1 : Int).toNat y329)) = some (r1, r2) := by first | (rw [hy329]; with_reducible exact H) | (have H2_ := (Option.bind_some _ _).symm.trans H; rw [hy329]; with_reducible exact H2_) | (have H2_ := (Option.bind_some _ _).symm.trans H; with_reducible exact H2_) | with_reducible exact H | (rw [hy329]; exact H) | exact H
                                have Ny329 := Aside0.mk hy329
                                clear hy329
                                obtain ⟨y331, hy331⟩ : ∃ y_ : List (List (S76)), y_ = (x323000_2.set (a1 : Int).toNat y329) := ⟨_, rfl⟩
                                replace H : (spec_InlineEmpty.l0 k2 a1 (wrap64 (x7_2 + 1)) l0_0 y331) = some (r1, r2) := by first | (rw [hy331]; with_reducible exact H) | (have H2_ := (Option.bind_some _ _).symm.trans H; rw [hy331]; with_reducible exact H2_) | (have H2_ := (Option.bind_some _ _).symm.trans H; with_reducible exact H2_) | with_reducible exact H | (rw [hy331]; exact H) | exact H
                                have Ny331 := Aside0.mk hy331
                                clear hy331
                                have H' := Aside0.mk H
                                clear H
                                have hnb40 := NB315_316.out
                                have hnc40 := NB316_315.out
                                have hnb41 := NB315_322.out
                                have hnc41 := NB322_315.out
                                have hcz42_0 : wr.cell? ⟨gb315, 0, none⟩ = some (.slice A0_0 l0_0.length c0_0) := (blk_cell BK315.out 0).trans rfl
                                have hfz42_0 := blk_frozen BK315.out 0
                                have p323 : 0 ≤ (a1 : Int) := of_decide_eq_true (by first | (with_reducible assumption) | assumption)
                                have q323 : a1 < (l0_0.length : Int) := of_decide_eq_true (by first | (with_reducible assumption) | assumption)
                                obtain ⟨ad323, A323_0, c323_0, e323, hx323_0, hl323_0, hi323_0⟩ := at_L4 HR0_0.out a1 p323 q323
                                cases e323
                                replace hx323_0 := (HB.out.cell (World.block_lt_of_cell? w _ hx323_0)).trans hx323_0
                                have HR323_0 := Aside0.mk hi323_0
                                have HC323_0 := Aside0.mk hl323_0
                                clear hi323_0 hl323_0
                                replace p323 := eq_true p323
                                replace q323 := eq_true q323
                                have p324 : 0 ≤ (a1 : Int) := of_decide_eq_true (by first | (with_reducible assumption) | assumption)
                                have q324 : a1 < (l0_0.length : Int) := of_decide_eq_true (by first | (with_reducible assumption) | assumption)
                                obtain ⟨ad324, A324_0, c324_0, e324, hx324_0, hl324_0, hi324_0⟩ := at_L4 HR0_0.out a1 p324 q324
                                obtain rfl : ad323 = ad324 := (by injection e324)
                                replace hx324_0 := (HB.out.cell (World.block_lt_of_cell? w _ hx324_0)).trans hx324_0
                                have HR324_0 := Aside0.mk hi324_0
                                have HC324_0 := Aside0.mk hl324_0
                                clear hi324_0 hl324_0
                                replace p324 := eq_true p324
                                replace q324 := eq_true q324
                                have ea_ := Option.some.inj (hx323_0.symm.trans hx324_0)
                                injection ea_ with ea_ en_ ec_
                                subst ea_
                                subst ec_
                                clear en_
                                have p325 : 0 ≤ (x7_2 : Int) := of_decide_eq_true (by first | (with_reducible assumption) | assumption)
                                have q325 : x7_2 < ((rd_L4 l0_0 a1).length : Int) := of_decide_eq_true (by first | (with_reducible assumption) | assumption)
                                obtain ⟨ad325, e325, hx325_0, hx325_1, hx325_2⟩ := at_T76 HR324_0.out x7_2 p325 q325
                                cases e325
                                replace hx325_0 := (HB.out.cell (World.block_lt_of_cell? w _ hx325_0)).trans hx325_0
                                replace hx325_1 := (HB.out.cell (World.block_lt_of_cell? w _ hx325_1)).trans hx325_1
                                replace hx325_2 := (HB.out.cell (World.block_lt_of_cell? w _ hx325_2)).trans hx325_2
                                replace p325 := eq_true p325
                                replace q325 := eq_true q325
                                go_wp2_with (first | ((with_reducible refine gate_dst (N := 8) rfl ?_); (try (refine gate_guard (by rfl) ?_; dsimp only)); refine box_event ?hg (N := 8) ?hd (cs := #[.int .i64 0, .int .i64 0, .int .i64 0]) (t := 76) ?hr ?_; (case hd => rfl); (case hg => rfl); (case hr => first | (go_simp; done) | (go_simp; rfl)); intro gb326 hg w43 hbox hb; have n0_ := Aside0.mk (Kd.S_below (Kd.S_elderB (by (with_reducible repeat (first | apply Kd.S_alloc | apply Kd.S_drewN | apply Kd.S_drew)); exact HO_323000.out) gb326 (Nat.le_of_eq hg.symm)) hb); have n1_ := Aside0.mk (blk_below (g := gb315) (o := .cells #[.slice (some ad323) l0_0.length c0_0] 31 (0, 0)) (by (with_reducible repeat (first | refine blk_drewN ?_ _ | refine blk_drew ?_ | refine blk_alloc ?_ _)); exact BK315.out) hb); have n2_ := Aside0.mk (blk_below (g := gb316) (o := .cells #[.slice none 0 0] 31 (0, 0)) (by (with_reducible repeat (first | refine blk_drewN ?_ _ | refine blk_drew ?_ | refine blk_alloc ?_ _)); exact BK316.out) hb); have n3_ := Aside0.mk (blk_below (g := gb322) (o := .cells #[u323000] 31 (0, 0)) (by (with_reducible repeat (first | refine blk_drewN ?_ _ | refine blk_drew ?_ | refine blk_alloc ?_ _)); exact BK322.out) hb); have n4_ := Aside0.mk (below_step (by repeat (first | (with_reducible first | exact HB.out | apply below_alloc | apply pw_below_drewN | apply below_drew1 | refine below_set ?_ GE315.out | refine below_set ?_ GE316.out | refine below_set ?_ GE322.out) | exact HB.out)) hb); have n5_ := Aside0.mk (hbox); have n6_ := Aside0.mk ((by rw [hg]; exact (below_size (by repeat (first | (with_reducible first | exact HB.out | apply below_alloc | apply pw_below_drewN | apply below_drew1 | refine below_set ?_ GE315.out | refine below_set ?_ GE316.out | refine below_set ?_ GE322.out) | exact HB.out))) : w.heap.size ≤ gb326)); have n7_ := Aside0.mk ((by rw [hg]; exact (below_size (by repeat (first | (with_reducible first | exact HB.out | apply below_alloc | apply pw_below_drewN | apply below_drew1 | refine below_set ?_ GE315.out | refine below_set ?_ GE316.out | refine below_set ?_ GE322.out) | exact HB.out))) : w.heap.size ≤ gb326)); have n8_ := Aside0.mk ((by rw [hg]; exact Nat.ne_of_lt (blk_lt (g := gb315) (o := .cells #[.slice (some ad323) l0_0.length c0_0] 31 (0, 0)) (by (with_reducible repeat (first | refine blk_drewN ?_ _ | refine blk_drew ?_ | refine blk_alloc ?_ _)); exact BK315.out)) : gb315 ≠ gb326)); have n9_ := Aside0.mk ((by rw [hg]; exact Nat.ne_of_gt (blk_lt (g := gb315) (o := .cells #[.slice (some ad323) l0_0.length c0_0] 31 (0, 0)) (by (with_reducible repeat (first | refine blk_drewN ?_ _ | refine blk_drew ?_ | refine blk_alloc ?_ _)); exact BK315.out)) : gb326 ≠ gb315)); have n10_ := Aside0.mk ((by rw [hg]; exact Nat.ne_of_lt (blk_lt (g := gb316) (o := .cells #[.slice none 0 0] 31 (0, 0)) (by (with_reducible repeat (first | refine blk_drewN ?_ _ | refine blk_drew ?_ | refine blk_alloc ?_ _)); exact BK316.out)) : gb316 ≠ gb326)); have n11_ := Aside0.mk ((by rw [hg]; exact Nat.ne_of_gt (blk_lt (g := gb316) (o := .cells #[.slice none 0 0] 31 (0, 0)) (by (with_reducible repeat (first | refine blk_drewN ?_ _ | refine blk_drew ?_ | refine blk_alloc ?_ _)); exact BK316.out)) : gb326 ≠ gb316)); have n12_ := Aside0.mk ((by rw [hg]; exact Nat.ne_of_lt (blk_lt (g := gb322) (o := .cells #[u323000] 31 (0, 0)) (by (with_reducible repeat (first | refine blk_drewN ?_ _ | refine blk_drew ?_ | refine blk_alloc ?_ _)); exact BK322.out)) : gb322 ≠ gb326)); have n13_ := Aside0.mk ((by rw [hg]; exact Nat.ne_of_gt (blk_lt (g := gb322) (o := .cells #[u323000] 31 (0, 0)) (by (with_reducible repeat (first | refine blk_drewN ?_ _ | refine blk_drew ?_ | refine blk_alloc ?_ _)); exact BK322.out)) : gb326 ≠ gb322)); clear HO_323000; clear BK315; clear BK316; clear BK322; clear HB; have HO_323000 := n0_; have BK315 := n1_; have BK316 := n2_; have BK322 := n3_; have HB := n4_; have BK326 := n5_; have GW326 := n6_; have GE326 := n7_; have NB315_326 := n8_; have NB326_315 := n9_; have NB316_326 := n10_; have NB326_316 := n11_; have NB322_326 := n12_; have NB326_322 := n13_; clear n0_ n1_ n2_ n3_ n4_ n5_ n6_ n7_ n8_ n9_ n10_ n11_ n12_ n13_; clear hb hbox hg; have hnb44 := NB326_315.out; have hnc44 := NB315_326.out; have hnb45 := NB326_316.out; have hnc45 := NB316_326.out; have hnb46 := NB326_322.out; have hnc46 := NB322_326.out; have hcz47_0 : w43.cell? ⟨gb326, 0, none⟩ = some (.int .i64 0) := (blk_cell BK326.out 0).trans rfl; have hcz47_1 : w43.cell? ⟨gb326, 1, none⟩ = some (.int .i64 0) := (blk_cell BK326.out 1).trans rfl; have hcz47_2 : w43.cell? ⟨gb326, 2, none⟩ = some (.int .i64 0) := (blk_cell BK326.out 2).trans rfl; have hfz47_0 := blk_frozen BK326.out 0; have hfz47_1 := blk_frozen BK326.out 1; have hfz47_2 := blk_frozen BK326.out 2) | ((with_reducible refine gate_store (t := 76) (p := 8) rfl ?_); refine store_event (t := 76) (p := 8) (v := ?vo_w48) (w1 := (((w43.setCell ⟨gb326, 0, none⟩ (.int .i64 ((rd_T76 (rd_L4 l0_0 a1) x7_2).f0))).setCell ⟨gb326, 1, none⟩ (.int .i64 ((rd_T76 (rd_L4 l0_0 a1) x7_2).f1))).setCell ⟨gb326, 2, none⟩ (.int .i64 ((rd_T76 (rd_L4 l0_0 a1) x7_2).f2)))) ?hg ?ho ?hn ?hr ?_; (case ho => rfl); (case hg => rfl); (case hn => rfl); (case hr => first | (go_simp; done) | (go_simp; rfl)); intro w48 hw; have n0_ : Aside0 (Kd.S (Kd.slice 76 k76) 74 w48 w.heap.size (fun k_ => k_ ≠ gb326) u323000 x323000_2) := ⟨(by rw [hw]; exact (by (with_reducible repeat (first | apply Kd.S_alloc | apply Kd.S_drewN | apply Kd.S_drew)); exact Kd.S_mono (Kd.S_far (p := ⟨gb326, 2, none⟩) (Kd.S_far (p := ⟨gb326, 1, none⟩) (Kd.S_far (p := ⟨gb326, 0, none⟩) (Kd.S_mono HO_323000.out (fun k_ hk => (⟨hk, hk.2⟩ : _ ∧ k_ ≠ gb326))) (fun _ hk => hk.2) (.int .i64 ((rd_T76 (rd_L4 l0_0 a1) x7_2).f0))) (fun _ hk => hk.2) (.int .i64 ((rd_T76 (rd_L4 l0_0 a1) x7_2).f1))) (fun _ hk => hk.2) (.int .i64 ((rd_T76 (rd_L4 l0_0 a1) x7_2).f2))) (fun _ hk => hk.1.2)))⟩; have n1_ : Aside0 (w48.heap[gb315]? = some (.cells #[.slice (some ad323) l0_0.length c0_0] 31 (0, 0))) := ⟨(by rw [hw]; exact (by (with_reducible repeat (first | refine blk_drewN ?_ _ | refine blk_drew ?_ | refine blk_alloc ?_ _)); refine blk_far ?_ NB315_326.out _; (with_reducible repeat (first | refine blk_drewN ?_ _ | refine blk_drew ?_ | refine blk_alloc ?_ _)); refine blk_far ?_ NB315_326.out _; (with_reducible repeat (first | refine blk_drewN ?_ _ | refine blk_drew ?_ | refine blk_alloc ?_ _)); refine blk_far ?_ NB315_326.out _; (with_reducible repeat (first | refine blk_drewN ?_ _ | refine blk_drew ?_ | refine blk_alloc ?_ _)); exact BK315.out))⟩; have n2_ : Aside0 (w48.heap[gb316]? = some (.cells #[.slice none 0 0] 31 (0, 0))) := ⟨(by rw [hw]; exact (by (with_reducible repeat (first | refine blk_drewN ?_ _ | refine blk_drew ?_ | refine blk_alloc ?_ _)); refine blk_far ?_ NB316_326.out _; (with_reducible repeat (first | refine blk_drewN ?_ _ | refine blk_drew ?_ | refine blk_alloc ?_ _)); refine blk_far ?_ NB316_326.out _; (with_reducible repeat (first | refine blk_drewN ?_ _ | refine blk_drew ?_ | refine blk_alloc ?_ _)); refine blk_far ?_ NB316_326.out _; (with_reducible repeat (first | refine blk_drewN ?_ _ | refine blk_drew ?_ | refine blk_alloc ?_ _)); exact BK316.out))⟩; have n3_ : Aside0 (w48.heap[gb322]? = some (.cells #[u323000] 31 (0, 0))) := ⟨(by rw [hw]; exact (by (with_reducible repeat (first | refine blk_drewN ?_ _ | refine blk_drew ?_ | refine blk_alloc ?_ _)); refine blk_far ?_ NB322_326.out _; (with_reducible repeat (first | refine blk_drewN ?_ _ | refine blk_drew ?_ | refine blk_alloc ?_ _)); refine blk_far ?_ NB322_326.out _; (with_reducible repeat (first | refine blk_drewN ?_ _ | refine blk_drew ?_ | refine blk_alloc ?_ _)); refine blk_far ?_ NB322_326.out _; (with_reducible repeat (first | refine blk_drewN ?_ _ | refine blk_drew ?_ | refine blk_alloc ?_ _)); exact BK322.out))⟩; have n4_ : Aside0 (w48.heap[gb326]? = some (.cells #[.int .i64 ((rd_T76 (rd_L4 l0_0 a1) x7_2).f0), .int .i64 ((rd_T76 (rd_L4 l0_0 a1) x7_2).f1), .int .i64 ((rd_T76 (rd_L4 l0_0 a1) x7_2).f2)] 76 (0, 0))) := ⟨(by rw [hw]; exact (by (with_reducible repeat (first | refine blk_drewN ?_ _ | refine blk_drew ?_ | refine blk_alloc ?_ _)); refine blk_put (cs := #[.int .i64 ((rd_T76 (rd_L4 l0_0 a1) x7_2).f0), .int .i64 ((rd_T76 (rd_L4 l0_0 a1) x7_2).f1), .int .i64 0]) ?_ 2 _ rfl; (with_reducible repeat (first | refine blk_drewN ?_ _ | refine blk_drew ?_ | refine blk_alloc ?_ _)); refine blk_put (cs := #[.int .i64 ((rd_T76 (rd_L4 l0_0 a1) x7_2).f0), .int .i64 0, .int .i64 0]) ?_ 1 _ rfl; (with_reducible repeat (first | refine blk_drewN ?_ _ | refine blk_drew ?_ | refine blk_alloc ?_ _)); refine blk_put (cs := #[.int .i64 0, .int .i64 0, .int .i64 0]) ?_ 0 _ rfl; (with_reducible repeat (first | refine blk_drewN ?_ _ | refine blk_drew ?_ | refine blk_alloc ?_ _)); exact BK326.out))⟩; have n5_ : Aside0 (Below w.heap.size w w48) := ⟨(by rw [hw]; exact (by repeat (first | (with_reducible first | exact HB.out | apply below_alloc | apply pw_below_drewN | apply below_drew1 | refine below_set ?_ GE315.out | refine below_set ?_ GE316.out | refine below_set ?_ GE322.out | refine below_set ?_ GE326.out) | exact HB.out)))⟩; clear hw; clear HO_323000; clear BK315; clear BK316; clear BK322; clear BK326; clear HB; have HO_323000 := n0_; have BK315 := n1_; have BK316 := n2_; have BK322 := n3_; have BK326 := n4_; have HB := n5_; clear n0_ n1_ n2_ n3_ n4_ n5_; have hcz49_0 : w48.cell? ⟨gb326, 0, none⟩ = some (.int .i64 ((rd_T76 (rd_L4 l0_0 a1) x7_2).f0)) := (blk_cell BK326.out 0).trans rfl; have hcz49_1 : w48.cell? ⟨gb326, 1, none⟩ = some (.int .i64 ((rd_T76 (rd_L4 l0_0 a1) x7_2).f1)) := (blk_cell BK326.out 1).trans rfl; have hcz49_2 : w48.cell? ⟨gb326, 2, none⟩ = some (.int .i64 ((rd_T76 (rd_L4 l0_0 a1) x7_2).f2)) := (blk_cell BK326.out 2).trans rfl; have hfz49_0 := blk_frozen BK326.out 0; have hfz49_1 := blk_frozen BK326.out 1; have hfz49_2 := blk_frozen BK326.out 2; have hcz50_0 : w48.cell? ⟨gb315, 0, none⟩ = some (.slice (some ad323) l0_0.length c0_0) := (blk_cell BK315.out 0).trans rfl; have hfz50_0 := blk_frozen BK315.out 0; have p327 : 0 ≤ (((rd_T76 (rd_L4 l0_0 a1) x7_2).f1) : Int) := of_decide_eq_true (by first | (with_reducible assumption) | assumption); have q327 : ((rd_T76 (rd_L4 l0_0 a1) x7_2).f1) < (l0_0.length : Int) := of_decide_eq_true (by first | (with_reducible assumption) | assumption); obtain ⟨ad327, A327_0, c327_0, e327, hx327_0, hl327_0, hi327_0⟩ := at_L4 HR0_0.out ((rd_T76 (rd_L4 l0_0 a1) x7_2).f1) p327 q327; obtain rfl : ad323 = ad327 := (by injection e327); replace hx327_0 := (HB.out.cell (World.block_lt_of_cell? w _ hx327_0)).trans hx327_0; have HR327_0 := Aside0.mk hi327_0; have HC327_0 := Aside0.mk hl327_0; clear hi327_0 hl327_0; replace p327 := eq_true p327; replace q327 := eq_true q327; have hnb51 := NB322_316.out; have hnc51 := NB316_322.out; have hcz52_0 : w48.cell? ⟨gb322, 0, none⟩ = some (u323000) := (blk_cell BK322.out 0).trans rfl; have hfz52_0 := blk_frozen BK322.out 0; obtain ⟨Ao53, co53, eo53⟩ := Kd.S_slice HO_323000.out; subst eo53; have p328 : 0 ≤ (a1 : Int) := of_decide_eq_true (by first | (with_reducible assumption) | assumption); have q328 : a1 < (x323000_2.length : Int) := of_decide_eq_true (by first | (with_reducible assumption) | assumption); obtain ⟨ad328, A328_0, c328_0, e328, hx328_0, hl328_0, hi328_0⟩ := at_L4 (Kd.S_reads' HO_323000.out).2.2 a1 p328 q328; cases e328; obtain ⟨ce328, hce328, hMe328, hcc328⟩ := Kd.S_get HO_323000.out [] a1 p328 (by first | exact q328 | exact of_decide_eq_true (by first | (with_reducible assumption) | assumption) | (have e_ := (Kd.S_reads' HO_323000.out).1; omega)); obtain ⟨ve328_0, rfl, ge328_0⟩ := hMe328; have hv328_0 := hcc328 0 _ rfl; rw [Nat.add_zero, show ((Kd.slice 76 k76)).sz = 1 from rfl, Nat.mul_one] at hv328_0; replace hv328_0 := Option.some.inj (hv328_0.symm.trans hx328_0); rw [hv328_0] at ge328_0; have HL328_0 := Aside0.mk (show Kd.R k76 76 _ _ _ _ (rd_L4 x323000_2 a1) from ge328_0); clear hv328_0 ge328_0; have HX328_0 := Aside0.mk hx328_0; clear hcc328 hce328; have HR328_0 := Aside0.mk hi328_0; have HC328_0 := Aside0.mk hl328_0; clear hi328_0 hl328_0; replace p328 := eq_true p328; replace q328 := eq_true q328; have p39 : 0 ≤ (x7_2 : Int) := of_decide_eq_true (by first | (with_reducible assumption) | assumption); have q39 : (x7_2 : Int) < (((rd_L4 x323000_2 a1).length : Int) : Int) := of_decide_eq_true (by first | (with_reducible assumption) | assumption); obtain ⟨go39, co39, eo39, gb39, gl39, cl39, HG39⟩ := Kd.R_form HL328_0.out (by omega); (first | cases eo39 | (injection eo39 with ea_ en_ ec_; (first | subst ea_ | (injection ea_ with ea_; subst ea_)); subst ec_; clear en_)); have GB39 := Aside0.mk gb39; have GG39 := Aside0.mk HG39; clear gb39 gl39 HG39; obtain ⟨ce39, hcl39, hM39, hcc39, hfr39⟩ := Kd.R_elem HL328_0.out z76 (x7_2 : Int) p39 q39; obtain rfl := k76_openM hM39; have hx39_0 : w48.cell? ⟨go39, (x7_2 : Int).toNat * 3, none⟩ = some (.int .i64 ((rd_T76 (rd_L4 x323000_2 a1) x7_2).f0)) := hcc39 0 _ rfl; have hx39_1 : w48.cell? ⟨go39, (x7_2 : Int).toNat * 3 + 1, none⟩ = some (.int .i64 ((rd_T76 (rd_L4 x323000_2 a1) x7_2).f1)) := hcc39 1 _ rfl; have hx39_2 : w48.cell? ⟨go39, (x7_2 : Int).toNat * 3 + 2, none⟩ = some (.int .i64 ((rd_T76 (rd_L4 x323000_2 a1) x7_2).f2)) := hcc39 2 _ rfl; have hf39_0 : w48.frozen? ⟨go39, (x7_2 : Int).toNat * 3, none⟩ = false := hfr39 0; have hf39_1 : w48.frozen? ⟨go39, (x7_2 : Int).toNat * 3 + 1, none⟩ = false := hfr39 1; have hf39_2 : w48.frozen? ⟨go39, (x7_2 : Int).toNat * 3 + 2, none⟩ = false := hfr39 2; clear hcl39 hcc39 hfr39 hM39; replace p39 := eq_true p39; replace q39 := eq_true q39; have hq54 : (a1 : Int) < (x323000_2.length : Int) := (by have h_ : (a1 : Int) < ((x323000_2.length : Int) : Int) := of_decide_eq_true (by first | (with_reducible assumption) | assumption); first | exact h_ | (have e_ := (Kd.S_reads' HO_323000.out).1; omega) | simpa only [List.length_set, List.length_set] using h_); obtain ⟨oki54, ce54, hcl54, hM54, hcc54, hok54, hbk54⟩ := Kd.S_borrow HO_323000.out [] (a1 : Int) (of_decide_eq_true (by first | (with_reducible assumption) | assumption)) hq54; obtain ⟨ve54_0, rfl, ge54_0⟩ := hM54; have hv54 := hcc54 0 _ rfl; rw [Nat.add_zero, show ((Kd.slice 76 k76)).sz = 1 from rfl, Nat.mul_one] at hv54; replace hv54 := Option.some.inj (hv54.symm.trans HX328_0.out); subst hv54; clear hcc54 hcl54; replace ge54_0 := (show Kd.R k76 76 _ _ _ _ (rd_L4 x323000_2 a1) from ge54_0); obtain ⟨cf54, hcl54, hN54, hcc54, hfr54⟩ := Kd.R_elem ge54_0 z76 (x7_2 : Int) (of_decide_eq_true (by first | (with_reducible assumption) | assumption)) (by have h_ : (x7_2 : Int) < (((rd_L4 x323000_2 a1).length : Int) : Int) := of_decide_eq_true (by first | (with_reducible assumption) | assumption); first | exact h_ | (have e_ := (Kd.R_reads' HR328_0.out).1; omega) | simpa using h_); obtain rfl := k76_openM hN54; have HP54 := Kd.R_seg ge54_0 (x7_2 : Int) (of_decide_eq_true (by first | (with_reducible assumption) | assumption)) (by have h_ : (x7_2 : Int) < (((rd_L4 x323000_2 a1).length : Int) : Int) := of_decide_eq_true (by first | (with_reducible assumption) | assumption); first | exact h_ | (have e_ := (Kd.R_reads' HR328_0.out).1; omega) | simpa using h_) (seg := [.int .i64 1, .int .i64 2, .int .i64 0]) (j := 0) hcl54 hcc54 (show 3 ≤ 3 from by decide) (x' := (⟨1, 2, 0⟩ : S76)) (k76_mkM _ _ _ (⟨1, 2, 0⟩ : S76)) (fun _ hk => hk); clear hcl54 hcc54 hfr54 hN54) | ((with_reducible refine gate_store (t := 76) (p := 59) rfl ?_); refine store_event (t := 76) (p := 59) (v := ?vo_w55) (w1 := (((w48.setCell ⟨go39, (x7_2 : Int).toNat * 3, none⟩ (.int .i64 1)).setCell ⟨go39, (x7_2 : Int).toNat * 3 + 1, none⟩ (.int .i64 2)).setCell ⟨go39, (x7_2 : Int).toNat * 3 + 2, none⟩ (.int .i64 0))) ?hg ?ho ?hn ?hr ?_; (case ho => rfl); (case hg => rfl); (case hn => rfl); (case hr => first | (go_simp; done) | (go_simp; rfl)); intro w55 hw; have hg : w48.grownBy w55 (some go39) := (by rw [hw]; exact HP54.2); have hz_ : Kd.R k76 76 w55 w.heap.size oki54 (.slice (some ⟨go39, 0, none⟩) (rd_L4 x323000_2 a1).length c328_0) y329 := (by rw [hw, Ny329.out]; exact HP54.1); have hp_ : Kd.S (Kd.slice 76 k76) 74 w55 w.heap.size (fun k_ => k_ ≠ gb326) (.slice (some ad328) x323000_2.length co53) y331 := (by rw [Ny331.out]; exact hbk54 hg (fun k_ e_ => by injection e_ with e_; subst e_; exact ge54_0.1 _ rfl) (Kd.M_row hz_)); have hm_ := Kd.R_mono hz_ hok54; clear HP54 hbk54; have n0_ := Aside0.mk (hp_); have n1_ := Aside0.mk (blk_grown (g := gb315) (o := .cells #[.slice (some ad323) l0_0.length c0_0] 31 (0, 0)) (by (with_reducible repeat (first | refine blk_drewN ?_ _ | refine blk_drew ?_ | refine blk_alloc ?_ _)); exact BK315.out) hg (Kd.R_ne HL328_0.out BK315.out (by decide))); have n2_ := Aside0.mk (blk_grown (g := gb316) (o := .cells #[.slice none 0 0] 31 (0, 0)) (by (with_reducible repeat (first | refine blk_drewN ?_ _ | refine blk_drew ?_ | refine blk_alloc ?_ _)); exact BK316.out) hg (Kd.R_ne HL328_0.out BK316.out (by decide))); have n3_ := Aside0.mk (blk_grown (g := gb322) (o := .cells #[.slice (some ad328) x323000_2.length co53] 31 (0, 0)) (by (with_reducible repeat (first | refine blk_drewN ?_ _ | refine blk_drew ?_ | refine blk_alloc ?_ _)); exact BK322.out) hg (Kd.R_ne HL328_0.out BK322.out (by decide))); have n4_ := Aside0.mk (blk_grown (g := gb326) (o := .cells #[.int .i64 ((rd_T76 (rd_L4 l0_0 a1) x7_2).f0), .int .i64 ((rd_T76 (rd_L4 l0_0 a1) x7_2).f1), .int .i64 ((rd_T76 (rd_L4 l0_0 a1) x7_2).f2)] 76 (0, 0)) (by (with_reducible repeat (first | refine blk_drewN ?_ _ | refine blk_drew ?_ | refine blk_alloc ?_ _)); exact BK326.out) hg (Kd.R_away HL328_0.out (fun _ hk => hk.1))); have n5_ := Aside0.mk ((by rw [hw]; exact below_set (below_set (below_set (HB.out) GB39.out) GB39.out) GB39.out : Below w.heap.size w w55)); have n6_ := Aside0.mk (hm_); have n7_ := Aside0.mk ((Kd.R_reads' hm_).2.1); clear HO_323000; clear BK315; clear BK316; clear BK322; clear BK326; clear HB; clear HL328_0; have HO_323000 := n0_; have BK315 := n1_; have BK316 := n2_; have BK322 := n3_; have BK326 := n4_; have HB := n5_; have HL332 := n6_; have HC330 := n7_; clear n0_ n1_ n2_ n3_ n4_ n5_ n6_ n7_; clear hg hw hp_ hz_ hm_ hok54))
                                go_roundg k2
                                case measure => have := HJ2.out; have := HK2.out; omega
                                case rel => exact ⟨(wrap64 (x7_2 + 1)), (y331), (.slice (some ad328) x323000_2.length co53), (by first | rfl | (simp; done) | (simp [*]; done)), H', ⟨by have := HJ2.out; have := HK2.out; omega⟩, ⟨by (with_reducible repeat (first | apply Kd.S_alloc | apply Kd.S_drewN | apply Kd.S_drew)); exact Kd.S_mono HO_323000.out (fun _ hk => trivial)⟩, ⟨by (with_reducible repeat (first | refine blk_drewN ?_ _ | refine blk_drew ?_ | refine blk_alloc ?_ _)); exact BK315.out⟩, ⟨by (with_reducible repeat (first | refine blk_drewN ?_ _ | refine blk_drew ?_ | refine blk_alloc ?_ _)); exact BK316.out⟩, ⟨by (with_reducible repeat (first | refine blk_drewN ?_ _ | refine blk_drew ?_ | refine blk_alloc ?_ _)); exact BK322.out⟩, ⟨by repeat (first | (with_reducible first | exact HB.out | apply below_alloc | apply pw_below_drewN | apply below_drew1 | refine below_set ?_ GE315.out | refine below_set ?_ GE316.out | refine below_set ?_ GE322.out | refine below_set ?_ GE326.out) | exact HB.out)⟩⟩
                              · rw [if_neg c38] at H
                                exact absurd H (by simp)
                            · rw [if_neg c37] at H
                              exact absurd H (by simp)
                          · rw [if_neg c36] at H
                            have c36b0 : (((rd_L4 l0_0 ((rd_T76 (rd_L4 l0_0 a1) x7_2).f1)).length : Int) == 0) = false := beq_eq_false_iff_ne.mpr c36
                            have c36b1 : (((rd_L4 l0_0 ((rd_T76 (rd_L4 l0_0 a1) x7_2).f1)).length : Int) != 0) = true := bne_iff_ne.mpr c36
                            have c36b2 : ¬ ((rd_L4 l0_0 ((rd_T76 (rd_L4 l0_0 a1) x7_2).f1)) = []) := fun h_ => c36 (by rw [h_]; rfl)
                            have H' := Aside0.mk H
                            clear H
                            have hnb56 := NB315_316.out
                            have hnc56 := NB316_315.out
                            have hnb57 := NB315_322.out
                            have hnc57 := NB322_315.out
                            have hcz58_0 : wr.cell? ⟨gb315, 0, none⟩ = some (.slice A0_0 l0_0.length c0_0) := (blk_cell BK315.out 0).trans rfl
                            have hfz58_0 := blk_frozen BK315.out 0
                            have p323 : 0 ≤ (a1 : Int) := of_decide_eq_true (by first | (with_reducible assumption) | assumption)
                            have q323 : a1 < (l0_0.length : Int) := of_decide_eq_true (by first | (with_reducible assumption) | assumption)
                            obtain ⟨ad323, A323_0, c323_0, e323, hx323_0, hl323_0, hi323_0⟩ := at_L4 HR0_0.out a1 p323 q323
                            cases e323
                            replace hx323_0 := (HB.out.cell (World.block_lt_of_cell? w _ hx323_0)).trans hx323_0
                            have HR323_0 := Aside0.mk hi323_0
                            have HC323_0 := Aside0.mk hl323_0
                            clear hi323_0 hl323_0
                            replace p323 := eq_true p323
                            replace q323 := eq_true q323
                            have p324 : 0 ≤ (a1 : Int) := of_decide_eq_true (by first | (with_reducible assumption) | assumption)
                            have q324 : a1 < (l0_0.length : Int) := of_decide_eq_true (by first | (with_reducible assumption) | assumption)
                            obtain ⟨ad324, A324_0, c324_0, e324, hx324_0, hl324_0, hi324_0⟩ := at_L4 HR0_0.out a1 p324 q324
                            obtain rfl : ad323 = ad324 := (by injection e324)
                            replace hx324_0 := (HB.out.cell (World.block_lt_of_cell? w _ hx324_0)).trans hx324_0
                            have HR324_0 := Aside0.mk hi324_0
                            have HC324_0 := Aside0.mk hl324_0
                            clear hi324_0 hl324_0
                            replace p324 := eq_true p324
                            replace q324 := eq_true q324
                            have ea_ := Option.some.inj (hx323_0.symm.trans hx324_0)
                            injection ea_ with ea_ en_ ec_
                            subst ea_
                            subst ec_
                            clear en_
                            have p325 : 0 ≤ (x7_2 : Int) := of_decide_eq_true (by first | (with_reducible assumption) | assumption)
                            have q325 : x7_2 < ((rd_L4 l0_0 a1).length : Int) := of_decide_eq_true (by first | (with_reducible assumption) | assumption)
                            obtain ⟨ad325, e325, hx325_0, hx325_1, hx325_2⟩ := at_T76 HR324_0.out x7_2 p325 q325
                            cases e325
                            replace hx325_0 := (HB.out.cell (World.block_lt_of_cell? w _ hx325_0)).trans hx325_0
                            replace hx325_1 := (HB.out.cell (World.block_lt_of_cell? w _ hx325_1)).trans hx325_1
                            replace hx325_2 := (HB.out.cell (World.block_lt_of_cell? w _ hx325_2)).trans hx325_2
                            replace p325 := eq_true p325
                            replace q325 := eq_true q325
                            go_wp2_with (first | ((with_reducible refine gate_dst (N := 8) rfl ?_); (try (refine gate_guard (by rfl) ?_; dsimp only)); refine box_event ?hg (N := 8) ?hd (cs := #[.int .i64 0, .int .i64 0, .int .i64 0]) (t := 76) ?hr ?_; (case hd => rfl); (case hg => rfl); (case hr => first | (go_simp; done) | (go_simp; rfl)); intro gb326 hg w59 hbox hb; have n0_ := Aside0.mk (Kd.S_below (Kd.S_elderB (by (with_reducible repeat (first | apply Kd.S_alloc | apply Kd.S_drewN | apply Kd.S_drew)); exact HO_323000.out) gb326 (Nat.le_of_eq hg.symm)) hb); have n1_ := Aside0.mk (blk_below (g := gb315) (o := .cells #[.slice (some ad323) l0_0.length c0_0] 31 (0, 0)) (by (with_reducible repeat (first | refine blk_drewN ?_ _ | refine blk_drew ?_ | refine blk_alloc ?_ _)); exact BK315.out) hb); have n2_ := Aside0.mk (blk_below (g := gb316) (o := .cells #[.slice none 0 0] 31 (0, 0)) (by (with_reducible repeat (first | refine blk_drewN ?_ _ | refine blk_drew ?_ | refine blk_alloc ?_ _)); exact BK316.out) hb); have n3_ := Aside0.mk (blk_below (g := gb322) (o := .cells #[u323000] 31 (0, 0)) (by (with_reducible repeat (first | refine blk_drewN ?_ _ | refine blk_drew ?_ | refine blk_alloc ?_ _)); exact BK322.out) hb); have n4_ := Aside0.mk (below_step (by repeat (first | (with_reducible first | exact HB.out | apply below_alloc | apply pw_below_drewN | apply below_drew1 | refine below_set ?_ GE315.out | refine below_set ?_ GE316.out | refine below_set ?_ GE322.out) | exact HB.out)) hb); have n5_ := Aside0.mk (hbox); have n6_ := Aside0.mk ((by rw [hg]; exact (below_size (by repeat (first | (with_reducible first | exact HB.out | apply below_alloc | apply pw_below_drewN | apply below_drew1 | refine below_set ?_ GE315.out | refine below_set ?_ GE316.out | refine below_set ?_ GE322.out) | exact HB.out))) : w.heap.size ≤ gb326)); have n7_ := Aside0.mk ((by rw [hg]; exact (below_size (by repeat (first | (with_reducible first | exact HB.out | apply below_alloc | apply pw_below_drewN | apply below_drew1 | refine below_set ?_ GE315.out | refine below_set ?_ GE316.out | refine below_set ?_ GE322.out) | exact HB.out))) : w.heap.size ≤ gb326)); have n8_ := Aside0.mk ((by rw [hg]; exact Nat.ne_of_lt (blk_lt (g := gb315) (o := .cells #[.slice (some ad323) l0_0.length c0_0] 31 (0, 0)) (by (with_reducible repeat (first | refine blk_drewN ?_ _ | refine blk_drew ?_ | refine blk_alloc ?_ _)); exact BK315.out)) : gb315 ≠ gb326)); have n9_ := Aside0.mk ((by rw [hg]; exact Nat.ne_of_gt (blk_lt (g := gb315) (o := .cells #[.slice (some ad323) l0_0.length c0_0] 31 (0, 0)) (by (with_reducible repeat (first | refine blk_drewN ?_ _ | refine blk_drew ?_ | refine blk_alloc ?_ _)); exact BK315.out)) : gb326 ≠ gb315)); have n10_ := Aside0.mk ((by rw [hg]; exact Nat.ne_of_lt (blk_lt (g := gb316) (o := .cells #[.slice none 0 0] 31 (0, 0)) (by (with_reducible repeat (first | refine blk_drewN ?_ _ | refine blk_drew ?_ | refine blk_alloc ?_ _)); exact BK316.out)) : gb316 ≠ gb326)); have n11_ := Aside0.mk ((by rw [hg]; exact Nat.ne_of_gt (blk_lt (g := gb316) (o := .cells #[.slice none 0 0] 31 (0, 0)) (by (with_reducible repeat (first | refine blk_drewN ?_ _ | refine blk_drew ?_ | refine blk_alloc ?_ _)); exact BK316.out)) : gb326 ≠ gb316)); have n12_ := Aside0.mk ((by rw [hg]; exact Nat.ne_of_lt (blk_lt (g := gb322) (o := .cells #[u323000] 31 (0, 0)) (by (with_reducible repeat (first | refine blk_drewN ?_ _ | refine blk_drew ?_ | refine blk_alloc ?_ _)); exact BK322.out)) : gb322 ≠ gb326)); have n13_ := Aside0.mk ((by rw [hg]; exact Nat.ne_of_gt (blk_lt (g := gb322) (o := .cells #[u323000] 31 (0, 0)) (by (with_reducible repeat (first | refine blk_drewN ?_ _ | refine blk_drew ?_ | refine blk_alloc ?_ _)); exact BK322.out)) : gb326 ≠ gb322)); clear HO_323000; clear BK315; clear BK316; clear BK322; clear HB; have HO_323000 := n0_; have BK315 := n1_; have BK316 := n2_; have BK322 := n3_; have HB := n4_; have BK326 := n5_; have GW326 := n6_; have GE326 := n7_; have NB315_326 := n8_; have NB326_315 := n9_; have NB316_326 := n10_; have NB326_316 := n11_; have NB322_326 := n12_; have NB326_322 := n13_; clear n0_ n1_ n2_ n3_ n4_ n5_ n6_ n7_ n8_ n9_ n10_ n11_ n12_ n13_; clear hb hbox hg; have hnb60 := NB326_315.out; have hnc60 := NB315_326.out; have hnb61 := NB326_316.out; have hnc61 := NB316_326.out; have hnb62 := NB326_322.out; have hnc62 := NB322_326.out; have hcz63_0 : w59.cell? ⟨gb326, 0, none⟩ = some (.int .i64 0) := (blk_cell BK326.out 0).trans rfl; have hcz63_1 : w59.cell? ⟨gb326, 1, none⟩ = some (.int .i64 0) := (blk_cell BK326.out 1).trans rfl; have hcz63_2 : w59.cell? ⟨gb326, 2, none⟩ = some (.int .i64 0) := (blk_cell BK326.out 2).trans rfl; have hfz63_0 := blk_frozen BK326.out 0; have hfz63_1 := blk_frozen BK326.out 1; have hfz63_2 := blk_frozen BK326.out 2; have hcz64_0 : w59.cell? ⟨gb315, 0, none⟩ = some (.slice (some ad323) l0_0.length c0_0) := (blk_cell BK315.out 0).trans rfl; have hfz64_0 := blk_frozen BK315.out 0; have p327 : 0 ≤ (((rd_T76 (rd_L4 l0_0 a1) x7_2).f1) : Int) := of_decide_eq_true (by first | (with_reducible assumption) | assumption); have q327 : ((rd_T76 (rd_L4 l0_0 a1) x7_2).f1) < (l0_0.length : Int) := of_decide_eq_true (by first | (with_reducible assumption) | assumption); obtain ⟨ad327, A327_0, c327_0, e327, hx327_0, hl327_0, hi327_0⟩ := at_L4 HR0_0.out ((rd_T76 (rd_L4 l0_0 a1) x7_2).f1) p327 q327; obtain rfl : ad323 = ad327 := (by injection e327); have hn327_0 : ad323.block ≠ gb326 := Nat.ne_of_lt (Nat.lt_of_lt_of_le (by have := World.block_lt_of_cell? _ _ hx327_0; first | rwa [add_block] at this | exact this) GW326.out); have hn327_1 : ad323.block ≠ gb326 := Nat.ne_of_lt (Nat.lt_of_lt_of_le (by have := World.block_lt_of_cell? _ _ hx327_0; first | rwa [add_block] at this | exact this) GW326.out); have hn327_2 : ad323.block ≠ gb326 := Nat.ne_of_lt (Nat.lt_of_lt_of_le (by have := World.block_lt_of_cell? _ _ hx327_0; first | rwa [add_block] at this | exact this) GW326.out); replace hx327_0 := (HB.out.cell (World.block_lt_of_cell? w _ hx327_0)).trans hx327_0; have HR327_0 := Aside0.mk hi327_0; have HC327_0 := Aside0.mk hl327_0; clear hi327_0 hl327_0; replace hx327_0 := (cell_far (p := ⟨gb326, 0, none⟩) (by first | (rw [add_block]; exact hn327_0) | (show (Addr.add _ _).block ≠ _; rw [add_block]; exact hn327_0) | exact hn327_0) (.int .i64 ((rd_T76 (rd_L4 l0_0 a1) x7_2).f0))).trans hx327_0; replace hx327_0 := (cell_far (p := ⟨gb326, 1, none⟩) (by first | (rw [add_block]; exact hn327_1) | (show (Addr.add _ _).block ≠ _; rw [add_block]; exact hn327_1) | exact hn327_1) (.int .i64 ((rd_T76 (rd_L4 l0_0 a1) x7_2).f1))).trans hx327_0; replace hx327_0 := (cell_far (p := ⟨gb326, 2, none⟩) (by first | (rw [add_block]; exact hn327_2) | (show (Addr.add _ _).block ≠ _; rw [add_block]; exact hn327_2) | exact hn327_2) (.int .i64 ((rd_T76 (rd_L4 l0_0 a1) x7_2).f2))).trans hx327_0; clear hn327_0; clear hn327_1; clear hn327_2; replace p327 := eq_true p327; replace q327 := eq_true q327))
                            go_roundg k2
                            case measure => have := HJ2.out; have := HK2.out; omega
                            case rel => exact ⟨(wrap64 (x7_2 + 1)), (x323000_2), (u323000), (by first | rfl | (simp; done) | (simp [*]; done)), H', ⟨by have := HJ2.out; have := HK2.out; omega⟩, ⟨by (with_reducible repeat (first | apply Kd.S_alloc | apply Kd.S_drewN | apply Kd.S_drew)); exact Kd.S_mono (Kd.S_far (p := ⟨gb326, 2, none⟩) (Kd.S_far (p := ⟨gb326, 1, none⟩) (Kd.S_far (p := ⟨gb326, 0, none⟩) (Kd.S_mono HO_323000.out (fun k_ hk => (⟨hk, hk.2⟩ : _ ∧ k_ ≠ gb326))) (fun _ hk => hk.2) (.int .i64 ((rd_T76 (rd_L4 l0_0 a1) x7_2).f0))) (fun _ hk => hk.2) (.int .i64 ((rd_T76 (rd_L4 l0_0 a1) x7_2).f1))) (fun _ hk => hk.2) (.int .i64 ((rd_T76 (rd_L4 l0_0 a1) x7_2).f2))) (fun _ hk => trivial)⟩, ⟨by (with_reducible repeat (first | refine blk_drewN ?_ _ | refine blk_drew ?_ | refine blk_alloc ?_ _)); refine blk_far ?_ NB315_326.out _; (with_reducible repeat (first | refine blk_drewN ?_ _ | refine blk_drew ?_ | refine blk_alloc ?_ _)); refine blk_far ?_ NB315_326.out _; (with_reducible repeat (first | refine blk_drewN ?_ _ | refine blk_drew ?_ | refine blk_alloc ?_ _)); refine blk_far ?_ NB315_326.out _; (with_reducible repeat (first | refine blk_drewN ?_ _ | refine blk_drew ?_ | refine blk_alloc ?_ _)); exact BK315.out⟩, ⟨by (with_reducible repeat (first | refine blk_drewN ?_ _ | refine blk_drew ?_ | refine blk_alloc ?_ _)); refine blk_far ?_ NB316_326.out _; (with_reducible repeat (first | refine blk_drewN ?_ _ | refine blk_drew ?_ | refine blk_alloc ?_ _)); refine blk_far ?_ NB316_326.out _; (with_reducible repeat (first | refine blk_drewN ?_ _ | refine blk_drew ?_ | refine blk_alloc ?_ _)); refine blk_far ?_ NB316_326.out _; (with_reducible repeat (first | refine blk_drewN ?_ _ | refine blk_drew ?_ | refine blk_alloc ?_ _)); exact BK316.out⟩, ⟨by (with_reducible repeat (first | refine blk_drewN ?_ _ | refine blk_drew ?_ | refine blk_alloc ?_ _)); refine blk_far ?_ NB322_326.out _; (with_reducible repeat (first | refine blk_drewN ?_ _ | refine blk_drew ?_ | refine blk_alloc ?_ _)); refine blk_far ?_ NB322_326.out _; (with_reducible repeat (first | refine blk_drewN ?_ _ | refine blk_drew ?_ | refine blk_alloc ?_ _)); refine blk_far ?_ NB322_326.out _; (with_reducible repeat (first | refine blk_drewN ?_ _ | refine blk_drew ?_ | refine blk_alloc ?_ _)); exact BK322.out⟩, ⟨by repeat (first | (with_reducible first | exact HB.out | apply below_alloc | apply pw_below_drewN | apply below_drew1 | refine below_set ?_ GE315.out | refine below_set ?_ GE316.out | refine below_set ?_ GE322.out | refine below_set ?_ GE326.out) | exact HB.out)⟩⟩
                        · rw [if_neg c35] at H
                          exact absurd H (by simp)
                      · rw [if_neg c34] at H
                        exact absurd H (by simp)
                    · rw [if_neg c33] at H
                      have c33b0 : (((rd_T76 (rd_L4 l0_0 a1) x7_2).f0) == 4) = false := beq_eq_false_iff_ne.mpr c33
                      have c33b1 : (((rd_T76 (rd_L4 l0_0 a1) x7_2).f0) != 4) = true := bne_iff_ne.mpr c33
                      have H' := Aside0.mk H
                      clear H
                      have hnb65 := NB315_316.out
                      have hnc65 := NB316_315.out
                      have hnb66 := NB315_322.out
                      have hnc66 := NB322_315.out
                      have hcz67_0 : wr.cell? ⟨gb315, 0, none⟩ = some (.slice A0_0 l0_0.length c0_0) := (blk_cell BK315.out 0).trans rfl
                      have hfz67_0 := blk_frozen BK315.out 0
                      have p323 : 0 ≤ (a1 : Int) := of_decide_eq_true (by first | (with_reducible assumption) | assumption)
                      have q323 : a1 < (l0_0.length : Int) := of_decide_eq_true (by first | (with_reducible assumption) | assumption)
                      obtain ⟨ad323, A323_0, c323_0, e323, hx323_0, hl323_0, hi323_0⟩ := at_L4 HR0_0.out a1 p323 q323
                      cases e323
                      replace hx323_0 := (HB.out.cell (World.block_lt_of_cell? w _ hx323_0)).trans hx323_0
                      have HR323_0 := Aside0.mk hi323_0
                      have HC323_0 := Aside0.mk hl323_0
                      clear hi323_0 hl323_0
                      replace p323 := eq_true p323
                      replace q323 := eq_true q323
                      have p324 : 0 ≤ (a1 : Int) := of_decide_eq_true (by first | (with_reducible assumption) | assumption)
                      have q324 : a1 < (l0_0.length : Int) := of_decide_eq_true (by first | (with_reducible assumption) | assumption)
                      obtain ⟨ad324, A324_0, c324_0, e324, hx324_0, hl324_0, hi324_0⟩ := at_L4 HR0_0.out a1 p324 q324
                      obtain rfl : ad323 = ad324 := (by injection e324)
                      replace hx324_0 := (HB.out.cell (World.block_lt_of_cell? w _ hx324_0)).trans hx324_0
                      have HR324_0 := Aside0.mk hi324_0
                      have HC324_0 := Aside0.mk hl324_0
                      clear hi324_0 hl324_0
                      replace p324 := eq_true p324
                      replace q324 := eq_true q324
                      have ea_ := Option.some.inj (hx323_0.symm.trans hx324_0)
                      injection ea_ with ea_ en_ ec_
                      subst ea_
                      subst ec_
                      clear en_
                      have p325 : 0 ≤ (x7_2 : Int) := of_decide_eq_true (by first | (with_reducible assumption) | assumption)
                      have q325 : x7_2 < ((rd_L4 l0_0 a1).length : Int) := of_decide_eq_true (by first | (with_reducible assumption) | assumption)
                      obtain ⟨ad325, e325, hx325_0, hx325_1, hx325_2⟩ := at_T76 HR324_0.out x7_2 p325 q325
                      cases e325
                      replace hx325_0 := (HB.out.cell (World.block_lt_of_cell? w _ hx325_0)).trans hx325_0
                      replace hx325_1 := (HB.out.cell (World.block_lt_of_cell? w _ hx325_1)).trans hx325_1
                      replace hx325_2 := (HB.out.cell (World.block_lt_of_cell? w _ hx325_2)).trans hx325_2
                      replace p325 := eq_true p325
                      replace q325 := eq_true q325
                      go_wp2_with (first | ((with_reducible refine gate_dst (N := 8) rfl ?_); (try (refine gate_guard (by rfl) ?_; dsimp only)); refine box_event ?hg (N := 8) ?hd (cs := #[.int .i64 0, .int .i64 0, .int .i64 0]) (t := 76) ?hr ?_; (case hd => rfl); (case hg => rfl); (case hr => first | (go_simp; done) | (go_simp; rfl)); intro gb326 hg w68 hbox hb; have n0_ := Aside0.mk (Kd.S_below (Kd.S_elderB (by (with_reducible repeat (first | apply Kd.S_alloc | apply Kd.S_drewN | apply Kd.S_drew)); exact HO_323000.out) gb326 (Nat.le_of_eq hg.symm)) hb); have n1_ := Aside0.mk (blk_below (g := gb315) (o := .cells #[.slice (some ad323) l0_0.length c0_0] 31 (0, 0)) (by (with_reducible repeat (first | refine blk_drewN ?_ _ | refine blk_drew ?_ | refine blk_alloc ?_ _)); exact BK315.out) hb); have n2_ := Aside0.mk (blk_below (g := gb316) (o := .cells #[.slice none 0 0] 31 (0, 0)) (by (with_reducible repeat (first | refine blk_drewN ?_ _ | refine blk_drew ?_ | refine blk_alloc ?_ _)); exact BK316.out) hb); have n3_ := Aside0.mk (blk_below (g := gb322) (o := .cells #[u323000] 31 (0, 0)) (by (with_reducible repeat (first | refine blk_drewN ?_ _ | refine blk_drew ?_ | refine blk_alloc ?_ _)); exact BK322.out) hb); have n4_ := Aside0.mk (below_step (by repeat (first | (with_reducible first | exact HB.out | apply below_alloc | apply pw_below_drewN | apply below_drew1 | refine below_set ?_ GE315.out | refine below_set ?_ GE316.out | refine below_set ?_ GE322.out) | exact HB.out)) hb); have n5_ := Aside0.mk (hbox); have n6_ := Aside0.mk ((by rw [hg]; exact (below_size (by repeat (first | (with_reducible first | exact HB.out | apply below_alloc | apply pw_below_drewN | apply below_drew1 | refine below_set ?_ GE315.out | refine below_set ?_ GE316.out | refine below_set ?_ GE322.out) | exact HB.out))) : w.heap.size ≤ gb326)); have n7_ := Aside0.mk ((by rw [hg]; exact (below_size (by repeat (first | (with_reducible first | exact HB.out | apply below_alloc | apply pw_below_drewN | apply below_drew1 | refine below_set ?_ GE315.out | refine below_set ?_ GE316.out | refine below_set ?_ GE322.out) | exact HB.out))) : w.heap.size ≤ gb326)); have n8_ := Aside0.mk ((by rw [hg]; exact Nat.ne_of_lt (blk_lt (g := gb315) (o := .cells #[.slice (some ad323) l0_0.length c0_0] 31 (0, 0)) (by (with_reducible repeat (first | refine blk_drewN ?_ _ | refine blk_drew ?_ | refine blk_alloc ?_ _)); exact BK315.out)) : gb315 ≠ gb326)); have n9_ := Aside0.mk ((by rw [hg]; exact Nat.ne_of_gt (blk_lt (g := gb315) (o := .cells #[.slice (some ad323) l0_0.length c0_0] 31 (0, 0)) (by (with_reducible repeat (first | refine blk_drewN ?_ _ | refine blk_drew ?_ | refine blk_alloc ?_ _)); exact BK315.out)) : gb326 ≠ gb315)); have n10_ := Aside0.mk ((by rw [hg]; exact Nat.ne_of_lt (blk_lt (g := gb316) (o := .cells #[.slice none 0 0] 31 (0, 0)) (by (with_reducible repeat (first | refine blk_drewN ?_ _ | refine blk_drew ?_ | refine blk_alloc ?_ _)); exact BK316.out)) : gb316 ≠ gb326)); have n11_ := Aside0.mk ((by rw [hg]; exact Nat.ne_of_gt (blk_lt (g := gb316) (o := .cells #[.slice none 0 0] 31 (0, 0)) (by (with_reducible repeat (first | refine blk_drewN ?_ _ | refine blk_drew ?_ | refine blk_alloc ?_ _)); exact BK316.out)) : gb326 ≠ gb316)); have n12_ := Aside0.mk ((by rw [hg]; exact Nat.ne_of_lt (blk_lt (g := gb322) (o := .cells #[u323000] 31 (0, 0)) (by (with_reducible repeat (first | refine blk_drewN ?_ _ | refine blk_drew ?_ | refine blk_alloc ?_ _)); exact BK322.out)) : gb322 ≠ gb326)); have n13_ := Aside0.mk ((by rw [hg]; exact Nat.ne_of_gt (blk_lt (g := gb322) (o := .cells #[u323000] 31 (0, 0)) (by (with_reducible repeat (first | refine blk_drewN ?_ _ | refine blk_drew ?_ | refine blk_alloc ?_ _)); exact BK322.out)) : gb326 ≠ gb322)); clear HO_323000; clear BK315; clear BK316; clear BK322; clear HB; have HO_323000 := n0_; have BK315 := n1_; have BK316 := n2_; have BK322 := n3_; have HB := n4_; have BK326 := n5_; have GW326 := n6_; have GE326 := n7_; have NB315_326 := n8_; have NB326_315 := n9_; have NB316_326 := n10_; have NB326_316 := n11_; have NB322_326 := n12_; have NB326_322 := n13_; clear n0_ n1_ n2_ n3_ n4_ n5_ n6_ n7_ n8_ n9_ n10_ n11_ n12_ n13_; clear hb hbox hg; have hnb69 := NB326_315.out; have hnc69 := NB315_326.out; have hnb70 := NB326_316.out; have hnc70 := NB316_326.out; have hnb71 := NB326_322.out; have hnc71 := NB322_326.out; have hcz72_0 : w68.cell? ⟨gb326, 0, none⟩ = some (.int .i64 0) := (blk_cell BK326.out 0).trans rfl; have hcz72_1 : w68.cell? ⟨gb326, 1, none⟩ = some (.int .i64 0) := (blk_cell BK326.out 1).trans rfl; have hcz72_2 : w68.cell? ⟨gb326, 2, none⟩ = some (.int .i64 0) := (blk_cell BK326.out 2).trans rfl; have hfz72_0 := blk_frozen BK326.out 0; have hfz72_1 := blk_frozen BK326.out 1; have hfz72_2 := blk_frozen BK326.out 2))
                      go_roundg k2
                      case measure => have := HJ2.out; have := HK2.out; omega
                      case rel => exact ⟨(wrap64 (x7_2 + 1)), (x323000_2), (u323000), (by first | rfl | (simp; done) | (simp [*]; done)), H', ⟨by have := HJ2.out; have := HK2.out; omega⟩, ⟨by (with_reducible repeat (first | apply Kd.S_alloc | apply Kd.S_drewN | apply Kd.S_drew)); exact Kd.S_mono (Kd.S_far (p := ⟨gb326, 2, none⟩) (Kd.S_far (p := ⟨gb326, 1, none⟩) (Kd.S_far (p := ⟨gb326, 0, none⟩) (Kd.S_mono HO_323000.out (fun k_ hk => (⟨hk, hk.2⟩ : _ ∧ k_ ≠ gb326))) (fun _ hk => hk.2) (.int .i64 ((rd_T76 (rd_L4 l0_0 a1) x7_2).f0))) (fun _ hk => hk.2) (.int .i64 ((rd_T76 (rd_L4 l0_0 a1) x7_2).f1))) (fun _ hk => hk.2) (.int .i64 ((rd_T76 (rd_L4 l0_0 a1) x7_2).f2))) (fun _ hk => trivial)⟩, ⟨by (with_reducible repeat (first | refine blk_drewN ?_ _ | refine blk_drew ?_ | refine blk_alloc ?_ _)); refine blk_far ?_ NB315_326.out _; (with_reducible repeat (first | refine blk_drewN ?_ _ | refine blk_drew ?_ | refine blk_alloc ?_ _)); refine blk_far ?_ NB315_326.out _; (with_reducible repeat (first | refine blk_drewN ?_ _ | refine blk_drew ?_ | refine blk_alloc ?_ _)); refine blk_far ?_ NB315_326.out _; (with_reducible repeat (first | refine blk_drewN ?_ _ | refine blk_drew ?_ | refine blk_alloc ?_ _)); exact BK315.out⟩, ⟨by (with_reducible repeat (first | refine blk_drewN ?_ _ | refine blk_drew ?_ | refine blk_alloc ?_ _)); refine blk_far ?_ NB316_326.out _; (with_reducible repeat (first | refine blk_drewN ?_ _ | refine blk_drew ?_ | refine blk_alloc ?_ _)); refine blk_far ?_ NB316_326.out _; (with_reducible repeat (first | refine blk_drewN ?_ _ | refine blk_drew ?_ | refine blk_alloc ?_ _)); refine blk_far ?_ NB316_326.out _; (with_reducible repeat (first | refine blk_drewN ?_ _ | refine blk_drew ?_ | refine blk_alloc ?_ _)); exact BK316.out⟩, ⟨by (with_reducible repeat (first | refine blk_drewN ?_ _ | refine blk_drew ?_ | refine blk_alloc ?_ _)); refine blk_far ?_ NB322_326.out _; (with_reducible repeat (first | refine blk_drewN ?_ _ | refine blk_drew ?_ | refine blk_alloc ?_ _)); refine blk_far ?_ NB322_326.out _; (with_reducible repeat (first | refine blk_drewN ?_ _ | refine blk_drew ?_ | refine blk_alloc ?_ _)); refine blk_far ?_ NB322_326.out _; (with_reducible repeat (first | refine blk_drewN ?_ _ | refine blk_drew ?_ | refine blk_alloc ?_ _)); exact BK322.out⟩, ⟨by repeat (first | (with_reducible first | exact HB.out | apply below_alloc | apply pw_below_drewN | apply below_drew1 | refine below_set ?_ GE315.out | refine below_set ?_ GE316.out | refine below_set ?_ GE322.out | refine below_set ?_ GE326.out) | exact HB.out)⟩⟩
                  · rw [if_neg c32] at H
                    exact absurd H (by simp)
                · rw [if_neg c31] at H
                  have c31b0 : decide (x7_2 < ((rd_L4 l0_0 a1).length : Int)) = false := decide_eq_false c31
                  clear c31
                  simp only [Option.some.injEq, Prod.mk.injEq] at H
                  obtain ⟨rfl, rfl⟩ := H
                  have hnb73 := NB315_316.out
                  have hnc73 := NB316_315.out
                  have hnb74 := NB315_322.out
                  have hnc74 := NB322_315.out
                  have hcz75_0 : wr.cell? ⟨gb315, 0, none⟩ = some (.slice A0_0 l0_0.length c0_0) := (blk_cell BK315.out 0).trans rfl
                  have hfz75_0 := blk_frozen BK315.out 0
                  have p323 : 0 ≤ (a1 : Int) := of_decide_eq_true (by first | (with_reducible assumption) | assumption)
                  have q323 : a1 < (l0_0.length : Int) := of_decide_eq_true (by first | (with_reducible assumption) | assumption)
                  obtain ⟨ad323, A323_0, c323_0, e323, hx323_0, hl323_0, hi323_0⟩ := at_L4 HR0_0.out a1 p323 q323
                  cases e323
                  replace hx323_0 := (HB.out.cell (World.block_lt_of_cell? w _ hx323_0)).trans hx323_0
                  have HR323_0 := Aside0.mk hi323_0
                  have HC323_0 := Aside0.mk hl323_0
                  clear hi323_0 hl323_0
                  replace p323 := eq_true p323
                  replace q323 := eq_true q323
                  have hnb76 := NB322_316.out
                  have hnc76 := NB316_322.out
                  have hcz77_0 : wr.cell? ⟨gb322, 0, none⟩ = some (u323000) := (blk_cell BK322.out 0).trans rfl
                  have hfz77_0 := blk_frozen BK322.out 0
                  obtain ⟨Ao78, co78, eo78⟩ := Kd.S_slice HO_323000.out
                  subst eo78
                  have hcz79_0 : wr.cell? ⟨gb316, 0, none⟩ = some (.slice none 0 0) := (blk_cell BK316.out 0).trans rfl
                  have hfz79_0 := blk_frozen BK316.out 0
                  go_wp2
                  refine bodyPost_ret (results_ct rfl _ _ gb316 31 #[.slice Ao78 x323000_2.length co78] (0, 0) _ rfl (by (with_reducible repeat (first | refine blk_drewN ?_ _ | refine blk_drew ?_ | refine blk_alloc ?_ _)); refine blk_put (cs := #[.slice none 0 0]) ?_ 0 _ rfl; (with_reducible repeat (first | refine blk_drewN ?_ _ | refine blk_drew ?_ | refine blk_alloc ?_ _)); exact BK316.out) Try.underlying31 rfl (by kernel_rfl)) rfl ?_
                  exact ⟨_, by first | rfl | (simp [errW_none, errW_some] <;> rfl) | (simp [*, errW_none, errW_some] <;> rfl), by (with_reducible repeat (first | apply Kd.S_alloc | apply Kd.S_drewN | apply Kd.S_drew)); exact Kd.S_mono (Kd.S_far (p := ⟨gb316, 0, none⟩) (Kd.S_types HO_323000.out BK316.out (by decide)) (fun _ hk => hk.2) (.slice Ao78 x323000_2.length co78)) (fun _ hk => trivial), by repeat (first | (with_reducible first | exact HB.out | apply below_alloc | apply pw_below_drewN | apply below_drew1 | refine below_set ?_ GE315.out | refine below_set ?_ GE316.out | refine below_set ?_ GE322.out) | exact HB.out)⟩
              · rw [if_neg c30] at H
                exact absurd H (by simp)
            · rw [if_neg c29] at H
              exact absurd H (by simp)
def spec_l9Next.f (k : Nat) (l0_0 : List (List (S76))) (a1 : Int) (a2 : Int) : Option (Bool) := (spec_l2Program.f k l0_0).bind fun t363 => (if t363 = true then ((spec_l2Function.f l0_0 a1).bind fun t364 => (if t364 = true then (if 0 ≤ a1 then (if a1 < (l0_0.length : Int) then ((spec_l1In.f a2 0 (wrap64 (((rd_L4 l0_0 a1).length : Int) - 2))).bind fun t366 => (some t366)) else (none)) else (none)) else (some false))) else (some false))
end Go.Proofs.Ytmeejdeafmgdnaa.G
end
section
namespace Go.Proofs.Ytmeejdeafmgdnaa.G
open Go.RowKit Go.Proofs.Ytmeejdeafmgdnaa.SX Go.Proofs.YtmeejdeafmgdnaaW.PrintWords Go.Proofs.YtmeejdeafmgdnaaW.PrintLast Go.Proofs.YtmeejdeafmgdnaaW.PrintMore
set_option linter.unusedVariables false
set_option linter.unusedSimpArgs false
theorem inline_l0 (l : List (List ST)) (f : Int) (ho : okF l f = true) (b : List ST) (hb : l[f.toNat]? = some b) (hbl : b.length ≤ 1048576) : ∀ d i, i + d = b.length → ∀ k, d < k → spec_InlineEmpty.l0 k f (i : Int) l (l.set f.toNat (cur (inS l) b i)) = some (l.set f.toNat (b.map (inS l)), true) := by
  have hlt := okF_lt ho
  intro d
  induction d with
  | zero =>
    intro i hi k hk
    obtain ⟨k, rfl⟩ : ∃ m, k = m + 1 := ⟨k - 1, by omega⟩
    have : i = b.length := by omega
    subst this
    simp only [spec_InlineEmpty.l0, rdL_at hlt.1 hb]
    rw [if_pos hlt.1, if_pos hlt.2, if_neg (by omega), cur_end]
  | succ d ih =>
    intro i hi k hk
    obtain ⟨k, rfl⟩ : ∃ m, k = m + 1 := ⟨k - 1, by omega⟩
    obtain ⟨x, hx⟩ : ∃ x, b[i]? = some x := ⟨_, List.getElem?_eq_getElem (by omega)⟩
    simp only [spec_InlineEmpty.l0, rdL_at hlt.1 hb, rdL_set hlt.1 hb, rdT_at hx, List.set_set, Int.toNat_natCast]
    rw [if_pos hlt.1, if_pos hlt.2, if_pos (by omega), if_pos (by omega), w64b (by omega) (by omega), show ((i : Int) + 1) = ((i + 1 : Nat) : Int) from rfl]
    have key := ih (i + 1) (by omega) k (by omega)
    by_cases hk4 : x.f0 = 4
    · have hcl := call_ok ho (List.mem_of_getElem? hb) (List.mem_of_getElem? hx) hk4
      obtain ⟨b2, hb2⟩ : ∃ b2, l[x.f1.toNat]? = some b2 := ⟨_, List.getElem?_eq_getElem (by omega)⟩
      rw [if_pos hk4, if_pos hcl.1, if_pos hcl.2, rdL_at hcl.1 hb2]
      by_cases hz : (b2.length : Int) = 0
      · rw [if_pos hz, if_pos (by rw [List.length_set]; exact hlt.2), if_pos (by rw [cur_len]; omega)]
        have e : (cur (inS l) b i).set i (⟨1, 2, 0⟩ : ST) = cur (inS l) b (i + 1) := by
          rw [← cur_set hx]
          congr 1
          unfold inS
          rw [if_pos ⟨hk4, by simp only [List.getD, hb2, Option.getD_some]; omega⟩]
        rw [e]
        exact key
      · rw [if_neg hz, cur_same hx (by unfold inS; rw [if_neg (fun h => hz (by have := h.2; simp only [List.getD, hb2, Option.getD_some] at this; omega))])]
        exact key
    · rw [if_neg hk4, cur_same hx (by unfold inS; rw [if_neg (fun h => hk4 h.1)])]
      exact key
theorem inlineP_no {l : List (List ST)} {f : Int} (h : okF l f = false) : inlineP l f = ([], false) := by unfold inlineP; rw [if_neg (by rw [h]; decide)]
theorem inlineP_yes {l : List (List ST)} {f : Int} {b : List ST} (h : okF l f = true) (hb : l[f.toNat]? = some b) : inlineP l f = (l.set f.toNat (b.map (inS l)), true) := by unfold inlineP; rw [if_pos h]; simp only [List.getD, hb, Option.getD_some]
theorem set_self {l : List (List ST)} {f : Nat} {b : List ST} (hb : l[f]? = some b) : l.set f b = l := List.ext_getElem? fun j => by
  rw [List.getElem?_set]
  split
  · rename_i hj
    subst hj
    rw [if_pos (List.getElem?_eq_some_iff.1 hb).1, hb]
  · rfl
theorem spec_InlineEmpty_f (l : List (List ST)) (hf : Fits l) (f : Int) : spec_InlineEmpty.f 1048580 l f = some ((inlineP l f).1, (inlineP l f).2) := by
  simp only [spec_InlineEmpty.f, l2Program_f l hf.len 1048580 (by omega), l2Function_f l hf.len, Option.bind_some, spec_InlineEmpty.j0]
  by_cases hp : programB l = true
  · rw [if_pos hp]
    by_cases ho : okF l f = true
    · have hfn : (decide (0 ≤ f) && decide (f ≤ (l.length : Int) - 1)) = true := by simpa [okF, hp] using ho
      rw [hfn]
      simp only [Bool.not_true]
      rw [if_neg (by decide), l2Own_f l hf _ (by have := hf.len; omega)]
      simp only [Option.bind_some]
      have hlt := okF_lt ho
      obtain ⟨b, hb⟩ : ∃ b, l[f.toNat]? = some b := ⟨_, List.getElem?_eq_getElem (by omega)⟩
      have hbl := hf.each b (List.mem_of_getElem? hb)
      have := inline_l0 l f ho b hb hbl b.length 0 (by omega) 1048579 (by omega)
      rw [cur_zero, set_self hb] at this
      rw [inlineP_yes ho hb]
      exact this
    · have hfn : (decide (0 ≤ f) && decide (f ≤ (l.length : Int) - 1)) = false := by
        have h2 := Bool.eq_false_iff.2 ho
        rw [okF, hp, Bool.true_and] at h2
        exact h2
      rw [hfn, inlineP_no (Bool.eq_false_iff.2 ho)]
      rfl
  · have h2 : okF l f = false := by rw [okF, Bool.eq_false_iff.2 hp, Bool.false_and]
    rw [if_neg hp, inlineP_no h2]
    rfl
theorem inlineP_fits {l : List (List ST)} (hf : Fits l) (f : Int) : Fits (inlineP l f).1 := by
  by_cases ho : okF l f = true
  · obtain ⟨b, hb⟩ : ∃ b, l[f.toNat]? = some b := ⟨_, List.getElem?_eq_getElem (by have := okF_lt ho; omega)⟩
    rw [inlineP_yes ho hb]
    exact ⟨by rw [List.length_set]; exact hf.len, Nat.le_trans (tot_set hb (by simp)) hf.tot⟩
  · rw [inlineP_no (Bool.eq_false_iff.2 ho)]; exact nil_fits
section
variable {w0 w : World} {Rs : List Asn} {s : Sl} {l : List (List ST)} {f : Int}
theorem spec_InlineEmpty_sat (hS : Sat w0 w Rs) (hr : RdP w s l) (hf : Fits l) :
    Calls Try.prog 27 #[.agg #[.slice s.A s.n s.c], .int .i64 f] w (Ret fun r w' => ∃ s : Sl, r = .tuple #[.agg #[s.v], .bool (inlineP l f).2] ∧ Sat w0 w' (prg w0.heap.size s (inlineP l f).1 :: Rs)) := by
  have := spec_InlineEmpty.calls 1048580 s.A s.c l f _ _ w hr.rd hr.le (spec_InlineEmpty_f l hf f)
  rw [← hr.len] at this
  refine this.mono ?_
  rintro e w' ⟨v, rfl, h1, h2⟩
  obtain ⟨s', rfl, h3⟩ := madePB hS h2 h1
  exact ⟨s', rfl, h3⟩
theorem impl_InlineEmpty_sat (hS : Sat w0 w Rs) (hr : RdP w s l) (hf : Fits l) :
    Calls Try.prog 28 #[.agg #[.slice s.A s.n s.c], .int .i64 f] w (Ret fun r w' => ∃ s : Sl, r = .tuple #[.agg #[s.v], .bool (inlineP l f).2] ∧ Sat w0 w' (prg w0.heap.size s (inlineP l f).1 :: Rs)) :=
  liftPB hS (impl_InlineEmpty_sat0 hr hf)
end
end Go.Proofs.Ytmeejdeafmgdnaa.G
end
section
namespace Go.Proofs.Ytmeejdeafmgdnaa.G
open Go.RowKit Go.Proofs.Ytmeejdeafmgdnaa.SX Go.Proofs.YtmeejdeafmgdnaaW.PrintWords Go.Proofs.YtmeejdeafmgdnaaW.PrintLast Go.Proofs.YtmeejdeafmgdnaaW.PrintMore
set_option linter.unusedVariables false
set_option linter.unusedSimpArgs false
theorem code5 : Try.f5.body = some (Code.seq (Code.region 0 (regOf Try.f5 0) false) (Code.seq (Code.region 1 (regOf Try.f5 1) false) (Code.seq (Code.region 2 (regOf Try.f5 2) false) (Code.seq (Code.seq (Code.region 3 (regOf Try.f5 3) false) (Code.cond (Operand.tmp 20) (Code.seq (Code.region 4 (regOf Try.f5 4) false) Code.ret) Code.skip)) (Code.seq (Code.region 5 (regOf Try.f5 5) false) (Code.seq (Code.region 6 (regOf Try.f5 6) false) (Code.seq (Code.region 7 (regOf Try.f5 7) false) (Code.seq (Code.seq (Code.region 8 (regOf Try.f5 8) false) (Code.cond (Operand.tmp 44) (Code.seq (Code.region 9 (regOf Try.f5 9) false) Code.ret) Code.skip)) (Code.seq (Code.seq (Code.region 10 (regOf Try.f5 10) true) (Code.cond (Operand.tmp 49) (Code.seq (Code.region 11 (regOf Try.f5 11) false) Code.ret) Code.skip)) (Code.seq (Code.region 12 (regOf Try.f5 12) false) (Code.seq (Code.region 13 (regOf Try.f5 13) false) (Code.seq (Code.seq (Code.region 14 (regOf Try.f5 14) false) (Code.cond (Operand.tmp 65) (Code.seq (Code.region 15 (regOf Try.f5 15) false) Code.ret) Code.skip)) (Code.seq (Code.region 16 (regOf Try.f5 16) false) (Code.seq (Code.region 17 (regOf Try.f5 17) false) (Code.seq (Code.region 18 (regOf Try.f5 18) false) (Code.seq (Code.region 19 (regOf Try.f5 19) false) (Code.seq (Code.seq (Code.region 20 (regOf Try.f5 20) false) (Code.cond (Operand.tmp 73) (Code.seq (Code.region 21 (regOf Try.f5 21) false) Code.ret) Code.skip)) (Code.seq (Code.seq (Code.region 22 (regOf Try.f5 22) false) (Code.cond (Operand.tmp 76) (Code.seq (Code.region 23 (regOf Try.f5 23) false) Code.ret) Code.skip)) (Code.seq (Code.region 24 (regOf Try.f5 24) false) (Code.seq (Code.seq (Code.region 25 (regOf Try.f5 25) false) (Code.cond (Operand.tmp 92) (Code.seq (Code.region 26 (regOf Try.f5 26) false) Code.ret) Code.skip)) (Code.seq (Code.region 27 (regOf Try.f5 27) false) (Code.seq (Code.region 28 (regOf Try.f5 28) false) (Code.seq (Code.seq (Code.region 29 (regOf Try.f5 29) false) (Code.cond (Operand.tmp 97) (Code.seq (Code.region 30 (regOf Try.f5 30) false) Code.ret) Code.skip)) (Code.seq (Code.seq (Code.region 31 (regOf Try.f5 31) false) (Code.cond (Operand.tmp 100) (Code.seq (Code.region 32 (regOf Try.f5 32) false) Code.ret) Code.skip)) (Code.seq (Code.region 33 (regOf Try.f5 33) false) Code.ret))))))))))))))))))))))))) := by kernel_rfl
set_option maxRecDepth 20000 in
set_option maxHeartbeats 1000000 in
theorem law5_walk (w0 : World) (s0 : Sl) (l0 : List (List LT)) (x1 : Int) (hr0 : RdA w0 s0 l0) :
    Calls Try.prog 5 #[.agg #[.slice s0.A s0.n s0.c], .int .i64 x1] w0 (Ret fun r w' => r = .bool true ∧ Below w0.heap.size w0 w') := by
  have hS : Sat w0 w0 [] := Sat.start w0
  refine enter (n := 101) Try.func5 code5 (by kernel_rfl) (Nat.le_of_ble_eq_true rfl) (fun a ha => ?_)
  replace ha : Has 101 [(0, .agg #[.slice s0.A s0.n s0.c]), (1, .int .i64 x1)] a := ha
  refine wp_seq ?_
  refine p_begin ?_
  refine p_op (o_new (cs := [.slice s0.A s0.n s0.c]) (T := 24) (fun b => .pointer (some ⟨b, 0, none⟩)) ha (by decide) (At.here (by kernel_rfl : ((regOf Try.f5 0)[0]?).map spec = some ((Op.box 24 (Operand.tmp 0)), some 2, 0, none))) (by kernel_rfl) hS (fun _ => by kernel_rfl) (fun b5 w3 a1 hb6 (hS4 : Sat w0 w3 ((SX.blk b5 [.slice s0.A s0.n s0.c] 24) :: [])) ha2 => ?_))
  refine p_val (v := .bool false) ha2 (by decide) (v_pure ha2 (At.here (by kernel_rfl : ((regOf Try.f5 0)[1]?).map spec = some ((Op.assign (Operand.const (Value.bool false))), some 4, 4, none))) (by kernel_rfl) (fun _ => by kernel_rfl)) (fun a7 ha8 => ?_)
  refine p_end ?_
  have ha9 := ha8.keeps [1, 2, 4] [(1, .int .i64 x1), (2, .pointer (some ⟨b5, 0, none⟩)), (4, .bool false)] rfl
  clear ha8 ha2 a1 hS ha a
  refine then_n ?_
  refine wp_seq ?_
  refine p_begin ?_
  refine p_val (v := .int .i64 1048576) ha9 (by decide) (v_pure ha9 (At.here (by kernel_rfl : ((regOf Try.f5 1)[0]?).map spec = some ((Op.assign (Operand.const (Value.int IntKind.i64 1048576))), some 5, 3, none))) (by kernel_rfl) (fun _ => by kernel_rfl)) (fun a10 ha11 => ?_)
  refine p_end ?_
  have ha12 := ha11.keeps [1, 2, 4, 5] [(1, .int .i64 x1), (2, .pointer (some ⟨b5, 0, none⟩)), (4, .bool false), (5, .int .i64 1048576)] rfl
  clear ha11 ha9 a7
  refine then_n ?_
  refine wp_seq ?_
  refine p_begin ?_
  refine p_val (v := .agg #[.slice s0.A s0.n s0.c]) ha12 (by decide) (v_loadAgg (vs := [.slice s0.A s0.n s0.c]) (cs := [.slice s0.A s0.n s0.c]) (T := 24) ha12 (At.here (by kernel_rfl : ((regOf Try.f5 2)[0]?).map spec = some ((Op.load 24 (Operand.tmp 2)), some 16, 24, none))) rfl (by kernel_rfl) (fun _ hw => by rw [hw]; exact hS4.blk 0 rfl) rfl) (fun a13 ha14 => ?_)
  refine p_val (v := .int .i64 1048576) ha14 (by decide) (v_pure ha14 (At.here (by kernel_rfl : ((regOf Try.f5 2)[1]?).map spec = some ((Op.move (Operand.tmp 5)), some 17, 3, none))) (by kernel_rfl) (fun _ => by kernel_rfl)) (fun a15 ha16 => ?_)
  refine p_op (o_ret (Post := fun r w' => r = .int .i64 (szP l0 1048576) ∧ Sat w0 w' ((SX.blk b5 [.slice s0.A s0.n s0.c] 24) :: [])) ha16 (by decide) (At.here (by kernel_rfl : ((regOf Try.f5 2)[2]?).map spec = some ((Op.call { callee := (Callee.value (Operand.func 20)), args := #[(Operand.tmp 16), (Operand.tmp 17)], argTypes := #[24, 3] }), some 18, 3, none))) rfl Try.func20 (by kernel_rfl) (szProgram_sat hS4 (hr0.sat hS4) (by omega) (by omega)) (fun v21 w19 a17 hp22 ha18 => ?_))
  obtain ⟨rfl, hS20⟩ := hp22
  have ha23 : Has 101 [(1, .int .i64 x1), (2, .pointer (some ⟨b5, 0, none⟩)), (4, .bool false), (5, .int .i64 1048576), (16, .agg #[.slice s0.A s0.n s0.c]), (17, .int .i64 1048576), (18, .int .i64 (szP l0 1048576))] a17 := ha18.keeps [1, 2, 4, 5, 16, 17, 18] _ rfl
  refine p_val (v := .int .i64 (szP l0 1048576)) ha23 (by decide) (v_pure ha23 (At.here (by kernel_rfl : ((regOf Try.f5 2)[3]?).map spec = some ((Op.assign (Operand.tmp 18)), some 5, 3, none))) (by kernel_rfl) (fun _ => by kernel_rfl)) (fun a24 ha25 => ?_)
  refine p_end ?_
  have ha26 := ha25.keeps [1, 2, 4, 5] [(1, .int .i64 x1), (2, .pointer (some ⟨b5, 0, none⟩)), (4, .bool false), (5, .int .i64 (szP l0 1048576))] rfl
  clear ha25 ha23 a17 ha18 hS4 ha16 a15 ha14 a13 ha12 a10
  refine then_n ?_
  refine wp_seq ?_
  refine wp_seq ?_
  refine p_begin ?_
  refine p_val (v := .int .i64 (szP l0 1048576)) ha26 (by decide) (v_pure ha26 (At.here (by kernel_rfl : ((regOf Try.f5 3)[0]?).map spec = some ((Op.move (Operand.tmp 5)), some 19, 3, none))) (by kernel_rfl) (fun _ => by kernel_rfl)) (fun a27 ha28 => ?_)
  refine p_val (v := .bool (decide ((szP l0 1048576) < 0))) ha28 (by decide) (v_pure ha28 (At.here (by kernel_rfl : ((regOf Try.f5 3)[1]?).map spec = some ((Op.binOp BinOp.lss 3 (Operand.tmp 19) (Operand.const (Value.int IntKind.i64 0)) 3), some 20, 4, none))) (by kernel_rfl) (fun _ => by kernel_rfl)) (fun a29 ha30 => ?_)
  refine p_end ?_
  have ha31 := ha30.keeps [1, 2, 4, 20] [(1, .int .i64 x1), (2, .pointer (some ⟨b5, 0, none⟩)), (4, .bool false), (20, .bool (decide ((szP l0 1048576) < 0)))] rfl
  clear ha30 ha28 a27 ha26 a24
  refine then_n ?_
  by_cases c32 : (szP l0 1048576) < 0
  ·
    have ha33 : Has 101 [(1, .int .i64 x1), (2, .pointer (some ⟨b5, 0, none⟩)), (4, .bool false), (20, .bool true)] a29 := by have hh : Has 101 [(1, .int .i64 x1), (2, .pointer (some ⟨b5, 0, none⟩)), (4, .bool false), (20, .bool (decide ((szP l0 1048576) < 0)))] a29 := ha31.keeps [1, 2, 4, 20] _ rfl; simp only [decide_eq_true c32, Bool.not_true, Bool.not_false] at hh; exact hh
    refine c_true ha33 rfl rfl ?_
    refine wp_seq ?_
    refine p_begin ?_
    refine p_val (v := .bool true) ha33 (by decide) (v_pure ha33 (At.here (by kernel_rfl : ((regOf Try.f5 4)[0]?).map spec = some ((Op.assign (Operand.const (Value.bool true))), some 4, 4, none))) (by kernel_rfl) (fun _ => by kernel_rfl)) (fun a34 ha35 => ?_)
    refine p_end ?_
    have ha36 := ha35.keeps [1, 2, 4] [(1, .int .i64 x1), (2, .pointer (some ⟨b5, 0, none⟩)), (4, .bool true)] rfl
    clear ha35 ha33 a29 ha31
    refine then_n ?_
    refine wp_ret ?_
    refine then_r ?_
    refine end_res1 ha36 (by kernel_rfl) (resT (t := 4) ha36 rfl) ?_
    exact ⟨rfl, hS20.below⟩
  ·
    have ha37 : Has 101 [(1, .int .i64 x1), (2, .pointer (some ⟨b5, 0, none⟩)), (4, .bool false), (20, .bool false)] a29 := by have hh : Has 101 [(1, .int .i64 x1), (2, .pointer (some ⟨b5, 0, none⟩)), (4, .bool false), (20, .bool (decide ((szP l0 1048576) < 0)))] a29 := ha31.keeps [1, 2, 4, 20] _ rfl; simp only [decide_eq_false c32, Bool.not_true, Bool.not_false] at hh; exact hh
    have hf : Fits l0 := by have h8 : 0 ≤ szP l0 1048576 := (by omega); have h9 := szP_ok l0 1048576 h8; exact ⟨by omega, by omega⟩
    have hfr : Fits (inlineP (toP l0) x1).1 := inlineP_fits (toP_fits hf) x1
    refine c_false ha37 rfl rfl ?_
    refine wp_skip ?_
    refine then_n ?_
    refine wp_seq ?_
    refine p_begin ?_
    refine p_val (v := .agg #[.slice s0.A s0.n s0.c]) ha37 (by decide) (v_loadAgg (vs := [.slice s0.A s0.n s0.c]) (cs := [.slice s0.A s0.n s0.c]) (T := 24) ha37 (At.here (by kernel_rfl : ((regOf Try.f5 5)[0]?).map spec = some ((Op.load 24 (Operand.tmp 2)), some 22, 24, none))) rfl (by kernel_rfl) (fun _ hw => by rw [hw]; exact hS20.blk 0 rfl) rfl) (fun a38 ha39 => ?_)
    refine p_op (o_ret (Post := fun r w' => ∃ s1 : Sl, r = .agg #[s1.v] ∧ Sat w0 w' ((prg w0.heap.size s1 (toP l0)) :: (SX.blk b5 [.slice s0.A s0.n s0.c] 24) :: [])) ha39 (by decide) (At.here (by kernel_rfl : ((regOf Try.f5 5)[1]?).map spec = some ((Op.call { callee := (Callee.value (Operand.func 22)), args := #[(Operand.tmp 22)], argTypes := #[24] }), some 23, 31, none))) rfl Try.func22 (by kernel_rfl) (toProgram_sat hS20 (hr0.sat hS20) hf) (fun v44 w42 a40 hp45 ha41 => ?_))
    obtain ⟨s1, rfl, hS43⟩ := hp45
    have ha46 : Has 101 [(1, .int .i64 x1), (2, .pointer (some ⟨b5, 0, none⟩)), (4, .bool false), (20, .bool false), (22, .agg #[.slice s0.A s0.n s0.c]), (23, .agg #[.slice s1.A s1.n s1.c])] a40 := ha41.keeps [1, 2, 4, 20, 22, 23] _ rfl
    refine p_val (v := .int .i64 x1) ha46 (by decide) (v_pure ha46 (At.here (by kernel_rfl : ((regOf Try.f5 5)[2]?).map spec = some ((Op.move (Operand.tmp 1)), some 24, 3, none))) (by kernel_rfl) (fun _ => by kernel_rfl)) (fun a47 ha48 => ?_)
    refine p_op (o_ret (Post := fun r w' => ∃ s2 : Sl, r = .tuple #[.agg #[s2.v], .bool (inlineP (toP l0) x1).2] ∧ Sat w0 w' ((prg w0.heap.size s2 (inlineP (toP l0) x1).1) :: (prg w0.heap.size s1 (toP l0)) :: (SX.blk b5 [.slice s0.A s0.n s0.c] 24) :: [])) ha48 (by decide) (At.here (by kernel_rfl : ((regOf Try.f5 5)[3]?).map spec = some ((Op.call { callee := (Callee.value (Operand.func 27)), args := #[(Operand.tmp 23), (Operand.tmp 24)], argTypes := #[31, 3] }), some 25, 38, none))) rfl Try.func27 (by kernel_rfl) (spec_InlineEmpty_sat hS43 (hS43.rdS 0 rfl) (toP_fits hf)) (fun v53 w51 a49 hp54 ha50 => ?_))
    obtain ⟨s2, rfl, hS52⟩ := hp54
    have ha55 : Has 101 [(1, .int .i64 x1), (2, .pointer (some ⟨b5, 0, none⟩)), (4, .bool false), (20, .bool false), (22, .agg #[.slice s0.A s0.n s0.c]), (23, .agg #[.slice s1.A s1.n s1.c]), (24, .int .i64 x1), (25, .tuple #[.agg #[.slice s2.A s2.n s2.c], .bool ((inlineP (toP l0) x1).2)])] a49 := ha50.keeps [1, 2, 4, 20, 22, 23, 24, 25] _ rfl
    refine p_val (v := .tuple #[.agg #[.slice s2.A s2.n s2.c], .bool ((inlineP (toP l0) x1).2)]) ha55 (by decide) (v_pure ha55 (At.here (by kernel_rfl : ((regOf Try.f5 5)[4]?).map spec = some ((Op.move (Operand.tmp 25)), some 21, 38, none))) (by kernel_rfl) (fun _ => by kernel_rfl)) (fun a56 ha57 => ?_)
    refine p_val (v := .agg #[.slice s2.A s2.n s2.c]) ha57 (by decide) (v_pure ha57 (At.here (by kernel_rfl : ((regOf Try.f5 5)[5]?).map spec = some ((Op.extract (Operand.tmp 21) 0), some 26, 31, none))) (by kernel_rfl) (fun _ => by kernel_rfl)) (fun a58 ha59 => ?_)
    refine p_val (v := .bool ((inlineP (toP l0) x1).2)) ha59 (by decide) (v_pure ha59 (At.here (by kernel_rfl : ((regOf Try.f5 5)[6]?).map spec = some ((Op.extract (Operand.tmp 21) 1), some 27, 4, none))) (by kernel_rfl) (fun _ => by kernel_rfl)) (fun a60 ha61 => ?_)
    refine p_op (o_new (cs := [.slice none 0 0]) (T := 31) (fun b => .pointer (some ⟨b, 0, none⟩)) ha61 (by decide) (At.here (by kernel_rfl : ((regOf Try.f5 5)[7]?).map spec = some ((Op.alloc 31), some 6, 0, none))) (by kernel_rfl) hS52 (fun _ => by kernel_rfl) (fun b66 w64 a62 hb67 (hS65 : Sat w0 w64 ((SX.blk b66 [.slice none 0 0] 31) :: (prg w0.heap.size s2 (inlineP (toP l0) x1).1) :: (prg w0.heap.size s1 (toP l0)) :: (SX.blk b5 [.slice s0.A s0.n s0.c] 24) :: [])) ha63 => ?_))
    refine p_op (o_storeAgg (vs := [.slice s2.A s2.n s2.c]) (cs := [.slice none 0 0]) (cs' := [.slice s2.A s2.n s2.c]) 0 ha63 (At.here (by kernel_rfl : ((regOf Try.f5 5)[8]?).map spec = some ((Op.store 31 (Operand.tmp 6) (Operand.tmp 26)), none, 0, none))) rfl rfl rfl (by kernel_rfl) hS65 rfl (by simp) rfl (fun w70 a68 (hS71 : Sat w0 w70 ((SX.blk b66 [.slice s2.A s2.n s2.c] 31) :: (prg w0.heap.size s2 (inlineP (toP l0) x1).1) :: (prg w0.heap.size s1 (toP l0)) :: (SX.blk b5 [.slice s0.A s0.n s0.c] 24) :: [])) ha69 => ?_))
    refine p_val (v := .bool ((inlineP (toP l0) x1).2)) ha69 (by decide) (v_pure ha69 (At.here (by kernel_rfl : ((regOf Try.f5 5)[9]?).map spec = some ((Op.assign (Operand.tmp 27)), some 7, 4, none))) (by kernel_rfl) (fun _ => by kernel_rfl)) (fun a72 ha73 => ?_)
    refine p_end ?_
    have ha74 := ha73.keeps [1, 2, 4, 6, 7] [(1, .int .i64 x1), (2, .pointer (some ⟨b5, 0, none⟩)), (4, .bool false), (6, .pointer (some ⟨b66, 0, none⟩)), (7, .bool ((inlineP (toP l0) x1).2))] rfl
    clear ha73 ha69 a68 hS65 ha63 a62 hS52 ha61 a60 ha59 a58 ha57 a56 ha55 a49 ha50 hS43 ha48 a47 ha46 a40 ha41 hS20 ha39 a38 ha37 a29 ha31
    refine then_n ?_
    refine wp_seq ?_
    refine p_begin ?_
    refine p_val (v := .agg #[.slice s0.A s0.n s0.c]) ha74 (by decide) (v_loadAgg (vs := [.slice s0.A s0.n s0.c]) (cs := [.slice s0.A s0.n s0.c]) (T := 24) ha74 (At.here (by kernel_rfl : ((regOf Try.f5 6)[0]?).map spec = some ((Op.load 24 (Operand.tmp 2)), some 28, 24, none))) rfl (by kernel_rfl) (fun _ hw => by rw [hw]; exact hS71.blk 3 rfl) rfl) (fun a75 ha76 => ?_)
    refine p_op (o_ret (Post := fun r w' => ∃ s3 : Sl, r = .agg #[s3.v] ∧ Sat w0 w' ((prg w0.heap.size s3 (toP l0)) :: (SX.blk b66 [.slice s2.A s2.n s2.c] 31) :: (prg w0.heap.size s2 (inlineP (toP l0) x1).1) :: (prg w0.heap.size s1 (toP l0)) :: (SX.blk b5 [.slice s0.A s0.n s0.c] 24) :: [])) ha76 (by decide) (At.here (by kernel_rfl : ((regOf Try.f5 6)[1]?).map spec = some ((Op.call { callee := (Callee.value (Operand.func 22)), args := #[(Operand.tmp 28)], argTypes := #[24] }), some 29, 31, none))) rfl Try.func22 (by kernel_rfl) (toProgram_sat hS71 (hr0.sat hS71) hf) (fun v81 w79 a77 hp82 ha78 => ?_))
    obtain ⟨s3, rfl, hS80⟩ := hp82
    have ha83 : Has 101 [(1, .int .i64 x1), (2, .pointer (some ⟨b5, 0, none⟩)), (4, .bool false), (6, .pointer (some ⟨b66, 0, none⟩)), (7, .bool ((inlineP (toP l0) x1).2)), (28, .agg #[.slice s0.A s0.n s0.c]), (29, .agg #[.slice s3.A s3.n s3.c])] a77 := ha78.keeps [1, 2, 4, 6, 7, 28, 29] _ rfl
    refine p_op (o_new (cs := [.slice none 0 0]) (T := 31) (fun b => .pointer (some ⟨b, 0, none⟩)) ha83 (by decide) (At.here (by kernel_rfl : ((regOf Try.f5 6)[2]?).map spec = some ((Op.alloc 31), some 8, 0, none))) (by kernel_rfl) hS80 (fun _ => by kernel_rfl) (fun b88 w86 a84 hb89 (hS87 : Sat w0 w86 ((SX.blk b88 [.slice none 0 0] 31) :: (prg w0.heap.size s3 (toP l0)) :: (SX.blk b66 [.slice s2.A s2.n s2.c] 31) :: (prg w0.heap.size s2 (inlineP (toP l0) x1).1) :: (prg w0.heap.size s1 (toP l0)) :: (SX.blk b5 [.slice s0.A s0.n s0.c] 24) :: [])) ha85 => ?_))
    refine p_op (o_storeAgg (vs := [.slice s3.A s3.n s3.c]) (cs := [.slice none 0 0]) (cs' := [.slice s3.A s3.n s3.c]) 0 ha85 (At.here (by kernel_rfl : ((regOf Try.f5 6)[3]?).map spec = some ((Op.store 31 (Operand.tmp 8) (Operand.tmp 29)), none, 0, none))) rfl rfl rfl (by kernel_rfl) hS87 rfl (by simp) rfl (fun w92 a90 (hS93 : Sat w0 w92 ((SX.blk b88 [.slice s3.A s3.n s3.c] 31) :: (prg w0.heap.size s3 (toP l0)) :: (SX.blk b66 [.slice s2.A s2.n s2.c] 31) :: (prg w0.heap.size s2 (inlineP (toP l0) x1).1) :: (prg w0.heap.size s1 (toP l0)) :: (SX.blk b5 [.slice s0.A s0.n s0.c] 24) :: [])) ha91 => ?_))
    refine p_end ?_
    have ha94 := ha91.keeps [1, 2, 4, 6, 7, 8] [(1, .int .i64 x1), (2, .pointer (some ⟨b5, 0, none⟩)), (4, .bool false), (6, .pointer (some ⟨b66, 0, none⟩)), (7, .bool ((inlineP (toP l0) x1).2)), (8, .pointer (some ⟨b88, 0, none⟩))] rfl
    clear ha91 hS87 ha85 a84 hS80 ha83 a77 ha78 hS71 ha76 a75 ha74 a72
    refine then_n ?_
    refine wp_seq ?_
    refine p_begin ?_
    refine p_val (v := .agg #[.slice s3.A s3.n s3.c]) ha94 (by decide) (v_loadAgg (vs := [.slice s3.A s3.n s3.c]) (cs := [.slice s3.A s3.n s3.c]) (T := 31) ha94 (At.here (by kernel_rfl : ((regOf Try.f5 7)[0]?).map spec = some ((Op.load 31 (Operand.tmp 8)), some 31, 31, none))) rfl (by kernel_rfl) (fun _ hw => by rw [hw]; exact hS93.blk 0 rfl) rfl) (fun a95 ha96 => ?_)
    refine p_val (v := .int .i64 x1) ha96 (by decide) (v_pure ha96 (At.here (by kernel_rfl : ((regOf Try.f5 7)[1]?).map spec = some ((Op.move (Operand.tmp 1)), some 32, 3, none))) (by kernel_rfl) (fun _ => by kernel_rfl)) (fun a97 ha98 => ?_)
    refine p_op (o_ret (Post := fun r w' => ∃ s4 : Sl, r = .tuple #[.agg #[s4.v], .bool (inlineP (toP l0) x1).2] ∧ Sat w0 w' ((prg w0.heap.size s4 (inlineP (toP l0) x1).1) :: (SX.blk b88 [.slice s3.A s3.n s3.c] 31) :: (prg w0.heap.size s3 (toP l0)) :: (SX.blk b66 [.slice s2.A s2.n s2.c] 31) :: (prg w0.heap.size s2 (inlineP (toP l0) x1).1) :: (prg w0.heap.size s1 (toP l0)) :: (SX.blk b5 [.slice s0.A s0.n s0.c] 24) :: [])) ha98 (by decide) (At.here (by kernel_rfl : ((regOf Try.f5 7)[2]?).map spec = some ((Op.call { callee := (Callee.value (Operand.func 28)), args := #[(Operand.tmp 31), (Operand.tmp 32)], argTypes := #[31, 3] }), some 33, 38, none))) rfl Try.func28 (by kernel_rfl) (impl_InlineEmpty_sat hS93 (hS93.rdS 1 rfl) (toP_fits hf)) (fun v103 w101 a99 hp104 ha100 => ?_))
    obtain ⟨s4, rfl, hS102⟩ := hp104
    have ha105 : Has 101 [(1, .int .i64 x1), (2, .pointer (some ⟨b5, 0, none⟩)), (4, .bool false), (6, .pointer (some ⟨b66, 0, none⟩)), (7, .bool ((inlineP (toP l0) x1).2)), (8, .pointer (some ⟨b88, 0, none⟩)), (31, .agg #[.slice s3.A s3.n s3.c]), (32, .int .i64 x1), (33, .tuple #[.agg #[.slice s4.A s4.n s4.c], .bool ((inlineP (toP l0) x1).2)])] a99 := ha100.keeps [1, 2, 4, 6, 7, 8, 31, 32, 33] _ rfl
    refine p_val (v := .tuple #[.agg #[.slice s4.A s4.n s4.c], .bool ((inlineP (toP l0) x1).2)]) ha105 (by decide) (v_pure ha105 (At.here (by kernel_rfl : ((regOf Try.f5 7)[3]?).map spec = some ((Op.move (Operand.tmp 33)), some 30, 38, none))) (by kernel_rfl) (fun _ => by kernel_rfl)) (fun a106 ha107 => ?_)
    refine p_val (v := .agg #[.slice s4.A s4.n s4.c]) ha107 (by decide) (v_pure ha107 (At.here (by kernel_rfl : ((regOf Try.f5 7)[4]?).map spec = some ((Op.extract (Operand.tmp 30) 0), some 34, 31, none))) (by kernel_rfl) (fun _ => by kernel_rfl)) (fun a108 ha109 => ?_)
    refine p_val (v := .bool ((inlineP (toP l0) x1).2)) ha109 (by decide) (v_pure ha109 (At.here (by kernel_rfl : ((regOf Try.f5 7)[5]?).map spec = some ((Op.extract (Operand.tmp 30) 1), some 35, 4, none))) (by kernel_rfl) (fun _ => by kernel_rfl)) (fun a110 ha111 => ?_)
    refine p_op (o_new (cs := [.slice none 0 0]) (T := 31) (fun b => .pointer (some ⟨b, 0, none⟩)) ha111 (by decide) (At.here (by kernel_rfl : ((regOf Try.f5 7)[6]?).map spec = some ((Op.alloc 31), some 9, 0, none))) (by kernel_rfl) hS102 (fun _ => by kernel_rfl) (fun b116 w114 a112 hb117 (hS115 : Sat w0 w114 ((SX.blk b116 [.slice none 0 0] 31) :: (prg w0.heap.size s4 (inlineP (toP l0) x1).1) :: (SX.blk b88 [.slice s3.A s3.n s3.c] 31) :: (prg w0.heap.size s3 (toP l0)) :: (SX.blk b66 [.slice s2.A s2.n s2.c] 31) :: (prg w0.heap.size s2 (inlineP (toP l0) x1).1) :: (prg w0.heap.size s1 (toP l0)) :: (SX.blk b5 [.slice s0.A s0.n s0.c] 24) :: [])) ha113 => ?_))
    refine p_op (o_storeAgg (vs := [.slice s4.A s4.n s4.c]) (cs := [.slice none 0 0]) (cs' := [.slice s4.A s4.n s4.c]) 0 ha113 (At.here (by kernel_rfl : ((regOf Try.f5 7)[7]?).map spec = some ((Op.store 31 (Operand.tmp 9) (Operand.tmp 34)), none, 0, none))) rfl rfl rfl (by kernel_rfl) hS115 rfl (by simp) rfl (fun w120 a118 (hS121 : Sat w0 w120 ((SX.blk b116 [.slice s4.A s4.n s4.c] 31) :: (prg w0.heap.size s4 (inlineP (toP l0) x1).1) :: (SX.blk b88 [.slice s3.A s3.n s3.c] 31) :: (prg w0.heap.size s3 (toP l0)) :: (SX.blk b66 [.slice s2.A s2.n s2.c] 31) :: (prg w0.heap.size s2 (inlineP (toP l0) x1).1) :: (prg w0.heap.size s1 (toP l0)) :: (SX.blk b5 [.slice s0.A s0.n s0.c] 24) :: [])) ha119 => ?_))
    refine p_val (v := .bool ((inlineP (toP l0) x1).2)) ha119 (by decide) (v_pure ha119 (At.here (by kernel_rfl : ((regOf Try.f5 7)[8]?).map spec = some ((Op.assign (Operand.tmp 35)), some 10, 4, none))) (by kernel_rfl) (fun _ => by kernel_rfl)) (fun a122 ha123 => ?_)
    refine p_end ?_
    have ha124 := ha123.keeps [1, 2, 4, 6, 7, 8, 9, 10] [(1, .int .i64 x1), (2, .pointer (some ⟨b5, 0, none⟩)), (4, .bool false), (6, .pointer (some ⟨b66, 0, none⟩)), (7, .bool ((inlineP (toP l0) x1).2)), (8, .pointer (some ⟨b88, 0, none⟩)), (9, .pointer (some ⟨b116, 0, none⟩)), (10, .bool ((inlineP (toP l0) x1).2))] rfl
    clear ha123 ha119 a118 hS115 ha113 a112 hS102 ha111 a110 ha109 a108 ha107 a106 ha105 a99 ha100 hS93 ha98 a97 ha96 a95 ha94 a90
    refine then_n ?_
    refine wp_seq ?_
    refine wp_seq ?_
    refine p_begin ?_
    refine p_val (v := .agg #[.slice s4.A s4.n s4.c]) ha124 (by decide) (v_loadAgg (vs := [.slice s4.A s4.n s4.c]) (cs := [.slice s4.A s4.n s4.c]) (T := 31) ha124 (At.here (by kernel_rfl : ((regOf Try.f5 8)[0]?).map spec = some ((Op.load 31 (Operand.tmp 9)), some 36, 31, none))) rfl (by kernel_rfl) (fun _ hw => by rw [hw]; exact hS121.blk 0 rfl) rfl) (fun a125 ha126 => ?_)
    refine p_val (v := .agg #[.slice s2.A s2.n s2.c]) ha126 (by decide) (v_loadAgg (vs := [.slice s2.A s2.n s2.c]) (cs := [.slice s2.A s2.n s2.c]) (T := 31) ha126 (At.here (by kernel_rfl : ((regOf Try.f5 8)[1]?).map spec = some ((Op.load 31 (Operand.tmp 6)), some 37, 31, none))) rfl (by kernel_rfl) (fun _ hw => by rw [hw]; exact hS121.blk 4 rfl) rfl) (fun a127 ha128 => ?_)
    refine p_op (o_ret (Post := fun r w' => r = .bool true ∧ Sat w0 w' ((SX.blk b116 [.slice s4.A s4.n s4.c] 31) :: (prg w0.heap.size s4 (inlineP (toP l0) x1).1) :: (SX.blk b88 [.slice s3.A s3.n s3.c] 31) :: (prg w0.heap.size s3 (toP l0)) :: (SX.blk b66 [.slice s2.A s2.n s2.c] 31) :: (prg w0.heap.size s2 (inlineP (toP l0) x1).1) :: (prg w0.heap.size s1 (toP l0)) :: (SX.blk b5 [.slice s0.A s0.n s0.c] 24) :: [])) ha128 (by decide) (At.here (by kernel_rfl : ((regOf Try.f5 8)[2]?).map spec = some ((Op.call { callee := (Callee.value (Operand.func 24)), args := #[(Operand.tmp 36), (Operand.tmp 37)], argTypes := #[31, 31] }), some 38, 4, none))) rfl Try.func24 (by kernel_rfl) (eqProgram_sat hS121 (hS121.rdS 1 rfl) (hS121.rdS 5 rfl) hfr) (fun v133 w131 a129 hp134 ha130 => ?_))
    obtain ⟨rfl, hS132⟩ := hp134
    have ha135 : Has 101 [(1, .int .i64 x1), (2, .pointer (some ⟨b5, 0, none⟩)), (4, .bool false), (6, .pointer (some ⟨b66, 0, none⟩)), (7, .bool ((inlineP (toP l0) x1).2)), (8, .pointer (some ⟨b88, 0, none⟩)), (9, .pointer (some ⟨b116, 0, none⟩)), (10, .bool ((inlineP (toP l0) x1).2)), (36, .agg #[.slice s4.A s4.n s4.c]), (37, .agg #[.slice s2.A s2.n s2.c]), (38, .bool true)] a129 := ha130.keeps [1, 2, 4, 6, 7, 8, 9, 10, 36, 37, 38] _ rfl
    refine p_val (v := .bool false) ha135 (by decide) (v_pure ha135 (At.here (by kernel_rfl : ((regOf Try.f5 8)[3]?).map spec = some ((Op.unOp UnOp.not 4 (Operand.tmp 38)), some 39, 4, none))) (by kernel_rfl) (fun _ => by kernel_rfl)) (fun a136 ha137 => ?_)
    refine p_val (v := .bool false) ha137 (by decide) (v_pure ha137 (At.here (by kernel_rfl : ((regOf Try.f5 8)[4]?).map spec = some ((Op.move (Operand.tmp 39)), some 40, 4, none))) (by kernel_rfl) (fun _ => by kernel_rfl)) (fun a138 ha139 => ?_)
    refine p_val (v := .bool ((inlineP (toP l0) x1).2)) ha139 (by decide) (v_pure ha139 (AtG.here (gd := 40) ⟨(by kernel_rfl : ((regOf Try.f5 8)[5]?).map spec = some ((Op.move (Operand.tmp 10)), some 41, 4, some (4, false))), by kernel_rfl⟩ ha139 rfl) (by kernel_rfl) (fun _ => by kernel_rfl)) (fun a140 ha141 => ?_)
    refine p_val (v := .bool ((inlineP (toP l0) x1).2)) ha141 (by decide) (v_pure ha141 (AtG.here (gd := 40) ⟨(by kernel_rfl : ((regOf Try.f5 8)[6]?).map spec = some ((Op.move (Operand.tmp 7)), some 42, 4, some (4, false))), by kernel_rfl⟩ ha141 rfl) (by kernel_rfl) (fun _ => by kernel_rfl)) (fun a142 ha143 => ?_)
    refine p_val (v := .bool false) ha143 (by decide) ((v_pure (v := .bool (!(((inlineP (toP l0) x1).2) == ((inlineP (toP l0) x1).2)))) ha143 (AtG.here (gd := 40) ⟨(by kernel_rfl : ((regOf Try.f5 8)[7]?).map spec = some ((Op.binOp BinOp.neq 4 (Operand.tmp 41) (Operand.tmp 42) 4), some 43, 4, some (4, false))), by kernel_rfl⟩ ha143 rfl) (by kernel_rfl) (fun _ => by kernel_rfl)).as (by simp)) (fun a144 ha145 => ?_)
    refine p_val (v := .bool false) ha145 (by decide) (v_pure ha145 (At.here (by kernel_rfl : ((regOf Try.f5 8)[8]?).map spec = some ((Op.pick (Operand.tmp 40) (Operand.const (Value.bool true)) (Operand.tmp 43)), some 44, 4, none))) (by kernel_rfl) (fun _ => by kernel_rfl)) (fun a146 ha147 => ?_)
    refine p_end ?_
    have ha148 := ha147.keeps [1, 2, 4, 6, 7, 8, 9, 10, 44] [(1, .int .i64 x1), (2, .pointer (some ⟨b5, 0, none⟩)), (4, .bool false), (6, .pointer (some ⟨b66, 0, none⟩)), (7, .bool ((inlineP (toP l0) x1).2)), (8, .pointer (some ⟨b88, 0, none⟩)), (9, .pointer (some ⟨b116, 0, none⟩)), (10, .bool ((inlineP (toP l0) x1).2)), (44, .bool false)] rfl
    clear ha147 ha145 a144 ha143 a142 ha141 a140 ha139 a138 ha137 a136 ha135 a129 ha130 hS121 ha128 a127 ha126 a125 ha124 a122
    refine then_n ?_
    refine c_false ha148 rfl rfl ?_
    refine wp_skip ?_
    refine then_n ?_
    refine wp_seq ?_
    refine wp_seq ?_
    refine d_begin (m := 5) (F := fun w' => w'.heap[b116]? = some (.cells ([.slice s4.A s4.n s4.c]).toArray 31 (0, 0)) ∧ w'.heap[b88]? = some (.cells ([.slice s3.A s3.n s3.c]).toArray 31 (0, 0)) ∧ w'.heap[b66]? = some (.cells ([.slice s2.A s2.n s2.c]).toArray 31 (0, 0)) ∧ w'.heap[b5]? = some (.cells ([.slice s0.A s0.n s0.c]).toArray 24 (0, 0))) (by kernel_rfl) ?_
    have hS149 := hS132.drew
    generalize hw_ : w131.drew = w150 at hS149 ⊢
    clear hw_
    change wpD _ _ _ _ _ 5 (List.replicate 5 false).toArray _ _
    have hF151 : (fun w' => w'.heap[b116]? = some (.cells ([.slice s4.A s4.n s4.c]).toArray 31 (0, 0)) ∧ w'.heap[b88]? = some (.cells ([.slice s3.A s3.n s3.c]).toArray 31 (0, 0)) ∧ w'.heap[b66]? = some (.cells ([.slice s2.A s2.n s2.c]).toArray 31 (0, 0)) ∧ w'.heap[b5]? = some (.cells ([.slice s0.A s0.n s0.c]).toArray 24 (0, 0))) w150 := ⟨hS149.blk 0 rfl, hS149.blk 2 rfl, hS149.blk 4 rfl, hS149.blk 7 rfl⟩
    refine d_val (i := 0) (v := .agg #[.slice s3.A s3.n s3.c]) ha148 (by decide) (v_loadAgg (vs := [.slice s3.A s3.n s3.c]) (cs := [.slice s3.A s3.n s3.c]) (T := 31) ha148 (At.here (by kernel_rfl : ((regOf Try.f5 10)[0]?).map spec = some ((Op.load 31 (Operand.tmp 8)), some 45, 31, none))) rfl (by kernel_rfl) (fun _ hw => hw.2.1) rfl) hF151 (by kernel_rfl) (by kernel_rfl) (pk_then (pk_then (pk_body))) (fun a152 ha153 => ?_)
    change wpD _ _ _ _ _ 4 #[true, false, false, false, false] _ _
    refine d_val (i := 1) (v := .agg #[.slice s0.A s0.n s0.c]) ha153 (by decide) (v_loadAgg (vs := [.slice s0.A s0.n s0.c]) (cs := [.slice s0.A s0.n s0.c]) (T := 24) ha153 (At.here (by kernel_rfl : ((regOf Try.f5 10)[1]?).map spec = some ((Op.load 24 (Operand.tmp 2)), some 46, 24, none))) rfl (by kernel_rfl) (fun _ hw => hw.2.2.2) rfl) hF151 (by kernel_rfl) (by kernel_rfl) (pk_then (pk_then (pk_body))) (fun a154 ha155 => ?_)
    change wpD _ _ _ _ _ 3 #[true, true, false, false, false] _ _
    refine d_one (i := 2) (by kernel_rfl) (o_ret (Post := fun r w' => ∃ s5 : Sl, r = .agg #[s5.v] ∧ Sat w0 w' ((prg w0.heap.size s5 (toP l0)) :: (SX.blk b116 [.slice s4.A s4.n s4.c] 31) :: (prg w0.heap.size s4 (inlineP (toP l0) x1).1) :: (SX.blk b88 [.slice s3.A s3.n s3.c] 31) :: (prg w0.heap.size s3 (toP l0)) :: (SX.blk b66 [.slice s2.A s2.n s2.c] 31) :: (prg w0.heap.size s2 (inlineP (toP l0) x1).1) :: (prg w0.heap.size s1 (toP l0)) :: (SX.blk b5 [.slice s0.A s0.n s0.c] 24) :: [])) ha155 (by decide) (At.here (by kernel_rfl : ((regOf Try.f5 10)[2]?).map spec = some ((Op.call { callee := (Callee.value (Operand.func 22)), args := #[(Operand.tmp 46)], argTypes := #[24] }), some 47, 31, none))) rfl Try.func22 (by kernel_rfl) (toProgram_sat hS149 (hr0.sat hS149) hf) (fun v160 w158 a156 hp161 ha157 => ?_))
    obtain ⟨s5, rfl, hS159⟩ := hp161
    have ha162 : Has 101 [(1, .int .i64 x1), (2, .pointer (some ⟨b5, 0, none⟩)), (4, .bool false), (6, .pointer (some ⟨b66, 0, none⟩)), (7, .bool ((inlineP (toP l0) x1).2)), (8, .pointer (some ⟨b88, 0, none⟩)), (9, .pointer (some ⟨b116, 0, none⟩)), (10, .bool ((inlineP (toP l0) x1).2)), (44, .bool false), (45, .agg #[.slice s3.A s3.n s3.c]), (46, .agg #[.slice s0.A s0.n s0.c]), (47, .agg #[.slice s5.A s5.n s5.c])] a156 := ha157.keeps [1, 2, 4, 6, 7, 8, 9, 10, 44, 45, 46, 47] _ rfl
    have hF163 : (fun w' => w'.heap[b116]? = some (.cells ([.slice s4.A s4.n s4.c]).toArray 31 (0, 0)) ∧ w'.heap[b88]? = some (.cells ([.slice s3.A s3.n s3.c]).toArray 31 (0, 0)) ∧ w'.heap[b66]? = some (.cells ([.slice s2.A s2.n s2.c]).toArray 31 (0, 0)) ∧ w'.heap[b5]? = some (.cells ([.slice s0.A s0.n s0.c]).toArray 24 (0, 0))) w158 := ⟨hS159.blk 1 rfl, hS159.blk 3 rfl, hS159.blk 5 rfl, hS159.blk 8 rfl⟩
    refine ⟨.inr hF163, ?_⟩
    change wpD _ _ _ _ _ 2 #[true, true, true, false, false] _ _
    refine d_one (i := 3) (by kernel_rfl) (o_ret (Post := fun r w' => r = .bool true ∧ Sat w0 w' ((prg w0.heap.size s5 (toP l0)) :: (SX.blk b116 [.slice s4.A s4.n s4.c] 31) :: (prg w0.heap.size s4 (inlineP (toP l0) x1).1) :: (SX.blk b88 [.slice s3.A s3.n s3.c] 31) :: (prg w0.heap.size s3 (toP l0)) :: (SX.blk b66 [.slice s2.A s2.n s2.c] 31) :: (prg w0.heap.size s2 (inlineP (toP l0) x1).1) :: (prg w0.heap.size s1 (toP l0)) :: (SX.blk b5 [.slice s0.A s0.n s0.c] 24) :: [])) ha162 (by decide) (At.here (by kernel_rfl : ((regOf Try.f5 10)[3]?).map spec = some ((Op.call { callee := (Callee.value (Operand.func 24)), args := #[(Operand.tmp 45), (Operand.tmp 47)], argTypes := #[31, 31] }), some 48, 4, none))) rfl Try.func24 (by kernel_rfl) (eqProgram_sat hS159 (hS159.rdS 4 rfl) (hS159.rdS 0 rfl) (toP_fits hf)) (fun v168 w166 a164 hp169 ha165 => ?_))
    obtain ⟨rfl, hS167⟩ := hp169
    have ha170 : Has 101 [(1, .int .i64 x1), (2, .pointer (some ⟨b5, 0, none⟩)), (4, .bool false), (6, .pointer (some ⟨b66, 0, none⟩)), (7, .bool ((inlineP (toP l0) x1).2)), (8, .pointer (some ⟨b88, 0, none⟩)), (9, .pointer (some ⟨b116, 0, none⟩)), (10, .bool ((inlineP (toP l0) x1).2)), (44, .bool false), (45, .agg #[.slice s3.A s3.n s3.c]), (46, .agg #[.slice s0.A s0.n s0.c]), (47, .agg #[.slice s5.A s5.n s5.c]), (48, .bool true)] a164 := ha165.keeps [1, 2, 4, 6, 7, 8, 9, 10, 44, 45, 46, 47, 48] _ rfl
    have hF171 : (fun w' => w'.heap[b116]? = some (.cells ([.slice s4.A s4.n s4.c]).toArray 31 (0, 0)) ∧ w'.heap[b88]? = some (.cells ([.slice s3.A s3.n s3.c]).toArray 31 (0, 0)) ∧ w'.heap[b66]? = some (.cells ([.slice s2.A s2.n s2.c]).toArray 31 (0, 0)) ∧ w'.heap[b5]? = some (.cells ([.slice s0.A s0.n s0.c]).toArray 24 (0, 0))) w166 := ⟨hS167.blk 1 rfl, hS167.blk 3 rfl, hS167.blk 5 rfl, hS167.blk 8 rfl⟩
    refine ⟨.inr hF171, ?_⟩
    change wpD _ _ _ _ _ 1 #[true, true, true, true, false] _ _
    refine d_pure (i := 4) (v := .bool false) ha170 (by decide) (v_pure ha170 (At.here (by kernel_rfl : ((regOf Try.f5 10)[4]?).map spec = some ((Op.unOp UnOp.not 4 (Operand.tmp 48)), some 49, 4, none))) (by kernel_rfl) (fun _ => by kernel_rfl)) (.inr hF171) (by kernel_rfl) (by kernel_rfl) (pk_then (pk_then (pk_body))) (fun a172 ha173 => ?_)
    change wpD _ _ _ _ _ 0 #[true, true, true, true, true] _ _
    refine d_end (by kernel_rfl) ?_ 0
    have ha174 := ha173.keeps [1, 2, 4, 6, 7, 8, 9, 10, 49] [(1, .int .i64 x1), (2, .pointer (some ⟨b5, 0, none⟩)), (4, .bool false), (6, .pointer (some ⟨b66, 0, none⟩)), (7, .bool ((inlineP (toP l0) x1).2)), (8, .pointer (some ⟨b88, 0, none⟩)), (9, .pointer (some ⟨b116, 0, none⟩)), (10, .bool ((inlineP (toP l0) x1).2)), (49, .bool false)] rfl
    clear ha173 ha170 a164 ha165 hS159 ha162 a156 ha157 hS149 ha155 a154 ha153 a152 ha148 a146 hS132
    refine then_n ?_
    refine c_false ha174 rfl rfl ?_
    refine wp_skip ?_
    refine then_n ?_
    refine wp_seq ?_
    refine p_begin ?_
    refine p_val (v := .int .i64 1) ha174 (by decide) (v_pure ha174 (At.here (by kernel_rfl : ((regOf Try.f5 12)[0]?).map spec = some ((Op.assign (Operand.const (Value.int IntKind.i64 1))), some 11, 3, none))) (by kernel_rfl) (fun _ => by kernel_rfl)) (fun a175 ha176 => ?_)
    refine p_end ?_
    have ha177 := ha176.keeps [1, 2, 4, 6, 7, 8, 9, 10, 11] [(1, .int .i64 x1), (2, .pointer (some ⟨b5, 0, none⟩)), (4, .bool false), (6, .pointer (some ⟨b66, 0, none⟩)), (7, .bool ((inlineP (toP l0) x1).2)), (8, .pointer (some ⟨b88, 0, none⟩)), (9, .pointer (some ⟨b116, 0, none⟩)), (10, .bool ((inlineP (toP l0) x1).2)), (11, .int .i64 1)] rfl
    clear ha176 ha174 a172
    refine then_n ?_
    refine wp_seq ?_
    refine p_begin ?_
    refine p_val (v := .agg #[.slice s3.A s3.n s3.c]) ha177 (by decide) (v_loadAgg (vs := [.slice s3.A s3.n s3.c]) (cs := [.slice s3.A s3.n s3.c]) (T := 31) ha177 (At.here (by kernel_rfl : ((regOf Try.f5 13)[0]?).map spec = some ((Op.load 31 (Operand.tmp 8)), some 50, 31, none))) rfl (by kernel_rfl) (fun _ hw => by rw [hw]; exact hS167.blk 3 rfl) rfl) (fun a178 ha179 => ?_)
    refine p_val (v := .int .i64 1) ha179 (by decide) (v_pure ha179 (At.here (by kernel_rfl : ((regOf Try.f5 13)[1]?).map spec = some ((Op.move (Operand.tmp 11)), some 51, 3, none))) (by kernel_rfl) (fun _ => by kernel_rfl)) (fun a180 ha181 => ?_)
    have hS186 : Sat w0 w166 ((prg w0.heap.size s3 (toP l0)) :: (prg w0.heap.size s5 (toP l0)) :: (SX.blk b116 [.slice s4.A s4.n s4.c] 31) :: (prg w0.heap.size s4 (inlineP (toP l0) x1).1) :: (SX.blk b88 [.slice s3.A s3.n s3.c] 31) :: (SX.blk b66 [.slice s2.A s2.n s2.c] 31) :: (prg w0.heap.size s2 (inlineP (toP l0) x1).1) :: (prg w0.heap.size s1 (toP l0)) :: (SX.blk b5 [.slice s0.A s0.n s0.c] 24) :: []) := hS167.pickR (l := [prg w0.heap.size s5 (toP l0), SX.blk b116 [.slice s4.A s4.n s4.c] 31, prg w0.heap.size s4 (inlineP (toP l0) x1).1, SX.blk b88 [.slice s3.A s3.n s3.c] 31, prg w0.heap.size s3 (toP l0), SX.blk b66 [.slice s2.A s2.n s2.c] 31, prg w0.heap.size s2 (inlineP (toP l0) x1).1, prg w0.heap.size s1 (toP l0), SX.blk b5 [.slice s0.A s0.n s0.c] 24]) [4, 0, 1, 2, 3, 5, 6, 7, 8] (by decide) [prg w0.heap.size s3 (toP l0), prg w0.heap.size s5 (toP l0), SX.blk b116 [.slice s4.A s4.n s4.c] 31, prg w0.heap.size s4 (inlineP (toP l0) x1).1, SX.blk b88 [.slice s3.A s3.n s3.c] 31, SX.blk b66 [.slice s2.A s2.n s2.c] 31, prg w0.heap.size s2 (inlineP (toP l0) x1).1, prg w0.heap.size s1 (toP l0), SX.blk b5 [.slice s0.A s0.n s0.c] 24] rfl
    refine p_op (o_ret (Post := fun r w' => r = .int .i64 (1 + 3 * (tot (toP l0) : Int)) ∧ Sat w0 w' ((prg w0.heap.size s3 (mkSS 1 (toP l0))) :: (prg w0.heap.size s5 (toP l0)) :: (SX.blk b116 [.slice s4.A s4.n s4.c] 31) :: (prg w0.heap.size s4 (inlineP (toP l0) x1).1) :: (SX.blk b88 [.slice s3.A s3.n s3.c] 31) :: (SX.blk b66 [.slice s2.A s2.n s2.c] 31) :: (prg w0.heap.size s2 (inlineP (toP l0) x1).1) :: (prg w0.heap.size s1 (toP l0)) :: (SX.blk b5 [.slice s0.A s0.n s0.c] 24) :: [])) ha181 (by decide) (At.here (by kernel_rfl : ((regOf Try.f5 13)[2]?).map spec = some ((Op.call { callee := (Callee.value (Operand.func 25)), args := #[(Operand.tmp 50), (Operand.tmp 51)], argTypes := #[31, 3] }), some 52, 3, none))) rfl Try.func25 (by kernel_rfl) (markProgram_sat hS186 (toP_fits hf) (by omega) (by omega)) (fun v187 w184 a182 hp188 ha183 => ?_))
    obtain ⟨rfl, hS185⟩ := hp188
    have ha189 : Has 101 [(1, .int .i64 x1), (2, .pointer (some ⟨b5, 0, none⟩)), (4, .bool false), (6, .pointer (some ⟨b66, 0, none⟩)), (7, .bool ((inlineP (toP l0) x1).2)), (8, .pointer (some ⟨b88, 0, none⟩)), (9, .pointer (some ⟨b116, 0, none⟩)), (10, .bool ((inlineP (toP l0) x1).2)), (11, .int .i64 1), (50, .agg #[.slice s3.A s3.n s3.c]), (51, .int .i64 1), (52, .int .i64 (1 + 3 * (tot (toP l0) : Int)))] a182 := ha183.keeps [1, 2, 4, 6, 7, 8, 9, 10, 11, 50, 51, 52] _ rfl
    refine p_val (v := .int .i64 (1 + 3 * (tot (toP l0) : Int))) ha189 (by decide) (v_pure ha189 (At.here (by kernel_rfl : ((regOf Try.f5 13)[3]?).map spec = some ((Op.assign (Operand.tmp 52)), some 11, 3, none))) (by kernel_rfl) (fun _ => by kernel_rfl)) (fun a190 ha191 => ?_)
    refine p_end ?_
    have ha192 := ha191.keeps [1, 2, 4, 6, 7, 9, 10, 11] [(1, .int .i64 x1), (2, .pointer (some ⟨b5, 0, none⟩)), (4, .bool false), (6, .pointer (some ⟨b66, 0, none⟩)), (7, .bool ((inlineP (toP l0) x1).2)), (9, .pointer (some ⟨b116, 0, none⟩)), (10, .bool ((inlineP (toP l0) x1).2)), (11, .int .i64 (1 + 3 * (tot (toP l0) : Int)))] rfl
    clear ha191 ha189 a182 ha183 hS186 ha181 a180 hS167 ha179 a178 ha177 a175
    refine then_n ?_
    refine wp_seq ?_
    refine wp_seq ?_
    refine p_begin ?_
    refine p_val (v := .int .i64 (1 + 3 * (tot (toP l0) : Int))) ha192 (by decide) (v_pure ha192 (At.here (by kernel_rfl : ((regOf Try.f5 14)[0]?).map spec = some ((Op.move (Operand.tmp 11)), some 53, 3, none))) (by kernel_rfl) (fun _ => by kernel_rfl)) (fun a193 ha194 => ?_)
    refine p_val (v := .bool false) ha194 (by decide) ((v_pure (v := .bool (decide (1 + 3 * (tot (toP l0) : Int) < 0))) ha194 (At.here (by kernel_rfl : ((regOf Try.f5 14)[1]?).map spec = some ((Op.binOp BinOp.lss 3 (Operand.tmp 53) (Operand.const (Value.int IntKind.i64 0)) 3), some 54, 4, none))) (by kernel_rfl) (fun _ => by kernel_rfl)).as (by rw [decide_eq_false (by omega)])) (fun a195 ha196 => ?_)
    refine p_val (v := .bool false) ha196 (by decide) (v_pure ha196 (At.here (by kernel_rfl : ((regOf Try.f5 14)[2]?).map spec = some ((Op.move (Operand.tmp 54)), some 55, 4, none))) (by kernel_rfl) (fun _ => by kernel_rfl)) (fun a197 ha198 => ?_)
    refine p_val (v := .agg #[.slice s4.A s4.n s4.c]) ha198 (by decide) (v_loadAgg (vs := [.slice s4.A s4.n s4.c]) (cs := [.slice s4.A s4.n s4.c]) (T := 31) ha198 (AtG.here (gd := 55) ⟨(by kernel_rfl : ((regOf Try.f5 14)[3]?).map spec = some ((Op.load 31 (Operand.tmp 9)), some 56, 31, some (2, false))), by kernel_rfl⟩ ha198 rfl) rfl (by kernel_rfl) (fun _ hw => by rw [hw]; exact hS185.blk 2 rfl) rfl) (fun a199 ha200 => ?_)
    refine p_val (v := .agg #[.slice s2.A s2.n s2.c]) ha200 (by decide) (v_loadAgg (vs := [.slice s2.A s2.n s2.c]) (cs := [.slice s2.A s2.n s2.c]) (T := 31) ha200 (AtG.here (gd := 55) ⟨(by kernel_rfl : ((regOf Try.f5 14)[4]?).map spec = some ((Op.load 31 (Operand.tmp 6)), some 57, 31, some (2, false))), by kernel_rfl⟩ ha200 rfl) rfl (by kernel_rfl) (fun _ hw => by rw [hw]; exact hS185.blk 5 rfl) rfl) (fun a201 ha202 => ?_)
    refine p_op (o_ret (Post := fun r w' => r = .bool true ∧ Sat w0 w' ((prg w0.heap.size s3 (mkSS 1 (toP l0))) :: (prg w0.heap.size s5 (toP l0)) :: (SX.blk b116 [.slice s4.A s4.n s4.c] 31) :: (prg w0.heap.size s4 (inlineP (toP l0) x1).1) :: (SX.blk b88 [.slice s3.A s3.n s3.c] 31) :: (SX.blk b66 [.slice s2.A s2.n s2.c] 31) :: (prg w0.heap.size s2 (inlineP (toP l0) x1).1) :: (prg w0.heap.size s1 (toP l0)) :: (SX.blk b5 [.slice s0.A s0.n s0.c] 24) :: [])) ha202 (by decide) (AtG.here (gd := 55) ⟨(by kernel_rfl : ((regOf Try.f5 14)[5]?).map spec = some ((Op.call { callee := (Callee.value (Operand.func 24)), args := #[(Operand.tmp 56), (Operand.tmp 57)], argTypes := #[31, 31] }), some 58, 4, some (2, false))), by kernel_rfl⟩ ha202 rfl) rfl Try.func24 (by kernel_rfl) (eqProgram_sat hS185 (hS185.rdS 3 rfl) (hS185.rdS 6 rfl) hfr) (fun v207 w205 a203 hp208 ha204 => ?_))
    obtain ⟨rfl, hS206⟩ := hp208
    have ha209 : Has 101 [(1, .int .i64 x1), (2, .pointer (some ⟨b5, 0, none⟩)), (4, .bool false), (6, .pointer (some ⟨b66, 0, none⟩)), (7, .bool ((inlineP (toP l0) x1).2)), (9, .pointer (some ⟨b116, 0, none⟩)), (10, .bool ((inlineP (toP l0) x1).2)), (11, .int .i64 (1 + 3 * (tot (toP l0) : Int))), (53, .int .i64 (1 + 3 * (tot (toP l0) : Int))), (54, .bool false), (55, .bool false), (56, .agg #[.slice s4.A s4.n s4.c]), (57, .agg #[.slice s2.A s2.n s2.c]), (58, .bool true)] a203 := ha204.keeps [1, 2, 4, 6, 7, 9, 10, 11, 53, 54, 55, 56, 57, 58] _ rfl
    refine p_val (v := .bool false) ha209 (by decide) (v_pure ha209 (AtG.here (gd := 55) ⟨(by kernel_rfl : ((regOf Try.f5 14)[6]?).map spec = some ((Op.unOp UnOp.not 4 (Operand.tmp 58)), some 59, 4, some (2, false))), by kernel_rfl⟩ ha209 rfl) (by kernel_rfl) (fun _ => by kernel_rfl)) (fun a210 ha211 => ?_)
    refine p_val (v := .bool false) ha211 (by decide) (v_pure ha211 (At.here (by kernel_rfl : ((regOf Try.f5 14)[7]?).map spec = some ((Op.pick (Operand.tmp 55) (Operand.const (Value.bool true)) (Operand.tmp 59)), some 60, 4, none))) (by kernel_rfl) (fun _ => by kernel_rfl)) (fun a212 ha213 => ?_)
    refine p_val (v := .bool false) ha213 (by decide) (v_pure ha213 (At.here (by kernel_rfl : ((regOf Try.f5 14)[8]?).map spec = some ((Op.move (Operand.tmp 60)), some 61, 4, none))) (by kernel_rfl) (fun _ => by kernel_rfl)) (fun a214 ha215 => ?_)
    refine p_val (v := .bool ((inlineP (toP l0) x1).2)) ha215 (by decide) (v_pure ha215 (AtG.here (gd := 61) ⟨(by kernel_rfl : ((regOf Try.f5 14)[9]?).map spec = some ((Op.move (Operand.tmp 10)), some 62, 4, some (8, false))), by kernel_rfl⟩ ha215 rfl) (by kernel_rfl) (fun _ => by kernel_rfl)) (fun a216 ha217 => ?_)
    refine p_val (v := .bool ((inlineP (toP l0) x1).2)) ha217 (by decide) (v_pure ha217 (AtG.here (gd := 61) ⟨(by kernel_rfl : ((regOf Try.f5 14)[10]?).map spec = some ((Op.move (Operand.tmp 7)), some 63, 4, some (8, false))), by kernel_rfl⟩ ha217 rfl) (by kernel_rfl) (fun _ => by kernel_rfl)) (fun a218 ha219 => ?_)
    refine p_val (v := .bool false) ha219 (by decide) ((v_pure (v := .bool (!(((inlineP (toP l0) x1).2) == ((inlineP (toP l0) x1).2)))) ha219 (AtG.here (gd := 61) ⟨(by kernel_rfl : ((regOf Try.f5 14)[11]?).map spec = some ((Op.binOp BinOp.neq 4 (Operand.tmp 62) (Operand.tmp 63) 4), some 64, 4, some (8, false))), by kernel_rfl⟩ ha219 rfl) (by kernel_rfl) (fun _ => by kernel_rfl)).as (by simp)) (fun a220 ha221 => ?_)
    refine p_val (v := .bool false) ha221 (by decide) (v_pure ha221 (At.here (by kernel_rfl : ((regOf Try.f5 14)[12]?).map spec = some ((Op.pick (Operand.tmp 61) (Operand.const (Value.bool true)) (Operand.tmp 64)), some 65, 4, none))) (by kernel_rfl) (fun _ => by kernel_rfl)) (fun a222 ha223 => ?_)
    refine p_end ?_
    have ha224 := ha223.keeps [1, 2, 4, 6, 7, 9, 65] [(1, .int .i64 x1), (2, .pointer (some ⟨b5, 0, none⟩)), (4, .bool false), (6, .pointer (some ⟨b66, 0, none⟩)), (7, .bool ((inlineP (toP l0) x1).2)), (9, .pointer (some ⟨b116, 0, none⟩)), (65, .bool false)] rfl
    clear ha223 ha221 a220 ha219 a218 ha217 a216 ha215 a214 ha213 a212 ha211 a210 ha209 a203 ha204 hS185 ha202 a201 ha200 a199 ha198 a197 ha196 a195 ha194 a193 ha192 a190
    refine then_n ?_
    refine c_false ha224 rfl rfl ?_
    refine wp_skip ?_
    refine then_n ?_
    refine wp_seq ?_
    refine p_begin ?_
    refine p_val (v := .int .i64 1) ha224 (by decide) (v_pure ha224 (At.here (by kernel_rfl : ((regOf Try.f5 16)[0]?).map spec = some ((Op.assign (Operand.const (Value.int IntKind.i64 1))), some 12, 3, none))) (by kernel_rfl) (fun _ => by kernel_rfl)) (fun a225 ha226 => ?_)
    refine p_end ?_
    have ha227 := ha226.keeps [1, 2, 4, 6, 7, 9, 12] [(1, .int .i64 x1), (2, .pointer (some ⟨b5, 0, none⟩)), (4, .bool false), (6, .pointer (some ⟨b66, 0, none⟩)), (7, .bool ((inlineP (toP l0) x1).2)), (9, .pointer (some ⟨b116, 0, none⟩)), (12, .int .i64 1)] rfl
    clear ha226 ha224 a222
    refine then_n ?_
    refine wp_seq ?_
    refine p_begin ?_
    refine p_val (v := .agg #[.slice s4.A s4.n s4.c]) ha227 (by decide) (v_loadAgg (vs := [.slice s4.A s4.n s4.c]) (cs := [.slice s4.A s4.n s4.c]) (T := 31) ha227 (At.here (by kernel_rfl : ((regOf Try.f5 17)[0]?).map spec = some ((Op.load 31 (Operand.tmp 9)), some 66, 31, none))) rfl (by kernel_rfl) (fun _ hw => by rw [hw]; exact hS206.blk 2 rfl) rfl) (fun a228 ha229 => ?_)
    refine p_val (v := .int .i64 1) ha229 (by decide) (v_pure ha229 (At.here (by kernel_rfl : ((regOf Try.f5 17)[1]?).map spec = some ((Op.move (Operand.tmp 12)), some 67, 3, none))) (by kernel_rfl) (fun _ => by kernel_rfl)) (fun a230 ha231 => ?_)
    have hS236 : Sat w0 w205 ((prg w0.heap.size s4 (inlineP (toP l0) x1).1) :: (prg w0.heap.size s3 (mkSS 1 (toP l0))) :: (prg w0.heap.size s5 (toP l0)) :: (SX.blk b116 [.slice s4.A s4.n s4.c] 31) :: (SX.blk b88 [.slice s3.A s3.n s3.c] 31) :: (SX.blk b66 [.slice s2.A s2.n s2.c] 31) :: (prg w0.heap.size s2 (inlineP (toP l0) x1).1) :: (prg w0.heap.size s1 (toP l0)) :: (SX.blk b5 [.slice s0.A s0.n s0.c] 24) :: []) := hS206.pickR (l := [prg w0.heap.size s3 (mkSS 1 (toP l0)), prg w0.heap.size s5 (toP l0), SX.blk b116 [.slice s4.A s4.n s4.c] 31, prg w0.heap.size s4 (inlineP (toP l0) x1).1, SX.blk b88 [.slice s3.A s3.n s3.c] 31, SX.blk b66 [.slice s2.A s2.n s2.c] 31, prg w0.heap.size s2 (inlineP (toP l0) x1).1, prg w0.heap.size s1 (toP l0), SX.blk b5 [.slice s0.A s0.n s0.c] 24]) [3, 0, 1, 2, 4, 5, 6, 7, 8] (by decide) [prg w0.heap.size s4 (inlineP (toP l0) x1).1, prg w0.heap.size s3 (mkSS 1 (toP l0)), prg w0.heap.size s5 (toP l0), SX.blk b116 [.slice s4.A s4.n s4.c] 31, SX.blk b88 [.slice s3.A s3.n s3.c] 31, SX.blk b66 [.slice s2.A s2.n s2.c] 31, prg w0.heap.size s2 (inlineP (toP l0) x1).1, prg w0.heap.size s1 (toP l0), SX.blk b5 [.slice s0.A s0.n s0.c] 24] rfl
    refine p_op (o_ret (Post := fun r w' => r = .int .i64 (1 + 3 * (tot ((inlineP (toP l0) x1).1) : Int)) ∧ Sat w0 w' ((prg w0.heap.size s4 (mkSS 1 ((inlineP (toP l0) x1).1))) :: (prg w0.heap.size s3 (mkSS 1 (toP l0))) :: (prg w0.heap.size s5 (toP l0)) :: (SX.blk b116 [.slice s4.A s4.n s4.c] 31) :: (SX.blk b88 [.slice s3.A s3.n s3.c] 31) :: (SX.blk b66 [.slice s2.A s2.n s2.c] 31) :: (prg w0.heap.size s2 (inlineP (toP l0) x1).1) :: (prg w0.heap.size s1 (toP l0)) :: (SX.blk b5 [.slice s0.A s0.n s0.c] 24) :: [])) ha231 (by decide) (At.here (by kernel_rfl : ((regOf Try.f5 17)[2]?).map spec = some ((Op.call { callee := (Callee.value (Operand.func 25)), args := #[(Operand.tmp 66), (Operand.tmp 67)], argTypes := #[31, 3] }), some 68, 3, none))) rfl Try.func25 (by kernel_rfl) (markProgram_sat hS236 hfr (by omega) (by omega)) (fun v237 w234 a232 hp238 ha233 => ?_))
    obtain ⟨rfl, hS235⟩ := hp238
    have ha239 : Has 101 [(1, .int .i64 x1), (2, .pointer (some ⟨b5, 0, none⟩)), (4, .bool false), (6, .pointer (some ⟨b66, 0, none⟩)), (7, .bool ((inlineP (toP l0) x1).2)), (9, .pointer (some ⟨b116, 0, none⟩)), (12, .int .i64 1), (66, .agg #[.slice s4.A s4.n s4.c]), (67, .int .i64 1), (68, .int .i64 (1 + 3 * (tot ((inlineP (toP l0) x1).1) : Int)))] a232 := ha233.keeps [1, 2, 4, 6, 7, 9, 12, 66, 67, 68] _ rfl
    refine p_val (v := .int .i64 (1 + 3 * (tot ((inlineP (toP l0) x1).1) : Int))) ha239 (by decide) (v_pure ha239 (At.here (by kernel_rfl : ((regOf Try.f5 17)[3]?).map spec = some ((Op.assign (Operand.tmp 68)), some 12, 3, none))) (by kernel_rfl) (fun _ => by kernel_rfl)) (fun a240 ha241 => ?_)
    refine p_end ?_
    have ha242 := ha241.keeps [1, 2, 4, 6, 7, 9, 12] [(1, .int .i64 x1), (2, .pointer (some ⟨b5, 0, none⟩)), (4, .bool false), (6, .pointer (some ⟨b66, 0, none⟩)), (7, .bool ((inlineP (toP l0) x1).2)), (9, .pointer (some ⟨b116, 0, none⟩)), (12, .int .i64 (1 + 3 * (tot ((inlineP (toP l0) x1).1) : Int)))] rfl
    clear ha241 ha239 a232 ha233 hS236 ha231 a230 hS206 ha229 a228 ha227 a225
    refine then_n ?_
    refine wp_seq ?_
    refine p_begin ?_
    refine p_val (v := .int .i64 1) ha242 (by decide) (v_pure ha242 (At.here (by kernel_rfl : ((regOf Try.f5 18)[0]?).map spec = some ((Op.assign (Operand.const (Value.int IntKind.i64 1))), some 13, 3, none))) (by kernel_rfl) (fun _ => by kernel_rfl)) (fun a243 ha244 => ?_)
    refine p_end ?_
    have ha245 := ha244.keeps [1, 2, 4, 6, 7, 9, 12, 13] [(1, .int .i64 x1), (2, .pointer (some ⟨b5, 0, none⟩)), (4, .bool false), (6, .pointer (some ⟨b66, 0, none⟩)), (7, .bool ((inlineP (toP l0) x1).2)), (9, .pointer (some ⟨b116, 0, none⟩)), (12, .int .i64 (1 + 3 * (tot ((inlineP (toP l0) x1).1) : Int))), (13, .int .i64 1)] rfl
    clear ha244 ha242 a240
    refine then_n ?_
    refine wp_seq ?_
    refine p_begin ?_
    refine p_val (v := .agg #[.slice s4.A s4.n s4.c]) ha245 (by decide) (v_loadAgg (vs := [.slice s4.A s4.n s4.c]) (cs := [.slice s4.A s4.n s4.c]) (T := 31) ha245 (At.here (by kernel_rfl : ((regOf Try.f5 19)[0]?).map spec = some ((Op.load 31 (Operand.tmp 9)), some 69, 31, none))) rfl (by kernel_rfl) (fun _ hw => by rw [hw]; exact hS235.blk 3 rfl) rfl) (fun a246 ha247 => ?_)
    refine p_val (v := .int .i64 1) ha247 (by decide) (v_pure ha247 (At.here (by kernel_rfl : ((regOf Try.f5 19)[1]?).map spec = some ((Op.move (Operand.tmp 13)), some 70, 3, none))) (by kernel_rfl) (fun _ => by kernel_rfl)) (fun a248 ha249 => ?_)
    refine p_op (o_ret (Post := fun r w' => r = .int .i64 (1 + 3 * (tot ((inlineP (toP l0) x1).1) : Int)) ∧ Sat w0 w' ((prg w0.heap.size s4 (mkSS 1 ((inlineP (toP l0) x1).1))) :: (prg w0.heap.size s3 (mkSS 1 (toP l0))) :: (prg w0.heap.size s5 (toP l0)) :: (SX.blk b116 [.slice s4.A s4.n s4.c] 31) :: (SX.blk b88 [.slice s3.A s3.n s3.c] 31) :: (SX.blk b66 [.slice s2.A s2.n s2.c] 31) :: (prg w0.heap.size s2 (inlineP (toP l0) x1).1) :: (prg w0.heap.size s1 (toP l0)) :: (SX.blk b5 [.slice s0.A s0.n s0.c] 24) :: [])) ha249 (by decide) (At.here (by kernel_rfl : ((regOf Try.f5 19)[2]?).map spec = some ((Op.call { callee := (Callee.value (Operand.func 26)), args := #[(Operand.tmp 69), (Operand.tmp 70)], argTypes := #[31, 3] }), some 71, 3, none))) rfl Try.func26 (by kernel_rfl) (heldProgram_sat hS235 (hS235.rdS 0 rfl) hfr) (fun v254 w252 a250 hp255 ha251 => ?_))
    obtain ⟨rfl, hS253⟩ := hp255
    have ha256 : Has 101 [(1, .int .i64 x1), (2, .pointer (some ⟨b5, 0, none⟩)), (4, .bool false), (6, .pointer (some ⟨b66, 0, none⟩)), (7, .bool ((inlineP (toP l0) x1).2)), (9, .pointer (some ⟨b116, 0, none⟩)), (12, .int .i64 (1 + 3 * (tot ((inlineP (toP l0) x1).1) : Int))), (13, .int .i64 1), (69, .agg #[.slice s4.A s4.n s4.c]), (70, .int .i64 1), (71, .int .i64 (1 + 3 * (tot ((inlineP (toP l0) x1).1) : Int)))] a250 := ha251.keeps [1, 2, 4, 6, 7, 9, 12, 13, 69, 70, 71] _ rfl
    refine p_val (v := .int .i64 (1 + 3 * (tot ((inlineP (toP l0) x1).1) : Int))) ha256 (by decide) (v_pure ha256 (At.here (by kernel_rfl : ((regOf Try.f5 19)[3]?).map spec = some ((Op.assign (Operand.tmp 71)), some 13, 3, none))) (by kernel_rfl) (fun _ => by kernel_rfl)) (fun a257 ha258 => ?_)
    refine p_end ?_
    have ha259 := ha258.keeps [1, 2, 4, 6, 7, 9, 12, 13] [(1, .int .i64 x1), (2, .pointer (some ⟨b5, 0, none⟩)), (4, .bool false), (6, .pointer (some ⟨b66, 0, none⟩)), (7, .bool ((inlineP (toP l0) x1).2)), (9, .pointer (some ⟨b116, 0, none⟩)), (12, .int .i64 (1 + 3 * (tot ((inlineP (toP l0) x1).1) : Int))), (13, .int .i64 (1 + 3 * (tot ((inlineP (toP l0) x1).1) : Int)))] rfl
    clear ha258 ha256 a250 ha251 hS235 ha249 a248 ha247 a246 ha245 a243
    refine then_n ?_
    refine wp_seq ?_
    refine wp_seq ?_
    refine p_begin ?_
    refine p_val (v := .int .i64 (1 + 3 * (tot ((inlineP (toP l0) x1).1) : Int))) ha259 (by decide) (v_pure ha259 (At.here (by kernel_rfl : ((regOf Try.f5 20)[0]?).map spec = some ((Op.move (Operand.tmp 13)), some 72, 3, none))) (by kernel_rfl) (fun _ => by kernel_rfl)) (fun a260 ha261 => ?_)
    refine p_val (v := .bool false) ha261 (by decide) ((v_pure (v := .bool (decide (1 + 3 * (tot ((inlineP (toP l0) x1).1) : Int) < 0))) ha261 (At.here (by kernel_rfl : ((regOf Try.f5 20)[1]?).map spec = some ((Op.binOp BinOp.lss 3 (Operand.tmp 72) (Operand.const (Value.int IntKind.i64 0)) 3), some 73, 4, none))) (by kernel_rfl) (fun _ => by kernel_rfl)).as (by rw [decide_eq_false (by omega)])) (fun a262 ha263 => ?_)
    refine p_end ?_
    have ha264 := ha263.keeps [1, 2, 4, 6, 7, 9, 12, 13, 73] [(1, .int .i64 x1), (2, .pointer (some ⟨b5, 0, none⟩)), (4, .bool false), (6, .pointer (some ⟨b66, 0, none⟩)), (7, .bool ((inlineP (toP l0) x1).2)), (9, .pointer (some ⟨b116, 0, none⟩)), (12, .int .i64 (1 + 3 * (tot ((inlineP (toP l0) x1).1) : Int))), (13, .int .i64 (1 + 3 * (tot ((inlineP (toP l0) x1).1) : Int))), (73, .bool false)] rfl
    clear ha263 ha261 a260 ha259 a257
    refine then_n ?_
    refine c_false ha264 rfl rfl ?_
    refine wp_skip ?_
    refine then_n ?_
    refine wp_seq ?_
    refine wp_seq ?_
    refine p_begin ?_
    refine p_val (v := .int .i64 (1 + 3 * (tot ((inlineP (toP l0) x1).1) : Int))) ha264 (by decide) (v_pure ha264 (At.here (by kernel_rfl : ((regOf Try.f5 22)[0]?).map spec = some ((Op.move (Operand.tmp 13)), some 74, 3, none))) (by kernel_rfl) (fun _ => by kernel_rfl)) (fun a265 ha266 => ?_)
    refine p_val (v := .int .i64 (1 + 3 * (tot ((inlineP (toP l0) x1).1) : Int))) ha266 (by decide) (v_pure ha266 (At.here (by kernel_rfl : ((regOf Try.f5 22)[1]?).map spec = some ((Op.move (Operand.tmp 12)), some 75, 3, none))) (by kernel_rfl) (fun _ => by kernel_rfl)) (fun a267 ha268 => ?_)
    refine p_val (v := .bool false) ha268 (by decide) ((v_pure (v := .bool (!(decide (1 + 3 * (tot ((inlineP (toP l0) x1).1) : Int) = 1 + 3 * (tot ((inlineP (toP l0) x1).1) : Int))))) ha268 (At.here (by kernel_rfl : ((regOf Try.f5 22)[2]?).map spec = some ((Op.binOp BinOp.neq 3 (Operand.tmp 74) (Operand.tmp 75) 3), some 76, 4, none))) (by kernel_rfl) (fun _ => by kernel_rfl)).as (by simp)) (fun a269 ha270 => ?_)
    refine p_end ?_
    have ha271 := ha270.keeps [1, 2, 4, 6, 7, 9, 12, 13, 76] [(1, .int .i64 x1), (2, .pointer (some ⟨b5, 0, none⟩)), (4, .bool false), (6, .pointer (some ⟨b66, 0, none⟩)), (7, .bool ((inlineP (toP l0) x1).2)), (9, .pointer (some ⟨b116, 0, none⟩)), (12, .int .i64 (1 + 3 * (tot ((inlineP (toP l0) x1).1) : Int))), (13, .int .i64 (1 + 3 * (tot ((inlineP (toP l0) x1).1) : Int))), (76, .bool false)] rfl
    clear ha270 ha268 a267 ha266 a265 ha264 a262
    refine then_n ?_
    refine c_false ha271 rfl rfl ?_
    refine wp_skip ?_
    refine then_n ?_
    refine wp_seq ?_
    refine p_begin ?_
    refine p_val (v := .agg #[.slice s0.A s0.n s0.c]) ha271 (by decide) (v_loadAgg (vs := [.slice s0.A s0.n s0.c]) (cs := [.slice s0.A s0.n s0.c]) (T := 24) ha271 (At.here (by kernel_rfl : ((regOf Try.f5 24)[0]?).map spec = some ((Op.load 24 (Operand.tmp 2)), some 78, 24, none))) rfl (by kernel_rfl) (fun _ hw => by rw [hw]; exact hS253.blk 8 rfl) rfl) (fun a272 ha273 => ?_)
    refine p_op (o_ret (Post := fun r w' => ∃ s6 : Sl, r = .agg #[s6.v] ∧ Sat w0 w' ((prg w0.heap.size s6 (toP l0)) :: (prg w0.heap.size s4 (mkSS 1 ((inlineP (toP l0) x1).1))) :: (prg w0.heap.size s3 (mkSS 1 (toP l0))) :: (prg w0.heap.size s5 (toP l0)) :: (SX.blk b116 [.slice s4.A s4.n s4.c] 31) :: (SX.blk b88 [.slice s3.A s3.n s3.c] 31) :: (SX.blk b66 [.slice s2.A s2.n s2.c] 31) :: (prg w0.heap.size s2 (inlineP (toP l0) x1).1) :: (prg w0.heap.size s1 (toP l0)) :: (SX.blk b5 [.slice s0.A s0.n s0.c] 24) :: [])) ha273 (by decide) (At.here (by kernel_rfl : ((regOf Try.f5 24)[1]?).map spec = some ((Op.call { callee := (Callee.value (Operand.func 22)), args := #[(Operand.tmp 78)], argTypes := #[24] }), some 79, 31, none))) rfl Try.func22 (by kernel_rfl) (toProgram_sat hS253 (hr0.sat hS253) hf) (fun v278 w276 a274 hp279 ha275 => ?_))
    obtain ⟨s6, rfl, hS277⟩ := hp279
    have ha280 : Has 101 [(1, .int .i64 x1), (2, .pointer (some ⟨b5, 0, none⟩)), (4, .bool false), (6, .pointer (some ⟨b66, 0, none⟩)), (7, .bool ((inlineP (toP l0) x1).2)), (9, .pointer (some ⟨b116, 0, none⟩)), (12, .int .i64 (1 + 3 * (tot ((inlineP (toP l0) x1).1) : Int))), (13, .int .i64 (1 + 3 * (tot ((inlineP (toP l0) x1).1) : Int))), (76, .bool false), (78, .agg #[.slice s0.A s0.n s0.c]), (79, .agg #[.slice s6.A s6.n s6.c])] a274 := ha275.keeps [1, 2, 4, 6, 7, 9, 12, 13, 76, 78, 79] _ rfl
    refine p_val (v := .int .i64 x1) ha280 (by decide) (v_pure ha280 (At.here (by kernel_rfl : ((regOf Try.f5 24)[2]?).map spec = some ((Op.move (Operand.tmp 1)), some 80, 3, none))) (by kernel_rfl) (fun _ => by kernel_rfl)) (fun a281 ha282 => ?_)
    refine p_op (o_ret (Post := fun r w' => ∃ s7 : Sl, r = .tuple #[.agg #[s7.v], .bool (inlineP (toP l0) x1).2] ∧ Sat w0 w' ((prg w0.heap.size s7 (inlineP (toP l0) x1).1) :: (prg w0.heap.size s6 (toP l0)) :: (prg w0.heap.size s4 (mkSS 1 ((inlineP (toP l0) x1).1))) :: (prg w0.heap.size s3 (mkSS 1 (toP l0))) :: (prg w0.heap.size s5 (toP l0)) :: (SX.blk b116 [.slice s4.A s4.n s4.c] 31) :: (SX.blk b88 [.slice s3.A s3.n s3.c] 31) :: (SX.blk b66 [.slice s2.A s2.n s2.c] 31) :: (prg w0.heap.size s2 (inlineP (toP l0) x1).1) :: (prg w0.heap.size s1 (toP l0)) :: (SX.blk b5 [.slice s0.A s0.n s0.c] 24) :: [])) ha282 (by decide) (At.here (by kernel_rfl : ((regOf Try.f5 24)[3]?).map spec = some ((Op.call { callee := (Callee.value (Operand.func 28)), args := #[(Operand.tmp 79), (Operand.tmp 80)], argTypes := #[31, 3] }), some 81, 38, none))) rfl Try.func28 (by kernel_rfl) (impl_InlineEmpty_sat hS277 (hS277.rdS 0 rfl) (toP_fits hf)) (fun v287 w285 a283 hp288 ha284 => ?_))
    obtain ⟨s7, rfl, hS286⟩ := hp288
    have ha289 : Has 101 [(1, .int .i64 x1), (2, .pointer (some ⟨b5, 0, none⟩)), (4, .bool false), (6, .pointer (some ⟨b66, 0, none⟩)), (7, .bool ((inlineP (toP l0) x1).2)), (9, .pointer (some ⟨b116, 0, none⟩)), (12, .int .i64 (1 + 3 * (tot ((inlineP (toP l0) x1).1) : Int))), (13, .int .i64 (1 + 3 * (tot ((inlineP (toP l0) x1).1) : Int))), (76, .bool false), (78, .agg #[.slice s0.A s0.n s0.c]), (79, .agg #[.slice s6.A s6.n s6.c]), (80, .int .i64 x1), (81, .tuple #[.agg #[.slice s7.A s7.n s7.c], .bool ((inlineP (toP l0) x1).2)])] a283 := ha284.keeps [1, 2, 4, 6, 7, 9, 12, 13, 76, 78, 79, 80, 81] _ rfl
    refine p_val (v := .tuple #[.agg #[.slice s7.A s7.n s7.c], .bool ((inlineP (toP l0) x1).2)]) ha289 (by decide) (v_pure ha289 (At.here (by kernel_rfl : ((regOf Try.f5 24)[4]?).map spec = some ((Op.move (Operand.tmp 81)), some 77, 38, none))) (by kernel_rfl) (fun _ => by kernel_rfl)) (fun a290 ha291 => ?_)
    refine p_val (v := .agg #[.slice s7.A s7.n s7.c]) ha291 (by decide) (v_pure ha291 (At.here (by kernel_rfl : ((regOf Try.f5 24)[5]?).map spec = some ((Op.extract (Operand.tmp 77) 0), some 82, 31, none))) (by kernel_rfl) (fun _ => by kernel_rfl)) (fun a292 ha293 => ?_)
    refine p_val (v := .bool ((inlineP (toP l0) x1).2)) ha293 (by decide) (v_pure ha293 (At.here (by kernel_rfl : ((regOf Try.f5 24)[6]?).map spec = some ((Op.extract (Operand.tmp 77) 1), some 83, 4, none))) (by kernel_rfl) (fun _ => by kernel_rfl)) (fun a294 ha295 => ?_)
    refine p_op (o_new (cs := [.slice none 0 0]) (T := 31) (fun b => .pointer (some ⟨b, 0, none⟩)) ha295 (by decide) (At.here (by kernel_rfl : ((regOf Try.f5 24)[7]?).map spec = some ((Op.alloc 31), some 14, 0, none))) (by kernel_rfl) hS286 (fun _ => by kernel_rfl) (fun b300 w298 a296 hb301 (hS299 : Sat w0 w298 ((SX.blk b300 [.slice none 0 0] 31) :: (prg w0.heap.size s7 (inlineP (toP l0) x1).1) :: (prg w0.heap.size s6 (toP l0)) :: (prg w0.heap.size s4 (mkSS 1 ((inlineP (toP l0) x1).1))) :: (prg w0.heap.size s3 (mkSS 1 (toP l0))) :: (prg w0.heap.size s5 (toP l0)) :: (SX.blk b116 [.slice s4.A s4.n s4.c] 31) :: (SX.blk b88 [.slice s3.A s3.n s3.c] 31) :: (SX.blk b66 [.slice s2.A s2.n s2.c] 31) :: (prg w0.heap.size s2 (inlineP (toP l0) x1).1) :: (prg w0.heap.size s1 (toP l0)) :: (SX.blk b5 [.slice s0.A s0.n s0.c] 24) :: [])) ha297 => ?_))
    refine p_op (o_storeAgg (vs := [.slice s7.A s7.n s7.c]) (cs := [.slice none 0 0]) (cs' := [.slice s7.A s7.n s7.c]) 0 ha297 (At.here (by kernel_rfl : ((regOf Try.f5 24)[8]?).map spec = some ((Op.store 31 (Operand.tmp 14) (Operand.tmp 82)), none, 0, none))) rfl rfl rfl (by kernel_rfl) hS299 rfl (by simp) rfl (fun w304 a302 (hS305 : Sat w0 w304 ((SX.blk b300 [.slice s7.A s7.n s7.c] 31) :: (prg w0.heap.size s7 (inlineP (toP l0) x1).1) :: (prg w0.heap.size s6 (toP l0)) :: (prg w0.heap.size s4 (mkSS 1 ((inlineP (toP l0) x1).1))) :: (prg w0.heap.size s3 (mkSS 1 (toP l0))) :: (prg w0.heap.size s5 (toP l0)) :: (SX.blk b116 [.slice s4.A s4.n s4.c] 31) :: (SX.blk b88 [.slice s3.A s3.n s3.c] 31) :: (SX.blk b66 [.slice s2.A s2.n s2.c] 31) :: (prg w0.heap.size s2 (inlineP (toP l0) x1).1) :: (prg w0.heap.size s1 (toP l0)) :: (SX.blk b5 [.slice s0.A s0.n s0.c] 24) :: [])) ha303 => ?_))
    refine p_val (v := .bool ((inlineP (toP l0) x1).2)) ha303 (by decide) (v_pure ha303 (At.here (by kernel_rfl : ((regOf Try.f5 24)[9]?).map spec = some ((Op.assign (Operand.tmp 83)), some 15, 4, none))) (by kernel_rfl) (fun _ => by kernel_rfl)) (fun a306 ha307 => ?_)
    refine p_end ?_
    have ha308 := ha307.keeps [4, 6, 7, 9, 12, 13, 14, 15] [(4, .bool false), (6, .pointer (some ⟨b66, 0, none⟩)), (7, .bool ((inlineP (toP l0) x1).2)), (9, .pointer (some ⟨b116, 0, none⟩)), (12, .int .i64 (1 + 3 * (tot ((inlineP (toP l0) x1).1) : Int))), (13, .int .i64 (1 + 3 * (tot ((inlineP (toP l0) x1).1) : Int))), (14, .pointer (some ⟨b300, 0, none⟩)), (15, .bool ((inlineP (toP l0) x1).2))] rfl
    clear ha307 ha303 a302 hS299 ha297 a296 hS286 ha295 a294 ha293 a292 ha291 a290 ha289 a283 ha284 hS277 ha282 a281 ha280 a274 ha275 hS253 ha273 a272 ha271 a269
    refine then_n ?_
    refine wp_seq ?_
    refine wp_seq ?_
    refine p_begin ?_
    refine p_val (v := .agg #[.slice s7.A s7.n s7.c]) ha308 (by decide) (v_loadAgg (vs := [.slice s7.A s7.n s7.c]) (cs := [.slice s7.A s7.n s7.c]) (T := 31) ha308 (At.here (by kernel_rfl : ((regOf Try.f5 25)[0]?).map spec = some ((Op.load 31 (Operand.tmp 14)), some 84, 31, none))) rfl (by kernel_rfl) (fun _ hw => by rw [hw]; exact hS305.blk 0 rfl) rfl) (fun a309 ha310 => ?_)
    refine p_val (v := .agg #[.slice s2.A s2.n s2.c]) ha310 (by decide) (v_loadAgg (vs := [.slice s2.A s2.n s2.c]) (cs := [.slice s2.A s2.n s2.c]) (T := 31) ha310 (At.here (by kernel_rfl : ((regOf Try.f5 25)[1]?).map spec = some ((Op.load 31 (Operand.tmp 6)), some 85, 31, none))) rfl (by kernel_rfl) (fun _ hw => by rw [hw]; exact hS305.blk 8 rfl) rfl) (fun a311 ha312 => ?_)
    refine p_op (o_ret (Post := fun r w' => r = .bool true ∧ Sat w0 w' ((SX.blk b300 [.slice s7.A s7.n s7.c] 31) :: (prg w0.heap.size s7 (inlineP (toP l0) x1).1) :: (prg w0.heap.size s6 (toP l0)) :: (prg w0.heap.size s4 (mkSS 1 ((inlineP (toP l0) x1).1))) :: (prg w0.heap.size s3 (mkSS 1 (toP l0))) :: (prg w0.heap.size s5 (toP l0)) :: (SX.blk b116 [.slice s4.A s4.n s4.c] 31) :: (SX.blk b88 [.slice s3.A s3.n s3.c] 31) :: (SX.blk b66 [.slice s2.A s2.n s2.c] 31) :: (prg w0.heap.size s2 (inlineP (toP l0) x1).1) :: (prg w0.heap.size s1 (toP l0)) :: (SX.blk b5 [.slice s0.A s0.n s0.c] 24) :: [])) ha312 (by decide) (At.here (by kernel_rfl : ((regOf Try.f5 25)[2]?).map spec = some ((Op.call { callee := (Callee.value (Operand.func 24)), args := #[(Operand.tmp 84), (Operand.tmp 85)], argTypes := #[31, 31] }), some 86, 4, none))) rfl Try.func24 (by kernel_rfl) (eqProgram_sat hS305 (hS305.rdS 1 rfl) (hS305.rdS 9 rfl) hfr) (fun v317 w315 a313 hp318 ha314 => ?_))
    obtain ⟨rfl, hS316⟩ := hp318
    have ha319 : Has 101 [(4, .bool false), (6, .pointer (some ⟨b66, 0, none⟩)), (7, .bool ((inlineP (toP l0) x1).2)), (9, .pointer (some ⟨b116, 0, none⟩)), (12, .int .i64 (1 + 3 * (tot ((inlineP (toP l0) x1).1) : Int))), (13, .int .i64 (1 + 3 * (tot ((inlineP (toP l0) x1).1) : Int))), (14, .pointer (some ⟨b300, 0, none⟩)), (15, .bool ((inlineP (toP l0) x1).2)), (84, .agg #[.slice s7.A s7.n s7.c]), (85, .agg #[.slice s2.A s2.n s2.c]), (86, .bool true)] a313 := ha314.keeps [4, 6, 7, 9, 12, 13, 14, 15, 84, 85, 86] _ rfl
    refine p_val (v := .bool false) ha319 (by decide) (v_pure ha319 (At.here (by kernel_rfl : ((regOf Try.f5 25)[3]?).map spec = some ((Op.unOp UnOp.not 4 (Operand.tmp 86)), some 87, 4, none))) (by kernel_rfl) (fun _ => by kernel_rfl)) (fun a320 ha321 => ?_)
    refine p_val (v := .bool false) ha321 (by decide) (v_pure ha321 (At.here (by kernel_rfl : ((regOf Try.f5 25)[4]?).map spec = some ((Op.move (Operand.tmp 87)), some 88, 4, none))) (by kernel_rfl) (fun _ => by kernel_rfl)) (fun a322 ha323 => ?_)
    refine p_val (v := .bool ((inlineP (toP l0) x1).2)) ha323 (by decide) (v_pure ha323 (AtG.here (gd := 88) ⟨(by kernel_rfl : ((regOf Try.f5 25)[5]?).map spec = some ((Op.move (Operand.tmp 15)), some 89, 4, some (4, false))), by kernel_rfl⟩ ha323 rfl) (by kernel_rfl) (fun _ => by kernel_rfl)) (fun a324 ha325 => ?_)
    refine p_val (v := .bool ((inlineP (toP l0) x1).2)) ha325 (by decide) (v_pure ha325 (AtG.here (gd := 88) ⟨(by kernel_rfl : ((regOf Try.f5 25)[6]?).map spec = some ((Op.move (Operand.tmp 7)), some 90, 4, some (4, false))), by kernel_rfl⟩ ha325 rfl) (by kernel_rfl) (fun _ => by kernel_rfl)) (fun a326 ha327 => ?_)
    refine p_val (v := .bool false) ha327 (by decide) ((v_pure (v := .bool (!(((inlineP (toP l0) x1).2) == ((inlineP (toP l0) x1).2)))) ha327 (AtG.here (gd := 88) ⟨(by kernel_rfl : ((regOf Try.f5 25)[7]?).map spec = some ((Op.binOp BinOp.neq 4 (Operand.tmp 89) (Operand.tmp 90) 4), some 91, 4, some (4, false))), by kernel_rfl⟩ ha327 rfl) (by kernel_rfl) (fun _ => by kernel_rfl)).as (by simp)) (fun a328 ha329 => ?_)
    refine p_val (v := .bool false) ha329 (by decide) (v_pure ha329 (At.here (by kernel_rfl : ((regOf Try.f5 25)[8]?).map spec = some ((Op.pick (Operand.tmp 88) (Operand.const (Value.bool true)) (Operand.tmp 91)), some 92, 4, none))) (by kernel_rfl) (fun _ => by kernel_rfl)) (fun a330 ha331 => ?_)
    refine p_end ?_
    have ha332 := ha331.keeps [4, 9, 12, 13, 92] [(4, .bool false), (9, .pointer (some ⟨b116, 0, none⟩)), (12, .int .i64 (1 + 3 * (tot ((inlineP (toP l0) x1).1) : Int))), (13, .int .i64 (1 + 3 * (tot ((inlineP (toP l0) x1).1) : Int))), (92, .bool false)] rfl
    clear ha331 ha329 a328 ha327 a326 ha325 a324 ha323 a322 ha321 a320 ha319 a313 ha314 hS305 ha312 a311 ha310 a309 ha308 a306
    refine then_n ?_
    refine c_false ha332 rfl rfl ?_
    refine wp_skip ?_
    refine then_n ?_
    refine wp_seq ?_
    refine p_begin ?_
    refine p_val (v := .int .i64 1) ha332 (by decide) (v_pure ha332 (At.here (by kernel_rfl : ((regOf Try.f5 27)[0]?).map spec = some ((Op.assign (Operand.const (Value.int IntKind.i64 1))), some 13, 3, none))) (by kernel_rfl) (fun _ => by kernel_rfl)) (fun a333 ha334 => ?_)
    refine p_end ?_
    have ha335 := ha334.keeps [4, 9, 12, 13] [(4, .bool false), (9, .pointer (some ⟨b116, 0, none⟩)), (12, .int .i64 (1 + 3 * (tot ((inlineP (toP l0) x1).1) : Int))), (13, .int .i64 1)] rfl
    clear ha334 ha332 a330
    refine then_n ?_
    refine wp_seq ?_
    refine p_begin ?_
    refine p_val (v := .agg #[.slice s4.A s4.n s4.c]) ha335 (by decide) (v_loadAgg (vs := [.slice s4.A s4.n s4.c]) (cs := [.slice s4.A s4.n s4.c]) (T := 31) ha335 (At.here (by kernel_rfl : ((regOf Try.f5 28)[0]?).map spec = some ((Op.load 31 (Operand.tmp 9)), some 93, 31, none))) rfl (by kernel_rfl) (fun _ hw => by rw [hw]; exact hS316.blk 6 rfl) rfl) (fun a336 ha337 => ?_)
    refine p_val (v := .int .i64 1) ha337 (by decide) (v_pure ha337 (At.here (by kernel_rfl : ((regOf Try.f5 28)[1]?).map spec = some ((Op.move (Operand.tmp 13)), some 94, 3, none))) (by kernel_rfl) (fun _ => by kernel_rfl)) (fun a338 ha339 => ?_)
    refine p_op (o_ret (Post := fun r w' => r = .int .i64 (1 + 3 * (tot ((inlineP (toP l0) x1).1) : Int)) ∧ Sat w0 w' ((SX.blk b300 [.slice s7.A s7.n s7.c] 31) :: (prg w0.heap.size s7 (inlineP (toP l0) x1).1) :: (prg w0.heap.size s6 (toP l0)) :: (prg w0.heap.size s4 (mkSS 1 ((inlineP (toP l0) x1).1))) :: (prg w0.heap.size s3 (mkSS 1 (toP l0))) :: (prg w0.heap.size s5 (toP l0)) :: (SX.blk b116 [.slice s4.A s4.n s4.c] 31) :: (SX.blk b88 [.slice s3.A s3.n s3.c] 31) :: (SX.blk b66 [.slice s2.A s2.n s2.c] 31) :: (prg w0.heap.size s2 (inlineP (toP l0) x1).1) :: (prg w0.heap.size s1 (toP l0)) :: (SX.blk b5 [.slice s0.A s0.n s0.c] 24) :: [])) ha339 (by decide) (At.here (by kernel_rfl : ((regOf Try.f5 28)[2]?).map spec = some ((Op.call { callee := (Callee.value (Operand.func 26)), args := #[(Operand.tmp 93), (Operand.tmp 94)], argTypes := #[31, 3] }), some 95, 3, none))) rfl Try.func26 (by kernel_rfl) (heldProgram_sat hS316 (hS316.rdS 3 rfl) hfr) (fun v344 w342 a340 hp345 ha341 => ?_))
    obtain ⟨rfl, hS343⟩ := hp345
    have ha346 : Has 101 [(4, .bool false), (9, .pointer (some ⟨b116, 0, none⟩)), (12, .int .i64 (1 + 3 * (tot ((inlineP (toP l0) x1).1) : Int))), (13, .int .i64 1), (93, .agg #[.slice s4.A s4.n s4.c]), (94, .int .i64 1), (95, .int .i64 (1 + 3 * (tot ((inlineP (toP l0) x1).1) : Int)))] a340 := ha341.keeps [4, 9, 12, 13, 93, 94, 95] _ rfl
    refine p_val (v := .int .i64 (1 + 3 * (tot ((inlineP (toP l0) x1).1) : Int))) ha346 (by decide) (v_pure ha346 (At.here (by kernel_rfl : ((regOf Try.f5 28)[3]?).map spec = some ((Op.assign (Operand.tmp 95)), some 13, 3, none))) (by kernel_rfl) (fun _ => by kernel_rfl)) (fun a347 ha348 => ?_)
    refine p_end ?_
    have ha349 := ha348.keeps [4, 12, 13] [(4, .bool false), (12, .int .i64 (1 + 3 * (tot ((inlineP (toP l0) x1).1) : Int))), (13, .int .i64 (1 + 3 * (tot ((inlineP (toP l0) x1).1) : Int)))] rfl
    clear ha348 ha346 a340 ha341 hS316 ha339 a338 ha337 a336 ha335 a333
    refine then_n ?_
    refine wp_seq ?_
    refine wp_seq ?_
    refine p_begin ?_
    refine p_val (v := .int .i64 (1 + 3 * (tot ((inlineP (toP l0) x1).1) : Int))) ha349 (by decide) (v_pure ha349 (At.here (by kernel_rfl : ((regOf Try.f5 29)[0]?).map spec = some ((Op.move (Operand.tmp 13)), some 96, 3, none))) (by kernel_rfl) (fun _ => by kernel_rfl)) (fun a350 ha351 => ?_)
    refine p_val (v := .bool false) ha351 (by decide) ((v_pure (v := .bool (decide (1 + 3 * (tot ((inlineP (toP l0) x1).1) : Int) < 0))) ha351 (At.here (by kernel_rfl : ((regOf Try.f5 29)[1]?).map spec = some ((Op.binOp BinOp.lss 3 (Operand.tmp 96) (Operand.const (Value.int IntKind.i64 0)) 3), some 97, 4, none))) (by kernel_rfl) (fun _ => by kernel_rfl)).as (by rw [decide_eq_false (by omega)])) (fun a352 ha353 => ?_)
    refine p_end ?_
    have ha354 := ha353.keeps [4, 12, 13, 97] [(4, .bool false), (12, .int .i64 (1 + 3 * (tot ((inlineP (toP l0) x1).1) : Int))), (13, .int .i64 (1 + 3 * (tot ((inlineP (toP l0) x1).1) : Int))), (97, .bool false)] rfl
    clear ha353 ha351 a350 ha349 a347
    refine then_n ?_
    refine c_false ha354 rfl rfl ?_
    refine wp_skip ?_
    refine then_n ?_
    refine wp_seq ?_
    refine wp_seq ?_
    refine p_begin ?_
    refine p_val (v := .int .i64 (1 + 3 * (tot ((inlineP (toP l0) x1).1) : Int))) ha354 (by decide) (v_pure ha354 (At.here (by kernel_rfl : ((regOf Try.f5 31)[0]?).map spec = some ((Op.move (Operand.tmp 13)), some 98, 3, none))) (by kernel_rfl) (fun _ => by kernel_rfl)) (fun a355 ha356 => ?_)
    refine p_val (v := .int .i64 (1 + 3 * (tot ((inlineP (toP l0) x1).1) : Int))) ha356 (by decide) (v_pure ha356 (At.here (by kernel_rfl : ((regOf Try.f5 31)[1]?).map spec = some ((Op.move (Operand.tmp 12)), some 99, 3, none))) (by kernel_rfl) (fun _ => by kernel_rfl)) (fun a357 ha358 => ?_)
    refine p_val (v := .bool false) ha358 (by decide) ((v_pure (v := .bool (!(decide (1 + 3 * (tot ((inlineP (toP l0) x1).1) : Int) = 1 + 3 * (tot ((inlineP (toP l0) x1).1) : Int))))) ha358 (At.here (by kernel_rfl : ((regOf Try.f5 31)[2]?).map spec = some ((Op.binOp BinOp.neq 3 (Operand.tmp 98) (Operand.tmp 99) 3), some 100, 4, none))) (by kernel_rfl) (fun _ => by kernel_rfl)).as (by simp)) (fun a359 ha360 => ?_)
    refine p_end ?_
    have ha361 := ha360.keeps [4, 100] [(4, .bool false), (100, .bool false)] rfl
    clear ha360 ha358 a357 ha356 a355 ha354 a352
    refine then_n ?_
    refine c_false ha361 rfl rfl ?_
    refine wp_skip ?_
    refine then_n ?_
    refine wp_seq ?_
    refine p_begin ?_
    refine p_val (v := .bool true) ha361 (by decide) (v_pure ha361 (At.here (by kernel_rfl : ((regOf Try.f5 33)[0]?).map spec = some ((Op.assign (Operand.const (Value.bool true))), some 4, 4, none))) (by kernel_rfl) (fun _ => by kernel_rfl)) (fun a362 ha363 => ?_)
    refine p_end ?_
    have ha364 := ha363.keeps [4] [(4, .bool true)] rfl
    clear ha363 ha361 a359
    refine then_n ?_
    refine wp_ret ?_
    refine end_res1 ha364 (by kernel_rfl) (resT (t := 4) ha364 rfl) ?_
    exact ⟨rfl, hS343.below⟩
end Go.Proofs.Ytmeejdeafmgdnaa.G
end
