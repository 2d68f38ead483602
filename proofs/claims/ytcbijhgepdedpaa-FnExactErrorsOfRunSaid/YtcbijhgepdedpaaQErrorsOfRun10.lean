/- What the claim FnExactErrorsOfRun rests on, part 10 of 22; the last part proves it: for every input the law answers true, and its arguments read behind the call as before it. No condition. -/
import Derived.Test.YtcbijhgepdedpaaProg
import Derived.Test.YtcbijhgepdedpaaQErrorsOfRun9
set_option linter.unusedSimpArgs false
set_option linter.unusedVariables false
set_option maxRecDepth 20000
set_option maxHeartbeats 1000000
namespace Go.Proofs.Ytcbijhgepdedpaa.G
open Go.RowKit Go.Proofs.Ytcbijhgepdedpaa.SX
theorem pred_sat {P : Program} {g : Nat} {args : Array Value} {w0 w : World} {b : Bool} (hS : Sat w0 w []) (h : Calls P g args w (Ret fun r w'' => r = .bool b ∧ Below w.heap.size w w'')) : Calls P g args w (Ret fun r w' => r = .bool b ∧ Sat w0 w' []) :=
 h.mono fun e w' hp => by
  cases e with
  | returned r => exact ⟨hp.1, hS.grows hp.2⟩
  | panicked c => exact hp
  | outgrown => exact hp
theorem any_none {α : Type} {p : α → Bool} {l : List α} {i : Nat} (h : i = l.length) (hno : ∀ x ∈ l.take i, p x = false) : l.any p = false := by
 subst h
 rw [List.take_length] at hno
 refine Bool.eq_false_iff.2 fun h => ?_
 obtain ⟨y, hy, hpy⟩ := List.any_eq_true.1 h
 rw [hno y hy] at hpy
 cases hpy
theorem code104 : Try.f104.body = some (Code.seq (Code.region 0 (qQ Try.f104 0) false) (Code.seq (Code.seq (Code.region 1 (qQ Try.f104 1) false) (Code.block 0 (Code.loop (Code.seq (Code.region 2 (qQ Try.f104 2) false) (Code.seq (Code.cond (Operand.tmp 9) Code.skip (Code.exit 0)) (Code.seq (Code.block 1 (Code.seq (Code.region 3 (qQ Try.f104 3) false) (Code.seq (Code.region 4 (qQ Try.f104 4) false) (Code.cond (Operand.tmp 16) (Code.seq (Code.region 5 (qQ Try.f104 5) false) Code.ret) Code.skip)))) (Code.region 6 (qQ Try.f104 6) false))))))) (Code.seq (Code.region 7 (qQ Try.f104 7) false) Code.ret))) := by kernel_rfl
theorem indexStep (w0 : World) (s0 : Sl) {α : Type} (enc : α → Value) (p : α → Bool) (l0 : List α) (cap : Value) (hbig : l0.length ≤ 1000000) (hrd : ∀ w', Below w0.heap.size w0 w' → RdL Try.prog 98 3 enc w' s0 l0) (hp : ∀ w', Below w0.heap.size w0 w' → ∀ x ∈ l0, Calls Try.prog 92 #[enc x, cap] w' (Ret fun r w'' => r = .bool (p x) ∧ Below w'.heap.size w' w'')) :
  Calls Try.prog 104 #[.slice s0.A s0.n s0.c, .func (.func 92) #[] #[cap]] w0 (Ret fun r w' => (∃ q : Int, r = .int .i64 q ∧ decide (q ≥ 0) = l0.any p) ∧ Below w0.heap.size w0 w') := by
 have hS : Sat w0 w0 [] := Sat.start w0
 have hlen0 := (hrd w0 (Below.refl _ _)).len
 refine enter (n := 19) Try.func104 code104 (by kernel_rfl) (Nat.le_of_ble_eq_true rfl) (fun a ha => ?_)
 replace ha : Has 19 [(0, .slice s0.A s0.n s0.c), (1, .func (.func 92) #[] #[cap])] a := ha
 refine wp_seq ?_
 refine p_begin ?_
 refine p_val (v := .int .i64 0) ha (by decide) (qZ ha (At.here (by kernel_rfl : ((qQ Try.f104 0)[0]?).map spec = some ((Op.assign (Operand.const (Value.int IntKind.i64 0))), some 4, 3, none))) (by kernel_rfl) (fun _ => by kernel_rfl)) (fun a1 ha2 => ?_)
 refine jY ?_
 have ha3 := ha2.keeps [0, 1, 4] [(0, .slice s0.A s0.n s0.c), (1, .func (.func 92) #[] #[cap]), (4, .int .i64 0)] rfl
 clear ha2 ha a
 refine jJ (wp_seq (wp_seq ?_))
 refine p_begin ?_
 refine p_val (v := .slice s0.A s0.n s0.c) ha3 (by decide) (qZ ha3 (At.here (by kernel_rfl : ((qQ Try.f104 1)[0]?).map spec = some ((Op.move (Operand.tmp 0)), some 6, 95, none))) (by kernel_rfl) (fun _ => by kernel_rfl)) (fun a4 ha5 => ?_)
 refine p_val (v := .int .i64 (s0.n : Int)) ha5 (by decide) (qZ ha5 (At.here (by kernel_rfl : ((qQ Try.f104 1)[1]?).map spec = some ((Op.call { callee := (Callee.builtin Builtin.len), args := #[(Operand.tmp 6)], argTypes := #[95] }), some 7, 3, none))) (by kernel_rfl) (fun _ => by kernel_rfl)) (fun a6 ha7 => ?_)
 refine p_val (v := .int .i64 0) ha7 (by decide) (qZ ha7 (At.here (by kernel_rfl : ((qQ Try.f104 1)[2]?).map spec = some ((Op.move (Operand.const (Value.int IntKind.i64 0))), some 8, 3, none))) (by kernel_rfl) (fun _ => by kernel_rfl)) (fun a8 ha9 => ?_)
 refine jY ?_
 have ha10 := ha9.keeps [0, 1, 4, 7, 8] [(0, .slice s0.A s0.n s0.c), (1, .func (.func 92) #[] #[cap]), (4, .int .i64 0), (7, .int .i64 (s0.n : Int)), (8, .int .i64 0)] rfl
 clear ha9 ha7 a6 ha5 a4 ha3 a1
 refine jJ (wp_block ?_)
 refine wp_loop_ghost (fun n_ a_ w_ => ∃ (i : Nat), n_ = l0.length - i ∧ (i ≤ l0.length) ∧ (∀ x ∈ l0.take i, p x = false) ∧ Has 19 [(0, .slice s0.A s0.n s0.c), (1, .func (.func 92) #[] #[cap]), (7, .int .i64 (s0.n : Int)), (8, .int .i64 (i : Int))] a_ ∧ Sat w0 w_ ([])) _ ⟨0, rfl, Nat.zero_le _, (fun x hx => by simp at hx), ha10.keeps [0, 1, 7, 8] _ rfl, hS⟩ ?_
 rintro n_ a11 w12 ⟨i, rfl, hi, hno, ha13, hS14⟩
 refine wp_seq ?_
 refine p_begin ?_
 refine p_val (v := .bool (decide ((i : Int) < (s0.n : Int)))) ha13 (by decide) (qZ ha13 (At.here (by kernel_rfl : ((qQ Try.f104 2)[0]?).map spec = some ((Op.binOp BinOp.lss 3 (Operand.tmp 8) (Operand.tmp 7) 3), some 9, 0, none))) (by kernel_rfl) (fun _ => by kernel_rfl)) (fun a15 ha16 => ?_)
 refine jY ?_
 have ha17 := ha16.keeps [0, 1, 7, 8, 9] [(0, .slice s0.A s0.n s0.c), (1, .func (.func 92) #[] #[cap]), (7, .int .i64 (s0.n : Int)), (8, .int .i64 (i : Int)), (9, .bool (decide ((i : Int) < (s0.n : Int))))] rfl
 clear ha16 ha13 a11
 refine jJ (wp_seq ?_)
 by_cases c18 : (i : Int) < (s0.n : Int)
 ·
  have ha19 : Has 19 [(0, .slice s0.A s0.n s0.c), (1, .func (.func 92) #[] #[cap]), (7, .int .i64 (s0.n : Int)), (8, .int .i64 (i : Int)), (9, .bool true)] a15 := by have hh : Has 19 [(0, .slice s0.A s0.n s0.c), (1, .func (.func 92) #[] #[cap]), (7, .int .i64 (s0.n : Int)), (8, .int .i64 (i : Int)), (9, .bool (decide ((i : Int) < (s0.n : Int))))] a15 := ha17.keeps [0, 1, 7, 8, 9] _ rfl; simp only [decide_eq_true c18, Bool.not_true, Bool.not_false] at hh; exact hh
  have hlt : i < l0.length := by have := c18; omega
  obtain ⟨x, hx⟩ : ∃ x, l0[i]? = some x := ⟨_, List.getElem?_eq_getElem hlt⟩
  have htake : l0.take (i + 1) = l0.take i ++ [x] := by rw [List.take_add_one, hx]; rfl
  refine jG ha19 rfl rfl ?_
  refine wp_skip (jJ (wp_seq (wp_block (wp_seq ?_))))
  refine p_begin ?_
  refine p_val (v := .int .i64 (i : Int)) ha19 (by decide) (qZ ha19 (At.here (by kernel_rfl : ((qQ Try.f104 3)[0]?).map spec = some ((Op.move (Operand.tmp 8)), some 10, 3, none))) (by kernel_rfl) (fun _ => by kernel_rfl)) (fun a20 ha21 => ?_)
  refine p_val (v := .int .i64 (i : Int)) ha21 (by decide) (qZ ha21 (At.here (by kernel_rfl : ((qQ Try.f104 3)[1]?).map spec = some ((Op.assign (Operand.tmp 10)), some 5, 3, none))) (by kernel_rfl) (fun _ => by kernel_rfl)) (fun a22 ha23 => ?_)
  refine jY ?_
  have ha24 := ha23.keeps [0, 1, 7, 8, 9, 10, 5] [(0, .slice s0.A s0.n s0.c), (1, .func (.func 92) #[] #[cap]), (7, .int .i64 (s0.n : Int)), (8, .int .i64 (i : Int)), (9, .bool true), (10, .int .i64 (i : Int)), (5, .int .i64 (i : Int))] rfl
  clear ha23 ha21 a20 ha19 a15 ha17
  refine jJ (wp_seq ?_)
  refine p_begin ?_
  refine p_val (v := .func (.func 92) #[] #[cap]) ha24 (by decide) (qZ ha24 (At.here (by kernel_rfl : ((qQ Try.f104 4)[0]?).map spec = some ((Op.move (Operand.tmp 1)), some 11, 158, none))) (by kernel_rfl) (fun _ => by kernel_rfl)) (fun a25 ha26 => ?_)
  refine p_val (v := .slice s0.A s0.n s0.c) ha26 (by decide) (qZ ha26 (At.here (by kernel_rfl : ((qQ Try.f104 4)[1]?).map spec = some ((Op.move (Operand.tmp 0)), some 12, 95, none))) (by kernel_rfl) (fun _ => by kernel_rfl)) (fun a27 ha28 => ?_)
  refine p_val (v := .int .i64 (i : Int)) ha28 (by decide) (qZ ha28 (At.here (by kernel_rfl : ((qQ Try.f104 4)[2]?).map spec = some ((Op.move (Operand.tmp 5)), some 13, 3, none))) (by kernel_rfl) (fun _ => by kernel_rfl)) (fun a29 ha30 => ?_)
  refine p_val (v := .pointer (some ⟨bk s0, of_ s0 + i * 3, none⟩)) ha30 (by decide) (kK (s := s0) (el := 98) (sz := 3) (j := i) ha30 (At.here (by kernel_rfl : ((qQ Try.f104 4)[3]?).map spec = some ((Op.indexAddr 95 (Operand.tmp 12) (Operand.tmp 13)), some 14, 0, none))) rfl rfl (by kernel_rfl) (by kernel_rfl) ((hrd _ hS14.below).cells i x hx).1 rfl (by omega)) (fun a31 ha32 => ?_)
  refine p_val (v := (enc x)) ha32 (by decide) (v_loadL (v := enc x) (p := ⟨bk s0, of_ s0 + i * 3, none⟩) ha32 (At.here (by kernel_rfl : ((qQ Try.f104 4)[4]?).map spec = some ((Op.load 98 (Operand.tmp 14)), some 15, 98, none))) rfl (fun w' hw => by rw [hw]; exact ((hrd _ hS14.below).cells i x hx).2)) (fun a33 ha34 => ?_)
  refine jZ (o_retF (t := 11) (f := 92) (cap := [cap]) (Post := fun r w' => r = .bool (p x) ∧ Sat w0 w' []) ha34 (by decide) (At.here (by kernel_rfl : ((qQ Try.f104 4)[5]?).map spec = some ((Op.call { callee := (Callee.value (Operand.tmp 11)), args := #[(Operand.tmp 15)], argTypes := #[98] }), some 16, 4, none))) rfl rfl Try.func92 (by kernel_rfl) (by exact pred_sat hS14 (hp _ hS14.below x (List.mem_of_getElem? hx))) (fun v39 w37 a35 hp40 ha36 => ?_))
  obtain ⟨rfl, hS38⟩ := hp40
  have ha41 : Has 19 [(0, .slice s0.A s0.n s0.c), (1, .func (.func 92) #[] #[cap]), (7, .int .i64 (s0.n : Int)), (8, .int .i64 (i : Int)), (9, .bool true), (10, .int .i64 (i : Int)), (5, .int .i64 (i : Int)), (11, .func (.func 92) #[] #[cap]), (12, .slice s0.A s0.n s0.c), (13, .int .i64 (i : Int)), (14, .pointer (some ⟨bk s0, of_ s0 + i * 3, none⟩)), (15, (enc x)), (16, .bool (p x))] a35 := ha36.keeps [0, 1, 7, 8, 9, 10, 5, 11, 12, 13, 14, 15, 16] _ rfl
  refine jY ?_
  have ha42 := ha41.keeps [0, 1, 7, 8, 9, 10, 5, 11, 12, 13, 14, 15, 16] [(0, .slice s0.A s0.n s0.c), (1, .func (.func 92) #[] #[cap]), (7, .int .i64 (s0.n : Int)), (8, .int .i64 (i : Int)), (9, .bool true), (10, .int .i64 (i : Int)), (5, .int .i64 (i : Int)), (11, .func (.func 92) #[] #[cap]), (12, .slice s0.A s0.n s0.c), (13, .int .i64 (i : Int)), (14, .pointer (some ⟨bk s0, of_ s0 + i * 3, none⟩)), (15, (enc x)), (16, .bool (p x))] rfl
  clear ha41 ha36 hS14 ha34 a33 ha32 a31 ha30 a29 ha28 a27 ha26 a25 ha24 a22
  refine jJ ?_
  rcases Bool.eq_false_or_eq_true (p x) with c43 | c43
  ·
   have ha44 : Has 19 [(0, .slice s0.A s0.n s0.c), (1, .func (.func 92) #[] #[cap]), (7, .int .i64 (s0.n : Int)), (8, .int .i64 (i : Int)), (9, .bool true), (10, .int .i64 (i : Int)), (5, .int .i64 (i : Int)), (11, .func (.func 92) #[] #[cap]), (12, .slice s0.A s0.n s0.c), (13, .int .i64 (i : Int)), (14, .pointer (some ⟨bk s0, of_ s0 + i * 3, none⟩)), (15, (enc x)), (16, .bool true)] a35 := by have hh : Has 19 [(0, .slice s0.A s0.n s0.c), (1, .func (.func 92) #[] #[cap]), (7, .int .i64 (s0.n : Int)), (8, .int .i64 (i : Int)), (9, .bool true), (10, .int .i64 (i : Int)), (5, .int .i64 (i : Int)), (11, .func (.func 92) #[] #[cap]), (12, .slice s0.A s0.n s0.c), (13, .int .i64 (i : Int)), (14, .pointer (some ⟨bk s0, of_ s0 + i * 3, none⟩)), (15, (enc x)), (16, .bool (p x))] a35 := ha42.keeps [0, 1, 7, 8, 9, 10, 5, 11, 12, 13, 14, 15, 16] _ rfl; simp only [c43, Bool.not_true, Bool.not_false] at hh; exact hh
   refine jG ha44 rfl rfl ?_;refine wp_seq ?_;refine p_begin ?_;refine p_val (v := .int .i64 (i : Int)) ha44 (by decide) (qZ ha44 (At.here (by kernel_rfl : ((qQ Try.f104 5)[0]?).map spec = some ((Op.move (Operand.tmp 5)), some 17, 3, none))) (by kernel_rfl) (fun _ => by kernel_rfl)) (fun a45 ha46 => ?_);refine p_val (v := .int .i64 (i : Int)) ha46 (by decide) (qZ ha46 (At.here (by kernel_rfl : ((qQ Try.f104 5)[1]?).map spec = some ((Op.assign (Operand.tmp 17)), some 4, 3, none))) (by kernel_rfl) (fun _ => by kernel_rfl)) (fun a47 ha48 => ?_);refine jY ?_;have ha49 := ha48.keeps [0, 1, 7, 8, 9, 10, 5, 11, 12, 13, 14, 15, 16, 17, 4] [(0, .slice s0.A s0.n s0.c), (1, .func (.func 92) #[] #[cap]), (7, .int .i64 (s0.n : Int)), (8, .int .i64 (i : Int)), (9, .bool true), (10, .int .i64 (i : Int)), (5, .int .i64 (i : Int)), (11, .func (.func 92) #[] #[cap]), (12, .slice s0.A s0.n s0.c), (13, .int .i64 (i : Int)), (14, .pointer (some ⟨bk s0, of_ s0 + i * 3, none⟩)), (15, (enc x)), (16, .bool true), (17, .int .i64 (i : Int)), (4, .int .i64 (i : Int))] rfl;clear ha48 ha46 a45 ha44 a35 ha42;refine jJ (wp_ret (in_r (xQ (xQ (in_r (xQ ?_))))));refine end_tmp (t := 4) ha49 (by kernel_rfl) rfl ?_;exact ⟨⟨_, rfl, by rw [List.any_eq_true.2 ⟨x, List.mem_of_getElem? hx, c43⟩]; simp⟩, hS38.below⟩
  have ha50 : Has 19 [(0, .slice s0.A s0.n s0.c), (1, .func (.func 92) #[] #[cap]), (7, .int .i64 (s0.n : Int)), (8, .int .i64 (i : Int)), (9, .bool true), (10, .int .i64 (i : Int)), (5, .int .i64 (i : Int)), (11, .func (.func 92) #[] #[cap]), (12, .slice s0.A s0.n s0.c), (13, .int .i64 (i : Int)), (14, .pointer (some ⟨bk s0, of_ s0 + i * 3, none⟩)), (15, (enc x)), (16, .bool false)] a35 := by have hh : Has 19 [(0, .slice s0.A s0.n s0.c), (1, .func (.func 92) #[] #[cap]), (7, .int .i64 (s0.n : Int)), (8, .int .i64 (i : Int)), (9, .bool true), (10, .int .i64 (i : Int)), (5, .int .i64 (i : Int)), (11, .func (.func 92) #[] #[cap]), (12, .slice s0.A s0.n s0.c), (13, .int .i64 (i : Int)), (14, .pointer (some ⟨bk s0, of_ s0 + i * 3, none⟩)), (15, (enc x)), (16, .bool (p x))] a35 := ha42.keeps [0, 1, 7, 8, 9, 10, 5, 11, 12, 13, 14, 15, 16] _ rfl; simp only [c43, Bool.not_true, Bool.not_false] at hh; exact hh
  refine jV ha50 rfl rfl ?_
  refine wp_skip (in_n (jJ ?_))
  refine p_begin ?_
  refine p_val (v := .int .i64 ((i : Int) + 1)) ha50 (by decide) ((qZ (v := .int .i64 (IntKind.i64.wrap ((i : Int) + 1))) ha50 (At.here (by kernel_rfl : ((qQ Try.f104 6)[0]?).map spec = some ((Op.binOp BinOp.add 3 (Operand.tmp 8) (Operand.const (Value.int IntKind.i64 1)) 3), some 18, 3, none))) (by kernel_rfl) (fun _ => by kernel_rfl)).as (by rw [wrap_i64 (by omega) (by omega)])) (fun a51 ha52 => ?_)
  refine p_val (v := .int .i64 ((i : Int) + 1)) ha52 (by decide) (qZ ha52 (At.here (by kernel_rfl : ((qQ Try.f104 6)[1]?).map spec = some ((Op.move (Operand.tmp 18)), some 8, 3, none))) (by kernel_rfl) (fun _ => by kernel_rfl)) (fun a53 ha54 => ?_)
  refine jY ?_
  have ha55 := ha54.keeps [0, 1, 7, 9, 10, 5, 11, 12, 13, 14, 15, 16, 18, 8] [(0, .slice s0.A s0.n s0.c), (1, .func (.func 92) #[] #[cap]), (7, .int .i64 (s0.n : Int)), (9, .bool true), (10, .int .i64 (i : Int)), (5, .int .i64 (i : Int)), (11, .func (.func 92) #[] #[cap]), (12, .slice s0.A s0.n s0.c), (13, .int .i64 (i : Int)), (14, .pointer (some ⟨bk s0, of_ s0 + i * 3, none⟩)), (15, (enc x)), (16, .bool false), (18, .int .i64 ((i : Int) + 1)), (8, .int .i64 ((i : Int) + 1))] rfl
  clear ha54 ha52 a51 ha50 a35 ha42
  refine jJ ?_
  exact ⟨_, by omega, i + 1, rfl, by omega, by rw [htake]; intro y hy; rcases List.mem_append.1 hy with hy | hy; exact hno y hy; rw [List.mem_singleton.1 hy]; exact c43, ha55.keeps [0, 1, 7, 8] _ rfl, hS38⟩
 have ha56 : Has 19 [(0, .slice s0.A s0.n s0.c), (1, .func (.func 92) #[] #[cap]), (7, .int .i64 (s0.n : Int)), (8, .int .i64 (i : Int)), (9, .bool false)] a15 := by have hh : Has 19 [(0, .slice s0.A s0.n s0.c), (1, .func (.func 92) #[] #[cap]), (7, .int .i64 (s0.n : Int)), (8, .int .i64 (i : Int)), (9, .bool (decide ((i : Int) < (s0.n : Int))))] a15 := ha17.keeps [0, 1, 7, 8, 9] _ rfl; simp only [decide_eq_false c18, Bool.not_true, Bool.not_false] at hh; exact hh
 have hany : l0.any p = false := any_none (by have := c18; omega) hno
 refine jV ha56 rfl rfl ?_
 refine wp_exit (yX (yX (in_x (jJ (wp_seq ?_)))))
 refine p_begin ?_
 refine p_val (v := .int .i64 (-1)) ha56 (by decide) (qZ ha56 (At.here (by kernel_rfl : ((qQ Try.f104 7)[0]?).map spec = some ((Op.assign (Operand.const (Value.int IntKind.i64 (-1)))), some 4, 3, none))) (by kernel_rfl) (fun _ => by kernel_rfl)) (fun a57 ha58 => ?_)
 refine jY ?_
 have ha59 := ha58.keeps [4] [(4, .int .i64 (-1))] rfl
 clear ha58 ha56 a15 ha17
 refine jJ (wp_ret ?_)
 refine end_tmp (t := 4) ha59 (by kernel_rfl) rfl ?_
 exact ⟨⟨_, rfl, by rw [hany]; rfl⟩, hS14.below⟩
theorem code103 : Try.f103.body = some (Code.seq (Code.region 0 (qQ Try.f103 0) false) (Code.seq (Code.seq (Code.region 1 (qQ Try.f103 1) false) (Code.block 0 (Code.loop (Code.seq (Code.region 2 (qQ Try.f103 2) false) (Code.seq (Code.cond (Operand.tmp 9) Code.skip (Code.exit 0)) (Code.seq (Code.block 1 (Code.seq (Code.region 3 (qQ Try.f103 3) false) (Code.seq (Code.region 4 (qQ Try.f103 4) false) (Code.cond (Operand.tmp 16) (Code.seq (Code.region 5 (qQ Try.f103 5) false) Code.ret) Code.skip)))) (Code.region 6 (qQ Try.f103 6) false))))))) (Code.seq (Code.region 7 (qQ Try.f103 7) false) Code.ret))) := by kernel_rfl
theorem indexBody (w0 : World) (s0 : Sl) {α : Type} (enc : α → Value) (p : α → Bool) (l0 : List α) (cap : Value) (hbig : l0.length ≤ 1000000) (hrd : ∀ w', Below w0.heap.size w0 w' → RdL Try.prog 95 1 enc w' s0 l0) (hp : ∀ w', Below w0.heap.size w0 w' → ∀ x ∈ l0, Calls Try.prog 90 #[enc x, cap] w' (Ret fun r w'' => r = .bool (p x) ∧ Below w'.heap.size w' w'')) :
  Calls Try.prog 103 #[.slice s0.A s0.n s0.c, .func (.func 90) #[] #[cap]] w0 (Ret fun r w' => (∃ q : Int, r = .int .i64 q ∧ decide (q ≥ 0) = l0.any p) ∧ Below w0.heap.size w0 w') := by
 have hS : Sat w0 w0 [] := Sat.start w0
 have hlen0 := (hrd w0 (Below.refl _ _)).len
 refine enter (n := 19) Try.func103 code103 (by kernel_rfl) (Nat.le_of_ble_eq_true rfl) (fun a ha => ?_)
 replace ha : Has 19 [(0, .slice s0.A s0.n s0.c), (1, .func (.func 90) #[] #[cap])] a := ha
 refine wp_seq ?_
 refine p_begin ?_
 refine p_val (v := .int .i64 0) ha (by decide) (qZ ha (At.here (by kernel_rfl : ((qQ Try.f103 0)[0]?).map spec = some ((Op.assign (Operand.const (Value.int IntKind.i64 0))), some 4, 3, none))) (by kernel_rfl) (fun _ => by kernel_rfl)) (fun a1 ha2 => ?_)
 refine jY ?_
 have ha3 := ha2.keeps [0, 1, 4] [(0, .slice s0.A s0.n s0.c), (1, .func (.func 90) #[] #[cap]), (4, .int .i64 0)] rfl
 clear ha2 ha a
 refine jJ (wp_seq (wp_seq ?_))
 refine p_begin ?_
 refine p_val (v := .slice s0.A s0.n s0.c) ha3 (by decide) (qZ ha3 (At.here (by kernel_rfl : ((qQ Try.f103 1)[0]?).map spec = some ((Op.move (Operand.tmp 0)), some 6, 38, none))) (by kernel_rfl) (fun _ => by kernel_rfl)) (fun a4 ha5 => ?_)
 refine p_val (v := .int .i64 (s0.n : Int)) ha5 (by decide) (qZ ha5 (At.here (by kernel_rfl : ((qQ Try.f103 1)[1]?).map spec = some ((Op.call { callee := (Callee.builtin Builtin.len), args := #[(Operand.tmp 6)], argTypes := #[38] }), some 7, 3, none))) (by kernel_rfl) (fun _ => by kernel_rfl)) (fun a6 ha7 => ?_)
 refine p_val (v := .int .i64 0) ha7 (by decide) (qZ ha7 (At.here (by kernel_rfl : ((qQ Try.f103 1)[2]?).map spec = some ((Op.move (Operand.const (Value.int IntKind.i64 0))), some 8, 3, none))) (by kernel_rfl) (fun _ => by kernel_rfl)) (fun a8 ha9 => ?_)
 refine jY ?_
 have ha10 := ha9.keeps [0, 1, 4, 7, 8] [(0, .slice s0.A s0.n s0.c), (1, .func (.func 90) #[] #[cap]), (4, .int .i64 0), (7, .int .i64 (s0.n : Int)), (8, .int .i64 0)] rfl
 clear ha9 ha7 a6 ha5 a4 ha3 a1
 refine jJ (wp_block ?_)
 refine wp_loop_ghost (fun n_ a_ w_ => ∃ (i : Nat), n_ = l0.length - i ∧ (i ≤ l0.length) ∧ (∀ x ∈ l0.take i, p x = false) ∧ Has 19 [(0, .slice s0.A s0.n s0.c), (1, .func (.func 90) #[] #[cap]), (7, .int .i64 (s0.n : Int)), (8, .int .i64 (i : Int))] a_ ∧ Sat w0 w_ ([])) _ ⟨0, rfl, Nat.zero_le _, (fun x hx => by simp at hx), ha10.keeps [0, 1, 7, 8] _ rfl, hS⟩ ?_
 rintro n_ a11 w12 ⟨i, rfl, hi, hno, ha13, hS14⟩
 refine wp_seq ?_
 refine p_begin ?_
 refine p_val (v := .bool (decide ((i : Int) < (s0.n : Int)))) ha13 (by decide) (qZ ha13 (At.here (by kernel_rfl : ((qQ Try.f103 2)[0]?).map spec = some ((Op.binOp BinOp.lss 3 (Operand.tmp 8) (Operand.tmp 7) 3), some 9, 0, none))) (by kernel_rfl) (fun _ => by kernel_rfl)) (fun a15 ha16 => ?_)
 refine jY ?_
 have ha17 := ha16.keeps [0, 1, 7, 8, 9] [(0, .slice s0.A s0.n s0.c), (1, .func (.func 90) #[] #[cap]), (7, .int .i64 (s0.n : Int)), (8, .int .i64 (i : Int)), (9, .bool (decide ((i : Int) < (s0.n : Int))))] rfl
 clear ha16 ha13 a11
 refine jJ (wp_seq ?_)
 by_cases c18 : (i : Int) < (s0.n : Int)
 ·
  have ha19 : Has 19 [(0, .slice s0.A s0.n s0.c), (1, .func (.func 90) #[] #[cap]), (7, .int .i64 (s0.n : Int)), (8, .int .i64 (i : Int)), (9, .bool true)] a15 := by have hh : Has 19 [(0, .slice s0.A s0.n s0.c), (1, .func (.func 90) #[] #[cap]), (7, .int .i64 (s0.n : Int)), (8, .int .i64 (i : Int)), (9, .bool (decide ((i : Int) < (s0.n : Int))))] a15 := ha17.keeps [0, 1, 7, 8, 9] _ rfl; simp only [decide_eq_true c18, Bool.not_true, Bool.not_false] at hh; exact hh
  have hlt : i < l0.length := by have := c18; omega
  obtain ⟨x, hx⟩ : ∃ x, l0[i]? = some x := ⟨_, List.getElem?_eq_getElem hlt⟩
  have htake : l0.take (i + 1) = l0.take i ++ [x] := by rw [List.take_add_one, hx]; rfl
  refine jG ha19 rfl rfl ?_
  refine wp_skip (jJ (wp_seq (wp_block (wp_seq ?_))))
  refine p_begin ?_
  refine p_val (v := .int .i64 (i : Int)) ha19 (by decide) (qZ ha19 (At.here (by kernel_rfl : ((qQ Try.f103 3)[0]?).map spec = some ((Op.move (Operand.tmp 8)), some 10, 3, none))) (by kernel_rfl) (fun _ => by kernel_rfl)) (fun a20 ha21 => ?_)
  refine p_val (v := .int .i64 (i : Int)) ha21 (by decide) (qZ ha21 (At.here (by kernel_rfl : ((qQ Try.f103 3)[1]?).map spec = some ((Op.assign (Operand.tmp 10)), some 5, 3, none))) (by kernel_rfl) (fun _ => by kernel_rfl)) (fun a22 ha23 => ?_)
  refine jY ?_
  have ha24 := ha23.keeps [0, 1, 7, 8, 9, 10, 5] [(0, .slice s0.A s0.n s0.c), (1, .func (.func 90) #[] #[cap]), (7, .int .i64 (s0.n : Int)), (8, .int .i64 (i : Int)), (9, .bool true), (10, .int .i64 (i : Int)), (5, .int .i64 (i : Int))] rfl
  clear ha23 ha21 a20 ha19 a15 ha17
  refine jJ (wp_seq ?_)
  refine p_begin ?_
  refine p_val (v := .func (.func 90) #[] #[cap]) ha24 (by decide) (qZ ha24 (At.here (by kernel_rfl : ((qQ Try.f103 4)[0]?).map spec = some ((Op.move (Operand.tmp 1)), some 11, 159, none))) (by kernel_rfl) (fun _ => by kernel_rfl)) (fun a25 ha26 => ?_)
  refine p_val (v := .slice s0.A s0.n s0.c) ha26 (by decide) (qZ ha26 (At.here (by kernel_rfl : ((qQ Try.f103 4)[1]?).map spec = some ((Op.move (Operand.tmp 0)), some 12, 38, none))) (by kernel_rfl) (fun _ => by kernel_rfl)) (fun a27 ha28 => ?_)
  refine p_val (v := .int .i64 (i : Int)) ha28 (by decide) (qZ ha28 (At.here (by kernel_rfl : ((qQ Try.f103 4)[2]?).map spec = some ((Op.move (Operand.tmp 5)), some 13, 3, none))) (by kernel_rfl) (fun _ => by kernel_rfl)) (fun a29 ha30 => ?_)
  refine p_val (v := .pointer (some ⟨bk s0, of_ s0 + i * 1, none⟩)) ha30 (by decide) (kK (s := s0) (el := 95) (sz := 1) (j := i) ha30 (At.here (by kernel_rfl : ((qQ Try.f103 4)[3]?).map spec = some ((Op.indexAddr 38 (Operand.tmp 12) (Operand.tmp 13)), some 14, 0, none))) rfl rfl (by kernel_rfl) (by kernel_rfl) ((hrd _ hS14.below).cells i x hx).1 rfl (by omega)) (fun a31 ha32 => ?_)
  refine p_val (v := (enc x)) ha32 (by decide) (v_loadL (v := enc x) (p := ⟨bk s0, of_ s0 + i * 1, none⟩) ha32 (At.here (by kernel_rfl : ((qQ Try.f103 4)[4]?).map spec = some ((Op.load 95 (Operand.tmp 14)), some 15, 95, none))) rfl (fun w' hw => by rw [hw]; exact ((hrd _ hS14.below).cells i x hx).2)) (fun a33 ha34 => ?_)
  refine jZ (o_retF (t := 11) (f := 90) (cap := [cap]) (Post := fun r w' => r = .bool (p x) ∧ Sat w0 w' []) ha34 (by decide) (At.here (by kernel_rfl : ((qQ Try.f103 4)[5]?).map spec = some ((Op.call { callee := (Callee.value (Operand.tmp 11)), args := #[(Operand.tmp 15)], argTypes := #[95] }), some 16, 4, none))) rfl rfl Try.func90 (by kernel_rfl) (by exact pred_sat hS14 (hp _ hS14.below x (List.mem_of_getElem? hx))) (fun v39 w37 a35 hp40 ha36 => ?_))
  obtain ⟨rfl, hS38⟩ := hp40
  have ha41 : Has 19 [(0, .slice s0.A s0.n s0.c), (1, .func (.func 90) #[] #[cap]), (7, .int .i64 (s0.n : Int)), (8, .int .i64 (i : Int)), (9, .bool true), (10, .int .i64 (i : Int)), (5, .int .i64 (i : Int)), (11, .func (.func 90) #[] #[cap]), (12, .slice s0.A s0.n s0.c), (13, .int .i64 (i : Int)), (14, .pointer (some ⟨bk s0, of_ s0 + i * 1, none⟩)), (15, (enc x)), (16, .bool (p x))] a35 := ha36.keeps [0, 1, 7, 8, 9, 10, 5, 11, 12, 13, 14, 15, 16] _ rfl
  refine jY ?_
  have ha42 := ha41.keeps [0, 1, 7, 8, 9, 10, 5, 11, 12, 13, 14, 15, 16] [(0, .slice s0.A s0.n s0.c), (1, .func (.func 90) #[] #[cap]), (7, .int .i64 (s0.n : Int)), (8, .int .i64 (i : Int)), (9, .bool true), (10, .int .i64 (i : Int)), (5, .int .i64 (i : Int)), (11, .func (.func 90) #[] #[cap]), (12, .slice s0.A s0.n s0.c), (13, .int .i64 (i : Int)), (14, .pointer (some ⟨bk s0, of_ s0 + i * 1, none⟩)), (15, (enc x)), (16, .bool (p x))] rfl
  clear ha41 ha36 hS14 ha34 a33 ha32 a31 ha30 a29 ha28 a27 ha26 a25 ha24 a22
  refine jJ ?_
  rcases Bool.eq_false_or_eq_true (p x) with c43 | c43
  ·
   have ha44 : Has 19 [(0, .slice s0.A s0.n s0.c), (1, .func (.func 90) #[] #[cap]), (7, .int .i64 (s0.n : Int)), (8, .int .i64 (i : Int)), (9, .bool true), (10, .int .i64 (i : Int)), (5, .int .i64 (i : Int)), (11, .func (.func 90) #[] #[cap]), (12, .slice s0.A s0.n s0.c), (13, .int .i64 (i : Int)), (14, .pointer (some ⟨bk s0, of_ s0 + i * 1, none⟩)), (15, (enc x)), (16, .bool true)] a35 := by have hh : Has 19 [(0, .slice s0.A s0.n s0.c), (1, .func (.func 90) #[] #[cap]), (7, .int .i64 (s0.n : Int)), (8, .int .i64 (i : Int)), (9, .bool true), (10, .int .i64 (i : Int)), (5, .int .i64 (i : Int)), (11, .func (.func 90) #[] #[cap]), (12, .slice s0.A s0.n s0.c), (13, .int .i64 (i : Int)), (14, .pointer (some ⟨bk s0, of_ s0 + i * 1, none⟩)), (15, (enc x)), (16, .bool (p x))] a35 := ha42.keeps [0, 1, 7, 8, 9, 10, 5, 11, 12, 13, 14, 15, 16] _ rfl; simp only [c43, Bool.not_true, Bool.not_false] at hh; exact hh
   refine jG ha44 rfl rfl ?_;refine wp_seq ?_;refine p_begin ?_;refine p_val (v := .int .i64 (i : Int)) ha44 (by decide) (qZ ha44 (At.here (by kernel_rfl : ((qQ Try.f103 5)[0]?).map spec = some ((Op.move (Operand.tmp 5)), some 17, 3, none))) (by kernel_rfl) (fun _ => by kernel_rfl)) (fun a45 ha46 => ?_);refine p_val (v := .int .i64 (i : Int)) ha46 (by decide) (qZ ha46 (At.here (by kernel_rfl : ((qQ Try.f103 5)[1]?).map spec = some ((Op.assign (Operand.tmp 17)), some 4, 3, none))) (by kernel_rfl) (fun _ => by kernel_rfl)) (fun a47 ha48 => ?_);refine jY ?_;have ha49 := ha48.keeps [0, 1, 7, 8, 9, 10, 5, 11, 12, 13, 14, 15, 16, 17, 4] [(0, .slice s0.A s0.n s0.c), (1, .func (.func 90) #[] #[cap]), (7, .int .i64 (s0.n : Int)), (8, .int .i64 (i : Int)), (9, .bool true), (10, .int .i64 (i : Int)), (5, .int .i64 (i : Int)), (11, .func (.func 90) #[] #[cap]), (12, .slice s0.A s0.n s0.c), (13, .int .i64 (i : Int)), (14, .pointer (some ⟨bk s0, of_ s0 + i * 1, none⟩)), (15, (enc x)), (16, .bool true), (17, .int .i64 (i : Int)), (4, .int .i64 (i : Int))] rfl;clear ha48 ha46 a45 ha44 a35 ha42;refine jJ (wp_ret (in_r (xQ (xQ (in_r (xQ ?_))))));refine end_tmp (t := 4) ha49 (by kernel_rfl) rfl ?_;exact ⟨⟨_, rfl, by rw [List.any_eq_true.2 ⟨x, List.mem_of_getElem? hx, c43⟩]; simp⟩, hS38.below⟩
  have ha50 : Has 19 [(0, .slice s0.A s0.n s0.c), (1, .func (.func 90) #[] #[cap]), (7, .int .i64 (s0.n : Int)), (8, .int .i64 (i : Int)), (9, .bool true), (10, .int .i64 (i : Int)), (5, .int .i64 (i : Int)), (11, .func (.func 90) #[] #[cap]), (12, .slice s0.A s0.n s0.c), (13, .int .i64 (i : Int)), (14, .pointer (some ⟨bk s0, of_ s0 + i * 1, none⟩)), (15, (enc x)), (16, .bool false)] a35 := by have hh : Has 19 [(0, .slice s0.A s0.n s0.c), (1, .func (.func 90) #[] #[cap]), (7, .int .i64 (s0.n : Int)), (8, .int .i64 (i : Int)), (9, .bool true), (10, .int .i64 (i : Int)), (5, .int .i64 (i : Int)), (11, .func (.func 90) #[] #[cap]), (12, .slice s0.A s0.n s0.c), (13, .int .i64 (i : Int)), (14, .pointer (some ⟨bk s0, of_ s0 + i * 1, none⟩)), (15, (enc x)), (16, .bool (p x))] a35 := ha42.keeps [0, 1, 7, 8, 9, 10, 5, 11, 12, 13, 14, 15, 16] _ rfl; simp only [c43, Bool.not_true, Bool.not_false] at hh; exact hh
  refine jV ha50 rfl rfl ?_
  refine wp_skip (in_n (jJ ?_))
  refine p_begin ?_
  refine p_val (v := .int .i64 ((i : Int) + 1)) ha50 (by decide) ((qZ (v := .int .i64 (IntKind.i64.wrap ((i : Int) + 1))) ha50 (At.here (by kernel_rfl : ((qQ Try.f103 6)[0]?).map spec = some ((Op.binOp BinOp.add 3 (Operand.tmp 8) (Operand.const (Value.int IntKind.i64 1)) 3), some 18, 3, none))) (by kernel_rfl) (fun _ => by kernel_rfl)).as (by rw [wrap_i64 (by omega) (by omega)])) (fun a51 ha52 => ?_)
  refine p_val (v := .int .i64 ((i : Int) + 1)) ha52 (by decide) (qZ ha52 (At.here (by kernel_rfl : ((qQ Try.f103 6)[1]?).map spec = some ((Op.move (Operand.tmp 18)), some 8, 3, none))) (by kernel_rfl) (fun _ => by kernel_rfl)) (fun a53 ha54 => ?_)
  refine jY ?_
  have ha55 := ha54.keeps [0, 1, 7, 9, 10, 5, 11, 12, 13, 14, 15, 16, 18, 8] [(0, .slice s0.A s0.n s0.c), (1, .func (.func 90) #[] #[cap]), (7, .int .i64 (s0.n : Int)), (9, .bool true), (10, .int .i64 (i : Int)), (5, .int .i64 (i : Int)), (11, .func (.func 90) #[] #[cap]), (12, .slice s0.A s0.n s0.c), (13, .int .i64 (i : Int)), (14, .pointer (some ⟨bk s0, of_ s0 + i * 1, none⟩)), (15, (enc x)), (16, .bool false), (18, .int .i64 ((i : Int) + 1)), (8, .int .i64 ((i : Int) + 1))] rfl
  clear ha54 ha52 a51 ha50 a35 ha42
  refine jJ ?_
  exact ⟨_, by omega, i + 1, rfl, by omega, by rw [htake]; intro y hy; rcases List.mem_append.1 hy with hy | hy; exact hno y hy; rw [List.mem_singleton.1 hy]; exact c43, ha55.keeps [0, 1, 7, 8] _ rfl, hS38⟩
 have ha56 : Has 19 [(0, .slice s0.A s0.n s0.c), (1, .func (.func 90) #[] #[cap]), (7, .int .i64 (s0.n : Int)), (8, .int .i64 (i : Int)), (9, .bool false)] a15 := by have hh : Has 19 [(0, .slice s0.A s0.n s0.c), (1, .func (.func 90) #[] #[cap]), (7, .int .i64 (s0.n : Int)), (8, .int .i64 (i : Int)), (9, .bool (decide ((i : Int) < (s0.n : Int))))] a15 := ha17.keeps [0, 1, 7, 8, 9] _ rfl; simp only [decide_eq_false c18, Bool.not_true, Bool.not_false] at hh; exact hh
 have hany : l0.any p = false := any_none (by have := c18; omega) hno
 refine jV ha56 rfl rfl ?_
 refine wp_exit (yX (yX (in_x (jJ (wp_seq ?_)))))
 refine p_begin ?_
 refine p_val (v := .int .i64 (-1)) ha56 (by decide) (qZ ha56 (At.here (by kernel_rfl : ((qQ Try.f103 7)[0]?).map spec = some ((Op.assign (Operand.const (Value.int IntKind.i64 (-1)))), some 4, 3, none))) (by kernel_rfl) (fun _ => by kernel_rfl)) (fun a57 ha58 => ?_)
 refine jY ?_
 have ha59 := ha58.keeps [4] [(4, .int .i64 (-1))] rfl
 clear ha58 ha56 a15 ha17
 refine jJ (wp_ret ?_)
 refine end_tmp (t := 4) ha59 (by kernel_rfl) rfl ?_
 exact ⟨⟨_, rfl, by rw [hany]; rfl⟩, hS14.below⟩
end Go.Proofs.Ytcbijhgepdedpaa.G
