/- What the claim FnExactLintProgram rests on, part 25 of 29; the last part proves it: for every input the law answers true, and its arguments read behind the call as before it. No condition. -/
import Derived.Test.YtpenhegoilccoaaQLintProgram20
import Derived.Test.YtpenhegoilccoaaQLintProgram21
import Derived.Test.YtpenhegoilccoaaQLintProgram24
set_option linter.unusedSimpArgs false
set_option linter.unusedVariables false
set_option maxRecDepth 20000
set_option maxHeartbeats 1000000
namespace Go.Proofs.Ytpenhegoilccoaa.G
open Go.RowKit Go.Proofs.Ytpenhegoilccoaa.SX Go.Proofs.YtpenhegoilccoaaW.PrintWords Go.Proofs.YtpenhegoilccoaaW.PrintLast Go.Proofs.YtpenhegoilccoaaW.PrintMore
theorem encJ_one : ∀ l : List Int, (encJ l).all Value.oneCell' = true
 | [] => rfl
 | x :: l => by show (cellsJ x ++ encJ l).all _ = true; rw [List.all_append, encJ_one l]; rfl
theorem encJ_take (l : List Int) (j : Nat) : (encJ l).take (j * 1) = encJ (l.take j) := flat_take cellsJ_len l j
theorem encJ_snoc (l : List Int) (x : Int) : encJ l ++ [.int .i64 x] = encJ (l ++ [x]) := by simp [encJ, cellsJ]
theorem encJ_tail {l1 l : List Int} {j : Nat} (hj : j ≤ l.length) : encJ l1 ++ (encJ l).drop (j * 1) = encJ (l1 ++ l.drop j) := by
 have h : (encJ l).drop (j * 1) = encJ (l.drop j) := by
  conv => lhs; rw [← List.take_append_drop j l]
  show ((l.take j ++ l.drop j).flatMap cellsJ).drop _ = _
  rw [List.flatMap_append, List.drop_left']
  · rfl
  · rw [flat_length cellsJ_len, List.length_take, Nat.min_eq_left hj]
 rw [h]
 simp [encJ]
theorem code128 : Try.f128.body = some (Code.seq (cr Try.f128 0 false) (Code.seq (cr Try.f128 1 false) (Code.seq (Code.block 0 (Code.loop (Code.seq (Code.seq (cr Try.f128 2 false) (Code.cond (Operand.tmp 17) Code.skip (Code.exit 0))) (Code.block 1 (cr Try.f128 3 false))))) (Code.seq (Code.seq (cr Try.f128 4 false) (Code.cond (Operand.tmp 31) (Code.seq (cr Try.f128 5 false) Code.ret) Code.skip)) (Code.seq (cr Try.f128 6 true) Code.ret))))) := by kernel_rfl
theorem put1_satB {w0 w : World} {Rs : List Asn} {sa : Sl} {L : List Int} {x : Int} (hS : Sat w0 w (SX.row (.slice sa.A sa.n sa.c) 3 1 (SX.encI L) :: Rs)) (hL : L.length ≤ 1000000) :
  Calls Try.prog 128 #[.slice sa.A sa.n sa.c, .int .i64 x] w (Ret fun r w' => ∃ o : Sl, r = .slice o.A o.n o.c ∧ o.n = (put1 L x).length ∧ Sat w0 w' (SX.row (.slice o.A o.n o.c) 3 1 (SX.encI (put1 L x)) :: Rs) ∧ Sat w0 w' (SX.row (.slice sa.A sa.n sa.c) 3 1 (SX.encI L) :: Rs)) := by
 simp only [encJ_I] at hS ⊢
 have han : sa.n = L.length := hS.rowL (s := sa) (enc := cellsJ) 0 cellsJ_len (by decide) rfl
 have hac := (hS.rowC (s := sa) 0 rfl).1
 refine enter (n := 45) Try.func128 code128 (by kernel_rfl) (Nat.le_of_ble_eq_true rfl) (fun a ha => ?_)
 replace ha : Has 45 [(0, .slice sa.A sa.n sa.c), (1, iv x)] a := ha
 refine wp_seq (jX [0] (jQ [(0, 4, .slice none 0 0)] ha fun a ha => ?_))
 refine jY (jJ (wp_seq (jX [0] (jQ [(0, 5, iv 0)] ha fun a ha => ?_))))
 refine jY (jJ (wp_seq (wp_block ?_)))
 replace hS : Sat w0 w ((SX.row (.slice sa.A sa.n sa.c) 3 1 (encJ L)) :: Rs) := hS
 refine wp_loop_ghost (fun n_ a_ w_ => ∃ (k : Nat), n_ = L.length - k ∧ (k ≤ L.length) ∧ (∀ j : Nat, j < k → ∃ y, L[j]? = some y ∧ y < x) ∧ Has 45 [(0, .slice sa.A sa.n sa.c), (1, iv x), (4, .slice none 0 0), (5, iv (k : Int))] a_ ∧ Sat w0 w_ ((SX.row (.slice sa.A sa.n sa.c) 3 1 (encJ L)) :: Rs)) _ ⟨0, rfl, Nat.zero_le _, (fun j hj => by omega), ha.keeps [0, 1, 4, 5] _ rfl, hS⟩ ?_
 rintro n_ a w ⟨k, rfl, hk, hless, ha, hS⟩
 refine wp_seq (wp_seq (jX [0, 1, 2, 3, 4, 5, 6, 7, 8, 9, 10, 11] (jQ [(0, 6, iv (k : Int)), (1, 7, .slice sa.A sa.n sa.c), (2, 8, iv (sa.n : Int)), (3, 9, .bool (decide ((k : Int) < (sa.n : Int)))), (4, 10, .bool (decide ((k : Int) < (sa.n : Int))))] ha fun a ha => ?_)))
 by_cases c1 : (k : Int) < (sa.n : Int)
 ·
  replace ha := ha.turn 9 (.bool true) rfl (congrArg Value.bool (decide_eq_true c1))
  replace ha := ha.turn 10 (.bool true) rfl (congrArg Value.bool (decide_eq_true c1))
  obtain ⟨y, hy⟩ : ∃ y, L[k]? = some y := ⟨_, List.getElem?_eq_getElem (by omega)⟩
  refine jQ [(5, 11, .slice sa.A sa.n sa.c), (6, 12, iv (k : Int))] ha fun a ha => ?_
  refine qX (.pointer (some ⟨bk sa, k * 1, none⟩)) ha (xQ (s := sa) (el := 3) (sz := 1) (j := k) ha (AtG.here (gd := 10) ⟨(by kernel_rfl : ((jV Try.f128 2)[7]?).map spec = some ((Op.indexAddr 44 (Operand.tmp 11) (Operand.tmp 12)), some 13, 0, some (4, true))), by kernel_rfl⟩ ha rfl) rfl rfl (by kernel_rfl) (by kernel_rfl) (hS.rowA (s := sa) 0 rfl (by have := (List.getElem?_eq_some_iff.1 hy).1; rw [encJ_length]; omega)) (rfl) (by have h9 := hS.rowL (s := sa) (enc := cellsJ) 0 cellsJ_len (by decide) rfl; have := (List.getElem?_eq_some_iff.1 hy).1; omega)) fun a ha => ?_
  refine qX (iv y) ha (qV ha (AtG.here (gd := 10) ⟨(by kernel_rfl : ((jV Try.f128 2)[8]?).map spec = some ((Op.load 3 (Operand.tmp 13)), some 14, 3, some (4, true))), by kernel_rfl⟩ ha rfl) rfl (by kernel_rfl) (fun w' hw => by rw [hw]; exact (hS.rdC (s := sa) 0 rfl).cells _ _ ((flat_get (enc := cellsJ) (o := 0) cellsJ_len hy (by decide)).trans rfl))) fun a ha => ?_
  refine jQ [(9, 15, iv x), (10, 16, .bool (decide (y < x))), (11, 17, .bool (decide (y < x)))] ha fun a ha => ?_
  refine jY (jJ ?_)
  by_cases c2 : y < x
  ·
   refine jU ha rfl (decide_eq_true c2) ?_;refine wp_skip (jJ (wp_block (jX [0, 1, 2] (jQ [(0, 18, iv (k : Int))] ha fun a ha => ?_))));refine xJ 19 ((k : Int) + 1) ha fun a ha => ?_;refine jQ [(2, 5, iv ((k : Int) + 1))] ha fun a ha => ?_;refine jY (in_n (jJ ?_));replace hS : Sat w0 w ((SX.row (.slice sa.A sa.n sa.c) 3 1 (encJ L)) :: Rs) := hS;exact ⟨_, by omega, k + 1, rfl, by omega, put1_next hless hy (by omega), ha.keeps [0, 1, 4, 5] _ rfl, hS⟩
  refine jK ha rfl (decide_eq_false c2) ?_
  refine wp_exit (qJ (qJ (in_x (jJ (wp_seq (wp_seq (jX [0, 1, 2, 3, 4, 5, 6, 7, 8, 9, 10, 11] (jQ [(0, 20, iv (k : Int)), (1, 21, .slice sa.A sa.n sa.c), (2, 22, iv (sa.n : Int)), (3, 23, .bool (decide ((k : Int) < (sa.n : Int)))), (4, 24, .bool (decide ((k : Int) < (sa.n : Int))))] ha fun a ha => ?_))))))))
  replace ha := ha.turn 23 (.bool true) rfl (congrArg Value.bool (decide_eq_true c1))
  replace ha := ha.turn 24 (.bool true) rfl (congrArg Value.bool (decide_eq_true c1))
  refine jQ [(5, 25, .slice sa.A sa.n sa.c), (6, 26, iv (k : Int))] ha fun a ha => ?_
  refine qX (.pointer (some ⟨bk sa, k * 1, none⟩)) ha (xQ (s := sa) (el := 3) (sz := 1) (j := k) ha (AtG.here (gd := 24) ⟨(by kernel_rfl : ((jV Try.f128 4)[7]?).map spec = some ((Op.indexAddr 44 (Operand.tmp 25) (Operand.tmp 26)), some 27, 0, some (4, true))), by kernel_rfl⟩ ha rfl) rfl rfl (by kernel_rfl) (by kernel_rfl) (hS.rowA (s := sa) 0 rfl (by have := (List.getElem?_eq_some_iff.1 hy).1; rw [encJ_length]; omega)) (rfl) (by have h9 := hS.rowL (s := sa) (enc := cellsJ) 0 cellsJ_len (by decide) rfl; have := (List.getElem?_eq_some_iff.1 hy).1; omega)) fun a ha => ?_
  refine qX (iv y) ha (qV ha (AtG.here (gd := 24) ⟨(by kernel_rfl : ((jV Try.f128 4)[8]?).map spec = some ((Op.load 3 (Operand.tmp 27)), some 28, 3, some (4, true))), by kernel_rfl⟩ ha rfl) rfl (by kernel_rfl) (fun w' hw => by rw [hw]; exact (hS.rdC (s := sa) 0 rfl).cells _ _ ((flat_get (enc := cellsJ) (o := 0) cellsJ_len hy (by decide)).trans rfl))) fun a ha => ?_
  refine jQ [(9, 29, iv x), (10, 30, .bool (decide (y = x))), (11, 31, .bool (decide (y = x)))] ha fun a ha => ?_
  refine jY ?_
  replace ha := ha.as [(0, .slice sa.A sa.n sa.c), (1, iv x), (4, .slice none 0 0), (5, iv (k : Int)), (31, .bool (decide (y = x)))] rfl
  refine jJ ?_
  by_cases c3 : y = x
  ·
   refine jU ha rfl (decide_eq_true c3) ?_;refine wp_seq (jX [0, 1] (jQ [(0, 32, .slice sa.A sa.n sa.c), (1, 4, .slice sa.A sa.n sa.c)] ha fun a ha => ?_));refine jY (jJ (wp_ret (qG (jG ha (by kernel_rfl) (qK (t := 4) ha rfl) ?_))));have hE : put1 L x = L := put1_at hless hy c3;rw [hE];replace hS := hS.pickN 1 [0];exact ⟨sa, rfl, han, hS, hS⟩
  refine jK ha rfl (decide_eq_false c3) ?_
  refine wp_skip (jJ (zZ (J := fun a_ w_ => ∃ (g1_0 : Sl) (g1_1 : Nat), Has 45 [(4, .slice g1_0.A g1_0.n g1_0.c)] a_ ∧ Sat w0 w_ ((SX.blk g1_1 [iv x] 3) :: (SX.row (.slice g1_0.A g1_0.n g1_0.c) 3 1 (encJ (((L.take k) ++ [x]) ++ L.drop k))) :: (SX.row (.slice sa.A sa.n sa.c) 3 1 (encJ L)) :: Rs)) ?_ ?_))
  ·
   refine yX 13 13 (hS.pickN 1 []) hS fun w hS => ?_;refine qH (k := 11) [(1, 34, .slice sa.A sa.n sa.c), (2, 35, iv (k : Int))] ha (.inr (hS.pickN 1 [])) fun a ha => ?_;refine yY 3 (.slice sa.A k sa.c) ha (v_takeZ (el := 3) (j := k) ha (xV (op := (Op.slice 44 (Operand.tmp 34) none (some (Operand.tmp 35)) none)) (d := some 36) (ty := 44)) rfl rfl (by kernel_rfl) (by kernel_rfl) rfl (by omega) hac) (.inr (hS.pickN 1 [])) fun a ha => ?_;refine qH (k := 7) [(5, 38, iv x), (8, 41, .slice sa.A sa.n sa.c), (9, 42, iv (k : Int))] ha (.inr (hS.pickN 1 [])) fun a ha => ?_;refine yY 10 (.slice (tailA sa.A k 1 sa.c) (sa.n - k) (sa.c - k)) ha (v_dropZ (el := 3) (sz := 1) (j := k) ha (xV (op := (Op.slice 44 (Operand.tmp 41) (some (Operand.tmp 42)) none none)) (d := some 43) (ty := 44)) rfl rfl (by kernel_rfl) (by kernel_rfl) rfl (by omega) hac) (.inr (hS.pickN 1 [])) fun a ha => ?_;refine d_all (rs := [0, 6]) (by kernel_rfl) (by simp) (forall_mem_2 ?_ ?_)
   ·
    refine id (qY 33 [] 3 (fun b => .slice (some ⟨b, 0, none⟩) 0 0) ha hS fun b4 w a hb5 hS ha => ?_);refine ⟨.inr (hS.pickN 2 []), ?_⟩;refine d_all (rs := [4, 6]) (by kernel_rfl) (by simp) (forall_mem_2 ?_ ?_)
    ·
     refine id (o_appRow0 (m := k) (z := iv 0) (sz := 1) (bytes := 8) (ys' := encJ (L.take k)) 0 1 ha (by decide) (xV (op := (Op.call { callee := (Callee.builtin Builtin.append), args := #[(Operand.tmp 33), (Operand.tmp 36)], argTypes := #[44, 44] })) (d := some 37) (ty := 44)) rfl rfl (by kernel_rfl) (by kernel_rfl) rfl (by decide) hS rfl rfl (by omega) (encJ_one _) (by rw [encJ_length]; omega) (by decide) (encJ_take _ _) fun s6 w a hS hn7 ha => ?_);refine ⟨.inr (hS.pickN 2 []), ?_⟩;refine xX 6 (qY 39 [iv x] 3 (fun b => .slice (some ⟨b, 0, none⟩) 1 1) ha hS fun b8 w a hb9 hS ha => ?_);refine ⟨.inr (hS.pickN 3 []), ?_⟩;refine xX 7 (o_ap 40 1 0 (encJ ((L.take k) ++ [x])) ha hS rfl rfl (by rw [encJ_length, List.length_take]; simp only [List.length_cons, List.length_nil]; omega) (encJ_snoc _ _) fun s13 w a hS hn14 ha => ?_);refine ⟨.inr (hS.pickN 3 []), ?_⟩;refine xX 11 (o_appT (j := k) (un := sa.n) (c := sa.c) (A := sa.A) (z := iv 0) (sz := 1) (bytes := 8) (xs' := encJ (((L.take k) ++ [x]) ++ L.drop k)) 1 2 ha (by decide) (xV (op := (Op.call { callee := (Callee.builtin Builtin.append), args := #[(Operand.tmp 40), (Operand.tmp 43)], argTypes := #[44, 44] })) (d := some 44) (ty := 44)) rfl rfl (by kernel_rfl) (by kernel_rfl) rfl (by decide) hS rfl rfl (by omega) (encJ_one _) (by rw [encJ_length, encJ_length]; simp only [List.length_append, List.length_take, List.length_cons, List.length_nil]; omega) (by decide) (encJ_tail hk) fun s15 w a hS ha => ?_);refine ⟨.inr (hS.pickN 3 []), ?_⟩;refine qH (k := 0) [(12, 4, .slice s15.A s15.n s15.c)] ha (.inr (hS.pickN 3 [])) fun a ha => ?_;refine yQ ?_;replace ha := ha.as [(4, .slice s15.A s15.n s15.c)] rfl;replace hS : Sat w0 w ((SX.blk b8 [iv x] 3) :: (SX.row (.slice s15.A s15.n s15.c) 3 1 (encJ (((L.take k) ++ [x]) ++ L.drop k))) :: (SX.row (.slice sa.A sa.n sa.c) 3 1 (encJ L)) :: Rs) := hS;exact jJ ⟨s15, b8, ha.keeps [4] _ rfl, hS⟩
    refine id (qY 39 [iv x] 3 (fun b => .slice (some ⟨b, 0, none⟩) 1 1) ha hS fun b16 w a hb17 hS ha => ?_);refine ⟨.inr (hS.pickN 3 []), ?_⟩;refine xX 4 (o_appRow0 (m := k) (z := iv 0) (sz := 1) (bytes := 8) (ys' := encJ (L.take k)) 1 2 ha (by decide) (xV (op := (Op.call { callee := (Callee.builtin Builtin.append), args := #[(Operand.tmp 33), (Operand.tmp 36)], argTypes := #[44, 44] })) (d := some 37) (ty := 44)) rfl rfl (by kernel_rfl) (by kernel_rfl) rfl (by decide) hS rfl rfl (by omega) (encJ_one _) (by rw [encJ_length]; omega) (by decide) (encJ_take _ _) fun s18 w a hS hn19 ha => ?_);refine ⟨.inr (hS.pickN 3 []), ?_⟩;refine xX 7 (o_ap 40 1 0 (encJ ((L.take k) ++ [x])) ha hS rfl rfl (by rw [encJ_length, List.length_take]; simp only [List.length_cons, List.length_nil]; omega) (encJ_snoc _ _) fun s23 w a hS hn24 ha => ?_);refine ⟨.inr (hS.pickN 3 []), ?_⟩;refine xX 11 (o_appT (j := k) (un := sa.n) (c := sa.c) (A := sa.A) (z := iv 0) (sz := 1) (bytes := 8) (xs' := encJ (((L.take k) ++ [x]) ++ L.drop k)) 1 2 ha (by decide) (xV (op := (Op.call { callee := (Callee.builtin Builtin.append), args := #[(Operand.tmp 40), (Operand.tmp 43)], argTypes := #[44, 44] })) (d := some 44) (ty := 44)) rfl rfl (by kernel_rfl) (by kernel_rfl) rfl (by decide) hS rfl rfl (by omega) (encJ_one _) (by rw [encJ_length, encJ_length]; simp only [List.length_append, List.length_take, List.length_cons, List.length_nil]; omega) (by decide) (encJ_tail hk) fun s25 w a hS ha => ?_);refine ⟨.inr (hS.pickN 3 []), ?_⟩;refine qH (k := 0) [(12, 4, .slice s25.A s25.n s25.c)] ha (.inr (hS.pickN 3 [])) fun a ha => ?_;refine yQ ?_;replace ha := ha.as [(4, .slice s25.A s25.n s25.c)] rfl;replace hS : Sat w0 w ((SX.blk b16 [iv x] 3) :: (SX.row (.slice s25.A s25.n s25.c) 3 1 (encJ (((L.take k) ++ [x]) ++ L.drop k))) :: (SX.row (.slice sa.A sa.n sa.c) 3 1 (encJ L)) :: Rs) := hS;exact jJ ⟨s25, b16, ha.keeps [4] _ rfl, hS⟩
   refine id (qY 39 [iv x] 3 (fun b => .slice (some ⟨b, 0, none⟩) 1 1) ha hS fun b26 w a hb27 hS ha => ?_);refine ⟨.inr (hS.pickN 2 []), ?_⟩;refine xX 0 (qY 33 [] 3 (fun b => .slice (some ⟨b, 0, none⟩) 0 0) ha hS fun b28 w a hb29 hS ha => ?_);refine ⟨.inr (hS.pickN 3 []), ?_⟩;refine xX 4 (o_appRow0 (m := k) (z := iv 0) (sz := 1) (bytes := 8) (ys' := encJ (L.take k)) 0 2 ha (by decide) (xV (op := (Op.call { callee := (Callee.builtin Builtin.append), args := #[(Operand.tmp 33), (Operand.tmp 36)], argTypes := #[44, 44] })) (d := some 37) (ty := 44)) rfl rfl (by kernel_rfl) (by kernel_rfl) rfl (by decide) hS rfl rfl (by omega) (encJ_one _) (by rw [encJ_length]; omega) (by decide) (encJ_take _ _) fun s30 w a hS hn31 ha => ?_);refine ⟨.inr (hS.pickN 3 []), ?_⟩;refine xX 7 (o_ap 40 0 1 (encJ ((L.take k) ++ [x])) ha hS rfl rfl (by rw [encJ_length, List.length_take]; simp only [List.length_cons, List.length_nil]; omega) (encJ_snoc _ _) fun s35 w a hS hn36 ha => ?_);refine ⟨.inr (hS.pickN 3 []), ?_⟩;refine xX 11 (o_appT (j := k) (un := sa.n) (c := sa.c) (A := sa.A) (z := iv 0) (sz := 1) (bytes := 8) (xs' := encJ (((L.take k) ++ [x]) ++ L.drop k)) 0 2 ha (by decide) (xV (op := (Op.call { callee := (Callee.builtin Builtin.append), args := #[(Operand.tmp 40), (Operand.tmp 43)], argTypes := #[44, 44] })) (d := some 44) (ty := 44)) rfl rfl (by kernel_rfl) (by kernel_rfl) rfl (by decide) hS rfl rfl (by omega) (encJ_one _) (by rw [encJ_length, encJ_length]; simp only [List.length_append, List.length_take, List.length_cons, List.length_nil]; omega) (by decide) (encJ_tail hk) fun s37 w a hS ha => ?_);refine ⟨.inr (hS.pickN 3 []), ?_⟩;refine qH (k := 0) [(12, 4, .slice s37.A s37.n s37.c)] ha (.inr (hS.pickN 3 [])) fun a ha => ?_;refine yQ ?_;replace ha := ha.as [(4, .slice s37.A s37.n s37.c)] rfl;replace hS := hS.pickN 3 [1, 0, 2];exact jJ ⟨s37, b26, ha.keeps [4] _ rfl, hS⟩
  rintro a w ⟨g1_0, g1_1, ha, hS⟩
  refine wp_ret (jG ha (by kernel_rfl) (qK (t := 4) ha rfl) ?_)
  have hE : put1 L x = L.take k ++ [x] ++ L.drop k := put1_new hk hless (fun y9 hy9 => by obtain rfl := Option.some.inj (hy9.symm.trans hy); exact ⟨by omega, by omega⟩)
  rw [hE]
  have hn9 := hS.rowL (s := g1_0) (enc := cellsJ) 1 cellsJ_len (by decide) rfl
  exact ⟨g1_0, rfl, hn9, hS.pickN 3 [1], hS.pickN 3 [2]⟩
 replace ha := ha.turn 9 (.bool false) rfl (congrArg Value.bool (decide_eq_false c1))
 replace ha := ha.turn 10 (.bool false) rfl (congrArg Value.bool (decide_eq_false c1))
 refine jQ [(5, 11, undef), (6, 12, undef), (7, 13, undef), (8, 14, undef), (9, 15, undef), (10, 16, undef), (11, 17, .bool false)] ha fun a ha => ?_
 refine jY (jJ ?_)
 refine jK ha rfl rfl ?_
 refine wp_exit (qJ (qJ (in_x (jJ (wp_seq (wp_seq (jX [0, 1, 2, 3, 4, 5, 6, 7, 8, 9, 10, 11] (jQ [(0, 20, iv (k : Int)), (1, 21, .slice sa.A sa.n sa.c), (2, 22, iv (sa.n : Int)), (3, 23, .bool (decide ((k : Int) < (sa.n : Int)))), (4, 24, .bool (decide ((k : Int) < (sa.n : Int))))] ha fun a ha => ?_))))))))
 replace ha := ha.turn 23 (.bool false) rfl (congrArg Value.bool (decide_eq_false c1))
 replace ha := ha.turn 24 (.bool false) rfl (congrArg Value.bool (decide_eq_false c1))
 refine jQ [(5, 25, undef), (6, 26, undef), (7, 27, undef), (8, 28, undef), (9, 29, undef), (10, 30, undef), (11, 31, .bool false)] ha fun a ha => ?_
 refine jY ?_
 replace ha := ha.as [(0, .slice sa.A sa.n sa.c), (1, iv x), (4, .slice none 0 0), (5, iv (k : Int)), (31, .bool false)] rfl
 refine jJ ?_
 refine jK ha rfl rfl ?_
 refine wp_skip (jJ (zZ (J := fun a_ w_ => ∃ (g2_0 : Sl) (g2_1 : Nat), Has 45 [(4, .slice g2_0.A g2_0.n g2_0.c)] a_ ∧ Sat w0 w_ ((SX.blk g2_1 [iv x] 3) :: (SX.row (.slice g2_0.A g2_0.n g2_0.c) 3 1 (encJ (((L.take k) ++ [x]) ++ L.drop k))) :: (SX.row (.slice sa.A sa.n sa.c) 3 1 (encJ L)) :: Rs)) ?_ ?_))
 ·
  refine yX 13 13 (hS.pickN 1 []) hS fun w hS => ?_
  refine qH (k := 11) [(1, 34, .slice sa.A sa.n sa.c), (2, 35, iv (k : Int))] ha (.inr (hS.pickN 1 [])) fun a ha => ?_
  refine yY 3 (.slice sa.A k sa.c) ha (v_takeZ (el := 3) (j := k) ha (xV (op := (Op.slice 44 (Operand.tmp 34) none (some (Operand.tmp 35)) none)) (d := some 36) (ty := 44)) rfl rfl (by kernel_rfl) (by kernel_rfl) rfl (by omega) hac) (.inr (hS.pickN 1 [])) fun a ha => ?_
  refine qH (k := 7) [(5, 38, iv x), (8, 41, .slice sa.A sa.n sa.c), (9, 42, iv (k : Int))] ha (.inr (hS.pickN 1 [])) fun a ha => ?_
  refine yY 10 (.slice (tailA sa.A k 1 sa.c) (sa.n - k) (sa.c - k)) ha (v_dropZ (el := 3) (sz := 1) (j := k) ha (xV (op := (Op.slice 44 (Operand.tmp 41) (some (Operand.tmp 42)) none none)) (d := some 43) (ty := 44)) rfl rfl (by kernel_rfl) (by kernel_rfl) rfl (by omega) hac) (.inr (hS.pickN 1 [])) fun a ha => ?_
  refine d_all (rs := [0, 6]) (by kernel_rfl) (by simp) (forall_mem_2 ?_ ?_)
  ·
   refine id (qY 33 [] 3 (fun b => .slice (some ⟨b, 0, none⟩) 0 0) ha hS fun b38 w a hb39 hS ha => ?_);refine ⟨.inr (hS.pickN 2 []), ?_⟩;refine d_all (rs := [4, 6]) (by kernel_rfl) (by simp) (forall_mem_2 ?_ ?_)
   ·
    refine id (o_appRow0 (m := k) (z := iv 0) (sz := 1) (bytes := 8) (ys' := encJ (L.take k)) 0 1 ha (by decide) (xV (op := (Op.call { callee := (Callee.builtin Builtin.append), args := #[(Operand.tmp 33), (Operand.tmp 36)], argTypes := #[44, 44] })) (d := some 37) (ty := 44)) rfl rfl (by kernel_rfl) (by kernel_rfl) rfl (by decide) hS rfl rfl (by omega) (encJ_one _) (by rw [encJ_length]; omega) (by decide) (encJ_take _ _) fun s40 w a hS hn41 ha => ?_);refine ⟨.inr (hS.pickN 2 []), ?_⟩;refine xX 6 (qY 39 [iv x] 3 (fun b => .slice (some ⟨b, 0, none⟩) 1 1) ha hS fun b42 w a hb43 hS ha => ?_);refine ⟨.inr (hS.pickN 3 []), ?_⟩;refine xX 7 (o_ap 40 1 0 (encJ ((L.take k) ++ [x])) ha hS rfl rfl (by rw [encJ_length, List.length_take]; simp only [List.length_cons, List.length_nil]; omega) (encJ_snoc _ _) fun s47 w a hS hn48 ha => ?_);refine ⟨.inr (hS.pickN 3 []), ?_⟩;refine xX 11 (o_appT (j := k) (un := sa.n) (c := sa.c) (A := sa.A) (z := iv 0) (sz := 1) (bytes := 8) (xs' := encJ (((L.take k) ++ [x]) ++ L.drop k)) 1 2 ha (by decide) (xV (op := (Op.call { callee := (Callee.builtin Builtin.append), args := #[(Operand.tmp 40), (Operand.tmp 43)], argTypes := #[44, 44] })) (d := some 44) (ty := 44)) rfl rfl (by kernel_rfl) (by kernel_rfl) rfl (by decide) hS rfl rfl (by omega) (encJ_one _) (by rw [encJ_length, encJ_length]; simp only [List.length_append, List.length_take, List.length_cons, List.length_nil]; omega) (by decide) (encJ_tail hk) fun s49 w a hS ha => ?_);refine ⟨.inr (hS.pickN 3 []), ?_⟩;refine qH (k := 0) [(12, 4, .slice s49.A s49.n s49.c)] ha (.inr (hS.pickN 3 [])) fun a ha => ?_;refine yQ ?_;replace ha := ha.as [(4, .slice s49.A s49.n s49.c)] rfl;replace hS : Sat w0 w ((SX.blk b42 [iv x] 3) :: (SX.row (.slice s49.A s49.n s49.c) 3 1 (encJ (((L.take k) ++ [x]) ++ L.drop k))) :: (SX.row (.slice sa.A sa.n sa.c) 3 1 (encJ L)) :: Rs) := hS;exact jJ ⟨s49, b42, ha.keeps [4] _ rfl, hS⟩
   refine id (qY 39 [iv x] 3 (fun b => .slice (some ⟨b, 0, none⟩) 1 1) ha hS fun b50 w a hb51 hS ha => ?_);refine ⟨.inr (hS.pickN 3 []), ?_⟩;refine xX 4 (o_appRow0 (m := k) (z := iv 0) (sz := 1) (bytes := 8) (ys' := encJ (L.take k)) 1 2 ha (by decide) (xV (op := (Op.call { callee := (Callee.builtin Builtin.append), args := #[(Operand.tmp 33), (Operand.tmp 36)], argTypes := #[44, 44] })) (d := some 37) (ty := 44)) rfl rfl (by kernel_rfl) (by kernel_rfl) rfl (by decide) hS rfl rfl (by omega) (encJ_one _) (by rw [encJ_length]; omega) (by decide) (encJ_take _ _) fun s52 w a hS hn53 ha => ?_);refine ⟨.inr (hS.pickN 3 []), ?_⟩;refine xX 7 (o_ap 40 1 0 (encJ ((L.take k) ++ [x])) ha hS rfl rfl (by rw [encJ_length, List.length_take]; simp only [List.length_cons, List.length_nil]; omega) (encJ_snoc _ _) fun s57 w a hS hn58 ha => ?_);refine ⟨.inr (hS.pickN 3 []), ?_⟩;refine xX 11 (o_appT (j := k) (un := sa.n) (c := sa.c) (A := sa.A) (z := iv 0) (sz := 1) (bytes := 8) (xs' := encJ (((L.take k) ++ [x]) ++ L.drop k)) 1 2 ha (by decide) (xV (op := (Op.call { callee := (Callee.builtin Builtin.append), args := #[(Operand.tmp 40), (Operand.tmp 43)], argTypes := #[44, 44] })) (d := some 44) (ty := 44)) rfl rfl (by kernel_rfl) (by kernel_rfl) rfl (by decide) hS rfl rfl (by omega) (encJ_one _) (by rw [encJ_length, encJ_length]; simp only [List.length_append, List.length_take, List.length_cons, List.length_nil]; omega) (by decide) (encJ_tail hk) fun s59 w a hS ha => ?_);refine ⟨.inr (hS.pickN 3 []), ?_⟩;refine qH (k := 0) [(12, 4, .slice s59.A s59.n s59.c)] ha (.inr (hS.pickN 3 [])) fun a ha => ?_;refine yQ ?_;replace ha := ha.as [(4, .slice s59.A s59.n s59.c)] rfl;replace hS : Sat w0 w ((SX.blk b50 [iv x] 3) :: (SX.row (.slice s59.A s59.n s59.c) 3 1 (encJ (((L.take k) ++ [x]) ++ L.drop k))) :: (SX.row (.slice sa.A sa.n sa.c) 3 1 (encJ L)) :: Rs) := hS;exact jJ ⟨s59, b50, ha.keeps [4] _ rfl, hS⟩
  refine id (qY 39 [iv x] 3 (fun b => .slice (some ⟨b, 0, none⟩) 1 1) ha hS fun b60 w a hb61 hS ha => ?_)
  refine ⟨.inr (hS.pickN 2 []), ?_⟩
  refine xX 0 (qY 33 [] 3 (fun b => .slice (some ⟨b, 0, none⟩) 0 0) ha hS fun b62 w a hb63 hS ha => ?_)
  refine ⟨.inr (hS.pickN 3 []), ?_⟩
  refine xX 4 (o_appRow0 (m := k) (z := iv 0) (sz := 1) (bytes := 8) (ys' := encJ (L.take k)) 0 2 ha (by decide) (xV (op := (Op.call { callee := (Callee.builtin Builtin.append), args := #[(Operand.tmp 33), (Operand.tmp 36)], argTypes := #[44, 44] })) (d := some 37) (ty := 44)) rfl rfl (by kernel_rfl) (by kernel_rfl) rfl (by decide) hS rfl rfl (by omega) (encJ_one _) (by rw [encJ_length]; omega) (by decide) (encJ_take _ _) fun s64 w a hS hn65 ha => ?_)
  refine ⟨.inr (hS.pickN 3 []), ?_⟩
  refine xX 7 (o_ap 40 0 1 (encJ ((L.take k) ++ [x])) ha hS rfl rfl (by rw [encJ_length, List.length_take]; simp only [List.length_cons, List.length_nil]; omega) (encJ_snoc _ _) fun s69 w a hS hn70 ha => ?_)
  refine ⟨.inr (hS.pickN 3 []), ?_⟩
  refine xX 11 (o_appT (j := k) (un := sa.n) (c := sa.c) (A := sa.A) (z := iv 0) (sz := 1) (bytes := 8) (xs' := encJ (((L.take k) ++ [x]) ++ L.drop k)) 0 2 ha (by decide) (xV (op := (Op.call { callee := (Callee.builtin Builtin.append), args := #[(Operand.tmp 40), (Operand.tmp 43)], argTypes := #[44, 44] })) (d := some 44) (ty := 44)) rfl rfl (by kernel_rfl) (by kernel_rfl) rfl (by decide) hS rfl rfl (by omega) (encJ_one _) (by rw [encJ_length, encJ_length]; simp only [List.length_append, List.length_take, List.length_cons, List.length_nil]; omega) (by decide) (encJ_tail hk) fun s71 w a hS ha => ?_)
  refine ⟨.inr (hS.pickN 3 []), ?_⟩
  refine qH (k := 0) [(12, 4, .slice s71.A s71.n s71.c)] ha (.inr (hS.pickN 3 [])) fun a ha => ?_
  refine yQ ?_
  replace ha := ha.as [(4, .slice s71.A s71.n s71.c)] rfl
  replace hS := hS.pickN 3 [1, 0, 2]
  exact jJ ⟨s71, b60, ha.keeps [4] _ rfl, hS⟩
 rintro a w ⟨g2_0, g2_1, ha, hS⟩
 refine wp_ret (jG ha (by kernel_rfl) (qK (t := 4) ha rfl) ?_)
 have hE : put1 L x = L.take k ++ [x] ++ L.drop k := put1_new hk hless (fun y9 hy9 => by rw [List.getElem?_eq_none (by omega)] at hy9; cases hy9)
 rw [hE]
 have hn9 := hS.rowL (s := g2_0) (enc := cellsJ) 1 cellsJ_len (by decide) rfl
 exact ⟨g2_0, rfl, hn9, hS.pickN 3 [1], hS.pickN 3 [2]⟩
theorem put1_sat {w0 w : World} {Rs : List Asn} {sa : Sl} {L : List Int} {x : Int} (hS : Sat w0 w (SX.row (.slice sa.A sa.n sa.c) 3 1 (SX.encI L) :: Rs)) (hL : L.length ≤ 1000000) :
  Calls Try.prog 128 #[.slice sa.A sa.n sa.c, .int .i64 x] w (Ret fun r w' => ∃ o : Sl, r = .slice o.A o.n o.c ∧ Sat w0 w' (SX.row (.slice o.A o.n o.c) 3 1 (SX.encI (put1 L x)) :: Rs)) :=
 (put1_satB hS hL).mono fun e w' h => by
  cases e with
  | returned r => obtain ⟨o, h1, _, h2, _⟩ := h; exact ⟨o, h1, h2⟩
  | _ => exact h.elim
theorem code130 : Try.f130.body = some (Code.seq (cr Try.f130 0 false) (Code.seq (cr Try.f130 1 false) (Code.seq (cr Try.f130 2 false) Code.ret))) := by kernel_rfl
theorem asc_sat {w0 w : World} {Rs : List Asn} {sa : Sl} {L : List Int} (hS : Sat w0 w (SX.row (.slice sa.A sa.n sa.c) 3 1 (SX.encI L) :: Rs)) (hL : L.length ≤ 1000000) :
  Calls Try.prog 130 #[.slice sa.A sa.n sa.c] w (Ret fun r w' => ∃ o : Sl, r = .slice o.A o.n o.c ∧ Sat w0 w' (SX.row (.slice o.A o.n o.c) 3 1 (SX.encI (asc L)) :: Rs)) := by
 refine enter (n := 7) Try.func130 code130 (by kernel_rfl) (Nat.le_of_ble_eq_true rfl) (fun a ha => ?_)
 replace ha : Has 7 [(0, .slice sa.A sa.n sa.c)] a := ha
 refine wp_seq (jX [0] (jQ [(0, 2, .slice none 0 0)] ha fun a ha => ?_))
 refine jY (jJ (wp_seq (jX [0, 1] (jQ [(0, 3, .slice sa.A sa.n sa.c)] ha fun a ha => ?_))))
 refine jW (qQ 4 (vs := [.slice sa.A sa.n sa.c]) ha (sort_sat hS hL) fun v1 w a hp2 ha => ?_)
 obtain ⟨rfl, hS⟩ := hp2
 refine jY (jJ (wp_seq (jX [0, 1, 2] (jQ [(0, 5, .slice sa.A sa.n sa.c)] ha fun a ha => ?_))))
 refine jW (qQ 6 (vs := [.slice sa.A sa.n sa.c]) ha (compact_sat hS (by rw [List.length_mergeSort]; exact hL)) fun v3 w a hp4 ha => ?_)
 obtain ⟨o, rfl, hS⟩ := hp4
 refine jQ [(2, 2, .slice o.A o.n o.c)] ha fun a ha => ?_
 refine jY (jJ (wp_ret (jG ha (by kernel_rfl) (qK (t := 2) ha rfl) ?_)))
 exact ⟨o, rfl, hS⟩
def leadsP (n : Nat) (x : ST) (at_ : Int) : List Int := if x.f0 = 6 ∨ x.f0 = 8 ∨ x.f0 = 10 then [] else if x.f0 = 11 then asc [at_ + 1, min x.f1 (n : Int)] else [at_ + 1]
theorem asc_two (x y : Int) : put1 [x] y = asc [x, y] := by rw [← putL_asc]; rfl
theorem asc_len2 (x y : Int) : (asc [x, y]).length ≤ 2 := asc_le _
theorem leadsP_len (n : Nat) (x : ST) (at_ : Int) : (leadsP n x at_).length ≤ 2 := by
  unfold leadsP
  split
  · simp
  · split
    · exact asc_len2 _ _
    · simp
theorem least_sat {w0 w : World} {Rs : List Asn} {x y : Int} (hS : Sat w0 w Rs) :
  Calls Try.prog 156 #[.int .i64 x, .int .i64 y] w (Ret fun r w' => r = .int .i64 (min x y) ∧ Sat w0 w' Rs) := by
 have := spec_l1Least.calls x y (min x y) w (by unfold spec_l1Least.f; split <;> (congr 1; omega))
 refine this.mono ?_
 rintro e w' ⟨rfl, h⟩
 exact ⟨rfl, drawn_sat hS h⟩
theorem code113 : Try.f113.body = some (Code.seq (cr Try.f113 0 false) (Code.seq (Code.seq (cr Try.f113 1 false) (Code.seq (cr Try.f113 2 false) (Code.block 0 (Code.seq (Code.seq (cr Try.f113 3 false) (Code.cond (Operand.tmp 12) Code.skip (Code.seq (cr Try.f113 4 false) (Code.cond (Operand.tmp 12) Code.skip (cr Try.f113 5 false))))) (Code.cond (Operand.tmp 12) (Code.seq (cr Try.f113 6 false) Code.ret) (Code.seq (cr Try.f113 7 false) (Code.cond (Operand.tmp 17) (Code.seq (cr Try.f113 8 false) Code.ret) Code.skip))))))) (Code.seq (cr Try.f113 9 false) Code.ret))) := by kernel_rfl
theorem leadsI_sat {w0 w : World} {Rs : List Asn} {x : ST} {sb : Sl} {b : List ST} {x2 : Int} (hS : Sat w0 w Rs) (hrb : RdE cT 3 w0 sb b) (h2 : 0 ≤ x2 ∧ x2 < (b.length : Int)) (h3 : b.length ≤ 1048576) (hx : b[x2.toNat]? = some x) :
  Calls Try.prog 113 #[.slice sb.A sb.n sb.c, .int .i64 x2] w (Ret fun r w' => ∃ o : Sl, r = .slice o.A o.n o.c ∧ Sat w0 w' (SX.row (.slice o.A o.n o.c) 3 1 (SX.encI (leadsP b.length x x2)) :: Rs)) := by
 have hsb := hrb.len
 refine enter (n := 31) Try.func113 code113 (by kernel_rfl) (Nat.le_of_ble_eq_true rfl) (fun a ha => ?_)
 replace ha : Has 31 [(0, .slice sb.A sb.n sb.c), (1, iv x2)] a := ha
 refine wp_seq (jX [0] (jQ [(0, 4, .slice none 0 0)] ha fun a ha => ?_))
 refine jY (jJ (wp_seq (wp_seq (jX [0, 1, 2, 3, 4, 5] (jQ [(0, 6, .slice sb.A sb.n sb.c), (1, 7, iv x2)] ha fun a ha => ?_)))))
 refine qX (.pointer (some ⟨bk sb, of_ sb + x2.toNat * 3, none⟩)) ha (xZ (el := 72) (sz := 3) (j := x2.toNat) ha (xY (t := 70) (x := 6) (y := 7) (d := 8)) rfl rfl (by kernel_rfl) (by kernel_rfl) (RdE.at_ (hrb.sat hS) _ _ hx).1 ((Int.toNat_of_nonneg h2.1).symm) (by rw [((hrb.sat hS)).len]; exact (List.getElem?_eq_some_iff.1 hx).1)) fun a ha => ?_
 refine qX (.agg #[iv x.f0, iv x.f1, iv x.f2]) ha (v_loadE (b := bk sb) (f := of_ sb + x2.toNat * 3) (vs := [iv x.f0, iv x.f1, iv x.f2]) ha (xK (t := 72) (x := 8) (d := 9) (ty := 72)) rfl (by kernel_rfl) (fun w' hw o u hu => by rw [hw]; exact (RdE.at_ (hrb.sat hS) _ _ hx).2 o u hu)) fun a ha => ?_
 refine jW (qY 5 [iv 0, iv 0, iv 0] 72 (ptr · 0) ha hS fun b1 w a hb2 hS ha => ?_)
 refine jW (o_sa 0 ha (zJ (t := 72) (x := 5) (y := 9)) hS fun w a hS ha => ?_)
 refine jY (jJ (wp_seq (jX [0, 1] (jQ [(0, 10, ptr b1 0)] ha fun a ha => ?_))))
 refine qZ (d := 11) (b := b1) (j := 0) ha (hS.blk 0 rfl) rfl fun a ha => ?_
 refine jY (jJ (wp_block (wp_seq (wp_seq (jX [0, 1] (jQ [(0, 13, .bool (decide (x.f0 = 6))), (1, 12, .bool (decide (x.f0 = 6)))] ha fun a ha => ?_))))))
 refine jY (jJ ?_)
 by_cases c3 : x.f0 = 6
 ·
  refine jU ha rfl (decide_eq_true c3) ?_
  refine wp_skip (jJ ?_)
  refine jU ha rfl (decide_eq_true c3) ?_
  refine wp_seq (jX [0, 1] (jW (qY 16 [] 3 (fun b => .slice (some ⟨b, 0, none⟩) 0 0) ha hS fun b4 w a hb5 hS ha => ?_)))
  refine jQ [(1, 4, .slice (some ⟨b4, 0, none⟩) 0 0)] ha fun a ha => ?_
  refine jY (jJ (wp_ret (in_r (qG (jG ha (by kernel_rfl) (qK (t := 4) ha rfl) ?_)))))
  replace hS := hS.blk0 1 0 rfl
  have hE : leadsP b.length x x2 = [] := by unfold leadsP; simp [c3]
  rw [hE]
  exact ⟨(⟨some ⟨b4, 0, none⟩, 0, 0⟩ : Sl), rfl, hS.pickN 2 [0]⟩
 refine jK ha rfl (decide_eq_false c3) ?_
 refine wp_seq (jX [0, 1] (jQ [(0, 14, .bool (decide (x.f0 = 8))), (1, 12, .bool (decide (x.f0 = 8)))] ha fun a ha => ?_))
 refine jY (jJ ?_)
 by_cases c6 : x.f0 = 8
 ·
  refine jU ha rfl (decide_eq_true c6) ?_
  refine wp_skip (jJ ?_)
  refine jU ha rfl (decide_eq_true c6) ?_
  refine wp_seq (jX [0, 1] (jW (qY 16 [] 3 (fun b => .slice (some ⟨b, 0, none⟩) 0 0) ha hS fun b7 w a hb8 hS ha => ?_)))
  refine jQ [(1, 4, .slice (some ⟨b7, 0, none⟩) 0 0)] ha fun a ha => ?_
  refine jY (jJ (wp_ret (in_r (qG (jG ha (by kernel_rfl) (qK (t := 4) ha rfl) ?_)))))
  replace hS := hS.blk0 1 0 rfl
  have hE : leadsP b.length x x2 = [] := by unfold leadsP; simp [c3, c6]
  rw [hE]
  exact ⟨(⟨some ⟨b7, 0, none⟩, 0, 0⟩ : Sl), rfl, hS.pickN 2 [0]⟩
 refine jK ha rfl (decide_eq_false c6) ?_
 refine jX [0, 1] (jQ [(0, 15, .bool (decide (x.f0 = 10))), (1, 12, .bool (decide (x.f0 = 10)))] ha fun a ha => ?_)
 refine jY (jJ ?_)
 by_cases c9 : x.f0 = 10
 ·
  refine jU ha rfl (decide_eq_true c9) ?_
  refine wp_seq (jX [0, 1] (jW (qY 16 [] 3 (fun b => .slice (some ⟨b, 0, none⟩) 0 0) ha hS fun b10 w a hb11 hS ha => ?_)))
  refine jQ [(1, 4, .slice (some ⟨b10, 0, none⟩) 0 0)] ha fun a ha => ?_
  refine jY (jJ (wp_ret (in_r (qG (jG ha (by kernel_rfl) (qK (t := 4) ha rfl) ?_)))))
  replace hS := hS.blk0 1 0 rfl
  have hE : leadsP b.length x x2 = [] := by unfold leadsP; simp [c3, c6, c9]
  rw [hE]
  exact ⟨(⟨some ⟨b10, 0, none⟩, 0, 0⟩ : Sl), rfl, hS.pickN 2 [0]⟩
 refine jK ha rfl (decide_eq_false c9) ?_
 refine wp_seq (jX [0, 1] (jQ [(0, 18, .bool (decide (x.f0 = 11))), (1, 17, .bool (decide (x.f0 = 11)))] ha fun a ha => ?_))
 refine jY (jJ ?_)
 by_cases c12 : x.f0 = 11
 ·
  refine jU ha rfl (decide_eq_true c12) ?_
  refine wp_seq (jX [0, 1, 2, 3, 4, 5, 6, 7, 8, 9] (jQ [(0, 19, iv x2)] ha fun a ha => ?_))
  refine xJ 20 (x2 + 1) ha fun a ha => ?_
  refine jQ [(2, 21, ptr b1 1)] ha fun a ha => ?_
  refine qZ (d := 22) (b := b1) (j := 1) ha (hS.blk 0 rfl) rfl fun a ha => ?_
  refine jQ [(4, 23, .slice sb.A sb.n sb.c), (5, 24, iv (sb.n : Int))] ha fun a ha => ?_
  refine qX (iv (min x.f1 (sb.n : Int))) ha ((jH (v := .int .i64 (if (sb.n : Int) < x.f1 then (sb.n : Int) else x.f1)) ha (xV (op := (Op.call { callee := (Callee.builtin Builtin.min), args := #[(Operand.tmp 22), (Operand.tmp 24)], argTypes := #[3, 3] })) (d := some 25) (ty := 3)) (by kernel_rfl) (fun _ => by kernel_rfl)).as (by congr 1; omega)) fun a ha => ?_
  refine jW (qY 26 [iv (x2 + 1), iv (min x.f1 (sb.n : Int))] 3 (fun b => .slice (some ⟨b, 0, none⟩) 2 2) ha hS fun b13 w a hb14 hS ha => ?_)
  replace hS := blkRow hS 1 2 0 rfl rfl (by decide)
  replace hS : Sat w0 w ((rI (⟨some ⟨b13, 0, none⟩, 2, 2⟩ : Sl) [x2 + 1, min x.f1 (sb.n : Int)]) :: (SX.blk b1 [iv x.f0, iv x.f1, iv x.f2] 72) :: Rs) := hS
  refine jW (qQ 27 (vs := [.slice (some ⟨b13, 0, none⟩) 2 2]) ha (asc_sat (sa := (⟨some ⟨b13, 0, none⟩, 2, 2⟩ : Sl)) (L := [x2 + 1, min x.f1 (sb.n : Int)]) hS (by simp)) fun v15 w a hp16 ha => ?_)
  obtain ⟨ao1, rfl, hS⟩ := hp16
  refine jQ [(9, 4, .slice ao1.A ao1.n ao1.c)] ha fun a ha => ?_
  refine jY ?_
  replace ha := ha.as [(1, iv x2), (4, .slice ao1.A ao1.n ao1.c)] rfl
  refine jJ (wp_ret (in_r (qG (jG ha (by kernel_rfl) (qK (t := 4) ha rfl) ?_))))
  have hE : leadsP b.length x x2 = (asc [x2 + 1, min x.f1 (sb.n : Int)]) := by unfold leadsP; simp [c3, c6, c9, c12, hsb]
  rw [hE]
  exact ⟨ao1, rfl, hS.pickN 2 [0]⟩
 refine jK ha rfl (decide_eq_false c12) ?_
 refine wp_skip (in_n (jJ (wp_seq (jX [0, 1, 2, 3] (jQ [(0, 28, iv x2)] ha fun a ha => ?_)))))
 refine xJ 29 (x2 + 1) ha fun a ha => ?_
 refine jW (qY 30 [iv (x2 + 1)] 3 (fun b => .slice (some ⟨b, 0, none⟩) 1 1) ha hS fun b17 w a hb18 hS ha => ?_)
 refine jQ [(3, 4, .slice (some ⟨b17, 0, none⟩) 1 1)] ha fun a ha => ?_
 refine jY ?_
 replace ha := ha.as [(4, .slice (some ⟨b17, 0, none⟩) 1 1)] rfl
 refine jJ (wp_ret (jG ha (by kernel_rfl) (qK (t := 4) ha rfl) ?_))
 replace hS := blkRow hS 1 1 0 rfl rfl (by decide)
 have hE : leadsP b.length x x2 = [x2 + 1] := by unfold leadsP; simp [c3, c6, c9, c12]
 rw [hE]
 exact ⟨(⟨some ⟨b17, 0, none⟩, 1, 1⟩ : Sl), rfl, hS.pickN 2 [0]⟩
theorem code112 : Try.f112.body = some (Code.seq (cr Try.f112 0 false) (Code.seq (cr Try.f112 1 true) (Code.seq (Code.seq (cr Try.f112 2 false) (Code.block 0 (Code.seq (Code.seq (cr Try.f112 3 false) (Code.cond (Operand.tmp 15) Code.skip (Code.seq (cr Try.f112 4 false) (Code.cond (Operand.tmp 15) Code.skip (cr Try.f112 5 false))))) (Code.cond (Operand.tmp 15) (Code.seq (cr Try.f112 6 false) Code.ret) (Code.seq (cr Try.f112 7 false) (Code.cond (Operand.tmp 20) (Code.seq (cr Try.f112 8 false) Code.ret) Code.skip)))))) (Code.seq (cr Try.f112 9 false) Code.ret)))) := by kernel_rfl
theorem leadsQ_sat {w0 w : World} {Rs : List Asn} {x : ST} {sb : Sl} {b : List ST} {x2 : Int} (hS : Sat w0 w Rs) (hrb : RdE cT 3 w0 sb b) (h2 : 0 ≤ x2 ∧ x2 < (b.length : Int)) (h3 : b.length ≤ 1048576) (hx : b[x2.toNat]? = some x) :
  Calls Try.prog 112 #[.slice sb.A sb.n sb.c, .int .i64 x2] w (Ret fun r w' => ∃ o : Sl, r = .slice o.A o.n o.c ∧ Sat w0 w' (SX.row (.slice o.A o.n o.c) 3 1 (SX.encI (leadsP b.length x x2)) :: Rs)) := by
 have hsb := hrb.len
 refine enter (n := 33) Try.func112 code112 (by kernel_rfl) (Nat.le_of_ble_eq_true rfl) (fun a ha => ?_)
 replace ha : Has 33 [(0, .slice sb.A sb.n sb.c), (1, iv x2)] a := ha
 refine wp_seq (jX [0] (jQ [(0, 4, .slice none 0 0)] ha fun a ha => ?_))
 refine jY (jJ (wp_seq (yV 8 9 hS fun w hS => ?_)))
 refine qH (k := 5) [(0, 7, .slice sb.A sb.n sb.c), (1, 8, iv (sb.n : Int)), (2, 9, .slice sb.A sb.n sb.c), (3, 10, iv x2)] ha (.inr hS) fun a ha => ?_
 refine yY 4 (.pointer (some ⟨bk sb, of_ sb + x2.toNat * 3, none⟩)) ha (xZ (el := 72) (sz := 3) (j := x2.toNat) ha (xY (t := 70) (x := 9) (y := 10) (d := 11)) rfl rfl (by kernel_rfl) (by kernel_rfl) (RdE.at_ (hrb.sat hS) _ _ hx).1 ((Int.toNat_of_nonneg h2.1).symm) (by rw [((hrb.sat hS)).len]; exact (List.getElem?_eq_some_iff.1 hx).1)) (.inr hS) fun a ha => ?_
 refine yU 5 (.agg #[iv x.f0, iv x.f1, iv x.f2]) ha (v_loadE (b := bk sb) (f := of_ sb + x2.toNat * 3) (vs := [iv x.f0, iv x.f1, iv x.f2]) ha (xK (t := 72) (x := 11) (d := 12) (ty := 72)) rfl (by kernel_rfl) (fun w' hw o u hu => by exact (RdE.at_ (hrb.sat hw) _ _ hx).2 o u hu)) hS fun a ha => ?_
 refine xX 6 (qY 6 [iv 0, iv 0, iv 0] 72 (ptr · 0) ha hS fun b1 w a hb2 hS ha => ?_)
 refine ⟨.inr (Sat.rest [_] hS), ?_⟩
 refine qH (k := 1) [(7, 5, iv (sb.n : Int))] ha (.inr (Sat.rest [_] hS)) fun a ha => ?_
 refine xX 8 (o_sa 0 ha (zJ (t := 72) (x := 6) (y := 12)) hS fun w a hS ha => ?_)
 refine zY (yQ (jJ (wp_seq (wp_seq (jX [0, 1] (jQ [(0, 13, ptr b1 0)] ha fun a ha => ?_))))))
 refine qZ (d := 14) (b := b1) (j := 0) ha (hS.blk 0 rfl) rfl fun a ha => ?_
 refine jY (jJ (wp_block (wp_seq (wp_seq (jX [0, 1] (jQ [(0, 16, .bool (decide (x.f0 = 6))), (1, 15, .bool (decide (x.f0 = 6)))] ha fun a ha => ?_))))))
 refine jY (jJ ?_)
 by_cases c3 : x.f0 = 6
 ·
  refine jU ha rfl (decide_eq_true c3) ?_
  refine wp_skip (jJ ?_)
  refine jU ha rfl (decide_eq_true c3) ?_
  refine wp_seq (jX [0, 1] (jW (qY 19 [] 3 (fun b => .slice (some ⟨b, 0, none⟩) 0 0) ha hS fun b4 w a hb5 hS ha => ?_)))
  refine jQ [(1, 4, .slice (some ⟨b4, 0, none⟩) 0 0)] ha fun a ha => ?_
  refine jY (jJ (wp_ret (in_r (qG (jG ha (by kernel_rfl) (qK (t := 4) ha rfl) ?_)))))
  replace hS := hS.blk0 1 0 rfl
  have hE : leadsP b.length x x2 = [] := by unfold leadsP; simp [c3]
  rw [hE]
  exact ⟨(⟨some ⟨b4, 0, none⟩, 0, 0⟩ : Sl), rfl, hS.pickN 2 [0]⟩
 refine jK ha rfl (decide_eq_false c3) ?_
 refine wp_seq (jX [0, 1] (jQ [(0, 17, .bool (decide (x.f0 = 8))), (1, 15, .bool (decide (x.f0 = 8)))] ha fun a ha => ?_))
 refine jY (jJ ?_)
 by_cases c6 : x.f0 = 8
 ·
  refine jU ha rfl (decide_eq_true c6) ?_
  refine wp_skip (jJ ?_)
  refine jU ha rfl (decide_eq_true c6) ?_
  refine wp_seq (jX [0, 1] (jW (qY 19 [] 3 (fun b => .slice (some ⟨b, 0, none⟩) 0 0) ha hS fun b7 w a hb8 hS ha => ?_)))
  refine jQ [(1, 4, .slice (some ⟨b7, 0, none⟩) 0 0)] ha fun a ha => ?_
  refine jY ?_
  replace ha := ha.as [(1, iv x2), (4, .slice (some ⟨b7, 0, none⟩) 0 0)] rfl
  refine jJ (wp_ret (in_r (qG (jG ha (by kernel_rfl) (qK (t := 4) ha rfl) ?_))))
  replace hS := hS.blk0 1 0 rfl
  have hE : leadsP b.length x x2 = [] := by unfold leadsP; simp [c3, c6]
  rw [hE]
  exact ⟨(⟨some ⟨b7, 0, none⟩, 0, 0⟩ : Sl), rfl, hS.pickN 2 [0]⟩
 refine jK ha rfl (decide_eq_false c6) ?_
 refine jX [0, 1] (jQ [(0, 18, .bool (decide (x.f0 = 10))), (1, 15, .bool (decide (x.f0 = 10)))] ha fun a ha => ?_)
 refine jY (jJ ?_)
 by_cases c9 : x.f0 = 10
 ·
  refine jU ha rfl (decide_eq_true c9) ?_
  refine wp_seq (jX [0, 1] (jW (qY 19 [] 3 (fun b => .slice (some ⟨b, 0, none⟩) 0 0) ha hS fun b10 w a hb11 hS ha => ?_)))
  refine jQ [(1, 4, .slice (some ⟨b10, 0, none⟩) 0 0)] ha fun a ha => ?_
  refine jY ?_
  replace ha := ha.as [(1, iv x2), (4, .slice (some ⟨b10, 0, none⟩) 0 0)] rfl
  refine jJ (wp_ret (in_r (qG (jG ha (by kernel_rfl) (qK (t := 4) ha rfl) ?_))))
  replace hS := hS.blk0 1 0 rfl
  have hE : leadsP b.length x x2 = [] := by unfold leadsP; simp [c3, c6, c9]
  rw [hE]
  exact ⟨(⟨some ⟨b10, 0, none⟩, 0, 0⟩ : Sl), rfl, hS.pickN 2 [0]⟩
 refine jK ha rfl (decide_eq_false c9) ?_
 refine wp_seq (jX [0, 1] (jQ [(0, 21, .bool (decide (x.f0 = 11))), (1, 20, .bool (decide (x.f0 = 11)))] ha fun a ha => ?_))
 refine jY (jJ ?_)
 by_cases c12 : x.f0 = 11
 ·
  refine jU ha rfl (decide_eq_true c12) ?_
  refine wp_seq (jX [0, 1, 2, 3, 4, 5, 6, 7, 8] (jQ [(0, 22, iv x2)] ha fun a ha => ?_))
  refine xJ 23 (x2 + 1) ha fun a ha => ?_
  refine jW (qY 24 [iv (x2 + 1)] 3 (fun b => .slice (some ⟨b, 0, none⟩) 1 1) ha hS fun b13 w a hb14 hS ha => ?_)
  refine jQ [(3, 25, ptr b1 1)] ha fun a ha => ?_
  refine qZ (d := 26) (b := b1) (j := 1) ha (hS.blk 1 rfl) rfl fun a ha => ?_
  refine jQ [(5, 27, iv (sb.n : Int))] ha fun a ha => ?_
  refine jW (qQ 28 (vs := [iv x.f1, iv (sb.n : Int)]) ha (least_sat hS) fun v15 w a hp16 ha => ?_)
  obtain ⟨rfl, hS⟩ := hp16
  replace hS := blkRow hS 1 1 0 rfl rfl (by decide)
  replace hS : Sat w0 w ((rI (⟨some ⟨b13, 0, none⟩, 1, 1⟩ : Sl) [x2 + 1]) :: (SX.blk b1 [iv x.f0, iv x.f1, iv x.f2] 72) :: Rs) := hS
  refine jW (qQ 29 (vs := [.slice (some ⟨b13, 0, none⟩) 1 1, iv (min x.f1 (sb.n : Int))]) ha (put1_sat (sa := (⟨some ⟨b13, 0, none⟩, 1, 1⟩ : Sl)) (L := [x2 + 1]) (x := min x.f1 (sb.n : Int)) hS (by simp)) fun v17 w a hp18 ha => ?_)
  obtain ⟨ao1, rfl, hS⟩ := hp18
  replace hS : Sat w0 w ((rI ao1 (asc [x2 + 1, min x.f1 (sb.n : Int)])) :: (SX.blk b1 [iv x.f0, iv x.f1, iv x.f2] 72) :: Rs) := by rw [asc_two] at hS; exact hS
  refine jQ [(8, 4, .slice ao1.A ao1.n ao1.c)] ha fun a ha => ?_
  refine jY ?_
  replace ha := ha.as [(1, iv x2), (4, .slice ao1.A ao1.n ao1.c)] rfl
  refine jJ (wp_ret (in_r (qG (jG ha (by kernel_rfl) (qK (t := 4) ha rfl) ?_))))
  have hE : leadsP b.length x x2 = (asc [x2 + 1, min x.f1 (sb.n : Int)]) := by unfold leadsP; simp [c3, c6, c9, c12, hsb]
  rw [hE]
  exact ⟨ao1, rfl, hS.pickN 2 [0]⟩
 refine jK ha rfl (decide_eq_false c12) ?_
 refine wp_skip (in_n (jJ (wp_seq (jX [0, 1, 2, 3] (jQ [(0, 30, iv x2)] ha fun a ha => ?_)))))
 refine xJ 31 (x2 + 1) ha fun a ha => ?_
 refine jW (qY 32 [iv (x2 + 1)] 3 (fun b => .slice (some ⟨b, 0, none⟩) 1 1) ha hS fun b19 w a hb20 hS ha => ?_)
 refine jQ [(3, 4, .slice (some ⟨b19, 0, none⟩) 1 1)] ha fun a ha => ?_
 refine jY ?_
 replace ha := ha.as [(4, .slice (some ⟨b19, 0, none⟩) 1 1)] rfl
 refine jJ (wp_ret (jG ha (by kernel_rfl) (qK (t := 4) ha rfl) ?_))
 replace hS := blkRow hS 1 1 0 rfl rfl (by decide)
 have hE : leadsP b.length x x2 = [x2 + 1] := by unfold leadsP; simp [c3, c6, c9, c12]
 rw [hE]
 exact ⟨(⟨some ⟨b19, 0, none⟩, 1, 1⟩ : Sl), rfl, hS.pickN 2 [0]⟩
def leadsAt (b : List ST) (x : Int) : List Int := match b[x.toNat]? with | some s => leadsP b.length s x | none => []
theorem leadsAt_at {b : List ST} {x : Int} {s : ST} (h : b[x.toNat]? = some s) : leadsAt b x = leadsP b.length s x := by unfold leadsAt; rw [h]
def okJ (b : List ST) : Prop := ∀ x ∈ b, x.f0 = 11 → 0 ≤ x.f1
theorem leadsAt_len (b : List ST) (x : Int) : (leadsAt b x).length ≤ 2 := by
 unfold leadsAt
 split
 · exact leadsP_len _ _ _
 · simp
theorem leadsAt_rng {b : List ST} {x y : Int} (hok : okJ b) (h0 : 0 ≤ x) (h1 : x < (b.length : Int)) (hy : y ∈ leadsAt b x) : 0 ≤ y ∧ y ≤ (b.length : Int) := by
  obtain ⟨s, hs⟩ : ∃ s, b[x.toNat]? = some s := ⟨_, List.getElem?_eq_getElem (by omega)⟩
  rw [leadsAt_at hs] at hy
  unfold leadsP at hy
  split at hy
  · cases hy
  · split at hy
    · rename_i h11
      have := hok s (List.mem_of_getElem? hs) h11;rw [asc_mem] at hy;simp only [List.mem_cons, List.not_mem_nil, or_false] at hy
      omega
    · rw [List.mem_singleton] at hy; omega
def Rch (b : List ST) (f : List Int) (x : Int) : Prop := ∀ S : Int → Prop, (∀ y ∈ f, S y) → (∀ y z, S y → 0 ≤ y → y < (b.length : Int) → z ∈ leadsAt b y → S z) → S x
theorem Rch.base {b : List ST} {f : List Int} {x : Int} (h : x ∈ f) : Rch b f x := fun S h1 _ => h1 x h
theorem Rch.step {b : List ST} {f : List Int} {x y : Int} (h : Rch b f x) (h0 : 0 ≤ x) (h1 : x < (b.length : Int)) (hy : y ∈ leadsAt b x) : Rch b f y := fun S k1 k2 => k2 x y (h S k1 k2) h0 h1 hy
structure CInv (b : List ST) (f O F : List Int) : Prop where
 nd : O.Nodup
 rg : ∀ x ∈ O, 0 ≤ x ∧ x < (b.length : Int) ∧ Rch b f x
 rf : ∀ x ∈ F, 0 ≤ x ∧ Rch b f x
 st : ∀ x ∈ f, x < (b.length : Int) → x ∈ O ∨ x ∈ F
 cl : ∀ x ∈ O, ∀ y ∈ leadsAt b x, y < (b.length : Int) → y ∈ O ∨ y ∈ F
theorem nodup_len : ∀ (n : Nat) (O : List Int), O.Nodup → (∀ x ∈ O, 0 ≤ x ∧ x < (n : Int)) → O.length ≤ n
 | 0, O, _, h => by
  cases O with
  | nil => simp
  | cons x O => have := h x (by simp); omega
 | n + 1, O, hd, h => by
  have h1 := nodup_len n (O.erase (n : Int)) (hd.erase _) (fun x hx => by have h2 := (List.Nodup.mem_erase_iff hd).1 hx; have h3 := h x h2.2; have h4 := h2.1; omega)
  by_cases hm : (n : Int) ∈ O
  · rw [List.length_erase_of_mem hm] at h1; omega
  · rw [List.erase_of_not_mem hm] at h1; omega
theorem CInv.len {b : List ST} {f O F : List Int} (h : CInv b f O F) : O.length ≤ b.length := nodup_len _ O h.nd fun x hx => ⟨(h.rg x hx).1, (h.rg x hx).2.1⟩
theorem CInv.start {b : List ST} {f : List Int} (hf : ∀ x ∈ f, 0 ≤ x) : CInv b f [] f := ⟨List.nodup_nil, fun x hx => absurd hx List.not_mem_nil, fun x hx => ⟨hf x hx, Rch.base hx⟩, fun x hx _ => .inr hx, fun x hx => absurd hx List.not_mem_nil⟩
theorem CInv.skip {b : List ST} {f O F : List Int} {x : Int} (h : CInv b f O (x :: F)) (hx : ¬ x < (b.length : Int) ∨ x ∈ O) : CInv b f O F := by
  have one : ∀ y, y < (b.length : Int) → y ∈ O ∨ y ∈ x :: F → y ∈ O ∨ y ∈ F := by
    intro y hy h1
    rcases h1 with h1 | h1
    · exact .inl h1
    · rcases List.mem_cons.1 h1 with rfl | h1
      · rcases hx with hx | hx
        · exact absurd hy hx
        · exact .inl hx
      · exact .inr h1
  exact ⟨h.nd, h.rg, fun y hy => h.rf y (List.mem_cons_of_mem _ hy), fun y hy hn => one y hn (h.st y hy hn), fun y hy z hz hn => one z hn (h.cl y hy z hz hn)⟩
theorem CInv.take {b : List ST} {f O F : List Int} {x : Int} (hok : okJ b) (h : CInv b f O (x :: F)) (hx : x < (b.length : Int)) (hn : x ∉ O) : CInv b f (O ++ [x]) (F ++ leadsAt b x) := by
  have hx0 := h.rf x List.mem_cons_self
  have one : ∀ y, y ∈ O ∨ y ∈ x :: F → y ∈ O ++ [x] ∨ y ∈ F ++ leadsAt b x := by
    intro y h1
    rcases h1 with h1 | h1
    · exact .inl (List.mem_append_left _ h1)
    · rcases List.mem_cons.1 h1 with rfl | h1
      · exact .inl (by simp)
      · exact .inr (List.mem_append_left _ h1)
  refine ⟨List.nodup_append.2 ⟨h.nd, by simp, fun y hy z hz => ?_⟩, fun y hy => ?_, fun y hy => ?_, fun y hy hb => one y (h.st y hy hb), fun y hy z hz hb => ?_⟩
  · rw [List.mem_singleton] at hz; subst hz; exact fun e => hn (e ▸ hy)
  · rcases List.mem_append.1 hy with hy | hy
    · exact h.rg y hy
    · rw [List.mem_singleton.1 hy]; exact ⟨hx0.1, hx, hx0.2⟩
  · rcases List.mem_append.1 hy with hy | hy
    · exact h.rf y (List.mem_cons_of_mem _ hy)
    · exact ⟨(leadsAt_rng hok hx0.1 hx hy).1, hx0.2.step hx0.1 hx hy⟩
  · rcases List.mem_append.1 hy with hy | hy
    · exact one z (h.cl y hy z hz hb)
    · rw [List.mem_singleton.1 hy] at hz; exact .inr (List.mem_append_right _ hz)
theorem CInv.mem {b : List ST} {f O : List Int} (h : CInv b f O []) (x : Int) : x ∈ O ↔ Rch b f x ∧ x < (b.length : Int) := by
  constructor
  · intro hx; exact ⟨(h.rg x hx).2.2, (h.rg x hx).2.1⟩
  · rintro ⟨h1, h2⟩
    refine h1 (fun y => y < (b.length : Int) → y ∈ O) (fun y hy hn => ?_) (fun y z hy h0 hn hz hzn => ?_) h2
    · rcases h.st y hy hn with h | h
      · exact h
      · cases h
    · rcases h.cl y (hy hn) z hz hzn with h | h
      · exact h
      · cases h
def goP (b : List ST) : Nat → List Int → List Int → List Int
 | 0, O, _ => O
 | _ + 1, O, [] => O
 | k + 1, O, x :: F => if decide (x < (b.length : Int)) && !(O.contains x) then goP b k (O ++ [x]) (F ++ leadsAt b x) else goP b k O F
theorem goP_inv {b : List ST} {f : List Int} (hok : okJ b) : ∀ (k : Nat) (O F : List Int), CInv b f O F → 3 * (b.length - O.length) + F.length < k → CInv b f (goP b k O F) []
  | 0, _, _, _, h => absurd h (Nat.not_lt_zero _)
  | k + 1, O, [], h, _ => h
  | k + 1, O, x :: F, h, hk => by
    unfold goP
    simp only [List.length_cons] at hk
    by_cases hc : x < (b.length : Int) ∧ x ∉ O
    · rw [if_pos (by simp [hc.1, hc.2])]
      have h1 := h.take hok hc.1 hc.2
      have h2 := h1.len
      have h3 := leadsAt_len b x
      refine goP_inv hok k _ _ h1 ?_
      simp only [List.length_append, List.length_cons, List.length_nil] at h2 ⊢
      omega
    · rw [if_neg (by simpa using hc)]
      exact goP_inv hok k _ _ (h.skip (by by_cases h1 : x < (b.length : Int)
                                          · exact .inr (Classical.byContradiction fun h2 => hc ⟨h1, h2⟩)
                                          · exact .inl h1)) (by omega)
def goS (b : List ST) (f : List Int) : List Int := goP b (3 * b.length + f.length + 1) [] f
def openL (b : List ST) (f : List Int) : List Int := asc (goS b f)
theorem goS_inv {b : List ST} {f : List Int} (hok : okJ b) (hf : ∀ x ∈ f, 0 ≤ x) : CInv b f (goS b f) [] := goP_inv hok _ _ _ (CInv.start hf) (by simp only [List.length_nil]; omega)
theorem openL_mem {b : List ST} {f : List Int} (hok : okJ b) (hf : ∀ x ∈ f, 0 ≤ x) (x : Int) : x ∈ openL b f ↔ Rch b f x ∧ x < (b.length : Int) := by
 unfold openL
 rw [asc_mem]
 exact (goS_inv hok hf).mem x
theorem goP_skip {b : List ST} {k : Nat} {O F : List Int} {x : Int} (h : ¬ x < (b.length : Int) ∨ O.contains x = true) : goP b (k + 1) O (x :: F) = goP b k O F := by
 rw [goP, if_neg]
 rcases h with h | h
 · simp [h]
 · rw [h]; simp
theorem goP_take {b : List ST} {k : Nat} {O F : List Int} {x : Int} (h : x < (b.length : Int)) (h2 : O.contains x = false) : goP b (k + 1) O (x :: F) = goP b k (O ++ [x]) (F ++ leadsAt b x) := by
 rw [goP, if_pos]
 rw [h2]; simp [h]
theorem goP_nil (b : List ST) (k : Nat) (O : List Int) : goP b k O [] = O := by cases k <;> rfl
structure QInv (b : List ST) (f O : List Int) (m : Nat) : Prop where
 nd : O.Nodup
 rg : ∀ x ∈ O, 0 ≤ x ∧ x ≤ (b.length : Int) ∧ Rch b f x
 st : ∀ x ∈ f, x ∈ O
 cl : ∀ j x, j < m → O[j]? = some x → x < (b.length : Int) → ∀ y ∈ leadsAt b x, y ∈ O
theorem QInv.len {b : List ST} {f O : List Int} {m : Nat} (h : QInv b f O m) : O.length ≤ b.length + 1 := nodup_len _ O h.nd fun x hx => by have := h.rg x hx; omega
theorem QInv.start {b : List ST} {f : List Int} (hd : f.Nodup) (hf : ∀ x ∈ f, 0 ≤ x ∧ x ≤ (b.length : Int)) : QInv b f f 0 := ⟨hd, fun x hx => ⟨(hf x hx).1, (hf x hx).2, Rch.base hx⟩, fun x hx => hx, fun j _ h => absurd h (Nat.not_lt_zero j)⟩
theorem QInv.skip {b : List ST} {f O : List Int} {m : Nat} {x : Int} (h : QInv b f O m) (hx : O[m]? = some x) (hn : ¬ x < (b.length : Int)) : QInv b f O (m + 1) := ⟨h.nd, h.rg, h.st, fun j y hj hy hb => by
 by_cases e : j = m
 · subst e; rw [hx] at hy; obtain rfl := Option.some.inj hy; exact absurd hb hn
 · exact h.cl j y (by omega) hy hb⟩
theorem QInv.full {b : List ST} {f O : List Int} {m : Nat} {x : Int} (h : QInv b f O m) (hx : O[m]? = some x) (hl : ∀ y ∈ leadsAt b x, y ∈ O) : QInv b f O (m + 1) := ⟨h.nd, h.rg, h.st, fun j y hj hy hb => by
 by_cases e : j = m
 · subst e; rw [hx] at hy; obtain rfl := Option.some.inj hy; exact hl
 · exact h.cl j y (by omega) hy hb⟩
theorem QInv.add {b : List ST} {f O : List Int} {m : Nat} {x y : Int} (hok : okJ b) (h : QInv b f O m) (hx : O[m]? = some x) (hb : x < (b.length : Int)) (hy : y ∈ leadsAt b x) (hn : y ∉ O) : QInv b f (O ++ [y]) m := by
  have hx0 := h.rg x (List.mem_of_getElem? hx)
  have hr := leadsAt_rng hok hx0.1 hb hy
  have hml : m < O.length := (List.getElem?_eq_some_iff.1 hx).1
  refine ⟨List.nodup_append.2 ⟨h.nd, by simp, fun u hu v hv => ?_⟩, fun u hu => ?_, fun u hu => List.mem_append_left _ (h.st u hu), fun j u hj hu hb v hv => ?_⟩
  · rw [List.mem_singleton] at hv; subst hv; exact fun e => hn (e ▸ hu)
  · rcases List.mem_append.1 hu with hu | hu
    · exact h.rg u hu
    · rw [List.mem_singleton.1 hu]; exact ⟨hr.1, hr.2, hx0.2.2.step hx0.1 hb hy⟩
  · rw [List.getElem?_append_left (by omega)] at hu
    exact List.mem_append_left _ (h.cl j u hj hu hb v hv)
theorem QInv.mem {b : List ST} {f O : List Int} (h : QInv b f O O.length) (x : Int) : x ∈ O ↔ Rch b f x := by
  constructor
  · intro hx; exact (h.rg x hx).2.2
  · intro h1
    refine h1 (· ∈ O) h.st fun y z hy h0 hn hz => ?_;obtain ⟨j, hj⟩ := List.getElem?_of_mem hy;exact h.cl j y (List.getElem?_eq_some_iff.1 hj).1 hj hn z hz
theorem filt_open {b : List ST} {f R : List Int} (hok : okJ b) (hf : ∀ x ∈ f, 0 ≤ x) (hi : IncI R) (hm : ∀ x, x ∈ R ↔ Rch b f x) : R.filter (fun x => decide (x < (b.length : Int))) = openL b f := by
 refine IncI.ext (hi.filter _) (asc_inc _) fun x => ?_
 rw [List.mem_filter, hm, decide_eq_true_eq]
 exact (openL_mem hok hf x).symm
end Go.Proofs.Ytpenhegoilccoaa.G
