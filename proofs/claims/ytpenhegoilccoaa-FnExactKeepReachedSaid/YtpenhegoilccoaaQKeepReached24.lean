/- What the claim FnExactKeepReached rests on, part 24 of 27; the last part proves it: for every input the law answers true, and its arguments read behind the call as before it. No condition. -/
import Derived.Test.YtpenhegoilccoaaQKeepReached19
import Derived.Test.YtpenhegoilccoaaQKeepReached20
import Derived.Test.YtpenhegoilccoaaQKeepReached23
set_option linter.unusedSimpArgs false
set_option linter.unusedVariables false
set_option maxRecDepth 20000
set_option maxHeartbeats 1000000
namespace Go.Proofs.Ytpenhegoilccoaa.G
open Go.RowKit Go.Proofs.Ytpenhegoilccoaa.SX Go.Proofs.YtpenhegoilccoaaW.PrintWords Go.Proofs.YtpenhegoilccoaaW.PrintLast Go.Proofs.YtpenhegoilccoaaW.PrintMore
theorem encJ_one : ∀ l : List Int, (encJ l).all Value.oneCell' = true
 | [] => rfl
 | x :: l => by show (cellsJ x ++ encJ l).all _ = true; rw [List.all_append, encJ_one l]; rfl
theorem encJ_take (l : List Int) (j : Nat) : (encJ l).take (j * 1) = encJ (l.take j) := flat_take cellsJ_len l j
theorem encJ_snoc (l : List Int) (x : Int) : encJ l ++ [.int .i64 x] = encJ (l ++ [x]) := by simp [encJ, cellsJ]
theorem encJ_tail {l1 l : List Int} {j : Nat} (hj : j ≤ l.length) : encJ l1 ++ (encJ l).drop (j * 1) = encJ (l1 ++ l.drop j) := by
 have h : (encJ l).drop (j * 1) = encJ (l.drop j) := by
  conv => lhs; rw [← List.take_append_drop j l]
  show ((l.take j ++ l.drop j).flatMap cellsJ).drop _ = _
  rw [List.flatMap_append, List.drop_left']
  · rfl
  · rw [flat_length cellsJ_len, List.length_take, Nat.min_eq_left hj]
 rw [h]
 simp [encJ]
theorem code128 : Try.f128.body = some (Code.seq (cr Try.f128 0 false) (Code.seq (cr Try.f128 1 false) (Code.seq (Code.block 0 (Code.loop (Code.seq (Code.seq (cr Try.f128 2 false) (Code.cond (Operand.tmp 17) Code.skip (Code.exit 0))) (Code.block 1 (cr Try.f128 3 false))))) (Code.seq (Code.seq (cr Try.f128 4 false) (Code.cond (Operand.tmp 31) (Code.seq (cr Try.f128 5 false) Code.ret) Code.skip)) (Code.seq (cr Try.f128 6 true) Code.ret))))) := by kernel_rfl
theorem put1_satB {w0 w : World} {Rs : List Asn} {sa : Sl} {L : List Int} {x : Int} (hS : Sat w0 w (SX.row (.slice sa.A sa.n sa.c) 3 1 (SX.encI L) :: Rs)) (hL : L.length ≤ 1000000) :
  Calls Try.prog 128 #[.slice sa.A sa.n sa.c, .int .i64 x] w (Ret fun r w' => ∃ o : Sl, r = .slice o.A o.n o.c ∧ o.n = (put1 L x).length ∧ Sat w0 w' (SX.row (.slice o.A o.n o.c) 3 1 (SX.encI (put1 L x)) :: Rs) ∧ Sat w0 w' (SX.row (.slice sa.A sa.n sa.c) 3 1 (SX.encI L) :: Rs)) := by
 simp only [encJ_I] at hS ⊢
 have han : sa.n = L.length := hS.rowL (s := sa) (enc := cellsJ) 0 cellsJ_len (by decide) rfl
 have hac := (hS.rowC (s := sa) 0 rfl).1
 refine enter (n := 45) Try.func128 code128 (by kernel_rfl) (Nat.le_of_ble_eq_true rfl) (fun a ha => ?_)
 replace ha : Has 45 [(0, .slice sa.A sa.n sa.c), (1, iv x)] a := ha
 refine wp_seq (jX [0] (jY [(0, 4, .slice none 0 0)] ha fun a ha => ?_))
 refine jZ (jJ (wp_seq (jX [0] (jY [(0, 5, iv 0)] ha fun a ha => ?_))))
 refine jZ (jJ (wp_seq (wp_block ?_)))
 replace hS : Sat w0 w ((SX.row (.slice sa.A sa.n sa.c) 3 1 (encJ L)) :: Rs) := hS
 refine wp_loop_ghost (fun n_ a_ w_ => ∃ (k : Nat), n_ = L.length - k ∧ (k ≤ L.length) ∧ (∀ j : Nat, j < k → ∃ y, L[j]? = some y ∧ y < x) ∧ Has 45 [(0, .slice sa.A sa.n sa.c), (1, iv x), (4, .slice none 0 0), (5, iv (k : Int))] a_ ∧ Sat w0 w_ ((SX.row (.slice sa.A sa.n sa.c) 3 1 (encJ L)) :: Rs)) _ ⟨0, rfl, Nat.zero_le _, (fun j hj => by omega), ha.keeps [0, 1, 4, 5] _ rfl, hS⟩ ?_
 rintro n_ a w ⟨k, rfl, hk, hless, ha, hS⟩
 refine wp_seq (wp_seq (jX [0, 1, 2, 3, 4, 5, 6, 7, 8, 9, 10, 11] (jY [(0, 6, iv (k : Int)), (1, 7, .slice sa.A sa.n sa.c), (2, 8, iv (sa.n : Int)), (3, 9, .bool (decide ((k : Int) < (sa.n : Int)))), (4, 10, .bool (decide ((k : Int) < (sa.n : Int))))] ha fun a ha => ?_)))
 by_cases c1 : (k : Int) < (sa.n : Int)
 ·
  replace ha := ha.turn 9 (.bool true) rfl (congrArg Value.bool (decide_eq_true c1))
  replace ha := ha.turn 10 (.bool true) rfl (congrArg Value.bool (decide_eq_true c1))
  obtain ⟨y, hy⟩ : ∃ y, L[k]? = some y := ⟨_, List.getElem?_eq_getElem (by omega)⟩
  refine jY [(5, 11, .slice sa.A sa.n sa.c), (6, 12, iv (k : Int))] ha fun a ha => ?_
  refine qX (.pointer (some ⟨bk sa, k * 1, none⟩)) ha (xQ (s := sa) (el := 3) (sz := 1) (j := k) ha (AtG.here (gd := 10) ⟨(by kernel_rfl : ((jK Try.f128 2)[7]?).map spec = some ((Op.indexAddr 44 (Operand.tmp 11) (Operand.tmp 12)), some 13, 0, some (4, true))), by kernel_rfl⟩ ha rfl) rfl rfl (by kernel_rfl) (by kernel_rfl) (hS.rowA (s := sa) 0 rfl (by have := (List.getElem?_eq_some_iff.1 hy).1; rw [encJ_length]; omega)) (rfl) (by have h9 := hS.rowL (s := sa) (enc := cellsJ) 0 cellsJ_len (by decide) rfl; have := (List.getElem?_eq_some_iff.1 hy).1; omega)) fun a ha => ?_
  refine qX (iv y) ha (qW ha (AtG.here (gd := 10) ⟨(by kernel_rfl : ((jK Try.f128 2)[8]?).map spec = some ((Op.load 3 (Operand.tmp 13)), some 14, 3, some (4, true))), by kernel_rfl⟩ ha rfl) rfl (by kernel_rfl) (fun w' hw => by rw [hw]; exact (hS.rdC (s := sa) 0 rfl).cells _ _ ((flat_get (enc := cellsJ) (o := 0) cellsJ_len hy (by decide)).trans rfl))) fun a ha => ?_
  refine jY [(9, 15, iv x), (10, 16, .bool (decide (y < x))), (11, 17, .bool (decide (y < x)))] ha fun a ha => ?_
  refine jZ (jJ ?_)
  by_cases c2 : y < x
  ·
   refine jH ha rfl (decide_eq_true c2) ?_;refine wp_skip (jJ (wp_block (jX [0, 1, 2] (jY [(0, 18, iv (k : Int))] ha fun a ha => ?_))));refine qH 19 ((k : Int) + 1) ha fun a ha => ?_;refine jY [(2, 5, iv ((k : Int) + 1))] ha fun a ha => ?_;refine jZ (in_n (jJ ?_));replace hS : Sat w0 w ((SX.row (.slice sa.A sa.n sa.c) 3 1 (encJ L)) :: Rs) := hS;exact ⟨_, by omega, k + 1, rfl, by omega, put1_next hless hy (by omega), ha.keeps [0, 1, 4, 5] _ rfl, hS⟩
  refine jU ha rfl (decide_eq_false c2) ?_
  refine wp_exit (qJ (qJ (in_x (jJ (wp_seq (wp_seq (jX [0, 1, 2, 3, 4, 5, 6, 7, 8, 9, 10, 11] (jY [(0, 20, iv (k : Int)), (1, 21, .slice sa.A sa.n sa.c), (2, 22, iv (sa.n : Int)), (3, 23, .bool (decide ((k : Int) < (sa.n : Int)))), (4, 24, .bool (decide ((k : Int) < (sa.n : Int))))] ha fun a ha => ?_))))))))
  replace ha := ha.turn 23 (.bool true) rfl (congrArg Value.bool (decide_eq_true c1))
  replace ha := ha.turn 24 (.bool true) rfl (congrArg Value.bool (decide_eq_true c1))
  refine jY [(5, 25, .slice sa.A sa.n sa.c), (6, 26, iv (k : Int))] ha fun a ha => ?_
  refine qX (.pointer (some ⟨bk sa, k * 1, none⟩)) ha (xQ (s := sa) (el := 3) (sz := 1) (j := k) ha (AtG.here (gd := 24) ⟨(by kernel_rfl : ((jK Try.f128 4)[7]?).map spec = some ((Op.indexAddr 44 (Operand.tmp 25) (Operand.tmp 26)), some 27, 0, some (4, true))), by kernel_rfl⟩ ha rfl) rfl rfl (by kernel_rfl) (by kernel_rfl) (hS.rowA (s := sa) 0 rfl (by have := (List.getElem?_eq_some_iff.1 hy).1; rw [encJ_length]; omega)) (rfl) (by have h9 := hS.rowL (s := sa) (enc := cellsJ) 0 cellsJ_len (by decide) rfl; have := (List.getElem?_eq_some_iff.1 hy).1; omega)) fun a ha => ?_
  refine qX (iv y) ha (qW ha (AtG.here (gd := 24) ⟨(by kernel_rfl : ((jK Try.f128 4)[8]?).map spec = some ((Op.load 3 (Operand.tmp 27)), some 28, 3, some (4, true))), by kernel_rfl⟩ ha rfl) rfl (by kernel_rfl) (fun w' hw => by rw [hw]; exact (hS.rdC (s := sa) 0 rfl).cells _ _ ((flat_get (enc := cellsJ) (o := 0) cellsJ_len hy (by decide)).trans rfl))) fun a ha => ?_
  refine jY [(9, 29, iv x), (10, 30, .bool (decide (y = x))), (11, 31, .bool (decide (y = x)))] ha fun a ha => ?_
  refine jZ ?_
  replace ha := ha.as [(0, .slice sa.A sa.n sa.c), (1, iv x), (4, .slice none 0 0), (5, iv (k : Int)), (31, .bool (decide (y = x)))] rfl
  refine jJ ?_
  by_cases c3 : y = x
  ·
   refine jH ha rfl (decide_eq_true c3) ?_;refine wp_seq (jX [0, 1] (jY [(0, 32, .slice sa.A sa.n sa.c), (1, 4, .slice sa.A sa.n sa.c)] ha fun a ha => ?_));refine jZ (jJ (wp_ret (xJ (qQ ha (by kernel_rfl) (qU (t := 4) ha rfl) ?_))));have hE : put1 L x = L := put1_at hless hy c3;rw [hE];replace hS := hS.pickN 1 [0];exact ⟨sa, rfl, han, hS, hS⟩
  refine jU ha rfl (decide_eq_false c3) ?_
  refine wp_skip (jJ (zY (J := fun a_ w_ => ∃ (g1_0 : Sl) (g1_1 : Nat), Has 45 [(4, .slice g1_0.A g1_0.n g1_0.c)] a_ ∧ Sat w0 w_ ((SX.blk g1_1 [iv x] 3) :: (SX.row (.slice g1_0.A g1_0.n g1_0.c) 3 1 (encJ (((L.take k) ++ [x]) ++ L.drop k))) :: (SX.row (.slice sa.A sa.n sa.c) 3 1 (encJ L)) :: Rs)) ?_ ?_))
  ·
   refine xG 13 13 (hS.pickN 1 []) hS fun w hS => ?_;refine qY (k := 11) [(1, 34, .slice sa.A sa.n sa.c), (2, 35, iv (k : Int))] ha (.inr (hS.pickN 1 [])) fun a ha => ?_;refine yJ 3 (.slice sa.A k sa.c) ha (v_takeZ (el := 3) (j := k) ha (xU (op := (Op.slice 44 (Operand.tmp 34) none (some (Operand.tmp 35)) none)) (d := some 36) (ty := 44)) rfl rfl (by kernel_rfl) (by kernel_rfl) rfl (by omega) hac) (.inr (hS.pickN 1 [])) fun a ha => ?_;refine qY (k := 7) [(5, 38, iv x), (8, 41, .slice sa.A sa.n sa.c), (9, 42, iv (k : Int))] ha (.inr (hS.pickN 1 [])) fun a ha => ?_;refine yJ 10 (.slice (tailA sa.A k 1 sa.c) (sa.n - k) (sa.c - k)) ha (v_dropZ (el := 3) (sz := 1) (j := k) ha (xU (op := (Op.slice 44 (Operand.tmp 41) (some (Operand.tmp 42)) none none)) (d := some 43) (ty := 44)) rfl rfl (by kernel_rfl) (by kernel_rfl) rfl (by omega) hac) (.inr (hS.pickN 1 [])) fun a ha => ?_;refine d_all (rs := [0, 6]) (by kernel_rfl) (by simp) (forall_mem_2 ?_ ?_)
   ·
    refine id (qZ 33 [] 3 (fun b => .slice (some ⟨b, 0, none⟩) 0 0) ha hS fun b4 w a hb5 hS ha => ?_);refine ⟨.inr (hS.pickN 2 []), ?_⟩;refine d_all (rs := [4, 6]) (by kernel_rfl) (by simp) (forall_mem_2 ?_ ?_)
    ·
     refine id (o_appRow0 (m := k) (z := iv 0) (sz := 1) (bytes := 8) (ys' := encJ (L.take k)) 0 1 ha (by decide) (xU (op := (Op.call { callee := (Callee.builtin Builtin.append), args := #[(Operand.tmp 33), (Operand.tmp 36)], argTypes := #[44, 44] })) (d := some 37) (ty := 44)) rfl rfl (by kernel_rfl) (by kernel_rfl) rfl (by decide) hS rfl rfl (by omega) (encJ_one _) (by rw [encJ_length]; omega) (by decide) (encJ_take _ _) fun s6 w a hS hn7 ha => ?_);refine ⟨.inr (hS.pickN 2 []), ?_⟩;refine qV 6 (qZ 39 [iv x] 3 (fun b => .slice (some ⟨b, 0, none⟩) 1 1) ha hS fun b8 w a hb9 hS ha => ?_);refine ⟨.inr (hS.pickN 3 []), ?_⟩;refine qV 7 (o_ap 40 1 0 (encJ ((L.take k) ++ [x])) ha hS rfl rfl (by rw [encJ_length, List.length_take]; simp only [List.length_cons, List.length_nil]; omega) (encJ_snoc _ _) fun s13 w a hS hn14 ha => ?_);refine ⟨.inr (hS.pickN 3 []), ?_⟩;refine qV 11 (o_appT (j := k) (un := sa.n) (c := sa.c) (A := sa.A) (z := iv 0) (sz := 1) (bytes := 8) (xs' := encJ (((L.take k) ++ [x]) ++ L.drop k)) 1 2 ha (by decide) (xU (op := (Op.call { callee := (Callee.builtin Builtin.append), args := #[(Operand.tmp 40), (Operand.tmp 43)], argTypes := #[44, 44] })) (d := some 44) (ty := 44)) rfl rfl (by kernel_rfl) (by kernel_rfl) rfl (by decide) hS rfl rfl (by omega) (encJ_one _) (by rw [encJ_length, encJ_length]; simp only [List.length_append, List.length_take, List.length_cons, List.length_nil]; omega) (by decide) (encJ_tail hk) fun s15 w a hS ha => ?_);refine ⟨.inr (hS.pickN 3 []), ?_⟩;refine qY (k := 0) [(12, 4, .slice s15.A s15.n s15.c)] ha (.inr (hS.pickN 3 [])) fun a ha => ?_;refine xH ?_;replace ha := ha.as [(4, .slice s15.A s15.n s15.c)] rfl;replace hS : Sat w0 w ((SX.blk b8 [iv x] 3) :: (SX.row (.slice s15.A s15.n s15.c) 3 1 (encJ (((L.take k) ++ [x]) ++ L.drop k))) :: (SX.row (.slice sa.A sa.n sa.c) 3 1 (encJ L)) :: Rs) := hS;exact jJ ⟨s15, b8, ha.keeps [4] _ rfl, hS⟩
    refine id (qZ 39 [iv x] 3 (fun b => .slice (some ⟨b, 0, none⟩) 1 1) ha hS fun b16 w a hb17 hS ha => ?_);refine ⟨.inr (hS.pickN 3 []), ?_⟩;refine qV 4 (o_appRow0 (m := k) (z := iv 0) (sz := 1) (bytes := 8) (ys' := encJ (L.take k)) 1 2 ha (by decide) (xU (op := (Op.call { callee := (Callee.builtin Builtin.append), args := #[(Operand.tmp 33), (Operand.tmp 36)], argTypes := #[44, 44] })) (d := some 37) (ty := 44)) rfl rfl (by kernel_rfl) (by kernel_rfl) rfl (by decide) hS rfl rfl (by omega) (encJ_one _) (by rw [encJ_length]; omega) (by decide) (encJ_take _ _) fun s18 w a hS hn19 ha => ?_);refine ⟨.inr (hS.pickN 3 []), ?_⟩;refine qV 7 (o_ap 40 1 0 (encJ ((L.take k) ++ [x])) ha hS rfl rfl (by rw [encJ_length, List.length_take]; simp only [List.length_cons, List.length_nil]; omega) (encJ_snoc _ _) fun s23 w a hS hn24 ha => ?_);refine ⟨.inr (hS.pickN 3 []), ?_⟩;refine qV 11 (o_appT (j := k) (un := sa.n) (c := sa.c) (A := sa.A) (z := iv 0) (sz := 1) (bytes := 8) (xs' := encJ (((L.take k) ++ [x]) ++ L.drop k)) 1 2 ha (by decide) (xU (op := (Op.call { callee := (Callee.builtin Builtin.append), args := #[(Operand.tmp 40), (Operand.tmp 43)], argTypes := #[44, 44] })) (d := some 44) (ty := 44)) rfl rfl (by kernel_rfl) (by kernel_rfl) rfl (by decide) hS rfl rfl (by omega) (encJ_one _) (by rw [encJ_length, encJ_length]; simp only [List.length_append, List.length_take, List.length_cons, List.length_nil]; omega) (by decide) (encJ_tail hk) fun s25 w a hS ha => ?_);refine ⟨.inr (hS.pickN 3 []), ?_⟩;refine qY (k := 0) [(12, 4, .slice s25.A s25.n s25.c)] ha (.inr (hS.pickN 3 [])) fun a ha => ?_;refine xH ?_;replace ha := ha.as [(4, .slice s25.A s25.n s25.c)] rfl;replace hS : Sat w0 w ((SX.blk b16 [iv x] 3) :: (SX.row (.slice s25.A s25.n s25.c) 3 1 (encJ (((L.take k) ++ [x]) ++ L.drop k))) :: (SX.row (.slice sa.A sa.n sa.c) 3 1 (encJ L)) :: Rs) := hS;exact jJ ⟨s25, b16, ha.keeps [4] _ rfl, hS⟩
   refine id (qZ 39 [iv x] 3 (fun b => .slice (some ⟨b, 0, none⟩) 1 1) ha hS fun b26 w a hb27 hS ha => ?_);refine ⟨.inr (hS.pickN 2 []), ?_⟩;refine qV 0 (qZ 33 [] 3 (fun b => .slice (some ⟨b, 0, none⟩) 0 0) ha hS fun b28 w a hb29 hS ha => ?_);refine ⟨.inr (hS.pickN 3 []), ?_⟩;refine qV 4 (o_appRow0 (m := k) (z := iv 0) (sz := 1) (bytes := 8) (ys' := encJ (L.take k)) 0 2 ha (by decide) (xU (op := (Op.call { callee := (Callee.builtin Builtin.append), args := #[(Operand.tmp 33), (Operand.tmp 36)], argTypes := #[44, 44] })) (d := some 37) (ty := 44)) rfl rfl (by kernel_rfl) (by kernel_rfl) rfl (by decide) hS rfl rfl (by omega) (encJ_one _) (by rw [encJ_length]; omega) (by decide) (encJ_take _ _) fun s30 w a hS hn31 ha => ?_);refine ⟨.inr (hS.pickN 3 []), ?_⟩;refine qV 7 (o_ap 40 0 1 (encJ ((L.take k) ++ [x])) ha hS rfl rfl (by rw [encJ_length, List.length_take]; simp only [List.length_cons, List.length_nil]; omega) (encJ_snoc _ _) fun s35 w a hS hn36 ha => ?_);refine ⟨.inr (hS.pickN 3 []), ?_⟩;refine qV 11 (o_appT (j := k) (un := sa.n) (c := sa.c) (A := sa.A) (z := iv 0) (sz := 1) (bytes := 8) (xs' := encJ (((L.take k) ++ [x]) ++ L.drop k)) 0 2 ha (by decide) (xU (op := (Op.call { callee := (Callee.builtin Builtin.append), args := #[(Operand.tmp 40), (Operand.tmp 43)], argTypes := #[44, 44] })) (d := some 44) (ty := 44)) rfl rfl (by kernel_rfl) (by kernel_rfl) rfl (by decide) hS rfl rfl (by omega) (encJ_one _) (by rw [encJ_length, encJ_length]; simp only [List.length_append, List.length_take, List.length_cons, List.length_nil]; omega) (by decide) (encJ_tail hk) fun s37 w a hS ha => ?_);refine ⟨.inr (hS.pickN 3 []), ?_⟩;refine qY (k := 0) [(12, 4, .slice s37.A s37.n s37.c)] ha (.inr (hS.pickN 3 [])) fun a ha => ?_;refine xH ?_;replace ha := ha.as [(4, .slice s37.A s37.n s37.c)] rfl;replace hS := hS.pickN 3 [1, 0, 2];exact jJ ⟨s37, b26, ha.keeps [4] _ rfl, hS⟩
  rintro a w ⟨g1_0, g1_1, ha, hS⟩
  refine wp_ret (qQ ha (by kernel_rfl) (qU (t := 4) ha rfl) ?_)
  have hE : put1 L x = L.take k ++ [x] ++ L.drop k := put1_new hk hless (fun y9 hy9 => by obtain rfl := Option.some.inj (hy9.symm.trans hy); exact ⟨by omega, by omega⟩)
  rw [hE]
  have hn9 := hS.rowL (s := g1_0) (enc := cellsJ) 1 cellsJ_len (by decide) rfl
  exact ⟨g1_0, rfl, hn9, hS.pickN 3 [1], hS.pickN 3 [2]⟩
 replace ha := ha.turn 9 (.bool false) rfl (congrArg Value.bool (decide_eq_false c1))
 replace ha := ha.turn 10 (.bool false) rfl (congrArg Value.bool (decide_eq_false c1))
 refine jY [(5, 11, undef), (6, 12, undef), (7, 13, undef), (8, 14, undef), (9, 15, undef), (10, 16, undef), (11, 17, .bool false)] ha fun a ha => ?_
 refine jZ (jJ ?_)
 refine jU ha rfl rfl ?_
 refine wp_exit (qJ (qJ (in_x (jJ (wp_seq (wp_seq (jX [0, 1, 2, 3, 4, 5, 6, 7, 8, 9, 10, 11] (jY [(0, 20, iv (k : Int)), (1, 21, .slice sa.A sa.n sa.c), (2, 22, iv (sa.n : Int)), (3, 23, .bool (decide ((k : Int) < (sa.n : Int)))), (4, 24, .bool (decide ((k : Int) < (sa.n : Int))))] ha fun a ha => ?_))))))))
 replace ha := ha.turn 23 (.bool false) rfl (congrArg Value.bool (decide_eq_false c1))
 replace ha := ha.turn 24 (.bool false) rfl (congrArg Value.bool (decide_eq_false c1))
 refine jY [(5, 25, undef), (6, 26, undef), (7, 27, undef), (8, 28, undef), (9, 29, undef), (10, 30, undef), (11, 31, .bool false)] ha fun a ha => ?_
 refine jZ ?_
 replace ha := ha.as [(0, .slice sa.A sa.n sa.c), (1, iv x), (4, .slice none 0 0), (5, iv (k : Int)), (31, .bool false)] rfl
 refine jJ ?_
 refine jU ha rfl rfl ?_
 refine wp_skip (jJ (zY (J := fun a_ w_ => ∃ (g2_0 : Sl) (g2_1 : Nat), Has 45 [(4, .slice g2_0.A g2_0.n g2_0.c)] a_ ∧ Sat w0 w_ ((SX.blk g2_1 [iv x] 3) :: (SX.row (.slice g2_0.A g2_0.n g2_0.c) 3 1 (encJ (((L.take k) ++ [x]) ++ L.drop k))) :: (SX.row (.slice sa.A sa.n sa.c) 3 1 (encJ L)) :: Rs)) ?_ ?_))
 ·
  refine xG 13 13 (hS.pickN 1 []) hS fun w hS => ?_
  refine qY (k := 11) [(1, 34, .slice sa.A sa.n sa.c), (2, 35, iv (k : Int))] ha (.inr (hS.pickN 1 [])) fun a ha => ?_
  refine yJ 3 (.slice sa.A k sa.c) ha (v_takeZ (el := 3) (j := k) ha (xU (op := (Op.slice 44 (Operand.tmp 34) none (some (Operand.tmp 35)) none)) (d := some 36) (ty := 44)) rfl rfl (by kernel_rfl) (by kernel_rfl) rfl (by omega) hac) (.inr (hS.pickN 1 [])) fun a ha => ?_
  refine qY (k := 7) [(5, 38, iv x), (8, 41, .slice sa.A sa.n sa.c), (9, 42, iv (k : Int))] ha (.inr (hS.pickN 1 [])) fun a ha => ?_
  refine yJ 10 (.slice (tailA sa.A k 1 sa.c) (sa.n - k) (sa.c - k)) ha (v_dropZ (el := 3) (sz := 1) (j := k) ha (xU (op := (Op.slice 44 (Operand.tmp 41) (some (Operand.tmp 42)) none none)) (d := some 43) (ty := 44)) rfl rfl (by kernel_rfl) (by kernel_rfl) rfl (by omega) hac) (.inr (hS.pickN 1 [])) fun a ha => ?_
  refine d_all (rs := [0, 6]) (by kernel_rfl) (by simp) (forall_mem_2 ?_ ?_)
  ·
   refine id (qZ 33 [] 3 (fun b => .slice (some ⟨b, 0, none⟩) 0 0) ha hS fun b38 w a hb39 hS ha => ?_);refine ⟨.inr (hS.pickN 2 []), ?_⟩;refine d_all (rs := [4, 6]) (by kernel_rfl) (by simp) (forall_mem_2 ?_ ?_)
   ·
    refine id (o_appRow0 (m := k) (z := iv 0) (sz := 1) (bytes := 8) (ys' := encJ (L.take k)) 0 1 ha (by decide) (xU (op := (Op.call { callee := (Callee.builtin Builtin.append), args := #[(Operand.tmp 33), (Operand.tmp 36)], argTypes := #[44, 44] })) (d := some 37) (ty := 44)) rfl rfl (by kernel_rfl) (by kernel_rfl) rfl (by decide) hS rfl rfl (by omega) (encJ_one _) (by rw [encJ_length]; omega) (by decide) (encJ_take _ _) fun s40 w a hS hn41 ha => ?_);refine ⟨.inr (hS.pickN 2 []), ?_⟩;refine qV 6 (qZ 39 [iv x] 3 (fun b => .slice (some ⟨b, 0, none⟩) 1 1) ha hS fun b42 w a hb43 hS ha => ?_);refine ⟨.inr (hS.pickN 3 []), ?_⟩;refine qV 7 (o_ap 40 1 0 (encJ ((L.take k) ++ [x])) ha hS rfl rfl (by rw [encJ_length, List.length_take]; simp only [List.length_cons, List.length_nil]; omega) (encJ_snoc _ _) fun s47 w a hS hn48 ha => ?_);refine ⟨.inr (hS.pickN 3 []), ?_⟩;refine qV 11 (o_appT (j := k) (un := sa.n) (c := sa.c) (A := sa.A) (z := iv 0) (sz := 1) (bytes := 8) (xs' := encJ (((L.take k) ++ [x]) ++ L.drop k)) 1 2 ha (by decide) (xU (op := (Op.call { callee := (Callee.builtin Builtin.append), args := #[(Operand.tmp 40), (Operand.tmp 43)], argTypes := #[44, 44] })) (d := some 44) (ty := 44)) rfl rfl (by kernel_rfl) (by kernel_rfl) rfl (by decide) hS rfl rfl (by omega) (encJ_one _) (by rw [encJ_length, encJ_length]; simp only [List.length_append, List.length_take, List.length_cons, List.length_nil]; omega) (by decide) (encJ_tail hk) fun s49 w a hS ha => ?_);refine ⟨.inr (hS.pickN 3 []), ?_⟩;refine qY (k := 0) [(12, 4, .slice s49.A s49.n s49.c)] ha (.inr (hS.pickN 3 [])) fun a ha => ?_;refine xH ?_;replace ha := ha.as [(4, .slice s49.A s49.n s49.c)] rfl;replace hS : Sat w0 w ((SX.blk b42 [iv x] 3) :: (SX.row (.slice s49.A s49.n s49.c) 3 1 (encJ (((L.take k) ++ [x]) ++ L.drop k))) :: (SX.row (.slice sa.A sa.n sa.c) 3 1 (encJ L)) :: Rs) := hS;exact jJ ⟨s49, b42, ha.keeps [4] _ rfl, hS⟩
   refine id (qZ 39 [iv x] 3 (fun b => .slice (some ⟨b, 0, none⟩) 1 1) ha hS fun b50 w a hb51 hS ha => ?_);refine ⟨.inr (hS.pickN 3 []), ?_⟩;refine qV 4 (o_appRow0 (m := k) (z := iv 0) (sz := 1) (bytes := 8) (ys' := encJ (L.take k)) 1 2 ha (by decide) (xU (op := (Op.call { callee := (Callee.builtin Builtin.append), args := #[(Operand.tmp 33), (Operand.tmp 36)], argTypes := #[44, 44] })) (d := some 37) (ty := 44)) rfl rfl (by kernel_rfl) (by kernel_rfl) rfl (by decide) hS rfl rfl (by omega) (encJ_one _) (by rw [encJ_length]; omega) (by decide) (encJ_take _ _) fun s52 w a hS hn53 ha => ?_);refine ⟨.inr (hS.pickN 3 []), ?_⟩;refine qV 7 (o_ap 40 1 0 (encJ ((L.take k) ++ [x])) ha hS rfl rfl (by rw [encJ_length, List.length_take]; simp only [List.length_cons, List.length_nil]; omega) (encJ_snoc _ _) fun s57 w a hS hn58 ha => ?_);refine ⟨.inr (hS.pickN 3 []), ?_⟩;refine qV 11 (o_appT (j := k) (un := sa.n) (c := sa.c) (A := sa.A) (z := iv 0) (sz := 1) (bytes := 8) (xs' := encJ (((L.take k) ++ [x]) ++ L.drop k)) 1 2 ha (by decide) (xU (op := (Op.call { callee := (Callee.builtin Builtin.append), args := #[(Operand.tmp 40), (Operand.tmp 43)], argTypes := #[44, 44] })) (d := some 44) (ty := 44)) rfl rfl (by kernel_rfl) (by kernel_rfl) rfl (by decide) hS rfl rfl (by omega) (encJ_one _) (by rw [encJ_length, encJ_length]; simp only [List.length_append, List.length_take, List.length_cons, List.length_nil]; omega) (by decide) (encJ_tail hk) fun s59 w a hS ha => ?_);refine ⟨.inr (hS.pickN 3 []), ?_⟩;refine qY (k := 0) [(12, 4, .slice s59.A s59.n s59.c)] ha (.inr (hS.pickN 3 [])) fun a ha => ?_;refine xH ?_;replace ha := ha.as [(4, .slice s59.A s59.n s59.c)] rfl;replace hS : Sat w0 w ((SX.blk b50 [iv x] 3) :: (SX.row (.slice s59.A s59.n s59.c) 3 1 (encJ (((L.take k) ++ [x]) ++ L.drop k))) :: (SX.row (.slice sa.A sa.n sa.c) 3 1 (encJ L)) :: Rs) := hS;exact jJ ⟨s59, b50, ha.keeps [4] _ rfl, hS⟩
  refine id (qZ 39 [iv x] 3 (fun b => .slice (some ⟨b, 0, none⟩) 1 1) ha hS fun b60 w a hb61 hS ha => ?_)
  refine ⟨.inr (hS.pickN 2 []), ?_⟩
  refine qV 0 (qZ 33 [] 3 (fun b => .slice (some ⟨b, 0, none⟩) 0 0) ha hS fun b62 w a hb63 hS ha => ?_)
  refine ⟨.inr (hS.pickN 3 []), ?_⟩
  refine qV 4 (o_appRow0 (m := k) (z := iv 0) (sz := 1) (bytes := 8) (ys' := encJ (L.take k)) 0 2 ha (by decide) (xU (op := (Op.call { callee := (Callee.builtin Builtin.append), args := #[(Operand.tmp 33), (Operand.tmp 36)], argTypes := #[44, 44] })) (d := some 37) (ty := 44)) rfl rfl (by kernel_rfl) (by kernel_rfl) rfl (by decide) hS rfl rfl (by omega) (encJ_one _) (by rw [encJ_length]; omega) (by decide) (encJ_take _ _) fun s64 w a hS hn65 ha => ?_)
  refine ⟨.inr (hS.pickN 3 []), ?_⟩
  refine qV 7 (o_ap 40 0 1 (encJ ((L.take k) ++ [x])) ha hS rfl rfl (by rw [encJ_length, List.length_take]; simp only [List.length_cons, List.length_nil]; omega) (encJ_snoc _ _) fun s69 w a hS hn70 ha => ?_)
  refine ⟨.inr (hS.pickN 3 []), ?_⟩
  refine qV 11 (o_appT (j := k) (un := sa.n) (c := sa.c) (A := sa.A) (z := iv 0) (sz := 1) (bytes := 8) (xs' := encJ (((L.take k) ++ [x]) ++ L.drop k)) 0 2 ha (by decide) (xU (op := (Op.call { callee := (Callee.builtin Builtin.append), args := #[(Operand.tmp 40), (Operand.tmp 43)], argTypes := #[44, 44] })) (d := some 44) (ty := 44)) rfl rfl (by kernel_rfl) (by kernel_rfl) rfl (by decide) hS rfl rfl (by omega) (encJ_one _) (by rw [encJ_length, encJ_length]; simp only [List.length_append, List.length_take, List.length_cons, List.length_nil]; omega) (by decide) (encJ_tail hk) fun s71 w a hS ha => ?_)
  refine ⟨.inr (hS.pickN 3 []), ?_⟩
  refine qY (k := 0) [(12, 4, .slice s71.A s71.n s71.c)] ha (.inr (hS.pickN 3 [])) fun a ha => ?_
  refine xH ?_
  replace ha := ha.as [(4, .slice s71.A s71.n s71.c)] rfl
  replace hS := hS.pickN 3 [1, 0, 2]
  exact jJ ⟨s71, b60, ha.keeps [4] _ rfl, hS⟩
 rintro a w ⟨g2_0, g2_1, ha, hS⟩
 refine wp_ret (qQ ha (by kernel_rfl) (qU (t := 4) ha rfl) ?_)
 have hE : put1 L x = L.take k ++ [x] ++ L.drop k := put1_new hk hless (fun y9 hy9 => by rw [List.getElem?_eq_none (by omega)] at hy9; cases hy9)
 rw [hE]
 have hn9 := hS.rowL (s := g2_0) (enc := cellsJ) 1 cellsJ_len (by decide) rfl
 exact ⟨g2_0, rfl, hn9, hS.pickN 3 [1], hS.pickN 3 [2]⟩
theorem put1_sat {w0 w : World} {Rs : List Asn} {sa : Sl} {L : List Int} {x : Int} (hS : Sat w0 w (SX.row (.slice sa.A sa.n sa.c) 3 1 (SX.encI L) :: Rs)) (hL : L.length ≤ 1000000) :
  Calls Try.prog 128 #[.slice sa.A sa.n sa.c, .int .i64 x] w (Ret fun r w' => ∃ o : Sl, r = .slice o.A o.n o.c ∧ Sat w0 w' (SX.row (.slice o.A o.n o.c) 3 1 (SX.encI (put1 L x)) :: Rs)) :=
 (put1_satB hS hL).mono fun e w' h => by
  cases e with
  | returned r => obtain ⟨o, h1, _, h2, _⟩ := h; exact ⟨o, h1, h2⟩
  | _ => exact h.elim
theorem code130 : Try.f130.body = some (Code.seq (cr Try.f130 0 false) (Code.seq (cr Try.f130 1 false) (Code.seq (cr Try.f130 2 false) Code.ret))) := by kernel_rfl
theorem asc_sat {w0 w : World} {Rs : List Asn} {sa : Sl} {L : List Int} (hS : Sat w0 w (SX.row (.slice sa.A sa.n sa.c) 3 1 (SX.encI L) :: Rs)) (hL : L.length ≤ 1000000) :
  Calls Try.prog 130 #[.slice sa.A sa.n sa.c] w (Ret fun r w' => ∃ o : Sl, r = .slice o.A o.n o.c ∧ Sat w0 w' (SX.row (.slice o.A o.n o.c) 3 1 (SX.encI (asc L)) :: Rs)) := by
 refine enter (n := 7) Try.func130 code130 (by kernel_rfl) (Nat.le_of_ble_eq_true rfl) (fun a ha => ?_)
 replace ha : Has 7 [(0, .slice sa.A sa.n sa.c)] a := ha
 refine wp_seq (jX [0] (jY [(0, 2, .slice none 0 0)] ha fun a ha => ?_))
 refine jZ (jJ (wp_seq (jX [0, 1] (jY [(0, 3, .slice sa.A sa.n sa.c)] ha fun a ha => ?_))))
 refine jV (qK 4 (vs := [.slice sa.A sa.n sa.c]) ha (sort_sat hS hL) fun v1 w a hp2 ha => ?_)
 obtain ⟨rfl, hS⟩ := hp2
 refine jZ (jJ (wp_seq (jX [0, 1, 2] (jY [(0, 5, .slice sa.A sa.n sa.c)] ha fun a ha => ?_))))
 refine jV (qK 6 (vs := [.slice sa.A sa.n sa.c]) ha (compact_sat hS (by rw [List.length_mergeSort]; exact hL)) fun v3 w a hp4 ha => ?_)
 obtain ⟨o, rfl, hS⟩ := hp4
 refine jY [(2, 2, .slice o.A o.n o.c)] ha fun a ha => ?_
 refine jZ (jJ (wp_ret (qQ ha (by kernel_rfl) (qU (t := 2) ha rfl) ?_)))
 exact ⟨o, rfl, hS⟩
def okJ (b : List ST) : Prop := ∀ x ∈ b, x.f0 = 11 → 0 ≤ x.f1
theorem nodup_len : ∀ (n : Nat) (O : List Int), O.Nodup → (∀ x ∈ O, 0 ≤ x ∧ x < (n : Int)) → O.length ≤ n
 | 0, O, _, h => by
  cases O with
  | nil => simp
  | cons x O => have := h x (by simp); omega
 | n + 1, O, hd, h => by
  have h1 := nodup_len n (O.erase (n : Int)) (hd.erase _) (fun x hx => by have h2 := (List.Nodup.mem_erase_iff hd).1 hx; have h3 := h x h2.2; have h4 := h2.1; omega)
  by_cases hm : (n : Int) ∈ O
  · rw [List.length_erase_of_mem hm] at h1; omega
  · rw [List.erase_of_not_mem hm] at h1; omega
end Go.Proofs.Ytpenhegoilccoaa.G
