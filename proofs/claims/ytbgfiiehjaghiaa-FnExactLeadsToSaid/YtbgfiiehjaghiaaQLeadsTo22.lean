/- What the claim FnExactLeadsTo rests on, part 22 of 23; the last part proves it: for every input the law answers true, and its arguments read behind the call as before it. No condition. -/
import Derived.Test.YtbgfiiehjaghiaaQLeadsTo18
import Derived.Test.YtbgfiiehjaghiaaQLeadsTo19
import Derived.Test.YtbgfiiehjaghiaaQLeadsTo21
set_option linter.unusedSimpArgs false
set_option linter.unusedVariables false
set_option maxRecDepth 20000
set_option maxHeartbeats 1000000
namespace Go.Proofs.Ytbgfiiehjaghiaa.G
open Go.RowKit Go.Proofs.Ytbgfiiehjaghiaa.SX Go.Proofs.YtbgfiiehjaghiaaW.PrintWords Go.Proofs.YtbgfiiehjaghiaaW.PrintLast Go.Proofs.YtbgfiiehjaghiaaW.PrintMore
theorem encJ_one : ∀ l : List Int, (encJ l).all Value.oneCell' = true
 | [] => rfl
 | x :: l => by show (cellsJ x ++ encJ l).all _ = true; rw [List.all_append, encJ_one l]; rfl
theorem encJ_take (l : List Int) (j : Nat) : (encJ l).take (j * 1) = encJ (l.take j) := flat_take cellsJ_len l j
theorem encJ_snoc (l : List Int) (x : Int) : encJ l ++ [.int .i64 x] = encJ (l ++ [x]) := by simp [encJ, cellsJ]
theorem encJ_tail {l1 l : List Int} {j : Nat} (hj : j ≤ l.length) : encJ l1 ++ (encJ l).drop (j * 1) = encJ (l1 ++ l.drop j) := by
 have h : (encJ l).drop (j * 1) = encJ (l.drop j) := by
  conv => lhs; rw [← List.take_append_drop j l]
  show ((l.take j ++ l.drop j).flatMap cellsJ).drop _ = _
  rw [List.flatMap_append, List.drop_left']
  · rfl
  · rw [flat_length cellsJ_len, List.length_take, Nat.min_eq_left hj]
 rw [h]
 simp [encJ]
theorem code112 : Try.f112.body = some (Code.seq (cr Try.f112 0 false) (Code.seq (cr Try.f112 1 false) (Code.seq (Code.block 0 (Code.loop (Code.seq (Code.seq (cr Try.f112 2 false) (Code.cond (Operand.tmp 17) Code.skip (Code.exit 0))) (Code.block 1 (cr Try.f112 3 false))))) (Code.seq (Code.seq (cr Try.f112 4 false) (Code.cond (Operand.tmp 31) (Code.seq (cr Try.f112 5 false) Code.ret) Code.skip)) (Code.seq (cr Try.f112 6 true) Code.ret))))) := by kernel_rfl
theorem put1_satB {w0 w : World} {Rs : List Asn} {sa : Sl} {L : List Int} {x : Int} (hS : Sat w0 w (SX.row (.slice sa.A sa.n sa.c) 3 1 (SX.encI L) :: Rs)) (hL : L.length ≤ 1000000) :
  Calls Try.prog 112 #[.slice sa.A sa.n sa.c, .int .i64 x] w (Ret fun r w' => ∃ o : Sl, r = .slice o.A o.n o.c ∧ o.n = (put1 L x).length ∧ Sat w0 w' (SX.row (.slice o.A o.n o.c) 3 1 (SX.encI (put1 L x)) :: Rs) ∧ Sat w0 w' (SX.row (.slice sa.A sa.n sa.c) 3 1 (SX.encI L) :: Rs)) := by
 simp only [encJ_I] at hS ⊢
 have han : sa.n = L.length := hS.rowL (s := sa) (enc := cellsJ) 0 cellsJ_len (by decide) rfl
 have hac := (hS.rowC (s := sa) 0 rfl).1
 refine enter (n := 45) Try.func112 code112 (by kernel_rfl) (Nat.le_of_ble_eq_true rfl) (fun a ha => ?_)
 replace ha : Has 45 [(0, .slice sa.A sa.n sa.c), (1, iv x)] a := ha
 refine wp_seq (jX [0] (jY [(0, 4, .slice none 0 0)] ha fun a ha => ?_))
 refine jZ (jQ (wp_seq (jX [0] (jY [(0, 5, iv 0)] ha fun a ha => ?_))))
 refine jZ (jQ (wp_seq (wp_block ?_)))
 replace hS : Sat w0 w ((SX.row (.slice sa.A sa.n sa.c) 3 1 (encJ L)) :: Rs) := hS
 refine wp_loop_ghost (fun n_ a_ w_ => ∃ (k : Nat), n_ = L.length - k ∧ (k ≤ L.length) ∧ (∀ j : Nat, j < k → ∃ y, L[j]? = some y ∧ y < x) ∧ Has 45 [(0, .slice sa.A sa.n sa.c), (1, iv x), (4, .slice none 0 0), (5, iv (k : Int))] a_ ∧ Sat w0 w_ ((SX.row (.slice sa.A sa.n sa.c) 3 1 (encJ L)) :: Rs)) _ ⟨0, rfl, Nat.zero_le _, (fun j hj => by omega), ha.keeps [0, 1, 4, 5] _ rfl, hS⟩ ?_
 rintro n_ a w ⟨k, rfl, hk, hless, ha, hS⟩
 refine wp_seq (wp_seq (jX [0, 1, 2, 3, 4, 5, 6, 7, 8, 9, 10, 11] (jY [(0, 6, iv (k : Int)), (1, 7, .slice sa.A sa.n sa.c), (2, 8, iv (sa.n : Int)), (3, 9, .bool (decide ((k : Int) < (sa.n : Int)))), (4, 10, .bool (decide ((k : Int) < (sa.n : Int))))] ha fun a ha => ?_)))
 by_cases c1 : (k : Int) < (sa.n : Int)
 ·
  replace ha := ha.turn 9 (.bool true) rfl (congrArg Value.bool (decide_eq_true c1))
  replace ha := ha.turn 10 (.bool true) rfl (congrArg Value.bool (decide_eq_true c1))
  obtain ⟨y, hy⟩ : ∃ y, L[k]? = some y := ⟨_, List.getElem?_eq_getElem (by omega)⟩
  refine jY [(5, 11, .slice sa.A sa.n sa.c), (6, 12, iv (k : Int))] ha fun a ha => ?_
  refine qK (.pointer (some ⟨bk sa, k * 1, none⟩)) ha (yU (s := sa) (el := 3) (sz := 1) (j := k) ha (AtG.here (gd := 10) ⟨(by kernel_rfl : ((jK Try.f112 2)[7]?).map spec = some ((Op.indexAddr 37 (Operand.tmp 11) (Operand.tmp 12)), some 13, 0, some (4, true))), by kernel_rfl⟩ ha rfl) rfl rfl (by kernel_rfl) (by kernel_rfl) (hS.rowA (s := sa) 0 rfl (by have := (List.getElem?_eq_some_iff.1 hy).1; rw [encJ_length]; omega)) (rfl) (by have h9 := hS.rowL (s := sa) (enc := cellsJ) 0 cellsJ_len (by decide) rfl; have := (List.getElem?_eq_some_iff.1 hy).1; omega)) fun a ha => ?_
  refine qK (iv y) ha (qG ha (AtG.here (gd := 10) ⟨(by kernel_rfl : ((jK Try.f112 2)[8]?).map spec = some ((Op.load 3 (Operand.tmp 13)), some 14, 3, some (4, true))), by kernel_rfl⟩ ha rfl) rfl (by kernel_rfl) (fun w' hw => by rw [hw]; exact (hS.rdC (s := sa) 0 rfl).cells _ _ ((flat_get (enc := cellsJ) (o := 0) cellsJ_len hy (by decide)).trans rfl))) fun a ha => ?_
  refine jY [(9, 15, iv x), (10, 16, .bool (decide (y < x))), (11, 17, .bool (decide (y < x)))] ha fun a ha => ?_
  refine jZ (jQ ?_)
  by_cases c2 : y < x
  ·
   refine jH ha rfl (decide_eq_true c2) ?_;refine wp_skip (jQ (wp_block (jX [0, 1, 2] (jY [(0, 18, iv (k : Int))] ha fun a ha => ?_))));refine xV 19 ((k : Int) + 1) ha fun a ha => ?_;refine jY [(2, 5, iv ((k : Int) + 1))] ha fun a ha => ?_;refine jZ (in_n (jQ ?_));replace hS : Sat w0 w ((SX.row (.slice sa.A sa.n sa.c) 3 1 (encJ L)) :: Rs) := hS;exact ⟨_, by omega, k + 1, rfl, by omega, put1_next hless hy (by omega), ha.keeps [0, 1, 4, 5] _ rfl, hS⟩
  refine jV ha rfl (decide_eq_false c2) ?_
  refine wp_exit (qV (qV (in_x (jQ (wp_seq (wp_seq (jX [0, 1, 2, 3, 4, 5, 6, 7, 8, 9, 10, 11] (jY [(0, 20, iv (k : Int)), (1, 21, .slice sa.A sa.n sa.c), (2, 22, iv (sa.n : Int)), (3, 23, .bool (decide ((k : Int) < (sa.n : Int)))), (4, 24, .bool (decide ((k : Int) < (sa.n : Int))))] ha fun a ha => ?_))))))))
  replace ha := ha.turn 23 (.bool true) rfl (congrArg Value.bool (decide_eq_true c1))
  replace ha := ha.turn 24 (.bool true) rfl (congrArg Value.bool (decide_eq_true c1))
  refine jY [(5, 25, .slice sa.A sa.n sa.c), (6, 26, iv (k : Int))] ha fun a ha => ?_
  refine qK (.pointer (some ⟨bk sa, k * 1, none⟩)) ha (yU (s := sa) (el := 3) (sz := 1) (j := k) ha (AtG.here (gd := 24) ⟨(by kernel_rfl : ((jK Try.f112 4)[7]?).map spec = some ((Op.indexAddr 37 (Operand.tmp 25) (Operand.tmp 26)), some 27, 0, some (4, true))), by kernel_rfl⟩ ha rfl) rfl rfl (by kernel_rfl) (by kernel_rfl) (hS.rowA (s := sa) 0 rfl (by have := (List.getElem?_eq_some_iff.1 hy).1; rw [encJ_length]; omega)) (rfl) (by have h9 := hS.rowL (s := sa) (enc := cellsJ) 0 cellsJ_len (by decide) rfl; have := (List.getElem?_eq_some_iff.1 hy).1; omega)) fun a ha => ?_
  refine qK (iv y) ha (qG ha (AtG.here (gd := 24) ⟨(by kernel_rfl : ((jK Try.f112 4)[8]?).map spec = some ((Op.load 3 (Operand.tmp 27)), some 28, 3, some (4, true))), by kernel_rfl⟩ ha rfl) rfl (by kernel_rfl) (fun w' hw => by rw [hw]; exact (hS.rdC (s := sa) 0 rfl).cells _ _ ((flat_get (enc := cellsJ) (o := 0) cellsJ_len hy (by decide)).trans rfl))) fun a ha => ?_
  refine jY [(9, 29, iv x), (10, 30, .bool (decide (y = x))), (11, 31, .bool (decide (y = x)))] ha fun a ha => ?_
  refine jZ ?_
  replace ha := ha.as [(0, .slice sa.A sa.n sa.c), (1, iv x), (4, .slice none 0 0), (5, iv (k : Int)), (31, .bool (decide (y = x)))] rfl
  refine jQ ?_
  by_cases c3 : y = x
  ·
   refine jH ha rfl (decide_eq_true c3) ?_;refine wp_seq (jX [0, 1] (jY [(0, 32, .slice sa.A sa.n sa.c), (1, 4, .slice sa.A sa.n sa.c)] ha fun a ha => ?_));refine jZ (jQ (wp_ret (qW (qJ ha (by kernel_rfl) (qY (t := 4) ha rfl) ?_))));have hE : put1 L x = L := put1_at hless hy c3;rw [hE];replace hS := hS.pickN 1 [0];exact ⟨sa, rfl, han, hS, hS⟩
  refine jV ha rfl (decide_eq_false c3) ?_
  refine wp_skip (jQ (zJ (J := fun a_ w_ => ∃ (g1_0 : Sl) (g1_1 : Nat), Has 45 [(4, .slice g1_0.A g1_0.n g1_0.c)] a_ ∧ Sat w0 w_ ((SX.blk g1_1 [iv x] 3) :: (SX.row (.slice g1_0.A g1_0.n g1_0.c) 3 1 (encJ (((L.take k) ++ [x]) ++ L.drop k))) :: (SX.row (.slice sa.A sa.n sa.c) 3 1 (encJ L)) :: Rs)) ?_ ?_))
  ·
   refine xK 13 13 (hS.pickN 1 []) hS fun w hS => ?_;refine qQ (k := 11) [(1, 34, .slice sa.A sa.n sa.c), (2, 35, iv (k : Int))] ha (.inr (hS.pickN 1 [])) fun a ha => ?_;refine xU 3 (.slice sa.A k sa.c) ha (v_takeZ (el := 3) (j := k) ha (xQ (op := (Op.slice 37 (Operand.tmp 34) none (some (Operand.tmp 35)) none)) (d := some 36) (ty := 37)) rfl rfl (by kernel_rfl) (by kernel_rfl) rfl (by omega) hac) (.inr (hS.pickN 1 [])) fun a ha => ?_;refine qQ (k := 7) [(5, 38, iv x), (8, 41, .slice sa.A sa.n sa.c), (9, 42, iv (k : Int))] ha (.inr (hS.pickN 1 [])) fun a ha => ?_;refine xU 10 (.slice (tailA sa.A k 1 sa.c) (sa.n - k) (sa.c - k)) ha (v_dropZ (el := 3) (sz := 1) (j := k) ha (xQ (op := (Op.slice 37 (Operand.tmp 41) (some (Operand.tmp 42)) none none)) (d := some 43) (ty := 37)) rfl rfl (by kernel_rfl) (by kernel_rfl) rfl (by omega) hac) (.inr (hS.pickN 1 [])) fun a ha => ?_;refine d_all (rs := [0, 6]) (by kernel_rfl) (by simp) (forall_mem_2 ?_ ?_)
   ·
    refine id (qZ 33 [] 3 (fun b => .slice (some ⟨b, 0, none⟩) 0 0) ha hS fun b4 w a hb5 hS ha => ?_);refine ⟨.inr (hS.pickN 2 []), ?_⟩;refine d_all (rs := [4, 6]) (by kernel_rfl) (by simp) (forall_mem_2 ?_ ?_)
    ·
     refine id (o_appRow0 (m := k) (z := iv 0) (sz := 1) (bytes := 8) (ys' := encJ (L.take k)) 0 1 ha (by decide) (xQ (op := (Op.call { callee := (Callee.builtin Builtin.append), args := #[(Operand.tmp 33), (Operand.tmp 36)], argTypes := #[37, 37] })) (d := some 37) (ty := 37)) rfl rfl (by kernel_rfl) (by kernel_rfl) rfl (by decide) hS rfl rfl (by omega) (encJ_one _) (by rw [encJ_length]; omega) (by decide) (encJ_take _ _) fun s6 w a hS hn7 ha => ?_);refine ⟨.inr (hS.pickN 2 []), ?_⟩;refine qU 6 (qZ 39 [iv x] 3 (fun b => .slice (some ⟨b, 0, none⟩) 1 1) ha hS fun b8 w a hb9 hS ha => ?_);refine ⟨.inr (hS.pickN 3 []), ?_⟩;refine qU 7 (o_ap 40 1 0 (encJ ((L.take k) ++ [x])) ha hS rfl rfl (by rw [encJ_length, List.length_take]; simp only [List.length_cons, List.length_nil]; omega) (encJ_snoc _ _) fun s13 w a hS hn14 ha => ?_);refine ⟨.inr (hS.pickN 3 []), ?_⟩;refine qU 11 (o_appT (j := k) (un := sa.n) (c := sa.c) (A := sa.A) (z := iv 0) (sz := 1) (bytes := 8) (xs' := encJ (((L.take k) ++ [x]) ++ L.drop k)) 1 2 ha (by decide) (xQ (op := (Op.call { callee := (Callee.builtin Builtin.append), args := #[(Operand.tmp 40), (Operand.tmp 43)], argTypes := #[37, 37] })) (d := some 44) (ty := 37)) rfl rfl (by kernel_rfl) (by kernel_rfl) rfl (by decide) hS rfl rfl (by omega) (encJ_one _) (by rw [encJ_length, encJ_length]; simp only [List.length_append, List.length_take, List.length_cons, List.length_nil]; omega) (by decide) (encJ_tail hk) fun s15 w a hS ha => ?_);refine ⟨.inr (hS.pickN 3 []), ?_⟩;refine qQ (k := 0) [(12, 4, .slice s15.A s15.n s15.c)] ha (.inr (hS.pickN 3 [])) fun a ha => ?_;refine xW ?_;replace ha := ha.as [(4, .slice s15.A s15.n s15.c)] rfl;replace hS : Sat w0 w ((SX.blk b8 [iv x] 3) :: (SX.row (.slice s15.A s15.n s15.c) 3 1 (encJ (((L.take k) ++ [x]) ++ L.drop k))) :: (SX.row (.slice sa.A sa.n sa.c) 3 1 (encJ L)) :: Rs) := hS;exact jQ ⟨s15, b8, ha.keeps [4] _ rfl, hS⟩
    refine id (qZ 39 [iv x] 3 (fun b => .slice (some ⟨b, 0, none⟩) 1 1) ha hS fun b16 w a hb17 hS ha => ?_);refine ⟨.inr (hS.pickN 3 []), ?_⟩;refine qU 4 (o_appRow0 (m := k) (z := iv 0) (sz := 1) (bytes := 8) (ys' := encJ (L.take k)) 1 2 ha (by decide) (xQ (op := (Op.call { callee := (Callee.builtin Builtin.append), args := #[(Operand.tmp 33), (Operand.tmp 36)], argTypes := #[37, 37] })) (d := some 37) (ty := 37)) rfl rfl (by kernel_rfl) (by kernel_rfl) rfl (by decide) hS rfl rfl (by omega) (encJ_one _) (by rw [encJ_length]; omega) (by decide) (encJ_take _ _) fun s18 w a hS hn19 ha => ?_);refine ⟨.inr (hS.pickN 3 []), ?_⟩;refine qU 7 (o_ap 40 1 0 (encJ ((L.take k) ++ [x])) ha hS rfl rfl (by rw [encJ_length, List.length_take]; simp only [List.length_cons, List.length_nil]; omega) (encJ_snoc _ _) fun s23 w a hS hn24 ha => ?_);refine ⟨.inr (hS.pickN 3 []), ?_⟩;refine qU 11 (o_appT (j := k) (un := sa.n) (c := sa.c) (A := sa.A) (z := iv 0) (sz := 1) (bytes := 8) (xs' := encJ (((L.take k) ++ [x]) ++ L.drop k)) 1 2 ha (by decide) (xQ (op := (Op.call { callee := (Callee.builtin Builtin.append), args := #[(Operand.tmp 40), (Operand.tmp 43)], argTypes := #[37, 37] })) (d := some 44) (ty := 37)) rfl rfl (by kernel_rfl) (by kernel_rfl) rfl (by decide) hS rfl rfl (by omega) (encJ_one _) (by rw [encJ_length, encJ_length]; simp only [List.length_append, List.length_take, List.length_cons, List.length_nil]; omega) (by decide) (encJ_tail hk) fun s25 w a hS ha => ?_);refine ⟨.inr (hS.pickN 3 []), ?_⟩;refine qQ (k := 0) [(12, 4, .slice s25.A s25.n s25.c)] ha (.inr (hS.pickN 3 [])) fun a ha => ?_;refine xW ?_;replace ha := ha.as [(4, .slice s25.A s25.n s25.c)] rfl;replace hS : Sat w0 w ((SX.blk b16 [iv x] 3) :: (SX.row (.slice s25.A s25.n s25.c) 3 1 (encJ (((L.take k) ++ [x]) ++ L.drop k))) :: (SX.row (.slice sa.A sa.n sa.c) 3 1 (encJ L)) :: Rs) := hS;exact jQ ⟨s25, b16, ha.keeps [4] _ rfl, hS⟩
   refine id (qZ 39 [iv x] 3 (fun b => .slice (some ⟨b, 0, none⟩) 1 1) ha hS fun b26 w a hb27 hS ha => ?_);refine ⟨.inr (hS.pickN 2 []), ?_⟩;refine qU 0 (qZ 33 [] 3 (fun b => .slice (some ⟨b, 0, none⟩) 0 0) ha hS fun b28 w a hb29 hS ha => ?_);refine ⟨.inr (hS.pickN 3 []), ?_⟩;refine qU 4 (o_appRow0 (m := k) (z := iv 0) (sz := 1) (bytes := 8) (ys' := encJ (L.take k)) 0 2 ha (by decide) (xQ (op := (Op.call { callee := (Callee.builtin Builtin.append), args := #[(Operand.tmp 33), (Operand.tmp 36)], argTypes := #[37, 37] })) (d := some 37) (ty := 37)) rfl rfl (by kernel_rfl) (by kernel_rfl) rfl (by decide) hS rfl rfl (by omega) (encJ_one _) (by rw [encJ_length]; omega) (by decide) (encJ_take _ _) fun s30 w a hS hn31 ha => ?_);refine ⟨.inr (hS.pickN 3 []), ?_⟩;refine qU 7 (o_ap 40 0 1 (encJ ((L.take k) ++ [x])) ha hS rfl rfl (by rw [encJ_length, List.length_take]; simp only [List.length_cons, List.length_nil]; omega) (encJ_snoc _ _) fun s35 w a hS hn36 ha => ?_);refine ⟨.inr (hS.pickN 3 []), ?_⟩;refine qU 11 (o_appT (j := k) (un := sa.n) (c := sa.c) (A := sa.A) (z := iv 0) (sz := 1) (bytes := 8) (xs' := encJ (((L.take k) ++ [x]) ++ L.drop k)) 0 2 ha (by decide) (xQ (op := (Op.call { callee := (Callee.builtin Builtin.append), args := #[(Operand.tmp 40), (Operand.tmp 43)], argTypes := #[37, 37] })) (d := some 44) (ty := 37)) rfl rfl (by kernel_rfl) (by kernel_rfl) rfl (by decide) hS rfl rfl (by omega) (encJ_one _) (by rw [encJ_length, encJ_length]; simp only [List.length_append, List.length_take, List.length_cons, List.length_nil]; omega) (by decide) (encJ_tail hk) fun s37 w a hS ha => ?_);refine ⟨.inr (hS.pickN 3 []), ?_⟩;refine qQ (k := 0) [(12, 4, .slice s37.A s37.n s37.c)] ha (.inr (hS.pickN 3 [])) fun a ha => ?_;refine xW ?_;replace ha := ha.as [(4, .slice s37.A s37.n s37.c)] rfl;replace hS := hS.pickN 3 [1, 0, 2];exact jQ ⟨s37, b26, ha.keeps [4] _ rfl, hS⟩
  rintro a w ⟨g1_0, g1_1, ha, hS⟩
  refine wp_ret (qJ ha (by kernel_rfl) (qY (t := 4) ha rfl) ?_)
  have hE : put1 L x = L.take k ++ [x] ++ L.drop k := put1_new hk hless (fun y9 hy9 => by obtain rfl := Option.some.inj (hy9.symm.trans hy); exact ⟨by omega, by omega⟩)
  rw [hE]
  have hn9 := hS.rowL (s := g1_0) (enc := cellsJ) 1 cellsJ_len (by decide) rfl
  exact ⟨g1_0, rfl, hn9, hS.pickN 3 [1], hS.pickN 3 [2]⟩
 replace ha := ha.turn 9 (.bool false) rfl (congrArg Value.bool (decide_eq_false c1))
 replace ha := ha.turn 10 (.bool false) rfl (congrArg Value.bool (decide_eq_false c1))
 refine jY [(5, 11, undef), (6, 12, undef), (7, 13, undef), (8, 14, undef), (9, 15, undef), (10, 16, undef), (11, 17, .bool false)] ha fun a ha => ?_
 refine jZ (jQ ?_)
 refine jV ha rfl rfl ?_
 refine wp_exit (qV (qV (in_x (jQ (wp_seq (wp_seq (jX [0, 1, 2, 3, 4, 5, 6, 7, 8, 9, 10, 11] (jY [(0, 20, iv (k : Int)), (1, 21, .slice sa.A sa.n sa.c), (2, 22, iv (sa.n : Int)), (3, 23, .bool (decide ((k : Int) < (sa.n : Int)))), (4, 24, .bool (decide ((k : Int) < (sa.n : Int))))] ha fun a ha => ?_))))))))
 replace ha := ha.turn 23 (.bool false) rfl (congrArg Value.bool (decide_eq_false c1))
 replace ha := ha.turn 24 (.bool false) rfl (congrArg Value.bool (decide_eq_false c1))
 refine jY [(5, 25, undef), (6, 26, undef), (7, 27, undef), (8, 28, undef), (9, 29, undef), (10, 30, undef), (11, 31, .bool false)] ha fun a ha => ?_
 refine jZ ?_
 replace ha := ha.as [(0, .slice sa.A sa.n sa.c), (1, iv x), (4, .slice none 0 0), (5, iv (k : Int)), (31, .bool false)] rfl
 refine jQ ?_
 refine jV ha rfl rfl ?_
 refine wp_skip (jQ (zJ (J := fun a_ w_ => ∃ (g2_0 : Sl) (g2_1 : Nat), Has 45 [(4, .slice g2_0.A g2_0.n g2_0.c)] a_ ∧ Sat w0 w_ ((SX.blk g2_1 [iv x] 3) :: (SX.row (.slice g2_0.A g2_0.n g2_0.c) 3 1 (encJ (((L.take k) ++ [x]) ++ L.drop k))) :: (SX.row (.slice sa.A sa.n sa.c) 3 1 (encJ L)) :: Rs)) ?_ ?_))
 ·
  refine xK 13 13 (hS.pickN 1 []) hS fun w hS => ?_
  refine qQ (k := 11) [(1, 34, .slice sa.A sa.n sa.c), (2, 35, iv (k : Int))] ha (.inr (hS.pickN 1 [])) fun a ha => ?_
  refine xU 3 (.slice sa.A k sa.c) ha (v_takeZ (el := 3) (j := k) ha (xQ (op := (Op.slice 37 (Operand.tmp 34) none (some (Operand.tmp 35)) none)) (d := some 36) (ty := 37)) rfl rfl (by kernel_rfl) (by kernel_rfl) rfl (by omega) hac) (.inr (hS.pickN 1 [])) fun a ha => ?_
  refine qQ (k := 7) [(5, 38, iv x), (8, 41, .slice sa.A sa.n sa.c), (9, 42, iv (k : Int))] ha (.inr (hS.pickN 1 [])) fun a ha => ?_
  refine xU 10 (.slice (tailA sa.A k 1 sa.c) (sa.n - k) (sa.c - k)) ha (v_dropZ (el := 3) (sz := 1) (j := k) ha (xQ (op := (Op.slice 37 (Operand.tmp 41) (some (Operand.tmp 42)) none none)) (d := some 43) (ty := 37)) rfl rfl (by kernel_rfl) (by kernel_rfl) rfl (by omega) hac) (.inr (hS.pickN 1 [])) fun a ha => ?_
  refine d_all (rs := [0, 6]) (by kernel_rfl) (by simp) (forall_mem_2 ?_ ?_)
  ·
   refine id (qZ 33 [] 3 (fun b => .slice (some ⟨b, 0, none⟩) 0 0) ha hS fun b38 w a hb39 hS ha => ?_);refine ⟨.inr (hS.pickN 2 []), ?_⟩;refine d_all (rs := [4, 6]) (by kernel_rfl) (by simp) (forall_mem_2 ?_ ?_)
   ·
    refine id (o_appRow0 (m := k) (z := iv 0) (sz := 1) (bytes := 8) (ys' := encJ (L.take k)) 0 1 ha (by decide) (xQ (op := (Op.call { callee := (Callee.builtin Builtin.append), args := #[(Operand.tmp 33), (Operand.tmp 36)], argTypes := #[37, 37] })) (d := some 37) (ty := 37)) rfl rfl (by kernel_rfl) (by kernel_rfl) rfl (by decide) hS rfl rfl (by omega) (encJ_one _) (by rw [encJ_length]; omega) (by decide) (encJ_take _ _) fun s40 w a hS hn41 ha => ?_);refine ⟨.inr (hS.pickN 2 []), ?_⟩;refine qU 6 (qZ 39 [iv x] 3 (fun b => .slice (some ⟨b, 0, none⟩) 1 1) ha hS fun b42 w a hb43 hS ha => ?_);refine ⟨.inr (hS.pickN 3 []), ?_⟩;refine qU 7 (o_ap 40 1 0 (encJ ((L.take k) ++ [x])) ha hS rfl rfl (by rw [encJ_length, List.length_take]; simp only [List.length_cons, List.length_nil]; omega) (encJ_snoc _ _) fun s47 w a hS hn48 ha => ?_);refine ⟨.inr (hS.pickN 3 []), ?_⟩;refine qU 11 (o_appT (j := k) (un := sa.n) (c := sa.c) (A := sa.A) (z := iv 0) (sz := 1) (bytes := 8) (xs' := encJ (((L.take k) ++ [x]) ++ L.drop k)) 1 2 ha (by decide) (xQ (op := (Op.call { callee := (Callee.builtin Builtin.append), args := #[(Operand.tmp 40), (Operand.tmp 43)], argTypes := #[37, 37] })) (d := some 44) (ty := 37)) rfl rfl (by kernel_rfl) (by kernel_rfl) rfl (by decide) hS rfl rfl (by omega) (encJ_one _) (by rw [encJ_length, encJ_length]; simp only [List.length_append, List.length_take, List.length_cons, List.length_nil]; omega) (by decide) (encJ_tail hk) fun s49 w a hS ha => ?_);refine ⟨.inr (hS.pickN 3 []), ?_⟩;refine qQ (k := 0) [(12, 4, .slice s49.A s49.n s49.c)] ha (.inr (hS.pickN 3 [])) fun a ha => ?_;refine xW ?_;replace ha := ha.as [(4, .slice s49.A s49.n s49.c)] rfl;replace hS : Sat w0 w ((SX.blk b42 [iv x] 3) :: (SX.row (.slice s49.A s49.n s49.c) 3 1 (encJ (((L.take k) ++ [x]) ++ L.drop k))) :: (SX.row (.slice sa.A sa.n sa.c) 3 1 (encJ L)) :: Rs) := hS;exact jQ ⟨s49, b42, ha.keeps [4] _ rfl, hS⟩
   refine id (qZ 39 [iv x] 3 (fun b => .slice (some ⟨b, 0, none⟩) 1 1) ha hS fun b50 w a hb51 hS ha => ?_);refine ⟨.inr (hS.pickN 3 []), ?_⟩;refine qU 4 (o_appRow0 (m := k) (z := iv 0) (sz := 1) (bytes := 8) (ys' := encJ (L.take k)) 1 2 ha (by decide) (xQ (op := (Op.call { callee := (Callee.builtin Builtin.append), args := #[(Operand.tmp 33), (Operand.tmp 36)], argTypes := #[37, 37] })) (d := some 37) (ty := 37)) rfl rfl (by kernel_rfl) (by kernel_rfl) rfl (by decide) hS rfl rfl (by omega) (encJ_one _) (by rw [encJ_length]; omega) (by decide) (encJ_take _ _) fun s52 w a hS hn53 ha => ?_);refine ⟨.inr (hS.pickN 3 []), ?_⟩;refine qU 7 (o_ap 40 1 0 (encJ ((L.take k) ++ [x])) ha hS rfl rfl (by rw [encJ_length, List.length_take]; simp only [List.length_cons, List.length_nil]; omega) (encJ_snoc _ _) fun s57 w a hS hn58 ha => ?_);refine ⟨.inr (hS.pickN 3 []), ?_⟩;refine qU 11 (o_appT (j := k) (un := sa.n) (c := sa.c) (A := sa.A) (z := iv 0) (sz := 1) (bytes := 8) (xs' := encJ (((L.take k) ++ [x]) ++ L.drop k)) 1 2 ha (by decide) (xQ (op := (Op.call { callee := (Callee.builtin Builtin.append), args := #[(Operand.tmp 40), (Operand.tmp 43)], argTypes := #[37, 37] })) (d := some 44) (ty := 37)) rfl rfl (by kernel_rfl) (by kernel_rfl) rfl (by decide) hS rfl rfl (by omega) (encJ_one _) (by rw [encJ_length, encJ_length]; simp only [List.length_append, List.length_take, List.length_cons, List.length_nil]; omega) (by decide) (encJ_tail hk) fun s59 w a hS ha => ?_);refine ⟨.inr (hS.pickN 3 []), ?_⟩;refine qQ (k := 0) [(12, 4, .slice s59.A s59.n s59.c)] ha (.inr (hS.pickN 3 [])) fun a ha => ?_;refine xW ?_;replace ha := ha.as [(4, .slice s59.A s59.n s59.c)] rfl;replace hS : Sat w0 w ((SX.blk b50 [iv x] 3) :: (SX.row (.slice s59.A s59.n s59.c) 3 1 (encJ (((L.take k) ++ [x]) ++ L.drop k))) :: (SX.row (.slice sa.A sa.n sa.c) 3 1 (encJ L)) :: Rs) := hS;exact jQ ⟨s59, b50, ha.keeps [4] _ rfl, hS⟩
  refine id (qZ 39 [iv x] 3 (fun b => .slice (some ⟨b, 0, none⟩) 1 1) ha hS fun b60 w a hb61 hS ha => ?_)
  refine ⟨.inr (hS.pickN 2 []), ?_⟩
  refine qU 0 (qZ 33 [] 3 (fun b => .slice (some ⟨b, 0, none⟩) 0 0) ha hS fun b62 w a hb63 hS ha => ?_)
  refine ⟨.inr (hS.pickN 3 []), ?_⟩
  refine qU 4 (o_appRow0 (m := k) (z := iv 0) (sz := 1) (bytes := 8) (ys' := encJ (L.take k)) 0 2 ha (by decide) (xQ (op := (Op.call { callee := (Callee.builtin Builtin.append), args := #[(Operand.tmp 33), (Operand.tmp 36)], argTypes := #[37, 37] })) (d := some 37) (ty := 37)) rfl rfl (by kernel_rfl) (by kernel_rfl) rfl (by decide) hS rfl rfl (by omega) (encJ_one _) (by rw [encJ_length]; omega) (by decide) (encJ_take _ _) fun s64 w a hS hn65 ha => ?_)
  refine ⟨.inr (hS.pickN 3 []), ?_⟩
  refine qU 7 (o_ap 40 0 1 (encJ ((L.take k) ++ [x])) ha hS rfl rfl (by rw [encJ_length, List.length_take]; simp only [List.length_cons, List.length_nil]; omega) (encJ_snoc _ _) fun s69 w a hS hn70 ha => ?_)
  refine ⟨.inr (hS.pickN 3 []), ?_⟩
  refine qU 11 (o_appT (j := k) (un := sa.n) (c := sa.c) (A := sa.A) (z := iv 0) (sz := 1) (bytes := 8) (xs' := encJ (((L.take k) ++ [x]) ++ L.drop k)) 0 2 ha (by decide) (xQ (op := (Op.call { callee := (Callee.builtin Builtin.append), args := #[(Operand.tmp 40), (Operand.tmp 43)], argTypes := #[37, 37] })) (d := some 44) (ty := 37)) rfl rfl (by kernel_rfl) (by kernel_rfl) rfl (by decide) hS rfl rfl (by omega) (encJ_one _) (by rw [encJ_length, encJ_length]; simp only [List.length_append, List.length_take, List.length_cons, List.length_nil]; omega) (by decide) (encJ_tail hk) fun s71 w a hS ha => ?_)
  refine ⟨.inr (hS.pickN 3 []), ?_⟩
  refine qQ (k := 0) [(12, 4, .slice s71.A s71.n s71.c)] ha (.inr (hS.pickN 3 [])) fun a ha => ?_
  refine xW ?_
  replace ha := ha.as [(4, .slice s71.A s71.n s71.c)] rfl
  replace hS := hS.pickN 3 [1, 0, 2]
  exact jQ ⟨s71, b60, ha.keeps [4] _ rfl, hS⟩
 rintro a w ⟨g2_0, g2_1, ha, hS⟩
 refine wp_ret (qJ ha (by kernel_rfl) (qY (t := 4) ha rfl) ?_)
 have hE : put1 L x = L.take k ++ [x] ++ L.drop k := put1_new hk hless (fun y9 hy9 => by rw [List.getElem?_eq_none (by omega)] at hy9; cases hy9)
 rw [hE]
 have hn9 := hS.rowL (s := g2_0) (enc := cellsJ) 1 cellsJ_len (by decide) rfl
 exact ⟨g2_0, rfl, hn9, hS.pickN 3 [1], hS.pickN 3 [2]⟩
theorem put1_sat {w0 w : World} {Rs : List Asn} {sa : Sl} {L : List Int} {x : Int} (hS : Sat w0 w (SX.row (.slice sa.A sa.n sa.c) 3 1 (SX.encI L) :: Rs)) (hL : L.length ≤ 1000000) :
  Calls Try.prog 112 #[.slice sa.A sa.n sa.c, .int .i64 x] w (Ret fun r w' => ∃ o : Sl, r = .slice o.A o.n o.c ∧ Sat w0 w' (SX.row (.slice o.A o.n o.c) 3 1 (SX.encI (put1 L x)) :: Rs)) :=
 (put1_satB hS hL).mono fun e w' h => by
  cases e with
  | returned r => obtain ⟨o, h1, _, h2, _⟩ := h; exact ⟨o, h1, h2⟩
  | _ => exact h.elim
theorem code113 : Try.f113.body = some (Code.seq (cr Try.f113 0 false) (Code.seq (cr Try.f113 1 false) (Code.seq (cr Try.f113 2 false) Code.ret))) := by kernel_rfl
theorem asc_sat {w0 w : World} {Rs : List Asn} {sa : Sl} {L : List Int} (hS : Sat w0 w (SX.row (.slice sa.A sa.n sa.c) 3 1 (SX.encI L) :: Rs)) (hL : L.length ≤ 1000000) :
  Calls Try.prog 113 #[.slice sa.A sa.n sa.c] w (Ret fun r w' => ∃ o : Sl, r = .slice o.A o.n o.c ∧ Sat w0 w' (SX.row (.slice o.A o.n o.c) 3 1 (SX.encI (asc L)) :: Rs)) := by
 refine enter (n := 7) Try.func113 code113 (by kernel_rfl) (Nat.le_of_ble_eq_true rfl) (fun a ha => ?_)
 replace ha : Has 7 [(0, .slice sa.A sa.n sa.c)] a := ha
 refine wp_seq (jX [0] (jY [(0, 2, .slice none 0 0)] ha fun a ha => ?_))
 refine jZ (jQ (wp_seq (jX [0, 1] (jY [(0, 3, .slice sa.A sa.n sa.c)] ha fun a ha => ?_))))
 refine jG (qX 4 (vs := [.slice sa.A sa.n sa.c]) ha (sort_sat hS hL) fun v1 w a hp2 ha => ?_)
 obtain ⟨rfl, hS⟩ := hp2
 refine jZ (jQ (wp_seq (jX [0, 1, 2] (jY [(0, 5, .slice sa.A sa.n sa.c)] ha fun a ha => ?_))))
 refine jG (qX 6 (vs := [.slice sa.A sa.n sa.c]) ha (compact_sat hS (by rw [List.length_mergeSort]; exact hL)) fun v3 w a hp4 ha => ?_)
 obtain ⟨o, rfl, hS⟩ := hp4
 refine jY [(2, 2, .slice o.A o.n o.c)] ha fun a ha => ?_
 refine jZ (jQ (wp_ret (qJ ha (by kernel_rfl) (qY (t := 2) ha rfl) ?_)))
 exact ⟨o, rfl, hS⟩
def leadsP (n : Nat) (x : ST) (at_ : Int) : List Int := if x.f0 = 6 ∨ x.f0 = 8 ∨ x.f0 = 10 then [] else if x.f0 = 11 then asc [at_ + 1, min x.f1 (n : Int)] else [at_ + 1]
theorem asc_two (x y : Int) : put1 [x] y = asc [x, y] := by rw [← putL_asc]; rfl
theorem asc_len2 (x y : Int) : (asc [x, y]).length ≤ 2 := asc_le _
theorem leadsP_len (n : Nat) (x : ST) (at_ : Int) : (leadsP n x at_).length ≤ 2 := by
  unfold leadsP
  split
  · simp
  · split
    · exact asc_len2 _ _
    · simp
theorem least_sat {w0 w : World} {Rs : List Asn} {x y : Int} (hS : Sat w0 w Rs) :
  Calls Try.prog 114 #[.int .i64 x, .int .i64 y] w (Ret fun r w' => r = .int .i64 (min x y) ∧ Sat w0 w' Rs) := by
 have := spec_l1Least.calls x y (min x y) w (by unfold spec_l1Least.f; split <;> (congr 1; omega))
 refine this.mono ?_
 rintro e w' ⟨rfl, h⟩
 exact ⟨rfl, drawn_sat hS h⟩
theorem code79 : Try.f79.body = some (Code.seq (cr Try.f79 0 false) (Code.seq (Code.seq (cr Try.f79 1 false) (Code.seq (cr Try.f79 2 false) (Code.block 0 (Code.seq (Code.seq (cr Try.f79 3 false) (Code.cond (Operand.tmp 12) Code.skip (Code.seq (cr Try.f79 4 false) (Code.cond (Operand.tmp 12) Code.skip (cr Try.f79 5 false))))) (Code.cond (Operand.tmp 12) (Code.seq (cr Try.f79 6 false) Code.ret) (Code.seq (cr Try.f79 7 false) (Code.cond (Operand.tmp 17) (Code.seq (cr Try.f79 8 false) Code.ret) Code.skip))))))) (Code.seq (cr Try.f79 9 false) Code.ret))) := by kernel_rfl
theorem leadsI_sat {w0 w : World} {Rs : List Asn} {x : ST} {sb : Sl} {b : List ST} {x2 : Int} (hS : Sat w0 w Rs) (hrb : RdE cT 3 w0 sb b) (h2 : 0 ≤ x2 ∧ x2 < (b.length : Int)) (h3 : b.length ≤ 1048576) (hx : b[x2.toNat]? = some x) :
  Calls Try.prog 79 #[.slice sb.A sb.n sb.c, .int .i64 x2] w (Ret fun r w' => ∃ o : Sl, r = .slice o.A o.n o.c ∧ Sat w0 w' (SX.row (.slice o.A o.n o.c) 3 1 (SX.encI (leadsP b.length x x2)) :: Rs)) := by
 have hsb := hrb.len
 refine enter (n := 31) Try.func79 code79 (by kernel_rfl) (Nat.le_of_ble_eq_true rfl) (fun a ha => ?_)
 replace ha : Has 31 [(0, .slice sb.A sb.n sb.c), (1, iv x2)] a := ha
 refine wp_seq (jX [0] (jY [(0, 4, .slice none 0 0)] ha fun a ha => ?_))
 refine jZ (jQ (wp_seq (wp_seq (jX [0, 1, 2, 3, 4, 5] (jY [(0, 6, .slice sb.A sb.n sb.c), (1, 7, iv x2)] ha fun a ha => ?_)))))
 refine qK (.pointer (some ⟨bk sb, of_ sb + x2.toNat * 3, none⟩)) ha (qH (el := 68) (sz := 3) (j := x2.toNat) ha (yQ (t := 69) (x := 6) (y := 7) (d := 8)) rfl rfl (by kernel_rfl) (by kernel_rfl) (RdE.at_ (hrb.sat hS) _ _ hx).1 ((Int.toNat_of_nonneg h2.1).symm) (by rw [((hrb.sat hS)).len]; exact (List.getElem?_eq_some_iff.1 hx).1)) fun a ha => ?_
 refine qK (.agg #[iv x.f0, iv x.f1, iv x.f2]) ha (v_loadE (b := bk sb) (f := of_ sb + x2.toNat * 3) (vs := [iv x.f0, iv x.f1, iv x.f2]) ha (yX (t := 68) (x := 8) (d := 9) (ty := 68)) rfl (by kernel_rfl) (fun w' hw o u hu => by rw [hw]; exact (RdE.at_ (hrb.sat hS) _ _ hx).2 o u hu)) fun a ha => ?_
 refine jG (qZ 5 [iv 0, iv 0, iv 0] 68 (ptr · 0) ha hS fun b1 w a hb2 hS ha => ?_)
 refine jG (o_sa 0 ha (yH (t := 68) (x := 5) (y := 9)) hS fun w a hS ha => ?_)
 refine jZ (jQ (wp_seq (jX [0, 1] (jY [(0, 10, ptr b1 0)] ha fun a ha => ?_))))
 refine xJ (d := 11) (b := b1) (j := 0) ha (hS.blk 0 rfl) rfl fun a ha => ?_
 refine jZ (jQ (wp_block (wp_seq (wp_seq (jX [0, 1] (jY [(0, 13, .bool (decide (x.f0 = 6))), (1, 12, .bool (decide (x.f0 = 6)))] ha fun a ha => ?_))))))
 refine jZ (jQ ?_)
 by_cases c3 : x.f0 = 6
 ·
  refine jH ha rfl (decide_eq_true c3) ?_
  refine wp_skip (jQ ?_)
  refine jH ha rfl (decide_eq_true c3) ?_
  refine wp_seq (jX [0, 1] (jG (qZ 16 [] 3 (fun b => .slice (some ⟨b, 0, none⟩) 0 0) ha hS fun b4 w a hb5 hS ha => ?_)))
  refine jY [(1, 4, .slice (some ⟨b4, 0, none⟩) 0 0)] ha fun a ha => ?_
  refine jZ (jQ (wp_ret (in_r (qW (qJ ha (by kernel_rfl) (qY (t := 4) ha rfl) ?_)))))
  replace hS := hS.blk0 1 0 rfl
  have hE : leadsP b.length x x2 = [] := by unfold leadsP; simp [c3]
  rw [hE]
  exact ⟨(⟨some ⟨b4, 0, none⟩, 0, 0⟩ : Sl), rfl, hS.pickN 2 [0]⟩
 refine jV ha rfl (decide_eq_false c3) ?_
 refine wp_seq (jX [0, 1] (jY [(0, 14, .bool (decide (x.f0 = 8))), (1, 12, .bool (decide (x.f0 = 8)))] ha fun a ha => ?_))
 refine jZ (jQ ?_)
 by_cases c6 : x.f0 = 8
 ·
  refine jH ha rfl (decide_eq_true c6) ?_
  refine wp_skip (jQ ?_)
  refine jH ha rfl (decide_eq_true c6) ?_
  refine wp_seq (jX [0, 1] (jG (qZ 16 [] 3 (fun b => .slice (some ⟨b, 0, none⟩) 0 0) ha hS fun b7 w a hb8 hS ha => ?_)))
  refine jY [(1, 4, .slice (some ⟨b7, 0, none⟩) 0 0)] ha fun a ha => ?_
  refine jZ (jQ (wp_ret (in_r (qW (qJ ha (by kernel_rfl) (qY (t := 4) ha rfl) ?_)))))
  replace hS := hS.blk0 1 0 rfl
  have hE : leadsP b.length x x2 = [] := by unfold leadsP; simp [c3, c6]
  rw [hE]
  exact ⟨(⟨some ⟨b7, 0, none⟩, 0, 0⟩ : Sl), rfl, hS.pickN 2 [0]⟩
 refine jV ha rfl (decide_eq_false c6) ?_
 refine jX [0, 1] (jY [(0, 15, .bool (decide (x.f0 = 10))), (1, 12, .bool (decide (x.f0 = 10)))] ha fun a ha => ?_)
 refine jZ (jQ ?_)
 by_cases c9 : x.f0 = 10
 ·
  refine jH ha rfl (decide_eq_true c9) ?_
  refine wp_seq (jX [0, 1] (jG (qZ 16 [] 3 (fun b => .slice (some ⟨b, 0, none⟩) 0 0) ha hS fun b10 w a hb11 hS ha => ?_)))
  refine jY [(1, 4, .slice (some ⟨b10, 0, none⟩) 0 0)] ha fun a ha => ?_
  refine jZ (jQ (wp_ret (in_r (qW (qJ ha (by kernel_rfl) (qY (t := 4) ha rfl) ?_)))))
  replace hS := hS.blk0 1 0 rfl
  have hE : leadsP b.length x x2 = [] := by unfold leadsP; simp [c3, c6, c9]
  rw [hE]
  exact ⟨(⟨some ⟨b10, 0, none⟩, 0, 0⟩ : Sl), rfl, hS.pickN 2 [0]⟩
 refine jV ha rfl (decide_eq_false c9) ?_
 refine wp_seq (jX [0, 1] (jY [(0, 18, .bool (decide (x.f0 = 11))), (1, 17, .bool (decide (x.f0 = 11)))] ha fun a ha => ?_))
 refine jZ (jQ ?_)
 by_cases c12 : x.f0 = 11
 ·
  refine jH ha rfl (decide_eq_true c12) ?_
  refine wp_seq (jX [0, 1, 2, 3, 4, 5, 6, 7, 8, 9] (jY [(0, 19, iv x2)] ha fun a ha => ?_))
  refine xV 20 (x2 + 1) ha fun a ha => ?_
  refine jY [(2, 21, ptr b1 1)] ha fun a ha => ?_
  refine xJ (d := 22) (b := b1) (j := 1) ha (hS.blk 0 rfl) rfl fun a ha => ?_
  refine jY [(4, 23, .slice sb.A sb.n sb.c), (5, 24, iv (sb.n : Int))] ha fun a ha => ?_
  refine qK (iv (min x.f1 (sb.n : Int))) ha ((jW (v := .int .i64 (if (sb.n : Int) < x.f1 then (sb.n : Int) else x.f1)) ha (xQ (op := (Op.call { callee := (Callee.builtin Builtin.min), args := #[(Operand.tmp 22), (Operand.tmp 24)], argTypes := #[3, 3] })) (d := some 25) (ty := 3)) (by kernel_rfl) (fun _ => by kernel_rfl)).as (by congr 1; omega)) fun a ha => ?_
  refine jG (qZ 26 [iv (x2 + 1), iv (min x.f1 (sb.n : Int))] 3 (fun b => .slice (some ⟨b, 0, none⟩) 2 2) ha hS fun b13 w a hb14 hS ha => ?_)
  replace hS := blkRow hS 1 2 0 rfl rfl (by decide)
  replace hS : Sat w0 w ((rI (⟨some ⟨b13, 0, none⟩, 2, 2⟩ : Sl) [x2 + 1, min x.f1 (sb.n : Int)]) :: (SX.blk b1 [iv x.f0, iv x.f1, iv x.f2] 68) :: Rs) := hS
  refine jG (qX 27 (vs := [.slice (some ⟨b13, 0, none⟩) 2 2]) ha (asc_sat (sa := (⟨some ⟨b13, 0, none⟩, 2, 2⟩ : Sl)) (L := [x2 + 1, min x.f1 (sb.n : Int)]) hS (by simp)) fun v15 w a hp16 ha => ?_)
  obtain ⟨ao1, rfl, hS⟩ := hp16
  refine jY [(9, 4, .slice ao1.A ao1.n ao1.c)] ha fun a ha => ?_
  refine jZ ?_
  replace ha := ha.as [(1, iv x2), (4, .slice ao1.A ao1.n ao1.c)] rfl
  refine jQ (wp_ret (in_r (qW (qJ ha (by kernel_rfl) (qY (t := 4) ha rfl) ?_))))
  have hE : leadsP b.length x x2 = (asc [x2 + 1, min x.f1 (sb.n : Int)]) := by unfold leadsP; simp [c3, c6, c9, c12, hsb]
  rw [hE]
  exact ⟨ao1, rfl, hS.pickN 2 [0]⟩
 refine jV ha rfl (decide_eq_false c12) ?_
 refine wp_skip (in_n (jQ (wp_seq (jX [0, 1, 2, 3] (jY [(0, 28, iv x2)] ha fun a ha => ?_)))))
 refine xV 29 (x2 + 1) ha fun a ha => ?_
 refine jG (qZ 30 [iv (x2 + 1)] 3 (fun b => .slice (some ⟨b, 0, none⟩) 1 1) ha hS fun b17 w a hb18 hS ha => ?_)
 refine jY [(3, 4, .slice (some ⟨b17, 0, none⟩) 1 1)] ha fun a ha => ?_
 refine jZ ?_
 replace ha := ha.as [(4, .slice (some ⟨b17, 0, none⟩) 1 1)] rfl
 refine jQ (wp_ret (qJ ha (by kernel_rfl) (qY (t := 4) ha rfl) ?_))
 replace hS := blkRow hS 1 1 0 rfl rfl (by decide)
 have hE : leadsP b.length x x2 = [x2 + 1] := by unfold leadsP; simp [c3, c6, c9, c12]
 rw [hE]
 exact ⟨(⟨some ⟨b17, 0, none⟩, 1, 1⟩ : Sl), rfl, hS.pickN 2 [0]⟩
theorem code78 : Try.f78.body = some (Code.seq (cr Try.f78 0 false) (Code.seq (cr Try.f78 1 true) (Code.seq (Code.seq (cr Try.f78 2 false) (Code.block 0 (Code.seq (Code.seq (cr Try.f78 3 false) (Code.cond (Operand.tmp 15) Code.skip (Code.seq (cr Try.f78 4 false) (Code.cond (Operand.tmp 15) Code.skip (cr Try.f78 5 false))))) (Code.cond (Operand.tmp 15) (Code.seq (cr Try.f78 6 false) Code.ret) (Code.seq (cr Try.f78 7 false) (Code.cond (Operand.tmp 20) (Code.seq (cr Try.f78 8 false) Code.ret) Code.skip)))))) (Code.seq (cr Try.f78 9 false) Code.ret)))) := by kernel_rfl
theorem leadsQ_sat {w0 w : World} {Rs : List Asn} {x : ST} {sb : Sl} {b : List ST} {x2 : Int} (hS : Sat w0 w Rs) (hrb : RdE cT 3 w0 sb b) (h2 : 0 ≤ x2 ∧ x2 < (b.length : Int)) (h3 : b.length ≤ 1048576) (hx : b[x2.toNat]? = some x) :
  Calls Try.prog 78 #[.slice sb.A sb.n sb.c, .int .i64 x2] w (Ret fun r w' => ∃ o : Sl, r = .slice o.A o.n o.c ∧ Sat w0 w' (SX.row (.slice o.A o.n o.c) 3 1 (SX.encI (leadsP b.length x x2)) :: Rs)) := by
 have hsb := hrb.len
 refine enter (n := 33) Try.func78 code78 (by kernel_rfl) (Nat.le_of_ble_eq_true rfl) (fun a ha => ?_)
 replace ha : Has 33 [(0, .slice sb.A sb.n sb.c), (1, iv x2)] a := ha
 refine wp_seq (jX [0] (jY [(0, 4, .slice none 0 0)] ha fun a ha => ?_))
 refine jZ (jQ (wp_seq (yW 8 9 hS fun w hS => ?_)))
 refine qQ (k := 5) [(0, 7, .slice sb.A sb.n sb.c), (1, 8, iv (sb.n : Int)), (2, 9, .slice sb.A sb.n sb.c), (3, 10, iv x2)] ha (.inr hS) fun a ha => ?_
 refine xU 4 (.pointer (some ⟨bk sb, of_ sb + x2.toNat * 3, none⟩)) ha (qH (el := 68) (sz := 3) (j := x2.toNat) ha (yQ (t := 69) (x := 9) (y := 10) (d := 11)) rfl rfl (by kernel_rfl) (by kernel_rfl) (RdE.at_ (hrb.sat hS) _ _ hx).1 ((Int.toNat_of_nonneg h2.1).symm) (by rw [((hrb.sat hS)).len]; exact (List.getElem?_eq_some_iff.1 hx).1)) (.inr hS) fun a ha => ?_
 refine yV 5 (.agg #[iv x.f0, iv x.f1, iv x.f2]) ha (v_loadE (b := bk sb) (f := of_ sb + x2.toNat * 3) (vs := [iv x.f0, iv x.f1, iv x.f2]) ha (yX (t := 68) (x := 11) (d := 12) (ty := 68)) rfl (by kernel_rfl) (fun w' hw o u hu => by exact (RdE.at_ (hrb.sat hw) _ _ hx).2 o u hu)) hS fun a ha => ?_
 refine qU 6 (qZ 6 [iv 0, iv 0, iv 0] 68 (ptr · 0) ha hS fun b1 w a hb2 hS ha => ?_)
 refine ⟨.inr (Sat.rest [_] hS), ?_⟩
 refine qQ (k := 1) [(7, 5, iv (sb.n : Int))] ha (.inr (Sat.rest [_] hS)) fun a ha => ?_
 refine qU 8 (o_sa 0 ha (yH (t := 68) (x := 6) (y := 12)) hS fun w a hS ha => ?_)
 refine zY (xW (jQ (wp_seq (wp_seq (jX [0, 1] (jY [(0, 13, ptr b1 0)] ha fun a ha => ?_))))))
 refine xJ (d := 14) (b := b1) (j := 0) ha (hS.blk 0 rfl) rfl fun a ha => ?_
 refine jZ (jQ (wp_block (wp_seq (wp_seq (jX [0, 1] (jY [(0, 16, .bool (decide (x.f0 = 6))), (1, 15, .bool (decide (x.f0 = 6)))] ha fun a ha => ?_))))))
 refine jZ (jQ ?_)
 by_cases c3 : x.f0 = 6
 ·
  refine jH ha rfl (decide_eq_true c3) ?_
  refine wp_skip (jQ ?_)
  refine jH ha rfl (decide_eq_true c3) ?_
  refine wp_seq (jX [0, 1] (jG (qZ 19 [] 3 (fun b => .slice (some ⟨b, 0, none⟩) 0 0) ha hS fun b4 w a hb5 hS ha => ?_)))
  refine jY [(1, 4, .slice (some ⟨b4, 0, none⟩) 0 0)] ha fun a ha => ?_
  refine jZ (jQ (wp_ret (in_r (qW (qJ ha (by kernel_rfl) (qY (t := 4) ha rfl) ?_)))))
  replace hS := hS.blk0 1 0 rfl
  have hE : leadsP b.length x x2 = [] := by unfold leadsP; simp [c3]
  rw [hE]
  exact ⟨(⟨some ⟨b4, 0, none⟩, 0, 0⟩ : Sl), rfl, hS.pickN 2 [0]⟩
 refine jV ha rfl (decide_eq_false c3) ?_
 refine wp_seq (jX [0, 1] (jY [(0, 17, .bool (decide (x.f0 = 8))), (1, 15, .bool (decide (x.f0 = 8)))] ha fun a ha => ?_))
 refine jZ (jQ ?_)
 by_cases c6 : x.f0 = 8
 ·
  refine jH ha rfl (decide_eq_true c6) ?_
  refine wp_skip (jQ ?_)
  refine jH ha rfl (decide_eq_true c6) ?_
  refine wp_seq (jX [0, 1] (jG (qZ 19 [] 3 (fun b => .slice (some ⟨b, 0, none⟩) 0 0) ha hS fun b7 w a hb8 hS ha => ?_)))
  refine jY [(1, 4, .slice (some ⟨b7, 0, none⟩) 0 0)] ha fun a ha => ?_
  refine jZ ?_
  replace ha := ha.as [(1, iv x2), (4, .slice (some ⟨b7, 0, none⟩) 0 0)] rfl
  refine jQ (wp_ret (in_r (qW (qJ ha (by kernel_rfl) (qY (t := 4) ha rfl) ?_))))
  replace hS := hS.blk0 1 0 rfl
  have hE : leadsP b.length x x2 = [] := by unfold leadsP; simp [c3, c6]
  rw [hE]
  exact ⟨(⟨some ⟨b7, 0, none⟩, 0, 0⟩ : Sl), rfl, hS.pickN 2 [0]⟩
 refine jV ha rfl (decide_eq_false c6) ?_
 refine jX [0, 1] (jY [(0, 18, .bool (decide (x.f0 = 10))), (1, 15, .bool (decide (x.f0 = 10)))] ha fun a ha => ?_)
 refine jZ (jQ ?_)
 by_cases c9 : x.f0 = 10
 ·
  refine jH ha rfl (decide_eq_true c9) ?_
  refine wp_seq (jX [0, 1] (jG (qZ 19 [] 3 (fun b => .slice (some ⟨b, 0, none⟩) 0 0) ha hS fun b10 w a hb11 hS ha => ?_)))
  refine jY [(1, 4, .slice (some ⟨b10, 0, none⟩) 0 0)] ha fun a ha => ?_
  refine jZ ?_
  replace ha := ha.as [(1, iv x2), (4, .slice (some ⟨b10, 0, none⟩) 0 0)] rfl
  refine jQ (wp_ret (in_r (qW (qJ ha (by kernel_rfl) (qY (t := 4) ha rfl) ?_))))
  replace hS := hS.blk0 1 0 rfl
  have hE : leadsP b.length x x2 = [] := by unfold leadsP; simp [c3, c6, c9]
  rw [hE]
  exact ⟨(⟨some ⟨b10, 0, none⟩, 0, 0⟩ : Sl), rfl, hS.pickN 2 [0]⟩
 refine jV ha rfl (decide_eq_false c9) ?_
 refine wp_seq (jX [0, 1] (jY [(0, 21, .bool (decide (x.f0 = 11))), (1, 20, .bool (decide (x.f0 = 11)))] ha fun a ha => ?_))
 refine jZ (jQ ?_)
 by_cases c12 : x.f0 = 11
 ·
  refine jH ha rfl (decide_eq_true c12) ?_
  refine wp_seq (jX [0, 1, 2, 3, 4, 5, 6, 7, 8] (jY [(0, 22, iv x2)] ha fun a ha => ?_))
  refine xV 23 (x2 + 1) ha fun a ha => ?_
  refine jG (qZ 24 [iv (x2 + 1)] 3 (fun b => .slice (some ⟨b, 0, none⟩) 1 1) ha hS fun b13 w a hb14 hS ha => ?_)
  refine jY [(3, 25, ptr b1 1)] ha fun a ha => ?_
  refine xJ (d := 26) (b := b1) (j := 1) ha (hS.blk 1 rfl) rfl fun a ha => ?_
  refine jY [(5, 27, iv (sb.n : Int))] ha fun a ha => ?_
  refine jG (qX 28 (vs := [iv x.f1, iv (sb.n : Int)]) ha (least_sat hS) fun v15 w a hp16 ha => ?_)
  obtain ⟨rfl, hS⟩ := hp16
  replace hS := blkRow hS 1 1 0 rfl rfl (by decide)
  replace hS : Sat w0 w ((rI (⟨some ⟨b13, 0, none⟩, 1, 1⟩ : Sl) [x2 + 1]) :: (SX.blk b1 [iv x.f0, iv x.f1, iv x.f2] 68) :: Rs) := hS
  refine jG (qX 29 (vs := [.slice (some ⟨b13, 0, none⟩) 1 1, iv (min x.f1 (sb.n : Int))]) ha (put1_sat (sa := (⟨some ⟨b13, 0, none⟩, 1, 1⟩ : Sl)) (L := [x2 + 1]) (x := min x.f1 (sb.n : Int)) hS (by simp)) fun v17 w a hp18 ha => ?_)
  obtain ⟨ao1, rfl, hS⟩ := hp18
  replace hS : Sat w0 w ((rI ao1 (asc [x2 + 1, min x.f1 (sb.n : Int)])) :: (SX.blk b1 [iv x.f0, iv x.f1, iv x.f2] 68) :: Rs) := by rw [asc_two] at hS; exact hS
  refine jY [(8, 4, .slice ao1.A ao1.n ao1.c)] ha fun a ha => ?_
  refine jZ ?_
  replace ha := ha.as [(1, iv x2), (4, .slice ao1.A ao1.n ao1.c)] rfl
  refine jQ (wp_ret (in_r (qW (qJ ha (by kernel_rfl) (qY (t := 4) ha rfl) ?_))))
  have hE : leadsP b.length x x2 = (asc [x2 + 1, min x.f1 (sb.n : Int)]) := by unfold leadsP; simp [c3, c6, c9, c12, hsb]
  rw [hE]
  exact ⟨ao1, rfl, hS.pickN 2 [0]⟩
 refine jV ha rfl (decide_eq_false c12) ?_
 refine wp_skip (in_n (jQ (wp_seq (jX [0, 1, 2, 3] (jY [(0, 30, iv x2)] ha fun a ha => ?_)))))
 refine xV 31 (x2 + 1) ha fun a ha => ?_
 refine jG (qZ 32 [iv (x2 + 1)] 3 (fun b => .slice (some ⟨b, 0, none⟩) 1 1) ha hS fun b19 w a hb20 hS ha => ?_)
 refine jY [(3, 4, .slice (some ⟨b19, 0, none⟩) 1 1)] ha fun a ha => ?_
 refine jZ ?_
 replace ha := ha.as [(4, .slice (some ⟨b19, 0, none⟩) 1 1)] rfl
 refine jQ (wp_ret (qJ ha (by kernel_rfl) (qY (t := 4) ha rfl) ?_))
 replace hS := blkRow hS 1 1 0 rfl rfl (by decide)
 have hE : leadsP b.length x x2 = [x2 + 1] := by unfold leadsP; simp [c3, c6, c9, c12]
 rw [hE]
 exact ⟨(⟨some ⟨b19, 0, none⟩, 1, 1⟩ : Sl), rfl, hS.pickN 2 [0]⟩
theorem inB_le' {x lo hi : Int} (h : inB x lo hi = true) : lo ≤ x ∧ x ≤ hi := by simpa only [inB, Bool.and_eq_true, decide_eq_true_eq] using h
theorem code73 : Try.f73.body = some (Code.seq (cr Try.f73 0 false) (Code.seq (Code.seq (cr Try.f73 1 false) (Code.cond (Operand.tmp 23) (Code.seq (cr Try.f73 2 false) Code.ret) Code.skip)) (Code.seq (cr Try.f73 3 false) Code.ret))) := by kernel_rfl
theorem stepAt_sat0 {w0 : World} {s : Sl} {l : List (List ST)} {f x2 : Int} (hr : RdP w0 s l) (hf : Fits l) :
  Calls Try.prog 73 #[.agg #[.slice s.A s.n s.c], iv f, iv x2] w0 (Ret fun r w' => r = .tuple #[.agg #[.int .i64 (stepP l f x2).f0, .int .i64 (stepP l f x2).f1, .int .i64 (stepP l f x2).f2], .bool (placeB 1 l f x2)] ∧ Sat w0 w' []) := by
 have hS : Sat w0 w0 [] := Sat.start w0
 refine enter (n := 33) Try.func73 code73 (by kernel_rfl) (Nat.le_of_ble_eq_true rfl) (fun a ha => ?_)
 replace ha : Has 33 [(0, .agg #[.slice s.A s.n s.c]), (1, iv f), (2, iv x2)] a := ha
 refine wp_seq (jX [0, 1, 2] (jG (qZ 3 [.slice s.A s.n s.c] 28 (ptr · 0) ha hS fun b1 w a hb2 hS ha => ?_)))
 refine jG (qZ 6 [iv 0, iv 0, iv 0] 68 (ptr · 0) ha hS fun b3 w a hb4 hS ha => ?_)
 refine jY [(2, 7, .bool false)] ha fun a ha => ?_
 refine jZ (jQ (wp_seq (wp_seq (jX [0, 1, 2, 3, 4, 5, 6, 7, 8, 9, 10, 11, 12, 13, 14, 15] (yY 8 ha (hS.blk 1 rfl) fun a ha => ?_)))))
 refine jY [(1, 9, iv f)] ha fun a ha => ?_
 refine jG (qX 10 (vs := [.agg #[.slice s.A s.n s.c], iv f]) ha (isFunction_sat hS (hr.sat hS) hf) fun v5 w a hp6 ha => ?_)
 obtain ⟨rfl, hS⟩ := hp6
 refine jY [(3, 11, .bool (!(okF l f))), (4, 12, .bool (!(okF l f)))] ha fun a ha => ?_
 rcases Bool.eq_false_or_eq_true (okF l f) with c7 | c7
 ·
  replace ha := ha.turn 10 (.bool true) rfl (congrArg Value.bool c7)
  replace ha := ha.turn 11 (.bool false) rfl (congrArg Value.bool (xZ c7))
  replace ha := ha.turn 12 (.bool false) rfl (congrArg Value.bool (xZ c7))
  have hx1 := okF_lt c7
  obtain ⟨b, hb⟩ : ∃ b, l[f.toNat]? = some b := ⟨_, List.getElem?_eq_getElem (by omega)⟩
  have hb1 : b.length ≤ 1048576 := hf.each b (List.mem_of_getElem? hb)
  obtain ⟨hA0, sb, hcb, hrb⟩ := body_rd hr hb
  have hsb := hrb.len
  refine jY [(5, 13, iv x2), (6, 14, ptr b1 0)] ha fun a ha => ?_
  refine xJ (d := 15) (b := b1) (j := 0) ha (hS.blk 1 rfl) rfl fun a ha => ?_
  refine jY [(8, 16, iv f)] ha fun a ha => ?_
  refine qK (.pointer (some ⟨bk s, of_ s + f.toNat * 1, none⟩)) ha (qH (s := s) (el := 69) (sz := 1) (j := f.toNat) ha (AtG.here (gd := 12) ⟨(by kernel_rfl : ((jK Try.f73 1)[9]?).map spec = some ((Op.indexAddr 26 (Operand.tmp 15) (Operand.tmp 16)), some 17, 0, some (4, false))), by kernel_rfl⟩ ha rfl) rfl rfl (by kernel_rfl) (by kernel_rfl) hA0 (Int.toNat_of_nonneg hx1.1).symm (by rw [hr.len]; omega)) fun a ha => ?_
  refine qK (.slice sb.A sb.n sb.c) ha (qG ha (AtG.here (gd := 12) ⟨(by kernel_rfl : ((jK Try.f73 1)[10]?).map spec = some ((Op.load 69 (Operand.tmp 17)), some 18, 69, some (4, false))), by kernel_rfl⟩ ha rfl) rfl (by kernel_rfl) (fun w' hw => by rw [hw]; rw [Nat.mul_one]; exact pw_cell_below hS.below hcb)) fun a ha => ?_
  refine jY [(11, 19, iv (sb.n : Int))] ha fun a ha => ?_
  refine xV 20 ((sb.n : Int) - 1) ha fun a ha => ?_
  refine jG (qX 21 (vs := [iv x2, iv 0, iv ((sb.n : Int) - 1)]) ha (in_sat hS _ _ _) fun v8 w a hp9 ha => ?_)
  obtain ⟨rfl, hS⟩ := hp9
  refine jY [(14, 22, .bool (!((inB x2 0 ((sb.n : Int) - 1))))), (15, 23, .bool (!((inB x2 0 ((sb.n : Int) - 1)))))] ha fun a ha => ?_
  refine jZ (jQ ?_)
  rcases Bool.eq_false_or_eq_true (inB x2 0 ((sb.n : Int) - 1)) with c10 | c10
  ·
   have hpl : placeB 1 l f x2 = true := by unfold placeB; rw [c7, Bool.true_and]; simp only [List.getD, hb, Option.getD_some]; rw [← hsb]; exact c10
   have hx2 := inB_le' c10;obtain ⟨x, hx⟩ : ∃ x, b[x2.toNat]? = some x := ⟨_, List.getElem?_eq_getElem (by omega)⟩;refine jV ha rfl (xZ c10) ?_;refine wp_skip (jQ (wp_seq (jX [0, 1, 2, 3, 4, 5, 6, 7, 8, 9] (jY [(0, 25, ptr b1 0)] ha fun a ha => ?_))));refine xJ (d := 26) (b := b1) (j := 0) ha (hS.blk 1 rfl) rfl fun a ha => ?_;refine jY [(2, 27, iv f)] ha fun a ha => ?_;refine qK (.pointer (some ⟨bk s, of_ s + f.toNat * 1, none⟩)) ha (qH (s := s) (el := 69) (sz := 1) (j := f.toNat) ha (yQ (t := 26) (x := 26) (y := 27) (d := 28)) rfl rfl (by kernel_rfl) (by kernel_rfl) hA0 (Int.toNat_of_nonneg hx1.1).symm (by rw [hr.len]; omega)) fun a ha => ?_;refine qK (.slice sb.A sb.n sb.c) ha (qG ha (yX (t := 69) (x := 28) (d := 29) (ty := 69)) rfl (by kernel_rfl) (fun w' hw => by rw [hw]; rw [Nat.mul_one]; exact pw_cell_below hS.below hcb)) fun a ha => ?_;refine jY [(5, 30, iv x2)] ha fun a ha => ?_;refine qK (.pointer (some ⟨bk sb, of_ sb + x2.toNat * 3, none⟩)) ha (qH (el := 68) (sz := 3) (j := x2.toNat) ha (yQ (t := 69) (x := 29) (y := 30) (d := 31)) rfl rfl (by kernel_rfl) (by kernel_rfl) (RdE.at_ (hrb.sat hS) _ _ hx).1 ((Int.toNat_of_nonneg hx2.1).symm) (by rw [((hrb.sat hS)).len]; exact (List.getElem?_eq_some_iff.1 hx).1)) fun a ha => ?_;refine qK (.agg #[iv x.f0, iv x.f1, iv x.f2]) ha (v_loadE (b := bk sb) (f := of_ sb + x2.toNat * 3) (vs := [iv x.f0, iv x.f1, iv x.f2]) ha (yX (t := 68) (x := 31) (d := 32) (ty := 68)) rfl (by kernel_rfl) (fun w' hw o u hu => by rw [hw]; exact (RdE.at_ (hrb.sat hS) _ _ hx).2 o u hu)) fun a ha => ?_;refine jG (o_sa 0 ha (yH (t := 68) (x := 6) (y := 32)) hS fun w a hS ha => ?_);refine jY [(9, 7, .bool true)] ha fun a ha => ?_;refine jZ ?_;replace ha := ha.as [(6, ptr b3 0), (7, .bool true)] rfl;refine jQ (wp_ret (xX ha (by kernel_rfl) (zQ (t := 6) (ty := 68) (i := 0) ha rfl hS rfl (by kernel_rfl)) (qY (t := 7) ha rfl) ?_));rw [stepP_at hpl hb hx, hpl];exact ⟨rfl, Sat.rest [_, _] hS⟩
  refine jH ha rfl (xG c10) ?_
  refine wp_seq (jX [0, 1, 2] (jY [(0, 24, .agg #[iv 0, iv 0, iv 0])] ha fun a ha => ?_))
  refine jG (o_sa 0 ha (yH (t := 68) (x := 6) (y := 24)) hS fun w a hS ha => ?_)
  refine jY [(2, 7, .bool false)] ha fun a ha => ?_
  refine jZ (jQ (wp_ret (qW (xX ha (by kernel_rfl) (zQ (t := 6) (ty := 68) (i := 0) ha rfl hS rfl (by kernel_rfl)) (qY (t := 7) ha rfl) ?_))))
  have hpl : placeB 1 l f x2 = false := by unfold placeB; rw [c7, Bool.true_and]; simp only [List.getD, hb, Option.getD_some]; rw [← hsb]; exact c10
  rw [show stepP l f x2 = ⟨0, 0, 0⟩ by unfold stepP; rw [hpl]; rfl, hpl]
  exact ⟨rfl, Sat.rest [_, _] hS⟩
 replace ha := ha.turn 10 (.bool false) rfl (congrArg Value.bool c7)
 replace ha := ha.turn 11 (.bool true) rfl (congrArg Value.bool (xG c7))
 replace ha := ha.turn 12 (.bool true) rfl (congrArg Value.bool (xG c7))
 refine jY [(5, 13, undef), (6, 14, undef), (7, 15, undef), (8, 16, undef), (9, 17, undef), (10, 18, undef), (11, 19, undef), (12, 20, undef), (13, 21, undef), (14, 22, undef), (15, 23, .bool true)] ha fun a ha => ?_
 refine jZ (jQ ?_)
 refine jH ha rfl rfl ?_
 refine wp_seq (jX [0, 1, 2] (jY [(0, 24, .agg #[iv 0, iv 0, iv 0])] ha fun a ha => ?_))
 refine jG (o_sa 0 ha (yH (t := 68) (x := 6) (y := 24)) hS fun w a hS ha => ?_)
 refine jY [(2, 7, .bool false)] ha fun a ha => ?_
 refine jZ ?_
 replace ha := ha.as [(1, iv f), (2, iv x2), (3, ptr b1 0), (6, ptr b3 0), (7, .bool false)] rfl
 refine jQ (wp_ret (qW (xX ha (by kernel_rfl) (zQ (t := 6) (ty := 68) (i := 0) ha rfl hS rfl (by kernel_rfl)) (qY (t := 7) ha rfl) ?_)))
 have hpl : placeB 1 l f x2 = false := by unfold placeB; rw [c7, Bool.false_and]
 rw [show stepP l f x2 = ⟨0, 0, 0⟩ by unfold stepP; rw [hpl]; rfl, hpl]
 exact ⟨rfl, Sat.rest [_, _] hS⟩
theorem stepAt_sat {w0 w : World} {Rs : List Asn} {s : Sl} {l : List (List ST)} {f x2 : Int} (hS : Sat w0 w Rs) (hr : RdP w s l) (hf : Fits l) :
  Calls Try.prog 73 #[.agg #[.slice s.A s.n s.c], iv f, iv x2] w (Ret fun r w' => r = .tuple #[.agg #[.int .i64 (stepP l f x2).f0, .int .i64 (stepP l f x2).f1, .int .i64 (stepP l f x2).f2], .bool (placeB 1 l f x2)] ∧ Sat w0 w' Rs) :=
 (stepAt_sat0 hr hf).mono fun e w' h => by
  cases e with
  | returned r => exact ⟨h.1, hS.comp h.2⟩
  | _ => exact h.elim
def ldsP (l : List (List ST)) (f x2 : Int) : List Int × Bool := if placeB 1 l f x2 = true then (leadsP (l.getD f.toNat []).length (stepP l f x2) x2, true) else ([], false)
theorem ldsP_len (l : List (List ST)) (f x2 : Int) : (ldsP l f x2).1.length ≤ 1000000 := by
 unfold ldsP
 split
 · exact Nat.le_trans (leadsP_len _ _ _) (by decide)
 · exact Nat.zero_le _
theorem code34 : Try.f34.body = some (Code.seq (cr Try.f34 0 false) (Code.seq (Code.seq (cr Try.f34 1 false) (Code.seq (cr Try.f34 2 false) (Code.cond (Operand.tmp 18) (Code.seq (cr Try.f34 3 false) Code.ret) Code.skip))) (Code.seq (cr Try.f34 4 false) Code.ret))) := by kernel_rfl
theorem impl_LeadsTo_sat0 {w0 : World} {s : Sl} {l : List (List ST)} {f x2 : Int} (hr : RdP w0 s l) (hf : Fits l) :
  Calls Try.prog 34 #[.agg #[.slice s.A s.n s.c], iv f, iv x2] w0 (Ret fun r w' => ∃ o : Sl, r = .tuple #[.slice o.A o.n o.c, .bool (ldsP l f x2).2] ∧ Sat w0 w' [SX.row (.slice o.A o.n o.c) 3 1 (SX.encI ((ldsP l f x2).1))]) := by
 have hS : Sat w0 w0 [] := Sat.start w0
 refine enter (n := 26) Try.func34 code34 (by kernel_rfl) (Nat.le_of_ble_eq_true rfl) (fun a ha => ?_)
 replace ha : Has 26 [(0, .agg #[.slice s.A s.n s.c]), (1, iv f), (2, iv x2)] a := ha
 refine wp_seq (jX [0, 1, 2] (jG (qZ 3 [.slice s.A s.n s.c] 28 (ptr · 0) ha hS fun b1 w a hb2 hS ha => ?_)))
 refine jY [(1, 6, .slice none 0 0), (2, 7, .bool false)] ha fun a ha => ?_
 refine jZ (jQ (wp_seq (wp_seq (jX [0, 1, 2, 3, 4, 5, 6, 7, 8, 9] (yY 11 ha (hS.blk 0 rfl) fun a ha => ?_)))))
 refine jY [(1, 12, iv f), (2, 13, iv x2)] ha fun a ha => ?_
 refine jG (qX 14 (vs := [.agg #[.slice s.A s.n s.c], iv f, iv x2]) ha (stepAt_sat hS (hr.sat hS) hf) fun v3 w a hp4 ha => ?_)
 obtain ⟨rfl, hS⟩ := hp4
 refine jY [(4, 10, .tuple #[.agg #[iv ((stepP l f x2).f0), iv ((stepP l f x2).f1), iv ((stepP l f x2).f2)], .bool (placeB 1 l f x2)]), (5, 15, .agg #[iv ((stepP l f x2).f0), iv ((stepP l f x2).f1), iv ((stepP l f x2).f2)]), (6, 16, .bool (placeB 1 l f x2))] ha fun a ha => ?_
 refine jG (qZ 8 [iv 0, iv 0, iv 0] 68 (ptr · 0) ha hS fun b5 w a hb6 hS ha => ?_)
 refine jG (o_sa 0 ha (yH (t := 68) (x := 8) (y := 15)) hS fun w a hS ha => ?_)
 refine jY [(9, 9, .bool (placeB 1 l f x2))] ha fun a ha => ?_
 refine jZ (jQ (wp_seq (jX [0, 1] (jY [(0, 17, .bool (placeB 1 l f x2)), (1, 18, .bool (!(placeB 1 l f x2)))] ha fun a ha => ?_))))
 refine jZ (jQ ?_)
 rcases Bool.eq_false_or_eq_true (placeB 1 l f x2) with c7 | c7
 ·
  obtain ⟨ho, b, hb, hx2⟩ := placeB_ok c7
  have hx1 := okF_lt ho
  have hb1 : b.length ≤ 1048576 := hf.each b (List.mem_of_getElem? hb)
  obtain ⟨hA0, sb, hcb, hrb⟩ := body_rd hr hb
  have hsb := hrb.len
  obtain ⟨x, hx⟩ : ∃ x, b[x2.toNat]? = some x := ⟨_, List.getElem?_eq_getElem (by omega)⟩
  refine jV ha rfl (xZ c7) ?_
  refine wp_skip (jQ (wp_seq (jX [0, 1, 2, 3, 4, 5, 6, 7, 8] (jY [(0, 19, ptr b1 0)] ha fun a ha => ?_))))
  refine xJ (d := 20) (b := b1) (j := 0) ha (hS.blk 1 rfl) rfl fun a ha => ?_
  refine jY [(2, 21, iv f)] ha fun a ha => ?_
  refine qK (.pointer (some ⟨bk s, of_ s + f.toNat * 1, none⟩)) ha (qH (s := s) (el := 69) (sz := 1) (j := f.toNat) ha (yQ (t := 26) (x := 20) (y := 21) (d := 22)) rfl rfl (by kernel_rfl) (by kernel_rfl) hA0 (Int.toNat_of_nonneg hx1.1).symm (by rw [hr.len]; omega)) fun a ha => ?_
  refine qK (.slice sb.A sb.n sb.c) ha (qG ha (yX (t := 69) (x := 22) (d := 23) (ty := 69)) rfl (by kernel_rfl) (fun w' hw => by rw [hw]; rw [Nat.mul_one]; exact pw_cell_below hS.below hcb)) fun a ha => ?_
  refine jY [(5, 24, iv x2)] ha fun a ha => ?_
  refine jG (qX 25 (vs := [.slice sb.A sb.n sb.c, iv x2]) ha (leadsI_sat hS hrb ⟨hx2.1, by omega⟩ hb1 hx) fun v8 w a hp9 ha => ?_)
  obtain ⟨ro1, rfl, hS⟩ := hp9
  refine jY [(7, 6, .slice ro1.A ro1.n ro1.c), (8, 7, .bool true)] ha fun a ha => ?_
  refine jZ ?_
  replace ha := ha.as [(6, .slice ro1.A ro1.n ro1.c), (7, .bool true)] rfl
  refine jQ (wp_ret (xX ha (by kernel_rfl) (qY (t := 6) ha rfl) (qY (t := 7) ha rfl) ?_))
  have hE : ldsP l f x2 = (leadsP (l.getD f.toNat []).length (stepP l f x2) x2, true) := by unfold ldsP; rw [if_pos c7]
  rw [hE]
  rw [stepP_at c7 hb hx, show l.getD f.toNat [] = b by simp only [List.getD, hb, Option.getD_some]]
  exact ⟨ro1, rfl, hS.pickN 3 [0]⟩
 refine jH ha rfl (xG c7) ?_
 refine wp_seq (jX [0, 1] (jY [(0, 6, .slice none 0 0), (1, 7, .bool false)] ha fun a ha => ?_))
 refine jZ (jQ (wp_ret (qW (xX ha (by kernel_rfl) (qY (t := 6) ha rfl) (qY (t := 7) ha rfl) ?_))))
 have hE : ldsP l f x2 = ([], false) := by unfold ldsP; rw [if_neg (by rw [c7]; decide)]
 rw [hE]
 exact ⟨⟨none, 0, 0⟩, rfl, Sat.nilRow (Sat.rest [_, _] hS)⟩
theorem impl_LeadsTo_sat {w0 w : World} {Rs : List Asn} {s : Sl} {l : List (List ST)} {f x2 : Int} (hS : Sat w0 w Rs) (hr : RdP w s l) (hf : Fits l) :
  Calls Try.prog 34 #[.agg #[.slice s.A s.n s.c], iv f, iv x2] w (Ret fun r w' => ∃ o : Sl, r = .tuple #[.slice o.A o.n o.c, .bool (ldsP l f x2).2] ∧ Sat w0 w' (SX.row (.slice o.A o.n o.c) 3 1 (SX.encI ((ldsP l f x2).1)) :: Rs)) :=
 (impl_LeadsTo_sat0 hr hf).mono fun e w' h => by
  cases e with
  | returned r => obtain ⟨o, h1, h2⟩ := h; exact ⟨o, h1, hS.comp h2⟩
  | _ => exact h.elim
theorem code33 : Try.f33.body = some (Code.seq (cr Try.f33 0 false) (Code.seq (Code.seq (cr Try.f33 1 false) (Code.cond (Operand.tmp 23) (Code.seq (cr Try.f33 2 false) Code.ret) Code.skip)) (Code.seq (cr Try.f33 3 false) Code.ret))) := by kernel_rfl
theorem spec_LeadsTo_sat0 {w0 : World} {s : Sl} {l : List (List ST)} {f x2 : Int} (hr : RdP w0 s l) (hf : Fits l) :
  Calls Try.prog 33 #[.agg #[.slice s.A s.n s.c], iv f, iv x2] w0 (Ret fun r w' => ∃ o : Sl, r = .tuple #[.slice o.A o.n o.c, .bool (ldsP l f x2).2] ∧ Sat w0 w' [SX.row (.slice o.A o.n o.c) 3 1 (SX.encI ((ldsP l f x2).1))]) := by
 have hS : Sat w0 w0 [] := Sat.start w0
 refine enter (n := 32) Try.func33 code33 (by kernel_rfl) (Nat.le_of_ble_eq_true rfl) (fun a ha => ?_)
 replace ha : Has 32 [(0, .agg #[.slice s.A s.n s.c]), (1, iv f), (2, iv x2)] a := ha
 refine wp_seq (jX [0, 1, 2] (jG (qZ 3 [.slice s.A s.n s.c] 28 (ptr · 0) ha hS fun b1 w a hb2 hS ha => ?_)))
 refine jY [(1, 6, .slice none 0 0), (2, 7, .bool false)] ha fun a ha => ?_
 refine jZ (jQ (wp_seq (wp_seq (jX [0, 1, 2, 3, 4, 5, 6, 7, 8, 9, 10, 11, 12, 13, 14, 15] (yY 8 ha (hS.blk 0 rfl) fun a ha => ?_)))))
 refine jY [(1, 9, iv f)] ha fun a ha => ?_
 refine jG (qX 10 (vs := [.agg #[.slice s.A s.n s.c], iv f]) ha (l11Function_sat hS (hr.sat hS) hf) fun v3 w a hp4 ha => ?_)
 obtain ⟨rfl, hS⟩ := hp4
 refine jY [(3, 11, .bool (!(okF l f))), (4, 12, .bool (!(okF l f)))] ha fun a ha => ?_
 rcases Bool.eq_false_or_eq_true (okF l f) with c5 | c5
 ·
  replace ha := ha.turn 10 (.bool true) rfl (congrArg Value.bool c5)
  replace ha := ha.turn 11 (.bool false) rfl (congrArg Value.bool (xZ c5))
  replace ha := ha.turn 12 (.bool false) rfl (congrArg Value.bool (xZ c5))
  have hx1 := okF_lt c5
  obtain ⟨b, hb⟩ : ∃ b, l[f.toNat]? = some b := ⟨_, List.getElem?_eq_getElem (by omega)⟩
  have hb1 : b.length ≤ 1048576 := hf.each b (List.mem_of_getElem? hb)
  obtain ⟨hA0, sb, hcb, hrb⟩ := body_rd hr hb
  have hsb := hrb.len
  refine jY [(5, 13, iv x2), (6, 14, ptr b1 0)] ha fun a ha => ?_
  refine xJ (d := 15) (b := b1) (j := 0) ha (hS.blk 0 rfl) rfl fun a ha => ?_
  refine jY [(8, 16, iv f)] ha fun a ha => ?_
  refine qK (.pointer (some ⟨bk s, of_ s + f.toNat * 1, none⟩)) ha (qH (s := s) (el := 69) (sz := 1) (j := f.toNat) ha (AtG.here (gd := 12) ⟨(by kernel_rfl : ((jK Try.f33 1)[9]?).map spec = some ((Op.indexAddr 26 (Operand.tmp 15) (Operand.tmp 16)), some 17, 0, some (4, false))), by kernel_rfl⟩ ha rfl) rfl rfl (by kernel_rfl) (by kernel_rfl) hA0 (Int.toNat_of_nonneg hx1.1).symm (by rw [hr.len]; omega)) fun a ha => ?_
  refine qK (.slice sb.A sb.n sb.c) ha (qG ha (AtG.here (gd := 12) ⟨(by kernel_rfl : ((jK Try.f33 1)[10]?).map spec = some ((Op.load 69 (Operand.tmp 17)), some 18, 69, some (4, false))), by kernel_rfl⟩ ha rfl) rfl (by kernel_rfl) (fun w' hw => by rw [hw]; rw [Nat.mul_one]; exact pw_cell_below hS.below hcb)) fun a ha => ?_
  refine jY [(11, 19, iv (sb.n : Int))] ha fun a ha => ?_
  refine xV 20 ((sb.n : Int) - 1) ha fun a ha => ?_
  refine jG (qX 21 (vs := [iv x2, iv 0, iv ((sb.n : Int) - 1)]) ha (q_in hS _ _ _) fun v6 w a hp7 ha => ?_)
  obtain ⟨rfl, hS⟩ := hp7
  refine jY [(14, 22, .bool (!((inB x2 0 ((sb.n : Int) - 1))))), (15, 23, .bool (!((inB x2 0 ((sb.n : Int) - 1)))))] ha fun a ha => ?_
  refine jZ (jQ ?_)
  rcases Bool.eq_false_or_eq_true (inB x2 0 ((sb.n : Int) - 1)) with c8 | c8
  ·
   have hpl : placeB 1 l f x2 = true := by unfold placeB; rw [c5, Bool.true_and]; simp only [List.getD, hb, Option.getD_some]; rw [← hsb]; exact c8
   have hx2 := inB_le' c8;obtain ⟨x, hx⟩ : ∃ x, b[x2.toNat]? = some x := ⟨_, List.getElem?_eq_getElem (by omega)⟩;refine jV ha rfl (xZ c8) ?_;refine wp_skip (jQ (wp_seq (jX [0, 1, 2, 3, 4, 5, 6, 7, 8] (jY [(0, 25, ptr b1 0)] ha fun a ha => ?_))));refine xJ (d := 26) (b := b1) (j := 0) ha (hS.blk 0 rfl) rfl fun a ha => ?_;refine jY [(2, 27, iv f)] ha fun a ha => ?_;refine qK (.pointer (some ⟨bk s, of_ s + f.toNat * 1, none⟩)) ha (qH (s := s) (el := 69) (sz := 1) (j := f.toNat) ha (yQ (t := 26) (x := 26) (y := 27) (d := 28)) rfl rfl (by kernel_rfl) (by kernel_rfl) hA0 (Int.toNat_of_nonneg hx1.1).symm (by rw [hr.len]; omega)) fun a ha => ?_;refine qK (.slice sb.A sb.n sb.c) ha (qG ha (yX (t := 69) (x := 28) (d := 29) (ty := 69)) rfl (by kernel_rfl) (fun w' hw => by rw [hw]; rw [Nat.mul_one]; exact pw_cell_below hS.below hcb)) fun a ha => ?_;refine jY [(5, 30, iv x2)] ha fun a ha => ?_;refine jG (qX 31 (vs := [.slice sb.A sb.n sb.c, iv x2]) ha (leadsQ_sat hS hrb ⟨hx2.1, by omega⟩ hb1 hx) fun v9 w a hp10 ha => ?_);obtain ⟨ro1, rfl, hS⟩ := hp10;refine jY [(7, 6, .slice ro1.A ro1.n ro1.c), (8, 7, .bool true)] ha fun a ha => ?_;refine jZ ?_;replace ha := ha.as [(6, .slice ro1.A ro1.n ro1.c), (7, .bool true)] rfl;refine jQ (wp_ret (xX ha (by kernel_rfl) (qY (t := 6) ha rfl) (qY (t := 7) ha rfl) ?_));have hE : ldsP l f x2 = (leadsP (l.getD f.toNat []).length (stepP l f x2) x2, true) := by unfold ldsP; rw [if_pos hpl]
   rw [hE];rw [stepP_at hpl hb hx, show l.getD f.toNat [] = b by simp only [List.getD, hb, Option.getD_some]];exact ⟨ro1, rfl, hS.pickN 2 [0]⟩
  refine jH ha rfl (xG c8) ?_
  refine wp_seq (jX [0, 1, 2] (jG (qZ 24 [] 3 (fun b => .slice (some ⟨b, 0, none⟩) 0 0) ha hS fun b11 w a hb12 hS ha => ?_)))
  refine jY [(1, 6, .slice (some ⟨b11, 0, none⟩) 0 0), (2, 7, .bool false)] ha fun a ha => ?_
  refine jZ (jQ (wp_ret (qW (xX ha (by kernel_rfl) (qY (t := 6) ha rfl) (qY (t := 7) ha rfl) ?_))))
  have hpl : placeB 1 l f x2 = false := by unfold placeB; rw [c5, Bool.true_and]; simp only [List.getD, hb, Option.getD_some]; rw [← hsb]; exact c8
  have hE : ldsP l f x2 = ([], false) := by unfold ldsP; rw [if_neg (by rw [hpl]; decide)]
  rw [hE]
  replace hS := hS.blk0 1 0 rfl
  exact ⟨(⟨some ⟨b11, 0, none⟩, 0, 0⟩ : Sl), rfl, hS.pickN 2 [0]⟩
 replace ha := ha.turn 10 (.bool false) rfl (congrArg Value.bool c5)
 replace ha := ha.turn 11 (.bool true) rfl (congrArg Value.bool (xG c5))
 replace ha := ha.turn 12 (.bool true) rfl (congrArg Value.bool (xG c5))
 refine jY [(5, 13, undef), (6, 14, undef), (7, 15, undef), (8, 16, undef), (9, 17, undef), (10, 18, undef), (11, 19, undef), (12, 20, undef), (13, 21, undef), (14, 22, undef), (15, 23, .bool true)] ha fun a ha => ?_
 refine jZ (jQ ?_)
 refine jH ha rfl rfl ?_
 refine wp_seq (jX [0, 1, 2] (jG (qZ 24 [] 3 (fun b => .slice (some ⟨b, 0, none⟩) 0 0) ha hS fun b13 w a hb14 hS ha => ?_)))
 refine jY [(1, 6, .slice (some ⟨b13, 0, none⟩) 0 0), (2, 7, .bool false)] ha fun a ha => ?_
 refine jZ ?_
 replace ha := ha.as [(1, iv f), (2, iv x2), (3, ptr b1 0), (6, .slice (some ⟨b13, 0, none⟩) 0 0), (7, .bool false)] rfl
 refine jQ (wp_ret (qW (xX ha (by kernel_rfl) (qY (t := 6) ha rfl) (qY (t := 7) ha rfl) ?_)))
 have hpl : placeB 1 l f x2 = false := by unfold placeB; rw [c5, Bool.false_and]
 have hE : ldsP l f x2 = ([], false) := by unfold ldsP; rw [if_neg (by rw [hpl]; decide)]
 rw [hE]
 replace hS := hS.blk0 1 0 rfl
 exact ⟨(⟨some ⟨b13, 0, none⟩, 0, 0⟩ : Sl), rfl, hS.pickN 2 [0]⟩
theorem spec_LeadsTo_sat {w0 w : World} {Rs : List Asn} {s : Sl} {l : List (List ST)} {f x2 : Int} (hS : Sat w0 w Rs) (hr : RdP w s l) (hf : Fits l) :
  Calls Try.prog 33 #[.agg #[.slice s.A s.n s.c], iv f, iv x2] w (Ret fun r w' => ∃ o : Sl, r = .tuple #[.slice o.A o.n o.c, .bool (ldsP l f x2).2] ∧ Sat w0 w' (SX.row (.slice o.A o.n o.c) 3 1 (SX.encI ((ldsP l f x2).1)) :: Rs)) :=
 (spec_LeadsTo_sat0 hr hf).mono fun e w' h => by
  cases e with
  | returned r => obtain ⟨o, h1, h2⟩ := h; exact ⟨o, h1, hS.comp h2⟩
  | _ => exact h.elim
theorem code8 : Try.f8.body = some (Code.seq (cr Try.f8 0 false) (Code.seq (cr Try.f8 1 false) (Code.seq (cr Try.f8 2 false) (Code.seq (Code.seq (cr Try.f8 3 false) (Code.cond (Operand.tmp 22) (Code.seq (cr Try.f8 4 false) Code.ret) Code.skip)) (Code.seq (cr Try.f8 5 false) (Code.seq (cr Try.f8 6 false) (Code.seq (cr Try.f8 7 false) (Code.seq (Code.seq (cr Try.f8 8 false) (Code.cond (Operand.tmp 48) (Code.seq (cr Try.f8 9 false) Code.ret) Code.skip)) (Code.seq (Code.seq (cr Try.f8 10 true) (Code.cond (Operand.tmp 53) (Code.seq (cr Try.f8 11 false) Code.ret) Code.skip)) (Code.seq (cr Try.f8 12 false) (Code.seq (cr Try.f8 13 false) (Code.seq (Code.seq (cr Try.f8 14 false) (Code.cond (Operand.tmp 69) (Code.seq (cr Try.f8 15 false) Code.ret) Code.skip)) (Code.seq (cr Try.f8 16 false) (Code.seq (cr Try.f8 17 false) (Code.seq (cr Try.f8 18 false) (Code.seq (cr Try.f8 19 false) (Code.seq (Code.seq (cr Try.f8 20 false) (Code.cond (Operand.tmp 77) (Code.seq (cr Try.f8 21 false) Code.ret) Code.skip)) (Code.seq (Code.seq (cr Try.f8 22 false) (Code.cond (Operand.tmp 80) (Code.seq (cr Try.f8 23 false) Code.ret) Code.skip)) (Code.seq (cr Try.f8 24 false) (Code.seq (Code.seq (cr Try.f8 25 false) (Code.cond (Operand.tmp 97) (Code.seq (cr Try.f8 26 false) Code.ret) Code.skip)) (Code.seq (cr Try.f8 27 false) (Code.seq (cr Try.f8 28 false) (Code.seq (Code.seq (cr Try.f8 29 false) (Code.cond (Operand.tmp 102) (Code.seq (cr Try.f8 30 false) Code.ret) Code.skip)) (Code.seq (Code.seq (cr Try.f8 31 false) (Code.cond (Operand.tmp 105) (Code.seq (cr Try.f8 32 false) Code.ret) Code.skip)) (Code.seq (cr Try.f8 33 false) Code.ret))))))))))))))))))))))))) := by kernel_rfl
theorem law8_walk (w0 : World) (s0 : Sl) (l0 : List (List LT)) (f : Int) (x2 : Int) (hr0 : RdA w0 s0 l0) :
  Calls Try.prog 8 #[.agg #[.slice s0.A s0.n s0.c], iv f, iv x2] w0 (Ret fun r w' => r = .bool true ∧ Below w0.heap.size w0 w') := by
 have hS : Sat w0 w0 [] := Sat.start w0
 refine enter (n := 106) Try.func8 code8 (by kernel_rfl) (Nat.le_of_ble_eq_true rfl) (fun a ha => ?_)
 replace ha : Has 106 [(0, .agg #[.slice s0.A s0.n s0.c]), (1, iv f), (2, iv x2)] a := ha
 refine wp_seq (jX [0, 1] (jG (qZ 3 [.slice s0.A s0.n s0.c] 24 (ptr · 0) ha hS fun b1 w a hb2 hS ha => ?_)))
 refine jY [(1, 6, .bool false)] ha fun a ha => ?_
 refine jZ (jQ (wp_seq (jX [0] (jY [(0, 7, iv 1048576)] ha fun a ha => ?_))))
 refine jZ (jQ (wp_seq (jX [0, 1, 2, 3] (yY 18 ha (hS.blk 0 rfl) fun a ha => ?_))))
 refine jY [(1, 19, iv 1048576)] ha fun a ha => ?_
 refine jG (qX 20 (vs := [.agg #[.slice s0.A s0.n s0.c], iv 1048576]) ha (szProgram_sat hS (hr0.sat hS) (by omega) (by omega)) fun v3 w a hp4 ha => ?_)
 obtain ⟨rfl, hS⟩ := hp4
 refine jY [(3, 7, iv (szP l0 1048576))] ha fun a ha => ?_
 refine jZ (jQ (wp_seq (wp_seq (jX [0, 1] (jY [(0, 21, iv (szP l0 1048576)), (1, 22, .bool (decide ((szP l0 1048576) < 0)))] ha fun a ha => ?_)))))
 refine jZ (jQ ?_)
 by_cases c5 : (szP l0 1048576) < 0
 ·
  refine jH ha rfl (decide_eq_true c5) ?_
  refine wp_seq (jX [0] (jY [(0, 6, .bool true)] ha fun a ha => ?_))
  refine jZ (jQ (wp_ret (qW (qJ ha (by kernel_rfl) (qY (t := 6) ha rfl) ?_))))
  exact ⟨rfl, hS.below⟩
 have hf0 : Fits l0 := by have h8 : 0 ≤ szP l0 1048576 := (by omega); have h9 := szP_ok l0 1048576 h8; exact ⟨by omega, by omega⟩
 have htp0 := (toP_fits hf0).tot
 have hz0 := szP_ok l0 1048576 (by omega)
 refine jV ha rfl (decide_eq_false c5) ?_
 refine wp_skip (jQ (wp_seq (jX [0, 1, 2, 3, 4, 5, 6, 7, 8, 9] (yY 24 ha (hS.blk 0 rfl) fun a ha => ?_))))
 refine jG (qX 25 (vs := [.agg #[.slice s0.A s0.n s0.c]]) ha (toProgram_sat hS (hr0.sat hS) hf0) fun v6 w a hp7 ha => ?_)
 obtain ⟨sp1, rfl, hS⟩ := hp7
 refine jY [(2, 26, iv f), (3, 27, iv x2)] ha fun a ha => ?_
 refine jG (qX 28 (vs := [.agg #[.slice sp1.A sp1.n sp1.c], iv f, iv x2]) ha (spec_LeadsTo_sat hS (hS.rdS 0 rfl) (toP_fits hf0)) fun v8 w a hp9 ha => ?_)
 obtain ⟨o1, rfl, hS⟩ := hp9
 refine jY [(5, 23, .tuple #[.slice o1.A o1.n o1.c, .bool ((ldsP (toP l0) f x2).2)]), (6, 29, .slice o1.A o1.n o1.c), (7, 30, .bool ((ldsP (toP l0) f x2).2)), (8, 8, .slice o1.A o1.n o1.c), (9, 9, .bool ((ldsP (toP l0) f x2).2))] ha fun a ha => ?_
 refine jZ (jQ (wp_seq (jX [0, 1, 2, 3] (yY 31 ha (hS.blk 2 rfl) fun a ha => ?_))))
 refine jG (qX 32 (vs := [.agg #[.slice s0.A s0.n s0.c]]) ha (toProgram_sat hS (hr0.sat hS) hf0) fun v10 w a hp11 ha => ?_)
 obtain ⟨sp2, rfl, hS⟩ := hp11
 refine jG (qZ 10 [.slice none 0 0] 28 (ptr · 0) ha hS fun b12 w a hb13 hS ha => ?_)
 refine jG (o_sa 0 ha (yH (t := 28) (x := 10) (y := 32)) hS fun w a hS ha => ?_)
 refine jZ (jQ (wp_seq (jX [0, 1, 2, 3, 4, 5, 6, 7, 8] (yY 34 ha (hS.blk 0 rfl) fun a ha => ?_))))
 refine jY [(1, 35, iv f), (2, 36, iv x2)] ha fun a ha => ?_
 refine jG (qX 37 (vs := [.agg #[.slice sp2.A sp2.n sp2.c], iv f, iv x2]) ha (impl_LeadsTo_sat hS (hS.rdS 1 rfl) (toP_fits hf0)) fun v14 w a hp15 ha => ?_)
 obtain ⟨o2, rfl, hS⟩ := hp15
 refine jY [(4, 33, .tuple #[.slice o2.A o2.n o2.c, .bool ((ldsP (toP l0) f x2).2)]), (5, 38, .slice o2.A o2.n o2.c), (6, 39, .bool ((ldsP (toP l0) f x2).2)), (7, 11, .slice o2.A o2.n o2.c), (8, 12, .bool ((ldsP (toP l0) f x2).2))] ha fun a ha => ?_
 refine jZ ?_
 replace ha := ha.as [(1, iv f), (2, iv x2), (3, ptr b1 0), (6, .bool false), (8, .slice o1.A o1.n o1.c), (9, .bool ((ldsP (toP l0) f x2).2)), (10, ptr b12 0), (11, .slice o2.A o2.n o2.c), (12, .bool ((ldsP (toP l0) f x2).2))] rfl
 refine jQ (wp_seq (wp_seq (jX [0, 1, 2, 3, 4, 5, 6, 7, 8] (jY [(0, 40, .slice o2.A o2.n o2.c), (1, 41, .slice o1.A o1.n o1.c)] ha fun a ha => ?_))))
 refine jG (qX 42 (vs := [.slice o2.A o2.n o2.c, .slice o1.A o1.n o1.c]) ha (eqIntS_sat hS (hS.rdRow (s := o2) 0 rfl) (hS.rdRow (s := o1) 3 rfl)) fun v16 w a hp17 ha => ?_)
 obtain ⟨rfl, hS⟩ := hp17
 refine jY [(3, 43, .bool false), (4, 44, .bool false), (5, 45, .bool ((ldsP (toP l0) f x2).2)), (6, 46, .bool ((ldsP (toP l0) f x2).2))] ha fun a ha => ?_
 refine qK (.bool false) ha ((jW (v := .bool (!(((ldsP (toP l0) f x2).2) == ((ldsP (toP l0) f x2).2)))) ha (AtG.here (gd := 44) ⟨(by kernel_rfl : ((jK Try.f8 8)[7]?).map spec = some ((Op.binOp BinOp.neq 4 (Operand.tmp 45) (Operand.tmp 46) 4), some 47, 4, some (4, false))), by kernel_rfl⟩ ha rfl) (by kernel_rfl) (fun _ => by kernel_rfl)).as (by simp)) fun a ha => ?_
 refine jY [(8, 48, .bool false)] ha fun a ha => ?_
 refine jZ (jQ ?_)
 refine jV ha rfl rfl ?_
 refine wp_skip (jQ (wp_seq (wp_seq (xK 5 5 (hS.pickN 6 [1, 5]) hS fun w hS => ?_))))
 refine zW 0 49 ha (hS.pickN 6 [1, 5]) (fun _ hw => hw.blk 0 rfl) fun a ha => ?_
 refine zW 1 50 ha (hS.pickN 6 [1, 5]) (fun _ hw => hw.blk 1 rfl) fun a ha => ?_
 refine qU 2 (qX 51 (vs := [.agg #[.slice s0.A s0.n s0.c]]) ha (toProgram_sat hS (hr0.sat hS) hf0) fun v18 w a hp19 ha => ?_)
 obtain ⟨sp3, rfl, hS⟩ := hp19
 refine ⟨.inr (hS.pickN 7 [2, 6]), ?_⟩
 refine qU 3 (qX 52 (vs := [.agg #[.slice sp2.A sp2.n sp2.c], .agg #[.slice sp3.A sp3.n sp3.c]]) ha (eqP_sat hS (hS.rdS 3 rfl) (hS.rdS 0 rfl) (toP_fits hf0)) fun v20 w a hp21 ha => ?_)
 obtain ⟨rfl, hS⟩ := hp21
 refine ⟨.inr (hS.pickN 7 [2, 6]), ?_⟩
 refine qQ (k := 0) [(4, 53, .bool false)] ha (.inr (hS.pickN 7 [2, 6])) fun a ha => ?_
 refine xW (jQ ?_)
 refine jV ha rfl rfl ?_
 refine wp_skip (jQ (wp_seq (jX [0] (jY [(0, 13, iv 1)] ha fun a ha => ?_))))
 refine jZ (jQ (wp_seq (jX [0, 1, 2, 3] (yY 54 ha (hS.blk 2 rfl) fun a ha => ?_))))
 refine jY [(1, 55, iv 1)] ha fun a ha => ?_
 replace hS := hS.pickN 7 [3, 0, 1, 2, 4, 5, 6]
 refine jG (qX 56 (vs := [.agg #[.slice sp2.A sp2.n sp2.c], iv 1]) ha (markProgram_sat hS (toP_fits hf0) (by omega) (by omega)) fun v22 w a hp23 ha => ?_)
 obtain ⟨rfl, hS⟩ := hp23
 refine jY [(3, 13, iv (1 + 3 * (tot (toP l0) : Int)))] ha fun a ha => ?_
 refine jZ ?_
 replace ha := ha.as [(1, iv f), (2, iv x2), (3, ptr b1 0), (6, .bool false), (8, .slice o1.A o1.n o1.c), (9, .bool ((ldsP (toP l0) f x2).2)), (11, .slice o2.A o2.n o2.c), (12, .bool ((ldsP (toP l0) f x2).2)), (13, iv (1 + 3 * (tot (toP l0) : Int)))] rfl
 refine jQ (wp_seq (wp_seq (jX [0, 1, 2, 3, 4, 5, 6, 7, 8, 9, 10, 11, 12] (jY [(0, 57, iv (1 + 3 * (tot (toP l0) : Int)))] ha fun a ha => ?_))))
 refine qK (.bool false) ha ((jW (v := .bool (decide (1 + 3 * (tot (toP l0) : Int) < 0))) ha (xQ (op := (Op.binOp BinOp.lss 3 (Operand.tmp 57) (Operand.const (Value.int IntKind.i64 0)) 3)) (d := some 58) (ty := 4)) (by kernel_rfl) (fun _ => by kernel_rfl)).as (by rw [decide_eq_false (by omega)])) fun a ha => ?_
 refine jY [(2, 59, .bool false), (3, 60, .slice o2.A o2.n o2.c), (4, 61, .slice o1.A o1.n o1.c)] ha fun a ha => ?_
 refine jG (qX 62 (vs := [.slice o2.A o2.n o2.c, .slice o1.A o1.n o1.c]) ha (eqIntS_sat hS (hS.rdRow (s := o2) 2 rfl) (hS.rdRow (s := o1) 4 rfl)) fun v24 w a hp25 ha => ?_)
 obtain ⟨rfl, hS⟩ := hp25
 refine jY [(6, 63, .bool false), (7, 64, .bool false), (8, 65, .bool false), (9, 66, .bool ((ldsP (toP l0) f x2).2)), (10, 67, .bool ((ldsP (toP l0) f x2).2))] ha fun a ha => ?_
 refine qK (.bool false) ha ((jW (v := .bool (!(((ldsP (toP l0) f x2).2) == ((ldsP (toP l0) f x2).2)))) ha (AtG.here (gd := 65) ⟨(by kernel_rfl : ((jK Try.f8 14)[11]?).map spec = some ((Op.binOp BinOp.neq 4 (Operand.tmp 66) (Operand.tmp 67) 4), some 68, 4, some (8, false))), by kernel_rfl⟩ ha rfl) (by kernel_rfl) (fun _ => by kernel_rfl)).as (by simp)) fun a ha => ?_
 refine jY [(12, 69, .bool false)] ha fun a ha => ?_
 refine jZ (jQ ?_)
 refine jV ha rfl rfl ?_
 refine wp_skip (jQ (wp_seq (jX [0] (jY [(0, 14, iv 1)] ha fun a ha => ?_))))
 refine jZ (jQ (wp_seq (jX [0, 1, 2, 3] (jY [(0, 70, .slice o2.A o2.n o2.c), (1, 71, iv 1)] ha fun a ha => ?_))))
 replace hS := hS.pickN 7 [2, 0, 1, 3, 4, 5, 6]
 refine jG (qX 72 (vs := [.slice o2.A o2.n o2.c, iv 1]) ha (markG_sat hS (by omega) (by omega) (Nat.le_trans (ldsP_len ..) (by decide))) fun v26 w a hp27 ha => ?_)
 obtain ⟨rfl, hS⟩ := hp27
 refine jY [(3, 14, iv (1 + (((ldsP (toP l0) f x2).1).length : Int)))] ha fun a ha => ?_
 refine jZ ?_
 replace ha := ha.as [(1, iv f), (2, iv x2), (3, ptr b1 0), (6, .bool false), (8, .slice o1.A o1.n o1.c), (9, .bool ((ldsP (toP l0) f x2).2)), (11, .slice o2.A o2.n o2.c), (14, iv (1 + (((ldsP (toP l0) f x2).1).length : Int)))] rfl
 refine jQ (wp_seq (jX [0] (jY [(0, 15, iv 1)] ha fun a ha => ?_)))
 refine jZ (jQ (wp_seq (jX [0, 1, 2, 3] (jY [(0, 73, .slice o2.A o2.n o2.c), (1, 74, iv 1)] ha fun a ha => ?_))))
 refine jG (qX 75 (vs := [.slice o2.A o2.n o2.c, iv 1]) ha (heldI_sat hS (hS.rdRow (s := o2) 0 rfl) (Nat.le_trans (ldsP_len ..) (by decide))) fun v28 w a hp29 ha => ?_)
 obtain ⟨rfl, hS⟩ := hp29
 refine jY [(3, 15, iv (1 + (((ldsP (toP l0) f x2).1).length : Int)))] ha fun a ha => ?_
 refine jZ (jQ (wp_seq (wp_seq (jX [0, 1] (jY [(0, 76, iv (1 + (((ldsP (toP l0) f x2).1).length : Int)))] ha fun a ha => ?_)))))
 refine qK (.bool false) ha ((jW (v := .bool (decide (1 + (((ldsP (toP l0) f x2).1).length : Int) < 0))) ha (xQ (op := (Op.binOp BinOp.lss 3 (Operand.tmp 76) (Operand.const (Value.int IntKind.i64 0)) 3)) (d := some 77) (ty := 4)) (by kernel_rfl) (fun _ => by kernel_rfl)).as (by rw [decide_eq_false (by omega)])) fun a ha => ?_
 refine jZ (jQ ?_)
 refine jV ha rfl rfl ?_
 refine wp_skip (jQ (wp_seq (wp_seq (jX [0, 1, 2] (jY [(0, 78, iv (1 + (((ldsP (toP l0) f x2).1).length : Int))), (1, 79, iv (1 + (((ldsP (toP l0) f x2).1).length : Int)))] ha fun a ha => ?_)))))
 refine qK (.bool false) ha ((jW (v := .bool (!(decide (1 + (((ldsP (toP l0) f x2).1).length : Int) = 1 + (((ldsP (toP l0) f x2).1).length : Int))))) ha (xQ (op := (Op.binOp BinOp.neq 3 (Operand.tmp 78) (Operand.tmp 79) 3)) (d := some 80) (ty := 4)) (by kernel_rfl) (fun _ => by kernel_rfl)).as (by simp)) fun a ha => ?_
 refine jZ (jQ ?_)
 refine jV ha rfl rfl ?_
 refine wp_skip (jQ (wp_seq (jX [0, 1, 2, 3, 4, 5, 6, 7, 8, 9] (yY 82 ha (hS.blk 6 rfl) fun a ha => ?_))))
 refine jG (qX 83 (vs := [.agg #[.slice s0.A s0.n s0.c]]) ha (toProgram_sat hS (hr0.sat hS) hf0) fun v30 w a hp31 ha => ?_)
 obtain ⟨sp4, rfl, hS⟩ := hp31
 refine jY [(2, 84, iv f), (3, 85, iv x2)] ha fun a ha => ?_
 refine jG (qX 86 (vs := [.agg #[.slice sp4.A sp4.n sp4.c], iv f, iv x2]) ha (impl_LeadsTo_sat hS (hS.rdS 0 rfl) (toP_fits hf0)) fun v32 w a hp33 ha => ?_)
 obtain ⟨o3, rfl, hS⟩ := hp33
 refine jY [(5, 81, .tuple #[.slice o3.A o3.n o3.c, .bool ((ldsP (toP l0) f x2).2)]), (6, 87, .slice o3.A o3.n o3.c), (7, 88, .bool ((ldsP (toP l0) f x2).2)), (8, 16, .slice o3.A o3.n o3.c), (9, 17, .bool ((ldsP (toP l0) f x2).2))] ha fun a ha => ?_
 refine jZ ?_
 replace ha := ha.as [(6, .bool false), (8, .slice o1.A o1.n o1.c), (9, .bool ((ldsP (toP l0) f x2).2)), (11, .slice o2.A o2.n o2.c), (14, iv (1 + (((ldsP (toP l0) f x2).1).length : Int))), (15, iv (1 + (((ldsP (toP l0) f x2).1).length : Int))), (16, .slice o3.A o3.n o3.c), (17, .bool ((ldsP (toP l0) f x2).2))] rfl
 refine jQ (wp_seq (wp_seq (jX [0, 1, 2, 3, 4, 5, 6, 7, 8] (jY [(0, 89, .slice o3.A o3.n o3.c), (1, 90, .slice o1.A o1.n o1.c)] ha fun a ha => ?_))))
 refine jG (qX 91 (vs := [.slice o3.A o3.n o3.c, .slice o1.A o1.n o1.c]) ha (eqIntS_sat hS (hS.rdRow (s := o3) 0 rfl) (hS.rdRow (s := o1) 6 rfl)) fun v34 w a hp35 ha => ?_)
 obtain ⟨rfl, hS⟩ := hp35
 refine jY [(3, 92, .bool false), (4, 93, .bool false), (5, 94, .bool ((ldsP (toP l0) f x2).2)), (6, 95, .bool ((ldsP (toP l0) f x2).2))] ha fun a ha => ?_
 refine qK (.bool false) ha ((jW (v := .bool (!(((ldsP (toP l0) f x2).2) == ((ldsP (toP l0) f x2).2)))) ha (AtG.here (gd := 93) ⟨(by kernel_rfl : ((jK Try.f8 25)[7]?).map spec = some ((Op.binOp BinOp.neq 4 (Operand.tmp 94) (Operand.tmp 95) 4), some 96, 4, some (4, false))), by kernel_rfl⟩ ha rfl) (by kernel_rfl) (fun _ => by kernel_rfl)).as (by simp)) fun a ha => ?_
 refine jY [(8, 97, .bool false)] ha fun a ha => ?_
 refine jZ (jQ ?_)
 refine jV ha rfl rfl ?_
 refine wp_skip (jQ (wp_seq (jX [0] (jY [(0, 15, iv 1)] ha fun a ha => ?_))))
 refine jZ (jQ (wp_seq (jX [0, 1, 2, 3] (jY [(0, 98, .slice o2.A o2.n o2.c), (1, 99, iv 1)] ha fun a ha => ?_))))
 refine jG (qX 100 (vs := [.slice o2.A o2.n o2.c, iv 1]) ha (heldI_sat hS (hS.rdRow (s := o2) 2 rfl) (Nat.le_trans (ldsP_len ..) (by decide))) fun v36 w a hp37 ha => ?_)
 obtain ⟨rfl, hS⟩ := hp37
 refine jY [(3, 15, iv (1 + (((ldsP (toP l0) f x2).1).length : Int)))] ha fun a ha => ?_
 refine jZ ?_
 replace ha := ha.as [(6, .bool false), (14, iv (1 + (((ldsP (toP l0) f x2).1).length : Int))), (15, iv (1 + (((ldsP (toP l0) f x2).1).length : Int)))] rfl
 refine jQ (wp_seq (wp_seq (jX [0, 1] (jY [(0, 101, iv (1 + (((ldsP (toP l0) f x2).1).length : Int)))] ha fun a ha => ?_))))
 refine qK (.bool false) ha ((jW (v := .bool (decide (1 + (((ldsP (toP l0) f x2).1).length : Int) < 0))) ha (xQ (op := (Op.binOp BinOp.lss 3 (Operand.tmp 101) (Operand.const (Value.int IntKind.i64 0)) 3)) (d := some 102) (ty := 4)) (by kernel_rfl) (fun _ => by kernel_rfl)).as (by rw [decide_eq_false (by omega)])) fun a ha => ?_
 refine jZ (jQ ?_)
 refine jV ha rfl rfl ?_
 refine wp_skip (jQ (wp_seq (wp_seq (jX [0, 1, 2] (jY [(0, 103, iv (1 + (((ldsP (toP l0) f x2).1).length : Int))), (1, 104, iv (1 + (((ldsP (toP l0) f x2).1).length : Int)))] ha fun a ha => ?_)))))
 refine qK (.bool false) ha ((jW (v := .bool (!(decide (1 + (((ldsP (toP l0) f x2).1).length : Int) = 1 + (((ldsP (toP l0) f x2).1).length : Int))))) ha (xQ (op := (Op.binOp BinOp.neq 3 (Operand.tmp 103) (Operand.tmp 104) 3)) (d := some 105) (ty := 4)) (by kernel_rfl) (fun _ => by kernel_rfl)).as (by simp)) fun a ha => ?_
 refine jZ (jQ ?_)
 refine jV ha rfl rfl ?_
 refine wp_skip (jQ (wp_seq (jX [0] (jY [(0, 6, .bool true)] ha fun a ha => ?_))))
 refine jZ (jQ (wp_ret (qJ ha (by kernel_rfl) (qY (t := 6) ha rfl) ?_)))
 exact ⟨rfl, hS.below⟩
end Go.Proofs.Ytbgfiiehjaghiaa.G
