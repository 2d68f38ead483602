/- What the claim FnExactDropStep rests on, part 22 of 23; the last part proves it: for every input the law answers true, and its arguments read behind the call as before it. No condition. -/
import Derived.Test.YtbgfiiehjaghiaaQDropStep18
import Derived.Test.YtbgfiiehjaghiaaQDropStep20
import Derived.Test.YtbgfiiehjaghiaaQDropStep21
set_option linter.unusedSimpArgs false
set_option linter.unusedVariables false
set_option maxRecDepth 20000
set_option maxHeartbeats 1000000
namespace Go.Proofs.Ytbgfiiehjaghiaa.G
open Go.RowKit Go.Proofs.Ytbgfiiehjaghiaa.SX Go.Proofs.YtbgfiiehjaghiaaW.PrintWords Go.Proofs.YtbgfiiehjaghiaaW.PrintLast Go.Proofs.YtbgfiiehjaghiaaW.PrintMore
theorem encS3_one (l : List ST) : (encS3 l).all Value.oneCell' = true := by
 induction l with
 | nil => rfl
 | cons x l ih => show (cT x ++ encS3 l).all _ = true; rw [List.all_append, ih]; rfl
theorem encS3_del {b : List ST} {i : Nat} (hi : i < b.length) : (encS3 b).take (i * 3) ++ (encS3 b).drop ((i + 1) * 3) = encS3 (b.eraseIdx i) := by
 have h1 : (encS3 b).take (i * 3) = encS3 (b.take i) := flat_take cT_len b i
 have h2 : (encS3 b).drop ((i + 1) * 3) = encS3 (b.drop (i + 1)) := by
  conv => lhs; rw [← List.take_append_drop (i + 1) b]
  show ((b.take (i + 1) ++ b.drop (i + 1)).flatMap cT).drop _ = _
  rw [List.flatMap_append, List.drop_left']
  · rfl
  · rw [flat_length cT_len, List.length_take, Nat.min_eq_left hi]
 rw [h1, h2, List.eraseIdx_eq_take_drop_succ]
 simp [encS3]
def decS (a : Int) (x : ST) : ST := if x.f0 = 11 ∧ a < x.f1 then { x with f1 := x.f1 - 1 } else x
def dropL (b : List ST) (a : Int) : List ST := (b.eraseIdx a.toNat).map (decS a)
def dropP (l : List (List ST)) (f a : Int) : List (List ST) × Bool := if placeB 1 l f a = true then (l.set f.toNat (dropL (l.getD f.toNat []) a), true) else ([], false)
theorem dropP_no {l : List (List ST)} {f a : Int} (h : placeB 1 l f a = false) : dropP l f a = ([], false) := by unfold dropP; rw [h]; rfl
theorem dropP_yes {l : List (List ST)} {f a : Int} {b : List ST} (h : placeB 1 l f a = true) (hb : l[f.toNat]? = some b) : dropP l f a = (l.set f.toNat (dropL b a), true) := by unfold dropP; rw [if_pos h]; simp only [List.getD, hb, Option.getD_some]
theorem dropL_len (b : List ST) (a : Int) : (dropL b a).length ≤ b.length := by unfold dropL; rw [List.length_map]; exact (List.eraseIdx_sublist b _).length_le
theorem dropP_fits {l : List (List ST)} (hf : Fits l) (f a : Int) : Fits (dropP l f a).1 := by
  unfold dropP
  split
  · rename_i h
    obtain ⟨ho, b, hb, _⟩ := placeB_ok h;simp only [List.getD, hb, Option.getD_some];refine ⟨by rw [List.length_set]; exact hf.1, Nat.le_trans (tot_set hb (dropL_len b a)) hf.2⟩
  · exact nil_fits
def dropN (b : List ST) (a : Int) (i : Nat) : List ST := ((b.take i).map (decS a)).eraseIdx a.toNat
theorem dropN_len (b : List ST) (a : Int) (i : Nat) : (dropN b a i).length ≤ i := by
 unfold dropN
 refine Nat.le_trans (List.eraseIdx_sublist _ _).length_le ?_
 rw [List.length_map, List.length_take]; omega
theorem dropN_end (b : List ST) (a : Int) : dropN b a b.length = dropL b a := by unfold dropN dropL; rw [List.take_length]; simp [List.eraseIdx_eq_take_drop_succ, List.map_append, List.map_take, List.map_drop]
theorem dropN_at {b : List ST} {a : Int} {i : Nat} {x : ST} (hx : b[i]? = some x) (h : (i : Int) = a) : dropN b a (i + 1) = dropN b a i := by
 have hi := (List.getElem?_eq_some_iff.1 hx).1
 have hl : ((b.take i).map (decS a)).length = i := by rw [List.length_map, List.length_take]; omega
 have ha : a.toNat = i := by omega
 unfold dropN
 rw [ha, List.eraseIdx_of_length_le (l := (b.take i).map (decS a)) (by omega), List.take_add_one, hx, List.map_append, List.eraseIdx_append_of_length_le (by omega), hl, Nat.sub_self]
 simp
theorem dropN_go {b : List ST} {a : Int} {i : Nat} {x : ST} (hx : b[i]? = some x) (h : ¬ (i : Int) = a) (h0 : 0 ≤ a) : dropN b a (i + 1) = dropN b a i ++ [decS a x] := by
 have hi := (List.getElem?_eq_some_iff.1 hx).1
 have hl : ((b.take i).map (decS a)).length = i := by rw [List.length_map, List.length_take]; omega
 unfold dropN
 rw [List.take_add_one, hx, List.map_append]
 by_cases hlt : a.toNat < i
 · rw [List.eraseIdx_append_of_lt_length (by omega)]; rfl
 · rw [List.eraseIdx_of_length_le (by rw [List.length_append, hl]; simp; omega), List.eraseIdx_of_length_le (by omega)]; rfl
theorem encS3_snoc3 (l : List ST) (x : ST) : encS3 l ++ [.int .i64 x.f0, .int .i64 x.f1, .int .i64 x.f2] = encS3 (l ++ [x]) := by simp [encS3, cT]
theorem okJ8_of {l : List (List ST)} {b : List ST} (h : programB l = true) (hb : b ∈ l) : ∀ x ∈ b, x.f0 = 11 → 0 ≤ x.f1 ∧ x.f1 ≤ 8 := by
 have hP := progOk_of h
 intro x hx h11
 exact (hP.steps (b.map toStp) (List.mem_map_of_mem hb) (toStp x) (List.mem_map_of_mem hx)).j h11
theorem okF_prog' {l : List (List ST)} {f : Int} (h : okF l f = true) : programB l = true := by rw [okF, Bool.and_eq_true] at h; exact h.1
theorem decS_yes {a : Int} {x : ST} (h1 : x.f0 = 11) (h2 : x.f1 > a) : decS a x = { x with f1 := x.f1 - 1 } := if_pos ⟨h1, h2⟩
theorem decS_no {a : Int} {x : ST} (h : ¬ x.f0 = 11 ∨ ¬ x.f1 > a) : decS a x = x := if_neg fun k => by rcases h with h | h; exact h k.1; exact h k.2
theorem code70 : Try.f70.body = some (Code.seq (cr Try.f70 0 false) (Code.seq (cr Try.f70 1 false) (Code.seq (Code.seq (cr Try.f70 2 false) (Code.cond (Operand.tmp 16) (Code.seq (cr Try.f70 3 false) Code.ret) Code.skip)) (Code.seq (cr Try.f70 4 false) (Code.seq (cr Try.f70 5 true) (Code.seq (cr Try.f70 6 false) (Code.seq (cr Try.f70 7 false) Code.ret))))))) := by kernel_rfl
theorem del_sat {w0 w : World} {Rs : List Asn} {z : Sl} {b : List ST} {x2 : Int} (hS : Sat w0 w (SX.row (.slice z.A z.n z.c) 68 3 (encS3 b) :: Rs)) (hx2 : 0 ≤ x2 ∧ x2 < (b.length : Int)) (hbl : b.length ≤ 1048576) :
  Calls Try.prog 70 #[.slice z.A z.n z.c, .int .i64 x2, .int .i64 (x2 + 1)] w (Ret fun r w' => ∃ o : Sl, r = .slice o.A o.n o.c ∧ Sat w0 w' (SX.row (.slice o.A o.n o.c) 68 3 (encS3 (b.eraseIdx x2.toNat)) :: Rs)) := by
 have hzn : z.n = b.length := hS.rowL (s := z) (enc := cT) 0 cT_len (by decide) rfl
 have hzc := (hS.rowC (s := z) 0 rfl).1
 have hzA := hS.rowA (s := z) 0 rfl (by rw [encS3_length]; omega)
 refine enter (n := 33) Try.func70 code70 (by kernel_rfl) (Nat.le_of_ble_eq_true rfl) (fun a ha => ?_)
 replace ha : Has 33 [(0, .slice z.A z.n z.c), (1, iv x2), (2, iv (x2 + 1))] a := ha
 refine wp_seq (jZ [0] (jX [(0, 6, .slice none 0 0)] ha fun a ha => ?_))
 refine jK (jQ (wp_seq (jZ [0, 1, 2, 3, 4, 5] (jX [(0, 8, .slice z.A z.n z.c), (1, 9, iv x2), (2, 10, iv (x2 + 1)), (3, 11, .slice z.A z.n z.c), (4, 12, iv (z.n : Int))] ha fun a ha => ?_))))
 refine qQ (.slice (tailA z.A x2.toNat 3 z.n) (x2.toNat + 1 - x2.toNat) (z.n - x2.toNat)) ha (v_mid3 (el := 68) (sz := 3) (j := x2.toNat) (j2 := x2.toNat + 1) (j3 := z.n) ha (yY (op := (Op.slice 69 (Operand.tmp 8) (some (Operand.tmp 9)) (some (Operand.tmp 10)) (some (Operand.tmp 12)))) (d := some 13) (ty := 69)) rfl rfl rfl rfl (by kernel_rfl) (by kernel_rfl) (Int.toNat_of_nonneg hx2.1).symm (by omega) rfl (by omega) (by omega) hzc hzc) fun a ha => ?_
 refine jK (jQ (wp_seq (wp_seq (jZ [0, 1, 2] (jX [(0, 14, iv x2), (1, 15, iv (x2 + 1)), (2, 16, .bool (decide (x2 = (x2 + 1))))] ha fun a ha => ?_)))))
 refine jK (jQ ?_)
 by_cases c1 : x2 = (x2 + 1)
 ·
  omega
 refine jG ha rfl (decide_eq_false c1) ?_
 refine wp_skip (jQ (wp_seq (jZ [0, 1, 2] (jX [(0, 18, .slice z.A z.n z.c), (1, 19, iv (z.n : Int)), (2, 7, iv (z.n : Int))] ha fun a ha => ?_))))
 refine jK (jQ (wp_seq (xW 8 8 (hS.pickN 1 []) hS fun w hS => ?_)))
 refine qY (k := 6) [(0, 20, .slice z.A z.n z.c), (1, 21, iv x2)] ha (.inr (hS.pickN 1 [])) fun a ha => ?_
 refine yG 2 (.slice z.A x2.toNat z.c) ha (v_takeZ (el := 68) (j := x2.toNat) ha (yY (op := (Op.slice 69 (Operand.tmp 20) none (some (Operand.tmp 21)) none)) (d := some 22) (ty := 69)) rfl rfl (by kernel_rfl) (by kernel_rfl) (Int.toNat_of_nonneg hx2.1).symm (by omega) hzc) (.inr (hS.pickN 1 [])) fun a ha => ?_
 refine qY (k := 3) [(3, 23, .slice z.A z.n z.c), (4, 24, iv (x2 + 1))] ha (.inr (hS.pickN 1 [])) fun a ha => ?_
 refine yG 5 (.slice (tailA z.A (x2.toNat + 1) 3 z.c) (z.n - (x2.toNat + 1)) (z.c - (x2.toNat + 1))) ha (v_dropZ (el := 68) (sz := 3) (j := x2.toNat + 1) ha (yY (op := (Op.slice 69 (Operand.tmp 23) (some (Operand.tmp 24)) none none)) (d := some 25) (ty := 69)) rfl rfl (by kernel_rfl) (by kernel_rfl) (by omega) (by omega) hzc) (.inr (hS.pickN 1 [])) fun a ha => ?_
 obtain ⟨n9, hn9⟩ : ∃ n9, n9 = z.n - 1 := ⟨_, rfl⟩
 refine xU 6 (o_delZ (j := x2.toNat + 1) (b0 := x2.toNat) (un := z.n) (c := z.c) (A := z.A) (sz := 3) (n2 := n9) 0 ha (by decide) (yY (op := (Op.call { callee := (Callee.builtin Builtin.append), args := #[(Operand.tmp 22), (Operand.tmp 25)], argTypes := #[69, 69] })) (d := some 26) (ty := 69)) rfl rfl (by kernel_rfl) (by kernel_rfl) hS rfl (by omega) (by omega) (encS3_one _) (encS3_del (by omega)) (by omega) fun w a hS ha => ?_)
 refine ⟨.inr (hS.pickN 1 []), ?_⟩
 refine qY (k := 0) [(7, 0, .slice z.A n9 z.c)] ha (.inr (hS.pickN 1 [])) fun a ha => ?_
 refine yV ?_
 replace ha := ha.as [(6, .slice none 0 0), (7, iv (z.n : Int)), (0, .slice z.A n9 z.c)] rfl
 refine jQ (wp_seq (jZ [0, 1, 2, 3, 4, 5] (jX [(0, 27, .slice z.A n9 z.c), (1, 28, .slice z.A n9 z.c), (2, 29, iv (n9 : Int)), (3, 30, iv (z.n : Int))] ha fun a ha => ?_)))
 refine qQ (.slice (tailA z.A n9 3 z.c) (z.n - n9) (z.c - n9)) ha (v_midZ (el := 68) (sz := 3) (j := n9) (j2 := z.n) ha (yY (op := (Op.slice 69 (Operand.tmp 27) (some (Operand.tmp 29)) (some (Operand.tmp 30)) none)) (d := some 31) (ty := 69)) rfl rfl rfl (by kernel_rfl) (by kernel_rfl) rfl rfl (by omega) hzc (by omega)) fun a ha => ?_
 refine jU (o_clearZ (k := n9) (m := z.n - n9) (c := z.c) (A := z.A) (sz := 3) (z := .agg #[.int .i64 0, .int .i64 0, .int .i64 0]) (el := 68) 0 ha (yY (op := (Op.call { callee := (Callee.builtin Builtin.clear), args := #[(Operand.tmp 31)], argTypes := #[69] })) (ty := 0)) rfl (by kernel_rfl) (fun w => by kernel_rfl) rfl (by decide) hS rfl (by omega) (by omega) (by rw [hzA]; simp) fun w a hS ha => ?_)
 refine jK (jQ (wp_seq (jZ [0, 1] (jX [(0, 32, .slice z.A n9 z.c), (1, 6, .slice z.A n9 z.c)] ha fun a ha => ?_))))
 refine jK (jQ (wp_ret (qK ha (by kernel_rfl) (xZ (t := 6) ha rfl) ?_)))
 exact ⟨⟨z.A, n9, z.c⟩, rfl, hS.pickN 1 [0]⟩
theorem code25 : Try.f25.body = some (Code.seq (cr Try.f25 0 false) (Code.seq (Code.seq (cr Try.f25 1 false) (Code.cond (Operand.tmp 27) (Code.seq (cr Try.f25 2 false) Code.ret) Code.skip)) (Code.seq (cr Try.f25 3 false) (Code.seq (cr Try.f25 4 false) (Code.seq (Code.seq (cr Try.f25 5 false) (Code.block 0 (Code.loop (Code.seq (cr Try.f25 6 false) (Code.seq (Code.cond (Operand.tmp 43) Code.skip (Code.exit 0)) (Code.seq (Code.block 1 (Code.seq (cr Try.f25 7 false) (Code.seq (cr Try.f25 8 false) (Code.cond (Operand.tmp 55) (cr Try.f25 9 false) Code.skip)))) (cr Try.f25 10 false))))))) (Code.seq (cr Try.f25 11 false) (Code.seq (cr Try.f25 12 false) Code.ret))))))) := by kernel_rfl
theorem impl_DropStep_sat0 {w0 : World} {s0 : Sl} {l : List (List ST)} {x1 x2 : Int} (hr : RdP w0 s0 l) (hf : Fits l) :
  Calls Try.prog 25 #[.agg #[.slice s0.A s0.n s0.c], iv x1, iv x2] w0 (Ret fun r w' => ∃ s : Sl, r = .tuple #[.agg #[s.v], .bool (dropP l x1 x2).2] ∧ Sat w0 w' [prg w0.heap.size s (dropP l x1 x2).1]) := by
 have hS : Sat w0 w0 [] := Sat.start w0
 refine enter (n := 71) Try.func25 code25 (by kernel_rfl) (Nat.le_of_ble_eq_true rfl) (fun a ha => ?_)
 replace ha : Has 71 [(0, .agg #[.slice s0.A s0.n s0.c]), (1, iv x1), (2, iv x2)] a := ha
 refine wp_seq (jZ [0, 1, 2] (jU (qZ 3 [.slice s0.A s0.n s0.c] 28 (ptr · 0) ha hS fun b1 w a hb2 hS ha => ?_)))
 refine jU (qZ 6 [.slice none 0 0] 28 (ptr · 0) ha hS fun b3 w a hb4 hS ha => ?_)
 refine jX [(2, 7, .bool false)] ha fun a ha => ?_
 refine jK (jQ (wp_seq (wp_seq (jZ [0, 1, 2, 3, 4, 5, 6, 7, 8, 9, 10, 11, 12, 13, 14, 15] (qX 12 ha (hS.blk 1 rfl) fun a ha => ?_)))))
 refine jX [(1, 13, iv x1)] ha fun a ha => ?_
 refine jU (qJ 14 (vs := [.agg #[.slice s0.A s0.n s0.c], iv x1]) ha (isFunction_sat hS (hr.sat hS) hf) fun v5 w a hp6 ha => ?_)
 obtain ⟨rfl, hS⟩ := hp6
 refine jX [(3, 15, .bool (!(okF l x1))), (4, 16, .bool (!(okF l x1)))] ha fun a ha => ?_
 rcases Bool.eq_false_or_eq_true (okF l x1) with c7 | c7
 ·
  replace ha := ha.turn 14 (.bool true) rfl (congrArg Value.bool c7)
  replace ha := ha.turn 15 (.bool false) rfl (congrArg Value.bool (qG c7))
  replace ha := ha.turn 16 (.bool false) rfl (congrArg Value.bool (qG c7))
  have hx1 := okF_lt c7
  obtain ⟨b, hb⟩ : ∃ b, l[x1.toNat]? = some b := ⟨_, List.getElem?_eq_getElem (by omega)⟩
  have hb1 : b.length ≤ 1048576 := hf.each b (List.mem_of_getElem? hb)
  obtain ⟨hA0, sb, hcb, hrb⟩ := body_rd hr hb
  have hsb := hrb.len
  refine jX [(5, 17, iv x2), (6, 18, ptr b1 0)] ha fun a ha => ?_
  refine xJ (d := 19) (b := b1) (j := 0) ha (hS.blk 1 rfl) rfl fun a ha => ?_
  refine jX [(8, 20, iv x1)] ha fun a ha => ?_
  refine qQ (.pointer (some ⟨bk s0, of_ s0 + x1.toNat * 1, none⟩)) ha (qW (s := s0) (el := 69) (sz := 1) (j := x1.toNat) ha (AtG.here (gd := 16) ⟨(by kernel_rfl : ((jY Try.f25 1)[9]?).map spec = some ((Op.indexAddr 26 (Operand.tmp 19) (Operand.tmp 20)), some 21, 0, some (4, false))), by kernel_rfl⟩ ha rfl) rfl rfl (by kernel_rfl) (by kernel_rfl) hA0 (Int.toNat_of_nonneg hx1.1).symm (by rw [hr.len]; omega)) fun a ha => ?_
  refine qQ (.slice sb.A sb.n sb.c) ha (xX ha (AtG.here (gd := 16) ⟨(by kernel_rfl : ((jY Try.f25 1)[10]?).map spec = some ((Op.load 69 (Operand.tmp 21)), some 22, 69, some (4, false))), by kernel_rfl⟩ ha rfl) rfl (by kernel_rfl) (fun w' hw => by rw [hw]; rw [Nat.mul_one]; exact pw_cell_below hS.below hcb)) fun a ha => ?_
  refine jX [(11, 23, iv (sb.n : Int))] ha fun a ha => ?_
  refine xY 24 ((sb.n : Int) - 1) ha fun a ha => ?_
  refine jU (qJ 25 (vs := [iv x2, iv 0, iv ((sb.n : Int) - 1)]) ha (in_sat hS _ _ _) fun v8 w a hp9 ha => ?_)
  obtain ⟨rfl, hS⟩ := hp9
  refine jX [(14, 26, .bool (!((inB x2 0 ((sb.n : Int) - 1))))), (15, 27, .bool (!((inB x2 0 ((sb.n : Int) - 1)))))] ha fun a ha => ?_
  refine jK (jQ ?_)
  rcases Bool.eq_false_or_eq_true (inB x2 0 ((sb.n : Int) - 1)) with c10 | c10
  ·
   have hpl : placeB 1 l x1 x2 = true := by unfold placeB; rw [c7, Bool.true_and]; simp only [List.getD, hb, Option.getD_some]; rw [← hsb]; exact c10
   have hx2 : 0 ≤ x2 ∧ x2 ≤ (sb.n : Int) - 1 := by simpa only [inB, Bool.and_eq_true, decide_eq_true_eq] using c10
   refine jG ha rfl (qG c10) ?_;refine wp_skip (jQ (wp_seq (jZ [0, 1, 2, 3] (qX 29 ha (hS.blk 1 rfl) fun a ha => ?_))));refine jU (qJ 30 (vs := [.agg #[.slice s0.A s0.n s0.c]]) ha (copied_sat hS (hr.sat hS) hf) fun v11 w a hp12 ha => ?_);obtain ⟨s1, rfl, hS⟩ := hp12;refine jU (qZ 8 [.slice none 0 0] 28 (ptr · 0) ha hS fun b13 w a hb14 hS ha => ?_);refine jU (o_sa 0 ha (xK (t := 28) (x := 8) (y := 30)) hS fun w a hS ha => ?_);refine jK (jQ (wp_seq ?_));replace hS := hS.pickN 4 [1, 0, 2, 3];obtain ⟨vs, z, hvl, hz, hS⟩ := openFn hS hb;replace hS : Sat w0 w ((SX.row (.slice s1.A s1.n s1.c) 69 1 (encSl vs)) :: (SX.row (.slice z.A z.n z.c) 68 3 (encS3 b)) :: (holeA w0.heap.size l vs x1.toNat) :: (SX.blk b13 [.slice s1.A s1.n s1.c] 28) :: (SX.blk b3 [.slice none 0 0] 28) :: (SX.blk b1 [.slice s0.A s0.n s0.c] 28) :: []) := hS;have hzl : z.n = b.length := hS.rowL (s := z) (enc := cT) 1 cT_len (by decide) rfl;refine jZ [0, 1, 2, 3, 4, 5, 6, 7, 8, 9] (jX [(0, 31, ptr b13 0)] ha fun a ha => ?_);refine xJ (d := 32) (b := b13) (j := 0) ha (hS.blk 3 rfl) rfl fun a ha => ?_;refine jX [(2, 33, iv x1)] ha fun a ha => ?_;refine qQ (.pointer (some ⟨bk s1, x1.toNat * 1, none⟩)) ha (xV (s := s1) (el := 69) (sz := 1) (j := x1.toNat) ha (yW (t := 26) (x := 32) (y := 33) (d := 34)) rfl rfl (by kernel_rfl) (by kernel_rfl) (hS.rowA (s := s1) 0 rfl (by have := (List.getElem?_eq_some_iff.1 hz).1; rw [encSl_length]; omega)) ((Int.toNat_of_nonneg hx1.1).symm) (by have h9 := hS.rowL (s := s1) (enc := cSl) 0 cSl_len (by decide) rfl; have := (List.getElem?_eq_some_iff.1 hz).1; omega)) fun a ha => ?_;refine qQ (.slice z.A z.n z.c) ha (xX ha (yU (t := 69) (x := 34) (d := 35) (ty := 69)) rfl (by kernel_rfl) (fun w' hw => by rw [hw]; exact (hS.rdC (s := s1) 0 rfl).cells _ _ ((flat_get (enc := cSl) (o := 0) cSl_len hz (by decide)).trans rfl))) fun a ha => ?_;refine jX [(5, 36, iv x2), (6, 37, iv x2)] ha fun a ha => ?_;refine xY 38 (x2 + 1) ha fun a ha => ?_;replace hS := hS.pickN 6 [1, 0, 2, 3, 4, 5];refine jU (qJ 39 (vs := [.slice z.A z.n z.c, iv x2, iv (x2 + 1)]) ha (del_sat hS ⟨hx2.1, by omega⟩ hb1) fun v15 w a hp16 ha => ?_);obtain ⟨z2, rfl, hS⟩ := hp16;have hz2n : z2.n = (b.eraseIdx x2.toNat).length := hS.rowL (s := z2) (enc := cT) 0 cT_len (by decide) rfl;have hbe := (List.eraseIdx_sublist b x2.toNat).length_le;refine jX [(9, 9, .slice z2.A z2.n z2.c)] ha fun a ha => ?_;refine jK ?_;replace ha := ha.as [(1, iv x1), (2, iv x2), (6, ptr b3 0), (7, .bool false), (8, ptr b13 0), (9, .slice z2.A z2.n z2.c)] rfl;refine jQ (wp_seq (wp_seq (jZ [0, 1, 2] (jX [(0, 40, .slice z2.A z2.n z2.c), (1, 41, iv (z2.n : Int)), (2, 42, iv 0)] ha fun a ha => ?_))));refine jK (jQ (wp_block ?_));replace hS := hS.pickN 6 [1, 0, 2, 3, 4];replace hS : Sat w0 w ((SX.row (.slice s1.A s1.n s1.c) 69 1 (encSl vs)) :: (SX.row (.slice z2.A z2.n z2.c) 68 3 (encS3 (cur (decS x2) (b.eraseIdx x2.toNat) 0))) :: (holeA w0.heap.size l vs x1.toNat) :: (SX.blk b13 [.slice s1.A s1.n s1.c] 28) :: (SX.blk b3 [.slice none 0 0] 28) :: []) := by rw [cur_zero]; exact hS
   refine wp_loop_ghost (fun n_ a_ w_ => ∃ (j : Nat), n_ = (b.eraseIdx x2.toNat).length - j ∧ (j ≤ (b.eraseIdx x2.toNat).length) ∧ Has 71 [(1, iv x1), (2, iv x2), (6, ptr b3 0), (7, .bool false), (8, ptr b13 0), (9, .slice z2.A z2.n z2.c), (40, .slice z2.A z2.n z2.c), (41, iv (z2.n : Int)), (42, iv (j : Int))] a_ ∧ Sat w0 w_ ((SX.row (.slice s1.A s1.n s1.c) 69 1 (encSl vs)) :: (SX.row (.slice z2.A z2.n z2.c) 68 3 (encS3 (cur (decS x2) (b.eraseIdx x2.toNat) j))) :: (holeA w0.heap.size l vs x1.toNat) :: (SX.blk b13 [.slice s1.A s1.n s1.c] 28) :: (SX.blk b3 [.slice none 0 0] 28) :: [])) _ ⟨0, rfl, Nat.zero_le _, ha.keeps [1, 2, 6, 7, 8, 9, 40, 41, 42] _ rfl, hS⟩ ?_
   rintro n_ a w ⟨j, rfl, hj, ha, hS⟩
   refine wp_seq (jZ [0] (jX [(0, 43, .bool (decide ((j : Int) < (z2.n : Int))))] ha fun a ha => ?_));refine jK (jQ (wp_seq ?_))
   by_cases c17 : (j : Int) < (z2.n : Int)
   ·
    have hjt : j < (b.eraseIdx x2.toNat).length := by omega
    obtain ⟨x, hx⟩ : ∃ x, (b.eraseIdx x2.toNat)[j]? = some x := ⟨_, List.getElem?_eq_getElem hjt⟩;refine jH ha rfl (decide_eq_true c17) ?_;refine wp_skip (jQ (wp_seq (wp_block (wp_seq (jZ [0, 1, 2, 3, 4, 5] (jX [(0, 44, iv (j : Int))] ha fun a ha => ?_))))));refine qQ (.pointer (some ⟨bk z2, j * 3, none⟩)) ha (xV (s := z2) (el := 68) (sz := 3) (j := j) ha (yW (t := 69) (x := 40) (y := 42) (d := 45)) rfl rfl (by kernel_rfl) (by kernel_rfl) (hS.rowA (s := z2) 1 rfl (by have := (List.getElem?_eq_some_iff.1 (cur_get (g := decS x2) hx)).1; rw [encS3_length]; omega)) (rfl) (by have h9 := hS.rowL (s := z2) (enc := cT) 1 cT_len (by decide) rfl; have := (List.getElem?_eq_some_iff.1 (cur_get (g := decS x2) hx)).1; omega)) fun a ha => ?_;refine qQ (.agg #[iv x.f0, iv x.f1, iv x.f2]) ha (v_loadL ha (yU (t := 68) (x := 45) (d := 46) (ty := 68)) rfl (fun w' hw => by rw [hw]; exact run_loadVar_agg (vs := [iv x.f0, iv x.f1, iv x.f2]) (by kernel_rfl) (fun i u hu => by match i, hu with | 0, hu => rw [add0]; rw [← Option.some.inj hu]; exact ((hS.rdC (s := z2) 1 rfl).cells _ _ ((flat_get (enc := cT) (o := 0) cT_len (cur_get (g := decS x2) hx) (by decide)).trans rfl)) | 1, hu => rw [add0]; rw [← Option.some.inj hu]; exact ((hS.rdC (s := z2) 1 rfl).cells _ _ ((flat_get (enc := cT) (o := 1) cT_len (cur_get (g := decS x2) hx) (by decide)).trans rfl)) | 2, hu => rw [add0]; rw [← Option.some.inj hu]; exact ((hS.rdC (s := z2) 1 rfl).cells _ _ ((flat_get (enc := cT) (o := 2) cT_len (cur_get (g := decS x2) hx) (by decide)).trans rfl)) | n + 3, hu => simp at hu))) fun a ha => ?_;refine jU (qZ 11 [iv 0, iv 0, iv 0] 68 (ptr · 0) ha hS fun b18 w a hb19 hS ha => ?_);refine jX [(4, 10, iv (j : Int))] ha fun a ha => ?_;refine jU (o_sa 0 ha (xK (t := 68) (x := 11) (y := 46)) hS fun w a hS ha => ?_);refine jK (jQ (wp_seq (jZ [0, 1, 2, 3, 4, 5, 6, 7, 8] (jX [(0, 47, ptr b18 0)] ha fun a ha => ?_))));refine xJ (d := 48) (b := b18) (j := 0) ha (hS.blk 0 rfl) rfl fun a ha => ?_;refine jX [(2, 49, .bool (decide (x.f0 = 11))), (3, 50, .bool (decide (x.f0 = 11)))] ha fun a ha => ?_
    by_cases c20 : x.f0 = 11
    ·
     replace ha := ha.turn 49 (.bool true) rfl (congrArg Value.bool (decide_eq_true c20));replace ha := ha.turn 50 (.bool true) rfl (congrArg Value.bool (decide_eq_true c20));refine jX [(4, 51, ptr b18 1)] ha fun a ha => ?_;refine xJ (d := 52) (b := b18) (j := 1) ha (hS.blk 0 rfl) rfl fun a ha => ?_;refine jX [(6, 53, iv x2), (7, 54, .bool (decide (x.f1 > x2))), (8, 55, .bool (decide (x.f1 > x2)))] ha fun a ha => ?_;refine jK (jQ ?_)
     by_cases c21 : x.f1 > x2
     ·
      refine jH ha rfl (decide_eq_true c21) ?_;have hj8 := okJ8_of (okF_prog' c7) (List.mem_of_getElem? hb) x (List.mem_of_mem_eraseIdx (List.mem_of_getElem? hx)) c20;refine jZ [0, 1, 2, 3, 4, 5, 6, 7, 8] (jX [(0, 56, .slice z2.A z2.n z2.c), (1, 57, iv (j : Int))] ha fun a ha => ?_);refine qQ (.pointer (some ⟨bk z2, j * 3, none⟩)) ha (xV (s := z2) (el := 68) (sz := 3) (j := j) ha (yW (t := 69) (x := 56) (y := 57) (d := 58)) rfl rfl (by kernel_rfl) (by kernel_rfl) (hS.rowA (s := z2) 2 rfl (by have := (List.getElem?_eq_some_iff.1 (cur_get (g := decS x2) hx)).1; rw [encS3_length]; omega)) (rfl) (by have h9 := hS.rowL (s := z2) (enc := cT) 2 cT_len (by decide) rfl; have := (List.getElem?_eq_some_iff.1 (cur_get (g := decS x2) hx)).1; omega)) fun a ha => ?_;refine jX [(3, 59, .pointer (some ⟨bk z2, j * 3 + 1, none⟩))] ha fun a ha => ?_;refine qQ (iv x.f1) ha (xX ha (yU (t := 3) (x := 59) (d := 60) (ty := 3)) rfl (by kernel_rfl) (fun w' hw => by rw [hw]; exact (hS.rdC (s := z2) 2 rfl).cells _ _ ((flat_get (enc := cT) (o := 1) cT_len (cur_get (g := decS x2) hx) (by decide)).trans rfl))) fun a ha => ?_;refine xY 61 (x.f1 - 1) ha fun a ha => ?_;refine qQ (.pointer (some ⟨bk z2, j * 3, none⟩)) ha (xV (s := z2) (el := 68) (sz := 3) (j := j) ha (yW (t := 69) (x := 56) (y := 57) (d := 62)) rfl rfl (by kernel_rfl) (by kernel_rfl) (hS.rowA (s := z2) 2 rfl (by have := (List.getElem?_eq_some_iff.1 (cur_get (g := decS x2) hx)).1; rw [encS3_length]; omega)) (rfl) (by have h9 := hS.rowL (s := z2) (enc := cT) 2 cT_len (by decide) rfl; have := (List.getElem?_eq_some_iff.1 (cur_get (g := decS x2) hx)).1; omega)) fun a ha => ?_;refine jX [(7, 63, .pointer (some ⟨bk z2, j * 3 + 1, none⟩))] ha fun a ha => ?_;refine jU (yQ (s := z2) (j := j * 3 + 1) (xs := encS3 (cur (decS x2) (b.eraseIdx x2.toNat) j)) (xs' := encS3 ((cur (decS x2) (b.eraseIdx x2.toNat) j).set j ({ x with f1 := x.f1 - 1 } : ST))) 2 ha (xK (t := 3) (x := 63) (y := 61)) rfl rfl rfl (by kernel_rfl) hS rfl (by have := (List.getElem?_eq_some_iff.1 (cur_get (g := decS x2) hx)).1; rw [encS3_length]; omega) ((flat_set (enc := cT) (x' := ({ x with f1 := x.f1 - 1 } : ST)) cT_len (cur_get (g := decS x2) hx) (by decide) rfl)) (fun w a (hS : Sat w0 w ((SX.blk b18 [iv x.f0, iv x.f1, iv x.f2] 68) :: (SX.row (.slice s1.A s1.n s1.c) 69 1 (encSl vs)) :: (SX.row (.slice z2.A z2.n z2.c) 68 3 (encS3 ((cur (decS x2) (b.eraseIdx x2.toNat) j).set j ({ x with f1 := x.f1 - 1 } : ST)))) :: (holeA w0.heap.size l vs x1.toNat) :: (SX.blk b13 [.slice s1.A s1.n s1.c] 28) :: (SX.blk b3 [.slice none 0 0] 28) :: [])) ha => ?_));refine jK (in_n (jQ (jZ [0, 1] (xY 64 ((j : Int) + 1) ha fun a ha => ?_))));refine jX [(1, 42, iv ((j : Int) + 1))] ha fun a ha => ?_;refine jK (jQ ?_);replace hS := hS.pickN 6 [1, 2, 3, 4, 5];replace hS : Sat w0 w ((SX.row (.slice s1.A s1.n s1.c) 69 1 (encSl vs)) :: (SX.row (.slice z2.A z2.n z2.c) 68 3 (encS3 (cur (decS x2) (b.eraseIdx x2.toNat) (j + 1)))) :: (holeA w0.heap.size l vs x1.toNat) :: (SX.blk b13 [.slice s1.A s1.n s1.c] 28) :: (SX.blk b3 [.slice none 0 0] 28) :: []) := by rw [← cur_set hx, decS_yes c20 c21]; exact hS
      exact ⟨_, by omega, j + 1, rfl, by omega, ha.keeps [1, 2, 6, 7, 8, 9, 40, 41, 42] _ rfl, hS⟩
     refine jG ha rfl (decide_eq_false c21) ?_;refine wp_skip (in_n (jQ (jZ [0, 1] (xY 64 ((j : Int) + 1) ha fun a ha => ?_))));refine jX [(1, 42, iv ((j : Int) + 1))] ha fun a ha => ?_;refine jK (jQ ?_);replace hS := hS.pickN 6 [1, 2, 3, 4, 5];replace hS : Sat w0 w ((SX.row (.slice s1.A s1.n s1.c) 69 1 (encSl vs)) :: (SX.row (.slice z2.A z2.n z2.c) 68 3 (encS3 (cur (decS x2) (b.eraseIdx x2.toNat) (j + 1)))) :: (holeA w0.heap.size l vs x1.toNat) :: (SX.blk b13 [.slice s1.A s1.n s1.c] 28) :: (SX.blk b3 [.slice none 0 0] 28) :: []) := by rw [← cur_same hx (decS_no (.inr c21))]; exact hS
     exact ⟨_, by omega, j + 1, rfl, by omega, ha.keeps [1, 2, 6, 7, 8, 9, 40, 41, 42] _ rfl, hS⟩
    replace ha := ha.turn 49 (.bool false) rfl (congrArg Value.bool (decide_eq_false c20));replace ha := ha.turn 50 (.bool false) rfl (congrArg Value.bool (decide_eq_false c20));refine jX [(4, 51, undef), (5, 52, undef), (6, 53, undef), (7, 54, undef), (8, 55, .bool false)] ha fun a ha => ?_;refine jK (jQ ?_);refine jG ha rfl rfl ?_;refine wp_skip (in_n (jQ (jZ [0, 1] (xY 64 ((j : Int) + 1) ha fun a ha => ?_))));refine jX [(1, 42, iv ((j : Int) + 1))] ha fun a ha => ?_;refine jK (jQ ?_);replace hS := hS.pickN 6 [1, 2, 3, 4, 5];replace hS : Sat w0 w ((SX.row (.slice s1.A s1.n s1.c) 69 1 (encSl vs)) :: (SX.row (.slice z2.A z2.n z2.c) 68 3 (encS3 (cur (decS x2) (b.eraseIdx x2.toNat) (j + 1)))) :: (holeA w0.heap.size l vs x1.toNat) :: (SX.blk b13 [.slice s1.A s1.n s1.c] 28) :: (SX.blk b3 [.slice none 0 0] 28) :: []) := by rw [← cur_same hx (decS_no (.inl c20))]; exact hS
    exact ⟨_, by omega, j + 1, rfl, by omega, ha.keeps [1, 2, 6, 7, 8, 9, 40, 41, 42] _ rfl, hS⟩
   refine jG ha rfl (decide_eq_false c17) ?_;refine wp_exit (qU (qU (in_x (jQ (wp_seq (jZ [0, 1, 2, 3, 4, 5] (jX [(0, 65, ptr b13 0)] ha fun a ha => ?_)))))));refine xJ (d := 66) (b := b13) (j := 0) ha (hS.blk 3 rfl) rfl fun a ha => ?_;refine jX [(2, 67, iv x1), (3, 68, .slice z2.A z2.n z2.c)] ha fun a ha => ?_;refine qQ (.pointer (some ⟨bk s1, x1.toNat * 1, none⟩)) ha (xV (s := s1) (el := 69) (sz := 1) (j := x1.toNat) ha (yW (t := 26) (x := 66) (y := 67) (d := 69)) rfl rfl (by kernel_rfl) (by kernel_rfl) (hS.rowA (s := s1) 0 rfl (by have := (List.getElem?_eq_some_iff.1 hz).1; rw [encSl_length]; omega)) ((Int.toNat_of_nonneg hx1.1).symm) (by have h9 := hS.rowL (s := s1) (enc := cSl) 0 cSl_len (by decide) rfl; have := (List.getElem?_eq_some_iff.1 hz).1; omega)) fun a ha => ?_;refine jU (yQ (s := s1) (j := x1.toNat * 1 + 0) (xs := encSl vs) (xs' := encSl (vs.set x1.toNat z2)) 0 ha (xK (t := 69) (x := 69) (y := 68)) rfl rfl rfl (by kernel_rfl) hS rfl (by have := (List.getElem?_eq_some_iff.1 hz).1; rw [encSl_length]; omega) ((flat_set (enc := cSl) (x' := z2) cSl_len hz (by decide) rfl)) (fun w a (hS : Sat w0 w ((SX.row (.slice s1.A s1.n s1.c) 69 1 (encSl (vs.set x1.toNat z2))) :: (SX.row (.slice z2.A z2.n z2.c) 68 3 (encS3 (cur (decS x2) (b.eraseIdx x2.toNat) j))) :: (holeA w0.heap.size l vs x1.toNat) :: (SX.blk b13 [.slice s1.A s1.n s1.c] 28) :: (SX.blk b3 [.slice none 0 0] 28) :: [])) ha => ?_));refine jK (jQ (wp_seq (jZ [0, 1, 2] (qX 70 ha (hS.blk 3 rfl) fun a ha => ?_))));refine jU (o_sa 4 ha (xK (t := 28) (x := 6) (y := 70)) hS fun w a hS ha => ?_);refine jX [(2, 7, .bool true)] ha fun a ha => ?_;refine jK (jQ (wp_ret (xQ ha (by kernel_rfl) (yJ (t := 6) (ty := 28) (i := 4) ha rfl hS rfl (by kernel_rfl)) (xZ (t := 7) ha rfl) ?_)));replace hS := hS.pickN 5 [0, 1, 2];obtain rfl : j = (b.eraseIdx x2.toNat).length := by omega
   rw [cur_end] at hS;rw [dropP_yes hpl hb];exact ⟨s1, rfl, shutFn (z' := z2) (by omega) hS⟩
  refine jH ha rfl (qH c10) ?_
  refine wp_seq (jZ [0, 1, 2] (jX [(0, 28, .agg #[.slice none 0 0])] ha fun a ha => ?_))
  refine jU (o_sa 0 ha (xK (t := 28) (x := 6) (y := 28)) hS fun w a hS ha => ?_)
  refine jX [(2, 7, .bool false)] ha fun a ha => ?_
  refine jK (jQ (wp_ret (qV ?_)))
  have hpl : placeB 1 l x1 x2 = false := by unfold placeB; rw [c7, Bool.true_and]; simp only [List.getD, hb, Option.getD_some]; rw [← hsb]; exact c10
  refine xQ ha (by kernel_rfl) (yJ (t := 6) (ty := 28) (i := 0) ha rfl hS rfl (by kernel_rfl)) (xZ (t := 7) ha rfl) ?_
  rw [dropP_no hpl]
  exact ⟨⟨none, 0, 0⟩, rfl, nilPrg (Sat.rest [_, _] hS)⟩
 replace ha := ha.turn 14 (.bool false) rfl (congrArg Value.bool c7)
 replace ha := ha.turn 15 (.bool true) rfl (congrArg Value.bool (qH c7))
 replace ha := ha.turn 16 (.bool true) rfl (congrArg Value.bool (qH c7))
 refine jX [(5, 17, undef), (6, 18, undef), (7, 19, undef), (8, 20, undef), (9, 21, undef), (10, 22, undef), (11, 23, undef), (12, 24, undef), (13, 25, undef), (14, 26, undef), (15, 27, .bool true)] ha fun a ha => ?_
 refine jK (jQ ?_)
 refine jH ha rfl rfl ?_
 refine wp_seq (jZ [0, 1, 2] (jX [(0, 28, .agg #[.slice none 0 0])] ha fun a ha => ?_))
 refine jU (o_sa 0 ha (xK (t := 28) (x := 6) (y := 28)) hS fun w a hS ha => ?_)
 refine jX [(2, 7, .bool false)] ha fun a ha => ?_
 refine jK ?_
 replace ha := ha.as [(1, iv x1), (2, iv x2), (3, ptr b1 0), (6, ptr b3 0), (7, .bool false)] rfl
 refine jQ (wp_ret (qV ?_))
 have hpl : placeB 1 l x1 x2 = false := by unfold placeB; rw [c7, Bool.false_and]
 refine xQ ha (by kernel_rfl) (yJ (t := 6) (ty := 28) (i := 0) ha rfl hS rfl (by kernel_rfl)) (xZ (t := 7) ha rfl) ?_
 rw [dropP_no hpl]
 exact ⟨⟨none, 0, 0⟩, rfl, nilPrg (Sat.rest [_, _] hS)⟩
theorem impl_DropStep_sat {w0 w : World} {Rs : List Asn} {s0 : Sl} {l : List (List ST)} {x1 x2 : Int} (hS : Sat w0 w Rs) (hr : RdP w s0 l) (hf : Fits l) :
  Calls Try.prog 25 #[.agg #[.slice s0.A s0.n s0.c], iv x1, iv x2] w (Ret fun r w' => ∃ s : Sl, r = .tuple #[.agg #[s.v], .bool (dropP l x1 x2).2] ∧ Sat w0 w' (prg w0.heap.size s (dropP l x1 x2).1 :: Rs)) := liftPB hS (impl_DropStep_sat0 hr hf)
theorem code67 : Try.f67.body = some (Code.seq (cr Try.f67 0 false) (Code.seq (cr Try.f67 1 false) (Code.seq (Code.seq (cr Try.f67 2 false) (Code.block 0 (Code.loop (Code.seq (Code.seq (cr Try.f67 3 false) (Code.cond (Operand.tmp 21) Code.skip (Code.exit 0))) (Code.seq (Code.block 1 (Code.seq (cr Try.f67 5 false) (Code.seq (Code.seq (cr Try.f67 6 false) (Code.cond (Operand.tmp 40) (cr Try.f67 7 false) Code.skip)) (Code.seq (cr Try.f67 8 false) (Code.cond (Operand.tmp 47) (cr Try.f67 9 false) Code.skip))))) (cr Try.f67 4 false)))))) (Code.seq (cr Try.f67 10 false) (Code.seq (cr Try.f67 11 false) Code.ret))))) := by kernel_rfl
theorem l2Drop_sat0 {w0 : World} {s0 : Sl} {l : List (List ST)} {x1 x2 : Int} (hr : RdP w0 s0 l) (hf : Fits l) (ho8 : programB l = true) {b : List ST} (hb : l[x1.toNat]? = some b) (hx1 : 0 ≤ x1 ∧ x1 < (l.length : Int)) (hx2 : 0 ≤ x2 ∧ x2 ≤ (b.length : Int) - 1) :
  Calls Try.prog 67 #[.agg #[.slice s0.A s0.n s0.c], .int .i64 x1, .int .i64 x2] w0 (Ret fun r w' => ∃ s : Sl, r = .agg #[s.v] ∧ Sat w0 w' [prg w0.heap.size s (l.set x1.toNat (dropL b x2))]) := by
 have hS : Sat w0 w0 [] := Sat.start w0
 have hb1 : b.length ≤ 1048576 := hf.each b (List.mem_of_getElem? hb)
 obtain ⟨hA0, sb, hcb, hrb⟩ := body_rd hr hb
 have hsb := hrb.len
 refine enter (n := 58) Try.func67 code67 (by kernel_rfl) (Nat.le_of_ble_eq_true rfl) (fun a ha => ?_)
 replace ha : Has 58 [(0, .agg #[.slice s0.A s0.n s0.c]), (1, iv x1), (2, iv x2)] a := ha
 refine wp_seq (jZ [0, 1] (jU (qZ 3 [.slice s0.A s0.n s0.c] 28 (ptr · 0) ha hS fun b1 w a hb2 hS ha => ?_)))
 refine jU (qZ 6 [.slice none 0 0] 28 (ptr · 0) ha hS fun b3 w a hb4 hS ha => ?_)
 refine jK (jQ (wp_seq (jZ [0, 1, 2, 3, 4, 5] (qX 11 ha (hS.blk 1 rfl) fun a ha => ?_))))
 refine jU (qJ 12 (vs := [.agg #[.slice s0.A s0.n s0.c]]) ha (l2Own_sat hS (hr.sat hS) hf) fun v5 w a hp6 ha => ?_)
 obtain ⟨s1, rfl, hS⟩ := hp6
 refine jU (qZ 13 [] 68 (fun b => .slice (some ⟨b, 0, none⟩) 0 0) ha hS fun b7 w a hb8 hS ha => ?_)
 refine jU (qZ 7 [.slice none 0 0] 28 (ptr · 0) ha hS fun b9 w a hb10 hS ha => ?_)
 refine jU (o_sa 0 ha (xK (t := 28) (x := 7) (y := 12)) hS fun w a hS ha => ?_)
 refine jX [(5, 8, .slice (some ⟨b7, 0, none⟩) 0 0)] ha fun a ha => ?_
 refine jK (jQ (wp_seq (wp_seq (jZ [0] (jX [(0, 9, iv 0)] ha fun a ha => ?_)))))
 refine jK (jQ (wp_block ?_))
 replace hS := hS.blk0 3 1 rfl
 replace hS := hS.pickN 5 [2, 1, 0, 3, 4]
 replace hS : Sat w0 w ((prg w0.heap.size s1 l) :: (SX.row (.slice ((⟨some ⟨b7, 0, none⟩, 0, 0⟩ : Sl).A) ((⟨some ⟨b7, 0, none⟩, 0, 0⟩ : Sl).n) ((⟨some ⟨b7, 0, none⟩, 0, 0⟩ : Sl).c)) 68 3 (encS3 (dropN b x2 0))) :: (SX.blk b9 [.slice s1.A s1.n s1.c] 28) :: (SX.blk b3 [.slice none 0 0] 28) :: (SX.blk b1 [.slice s0.A s0.n s0.c] 28) :: []) := hS
 refine wp_loop_ghost (fun n_ a_ w_ => ∃ (i : Nat) (bd : Sl), n_ = b.length - i ∧ (i ≤ b.length) ∧ Has 58 [(1, iv x1), (2, iv x2), (3, ptr b1 0), (6, ptr b3 0), (7, ptr b9 0), (8, .slice bd.A bd.n bd.c), (9, iv (i : Int))] a_ ∧ Sat w0 w_ ((prg w0.heap.size s1 l) :: (SX.row (.slice bd.A bd.n bd.c) 68 3 (encS3 (dropN b x2 i))) :: (SX.blk b9 [.slice s1.A s1.n s1.c] 28) :: (SX.blk b3 [.slice none 0 0] 28) :: (SX.blk b1 [.slice s0.A s0.n s0.c] 28) :: [])) _ ⟨0, ⟨some ⟨b7, 0, none⟩, 0, 0⟩, rfl, Nat.zero_le _, ha.keeps [1, 2, 3, 6, 7, 8, 9] _ rfl, hS⟩ ?_
 rintro n_ a w ⟨i, bd, rfl, hi, ha, hS⟩
 refine wp_seq (wp_seq (jZ [0, 1, 2, 3, 4, 5, 6, 7] (jX [(0, 14, iv (i : Int)), (1, 15, ptr b1 0)] ha fun a ha => ?_)))
 refine xJ (d := 16) (b := b1) (j := 0) ha (hS.blk 4 rfl) rfl fun a ha => ?_
 refine jX [(3, 17, iv x1)] ha fun a ha => ?_
 refine qQ (.pointer (some ⟨bk s0, of_ s0 + x1.toNat * 1, none⟩)) ha (qW (s := s0) (el := 69) (sz := 1) (j := x1.toNat) ha (yW (t := 26) (x := 16) (y := 17) (d := 18)) rfl rfl (by kernel_rfl) (by kernel_rfl) hA0 (Int.toNat_of_nonneg hx1.1).symm (by rw [hr.len]; omega)) fun a ha => ?_
 refine qQ (.slice sb.A sb.n sb.c) ha (xX ha (yU (t := 69) (x := 18) (d := 19) (ty := 69)) rfl (by kernel_rfl) (fun w' hw => by rw [hw]; rw [Nat.mul_one]; exact pw_cell_below hS.below hcb)) fun a ha => ?_
 refine jX [(6, 20, iv (sb.n : Int)), (7, 21, .bool (decide ((i : Int) < (sb.n : Int))))] ha fun a ha => ?_
 refine jK (jQ ?_)
 by_cases c11 : (i : Int) < (sb.n : Int)
 ·
  have hil : i < b.length := by omega
  obtain ⟨x, hx⟩ : ∃ x, b[i]? = some x := ⟨_, List.getElem?_eq_getElem hil⟩
  refine jH ha rfl (decide_eq_true c11) ?_
  refine wp_skip (jQ (wp_seq (wp_block (wp_seq (jZ [0, 1, 2, 3, 4, 5, 6, 7, 8, 9] (jX [(0, 24, ptr b1 0)] ha fun a ha => ?_))))))
  refine xJ (d := 25) (b := b1) (j := 0) ha (hS.blk 4 rfl) rfl fun a ha => ?_
  refine jX [(2, 26, iv x1)] ha fun a ha => ?_
  refine qQ (.pointer (some ⟨bk s0, of_ s0 + x1.toNat * 1, none⟩)) ha (qW (s := s0) (el := 69) (sz := 1) (j := x1.toNat) ha (yW (t := 26) (x := 25) (y := 26) (d := 27)) rfl rfl (by kernel_rfl) (by kernel_rfl) hA0 (Int.toNat_of_nonneg hx1.1).symm (by rw [hr.len]; omega)) fun a ha => ?_
  refine qQ (.slice sb.A sb.n sb.c) ha (xX ha (yU (t := 69) (x := 27) (d := 28) (ty := 69)) rfl (by kernel_rfl) (fun w' hw => by rw [hw]; rw [Nat.mul_one]; exact pw_cell_below hS.below hcb)) fun a ha => ?_
  refine jX [(5, 29, iv (i : Int))] ha fun a ha => ?_
  refine qQ (.pointer (some ⟨bk sb, of_ sb + i * 3, none⟩)) ha (qW (el := 68) (sz := 3) (j := i) ha (yW (t := 69) (x := 28) (y := 29) (d := 30)) rfl rfl (by kernel_rfl) (by kernel_rfl) (RdE.at_ (hrb.sat hS) _ _ hx).1 (rfl) (by rw [((hrb.sat hS)).len]; exact (List.getElem?_eq_some_iff.1 hx).1)) fun a ha => ?_
  refine qQ (.agg #[iv x.f0, iv x.f1, iv x.f2]) ha (v_loadE (b := bk sb) (f := of_ sb + i * 3) (vs := [iv x.f0, iv x.f1, iv x.f2]) ha (yU (t := 68) (x := 30) (d := 31) (ty := 68)) rfl (by kernel_rfl) (fun w' hw o u hu => by rw [hw]; exact (RdE.at_ (hrb.sat hS) _ _ hx).2 o u hu)) fun a ha => ?_
  refine jU (qZ 10 [iv 0, iv 0, iv 0] 68 (ptr · 0) ha hS fun b12 w a hb13 hS ha => ?_)
  refine jU (o_sa 0 ha (xK (t := 68) (x := 10) (y := 31)) hS fun w a hS ha => ?_)
  refine jK (jQ (wp_seq (wp_seq (jZ [0, 1, 2, 3, 4, 5, 6, 7, 8] (jX [(0, 32, ptr b12 0)] ha fun a ha => ?_)))))
  refine xJ (d := 33) (b := b12) (j := 0) ha (hS.blk 0 rfl) rfl fun a ha => ?_
  refine jX [(2, 34, .bool (decide (x.f0 = 11))), (3, 35, .bool (decide (x.f0 = 11)))] ha fun a ha => ?_
  by_cases c14 : x.f0 = 11
  ·
   replace ha := ha.turn 34 (.bool true) rfl (congrArg Value.bool (decide_eq_true c14));replace ha := ha.turn 35 (.bool true) rfl (congrArg Value.bool (decide_eq_true c14));refine jX [(4, 36, ptr b12 1)] ha fun a ha => ?_;refine xJ (d := 37) (b := b12) (j := 1) ha (hS.blk 0 rfl) rfl fun a ha => ?_;refine jX [(6, 38, iv x2), (7, 39, .bool (decide (x.f1 > x2))), (8, 40, .bool (decide (x.f1 > x2)))] ha fun a ha => ?_;refine jK (jQ ?_)
   by_cases c15 : x.f1 > x2
   ·
    refine jH ha rfl (decide_eq_true c15) ?_;have hj8 := okJ8_of ho8 (List.mem_of_getElem? hb) x (List.mem_of_getElem? hx) c14;refine jZ [0, 1, 2, 3, 4] (jX [(0, 41, ptr b12 1)] ha fun a ha => ?_);refine xJ (d := 42) (b := b12) (j := 1) ha (hS.blk 0 rfl) rfl fun a ha => ?_;refine xY 43 (x.f1 - 1) ha fun a ha => ?_;refine jX [(3, 44, ptr b12 1)] ha fun a ha => ?_;refine jU (zK b12 1 (iv (x.f1 - 1)) 0 ha hS rfl rfl fun w a hS ha => ?_);refine jK (jQ (wp_seq (jZ [0, 1, 2] (jX [(0, 45, iv (i : Int)), (1, 46, iv x2), (2, 47, .bool (!(decide ((i : Int) = x2))))] ha fun a ha => ?_))));refine jK (jQ ?_)
    by_cases c16 : (i : Int) = x2
    ·
     refine jG ha rfl (qG (decide_eq_true c16)) ?_;refine wp_skip (in_n (jQ (jZ [0, 1, 2] (jX [(0, 22, iv (i : Int))] ha fun a ha => ?_))));refine xY 23 ((i : Int) + 1) ha fun a ha => ?_;refine jX [(2, 9, iv ((i : Int) + 1))] ha fun a ha => ?_;refine jK (jQ ?_);replace hS := hS.pickN 6 [1, 2, 3, 4, 5];replace hS : Sat w0 w ((prg w0.heap.size s1 l) :: (SX.row (.slice bd.A bd.n bd.c) 68 3 (encS3 (dropN b x2 (i + 1)))) :: (SX.blk b9 [.slice s1.A s1.n s1.c] 28) :: (SX.blk b3 [.slice none 0 0] 28) :: (SX.blk b1 [.slice s0.A s0.n s0.c] 28) :: []) := by rw [dropN_at hx c16]; exact hS
     exact ⟨_, by omega, i + 1, bd, rfl, by omega, ha.keeps [1, 2, 3, 6, 7, 8, 9] _ rfl, hS⟩
    refine jH ha rfl (qH (decide_eq_false c16)) ?_;refine jZ [0, 1, 2, 3, 4] (jX [(0, 48, .slice bd.A bd.n bd.c)] ha fun a ha => ?_);refine qX 49 ha (hS.blk 0 rfl) fun a ha => ?_;refine jU (qZ 50 [iv x.f0, iv (x.f1 - 1), iv x.f2] 68 (fun b => .slice (some ⟨b, 0, none⟩) 1 1) ha hS fun b17 w a hb18 hS ha => ?_);refine jU (o_ap 51 3 0 (encS3 ((dropN b x2 i) ++ [(⟨x.f0, x.f1 - 1, x.f2⟩ : ST)])) ha hS rfl rfl (by rw [encS3_length]; have := dropN_len b x2 i; simp only [List.length_cons, List.length_nil]; omega) (encS3_snoc3 _ (⟨x.f0, x.f1 - 1, x.f2⟩ : ST)) fun s22 w a hS hn23 ha => ?_);refine jX [(4, 8, .slice s22.A s22.n s22.c)] ha fun a ha => ?_;refine jK (in_n (jQ (jZ [0, 1, 2] (jX [(0, 22, iv (i : Int))] ha fun a ha => ?_))));refine xY 23 ((i : Int) + 1) ha fun a ha => ?_;refine jX [(2, 9, iv ((i : Int) + 1))] ha fun a ha => ?_;refine jK (jQ ?_);replace hS := hS.pickN 7 [2, 3, 4, 5, 6];replace hS : Sat w0 w ((prg w0.heap.size s1 l) :: (SX.row (.slice s22.A s22.n s22.c) 68 3 (encS3 (dropN b x2 (i + 1)))) :: (SX.blk b9 [.slice s1.A s1.n s1.c] 28) :: (SX.blk b3 [.slice none 0 0] 28) :: (SX.blk b1 [.slice s0.A s0.n s0.c] 28) :: []) := by rw [dropN_go hx c16 hx2.1, decS_yes c14 c15]; exact hS
    exact ⟨_, by omega, i + 1, s22, rfl, by omega, ha.keeps [1, 2, 3, 6, 7, 8, 9] _ rfl, hS⟩
   refine jG ha rfl (decide_eq_false c15) ?_;refine wp_skip (jQ (wp_seq (jZ [0, 1, 2] (jX [(0, 45, iv (i : Int)), (1, 46, iv x2), (2, 47, .bool (!(decide ((i : Int) = x2))))] ha fun a ha => ?_))));refine jK (jQ ?_)
   by_cases c24 : (i : Int) = x2
   ·
    refine jG ha rfl (qG (decide_eq_true c24)) ?_;refine wp_skip (in_n (jQ (jZ [0, 1, 2] (jX [(0, 22, iv (i : Int))] ha fun a ha => ?_))));refine xY 23 ((i : Int) + 1) ha fun a ha => ?_;refine jX [(2, 9, iv ((i : Int) + 1))] ha fun a ha => ?_;refine jK (jQ ?_);replace hS := hS.pickN 6 [1, 2, 3, 4, 5];replace hS : Sat w0 w ((prg w0.heap.size s1 l) :: (SX.row (.slice bd.A bd.n bd.c) 68 3 (encS3 (dropN b x2 (i + 1)))) :: (SX.blk b9 [.slice s1.A s1.n s1.c] 28) :: (SX.blk b3 [.slice none 0 0] 28) :: (SX.blk b1 [.slice s0.A s0.n s0.c] 28) :: []) := by rw [dropN_at hx c24]; exact hS
    exact ⟨_, by omega, i + 1, bd, rfl, by omega, ha.keeps [1, 2, 3, 6, 7, 8, 9] _ rfl, hS⟩
   refine jH ha rfl (qH (decide_eq_false c24)) ?_;refine jZ [0, 1, 2, 3, 4] (jX [(0, 48, .slice bd.A bd.n bd.c)] ha fun a ha => ?_);refine qX 49 ha (hS.blk 0 rfl) fun a ha => ?_;refine jU (qZ 50 [iv x.f0, iv x.f1, iv x.f2] 68 (fun b => .slice (some ⟨b, 0, none⟩) 1 1) ha hS fun b25 w a hb26 hS ha => ?_);refine jU (o_ap 51 3 0 (encS3 ((dropN b x2 i) ++ [(⟨x.f0, x.f1, x.f2⟩ : ST)])) ha hS rfl rfl (by rw [encS3_length]; have := dropN_len b x2 i; simp only [List.length_cons, List.length_nil]; omega) (encS3_snoc3 _ (⟨x.f0, x.f1, x.f2⟩ : ST)) fun s30 w a hS hn31 ha => ?_);refine jX [(4, 8, .slice s30.A s30.n s30.c)] ha fun a ha => ?_;refine jK (in_n (jQ (jZ [0, 1, 2] (jX [(0, 22, iv (i : Int))] ha fun a ha => ?_))));refine xY 23 ((i : Int) + 1) ha fun a ha => ?_;refine jX [(2, 9, iv ((i : Int) + 1))] ha fun a ha => ?_;refine jK (jQ ?_);replace hS := hS.pickN 7 [2, 3, 4, 5, 6];replace hS : Sat w0 w ((prg w0.heap.size s1 l) :: (SX.row (.slice s30.A s30.n s30.c) 68 3 (encS3 (dropN b x2 (i + 1)))) :: (SX.blk b9 [.slice s1.A s1.n s1.c] 28) :: (SX.blk b3 [.slice none 0 0] 28) :: (SX.blk b1 [.slice s0.A s0.n s0.c] 28) :: []) := by rw [dropN_go hx c24 hx2.1, decS_no (.inr c15)]; exact hS
   exact ⟨_, by omega, i + 1, s30, rfl, by omega, ha.keeps [1, 2, 3, 6, 7, 8, 9] _ rfl, hS⟩
  replace ha := ha.turn 34 (.bool false) rfl (congrArg Value.bool (decide_eq_false c14))
  replace ha := ha.turn 35 (.bool false) rfl (congrArg Value.bool (decide_eq_false c14))
  refine jX [(4, 36, undef), (5, 37, undef), (6, 38, undef), (7, 39, undef), (8, 40, .bool false)] ha fun a ha => ?_
  refine jK (jQ ?_)
  refine jG ha rfl rfl ?_
  refine wp_skip (jQ (wp_seq (jZ [0, 1, 2] (jX [(0, 45, iv (i : Int)), (1, 46, iv x2), (2, 47, .bool (!(decide ((i : Int) = x2))))] ha fun a ha => ?_))))
  refine jK (jQ ?_)
  by_cases c32 : (i : Int) = x2
  ·
   refine jG ha rfl (qG (decide_eq_true c32)) ?_;refine wp_skip (in_n (jQ (jZ [0, 1, 2] (jX [(0, 22, iv (i : Int))] ha fun a ha => ?_))));refine xY 23 ((i : Int) + 1) ha fun a ha => ?_;refine jX [(2, 9, iv ((i : Int) + 1))] ha fun a ha => ?_;refine jK (jQ ?_);replace hS := hS.pickN 6 [1, 2, 3, 4, 5];replace hS : Sat w0 w ((prg w0.heap.size s1 l) :: (SX.row (.slice bd.A bd.n bd.c) 68 3 (encS3 (dropN b x2 (i + 1)))) :: (SX.blk b9 [.slice s1.A s1.n s1.c] 28) :: (SX.blk b3 [.slice none 0 0] 28) :: (SX.blk b1 [.slice s0.A s0.n s0.c] 28) :: []) := by rw [dropN_at hx c32]; exact hS
   exact ⟨_, by omega, i + 1, bd, rfl, by omega, ha.keeps [1, 2, 3, 6, 7, 8, 9] _ rfl, hS⟩
  refine jH ha rfl (qH (decide_eq_false c32)) ?_
  refine jZ [0, 1, 2, 3, 4] (jX [(0, 48, .slice bd.A bd.n bd.c)] ha fun a ha => ?_)
  refine qX 49 ha (hS.blk 0 rfl) fun a ha => ?_
  refine jU (qZ 50 [iv x.f0, iv x.f1, iv x.f2] 68 (fun b => .slice (some ⟨b, 0, none⟩) 1 1) ha hS fun b33 w a hb34 hS ha => ?_)
  refine jU (o_ap 51 3 0 (encS3 ((dropN b x2 i) ++ [(⟨x.f0, x.f1, x.f2⟩ : ST)])) ha hS rfl rfl (by rw [encS3_length]; have := dropN_len b x2 i; simp only [List.length_cons, List.length_nil]; omega) (encS3_snoc3 _ (⟨x.f0, x.f1, x.f2⟩ : ST)) fun s38 w a hS hn39 ha => ?_)
  refine jX [(4, 8, .slice s38.A s38.n s38.c)] ha fun a ha => ?_
  refine jK (in_n (jQ (jZ [0, 1, 2] (jX [(0, 22, iv (i : Int))] ha fun a ha => ?_))))
  refine xY 23 ((i : Int) + 1) ha fun a ha => ?_
  refine jX [(2, 9, iv ((i : Int) + 1))] ha fun a ha => ?_
  refine jK (jQ ?_)
  replace hS := hS.pickN 7 [2, 3, 4, 5, 6]
  replace hS : Sat w0 w ((prg w0.heap.size s1 l) :: (SX.row (.slice s38.A s38.n s38.c) 68 3 (encS3 (dropN b x2 (i + 1)))) :: (SX.blk b9 [.slice s1.A s1.n s1.c] 28) :: (SX.blk b3 [.slice none 0 0] 28) :: (SX.blk b1 [.slice s0.A s0.n s0.c] 28) :: []) := by rw [dropN_go hx c32 hx2.1, decS_no (.inl c14)]; exact hS
  exact ⟨_, by omega, i + 1, s38, rfl, by omega, ha.keeps [1, 2, 3, 6, 7, 8, 9] _ rfl, hS⟩
 refine jG ha rfl (decide_eq_false c11) ?_
 refine wp_exit (qU (qU (in_x (jQ (wp_seq ?_)))))
 replace hS : Sat w0 w ((prg w0.heap.size s1 l) :: (SX.row (.slice bd.A bd.n bd.c) 68 3 (encS3 (dropN b x2 i))) :: (SX.blk b9 [.slice s1.A s1.n s1.c] 28) :: (SX.blk b3 [.slice none 0 0] 28) :: (SX.blk b1 [.slice s0.A s0.n s0.c] 28) :: []) := hS
 obtain ⟨vs, z, hvl, hz, hS⟩ := openFn hS hb
 replace hS : Sat w0 w ((SX.row (.slice s1.A s1.n s1.c) 69 1 (encSl vs)) :: (SX.row (.slice z.A z.n z.c) 68 3 (encS3 b)) :: (holeA w0.heap.size l vs x1.toNat) :: (SX.row (.slice bd.A bd.n bd.c) 68 3 (encS3 (dropN b x2 i))) :: (SX.blk b9 [.slice s1.A s1.n s1.c] 28) :: (SX.blk b3 [.slice none 0 0] 28) :: (SX.blk b1 [.slice s0.A s0.n s0.c] 28) :: []) := hS
 have hzl : z.n = b.length := hS.rowL (s := z) (enc := cT) 1 cT_len (by decide) rfl
 refine jZ [0, 1, 2, 3, 4, 5] (jX [(0, 52, ptr b9 0)] ha fun a ha => ?_)
 refine xJ (d := 53) (b := b9) (j := 0) ha (hS.blk 4 rfl) rfl fun a ha => ?_
 refine jX [(2, 54, iv x1), (3, 55, .slice bd.A bd.n bd.c)] ha fun a ha => ?_
 refine qQ (.pointer (some ⟨bk s1, x1.toNat * 1, none⟩)) ha (xV (s := s1) (el := 69) (sz := 1) (j := x1.toNat) ha (yW (t := 26) (x := 53) (y := 54) (d := 56)) rfl rfl (by kernel_rfl) (by kernel_rfl) (hS.rowA (s := s1) 0 rfl (by have := (List.getElem?_eq_some_iff.1 hz).1; rw [encSl_length]; omega)) ((Int.toNat_of_nonneg hx1.1).symm) (by have h9 := hS.rowL (s := s1) (enc := cSl) 0 cSl_len (by decide) rfl; have := (List.getElem?_eq_some_iff.1 hz).1; omega)) fun a ha => ?_
 refine jU (yQ (s := s1) (j := x1.toNat * 1 + 0) (xs := encSl vs) (xs' := encSl (vs.set x1.toNat bd)) 0 ha (xK (t := 69) (x := 56) (y := 55)) rfl rfl rfl (by kernel_rfl) hS rfl (by have := (List.getElem?_eq_some_iff.1 hz).1; rw [encSl_length]; omega) ((flat_set (enc := cSl) (x' := bd) cSl_len hz (by decide) rfl)) (fun w a (hS : Sat w0 w ((SX.row (.slice s1.A s1.n s1.c) 69 1 (encSl (vs.set x1.toNat bd))) :: (SX.row (.slice z.A z.n z.c) 68 3 (encS3 b)) :: (holeA w0.heap.size l vs x1.toNat) :: (SX.row (.slice bd.A bd.n bd.c) 68 3 (encS3 (dropN b x2 i))) :: (SX.blk b9 [.slice s1.A s1.n s1.c] 28) :: (SX.blk b3 [.slice none 0 0] 28) :: (SX.blk b1 [.slice s0.A s0.n s0.c] 28) :: [])) ha => ?_))
 refine jK ?_
 replace ha := ha.as [(6, ptr b3 0), (7, ptr b9 0)] rfl
 refine jQ (wp_seq (jZ [0, 1] (qX 57 ha (hS.blk 4 rfl) fun a ha => ?_)))
 refine jU (o_sa 5 ha (xK (t := 28) (x := 6) (y := 57)) hS fun w a hS ha => ?_)
 refine jK (jQ (wp_ret (qK ha (by kernel_rfl) (yJ (t := 6) (ty := 28) (i := 5) ha rfl hS rfl (by kernel_rfl)) ?_)))
 replace hS := hS.pickN 7 [0, 3, 2]
 obtain rfl : i = b.length := by omega
 rw [dropN_end] at hS
 exact ⟨s1, rfl, shutFn (z' := bd) (by omega) hS⟩
theorem l2Function_sat' {w0 w : World} {Rs : List Asn} {s : Sl} {l : List (List ST)} {f : Int} (hS : Sat w0 w Rs) (hr : RdP w s l) (hf : Fits l) :
  Calls Try.prog 65 #[.agg #[.slice s.A s.n s.c], .int .i64 f] w (Ret fun r w' => r = .bool (decide (0 ≤ f) && decide (f ≤ (l.length : Int) - 1)) ∧ Sat w0 w' Rs) := by
 have := spec_l2Function.calls s.A s.c l f _ w hr.rd hr.le (l2Function_f l hf.len f)
 rw [← hr.len] at this
 refine this.mono ?_
 rintro e w' ⟨rfl, hb⟩
 exact ⟨by rw [hr.len], Sat.skip hS hb⟩
theorem liftP1 {w0 w : World} {Rs : List Asn} {f : FuncId} {args : Array Value} {L : List (List ST)} (hS : Sat w0 w Rs) (h : Calls Try.prog f args w (Ret fun r w' => ∃ s : Sl, r = .agg #[s.v] ∧ Sat w w' [prg w.heap.size s L])) : Calls Try.prog f args w (Ret fun r w' => ∃ s : Sl, r = .agg #[s.v] ∧ Sat w0 w' (prg w0.heap.size s L :: Rs)) := h.mono fun e w' h => by
 cases e with
 | returned r => obtain ⟨s, h1, h2⟩ := h; exact ⟨s, h1, (show Sat w0 w' (prg w.heap.size s L :: Rs) from hS.comp h2).turn (i := 0) rfl (prg w0.heap.size s L) (kdS_lower hS.below.size w')⟩
 | _ => exact h.elim
theorem code24 : Try.f24.body = some (Code.seq (cr Try.f24 0 false) (Code.seq (Code.seq (cr Try.f24 1 false) (Code.cond (Operand.tmp 28) (Code.seq (cr Try.f24 2 false) Code.ret) Code.skip)) (Code.seq (cr Try.f24 3 false) Code.ret))) := by kernel_rfl
theorem spec_DropStep_sat0 {w0 : World} {s0 : Sl} {l : List (List ST)} {x1 x2 : Int} (hr : RdP w0 s0 l) (hf : Fits l) :
  Calls Try.prog 24 #[.agg #[.slice s0.A s0.n s0.c], iv x1, iv x2] w0 (Ret fun r w' => ∃ s : Sl, r = .tuple #[.agg #[s.v], .bool (dropP l x1 x2).2] ∧ Sat w0 w' [prg w0.heap.size s (dropP l x1 x2).1]) := by
 have hS : Sat w0 w0 [] := Sat.start w0
 refine enter (n := 34) Try.func24 code24 (by kernel_rfl) (Nat.le_of_ble_eq_true rfl) (fun a ha => ?_)
 replace ha : Has 34 [(0, .agg #[.slice s0.A s0.n s0.c]), (1, iv x1), (2, iv x2)] a := ha
 refine wp_seq (jZ [0, 1, 2] (jU (qZ 3 [.slice s0.A s0.n s0.c] 28 (ptr · 0) ha hS fun b1 w a hb2 hS ha => ?_)))
 refine jU (qZ 6 [.slice none 0 0] 28 (ptr · 0) ha hS fun b3 w a hb4 hS ha => ?_)
 refine jX [(2, 7, .bool false)] ha fun a ha => ?_
 refine jK (jQ (wp_seq (wp_seq (jZ [0, 1, 2, 3, 4, 5, 6, 7, 8, 9, 10, 11, 12, 13, 14, 15, 16, 17, 18, 19, 20] (qX 8 ha (hS.blk 1 rfl) fun a ha => ?_)))))
 refine jU (qJ 9 (vs := [.agg #[.slice s0.A s0.n s0.c]]) ha (l2Program_sat hS (hr.sat hS) hf) fun v5 w a hp6 ha => ?_)
 obtain ⟨rfl, hS⟩ := hp6
 refine jX [(2, 10, .bool (!(programB l))), (3, 11, .bool (!(programB l)))] ha fun a ha => ?_
 rcases Bool.eq_false_or_eq_true (programB l) with c7 | c7
 ·
  replace ha := ha.turn 9 (.bool true) rfl (congrArg Value.bool c7)
  replace ha := ha.turn 10 (.bool false) rfl (congrArg Value.bool (qG c7))
  replace ha := ha.turn 11 (.bool false) rfl (congrArg Value.bool (qG c7))
  refine qX 12 ha (hS.blk 1 rfl) fun a ha => ?_
  refine jX [(5, 13, iv x1)] ha fun a ha => ?_
  refine jU (qJ 14 (vs := [.agg #[.slice s0.A s0.n s0.c], iv x1]) ha (l2Function_sat' hS (hr.sat hS) hf) fun v8 w a hp9 ha => ?_)
  obtain ⟨rfl, hS⟩ := hp9
  refine jX [(7, 15, .bool (!((decide (0 ≤ x1) && decide (x1 ≤ (l.length : Int) - 1))))), (8, 16, .bool (!((decide (0 ≤ x1) && decide (x1 ≤ (l.length : Int) - 1))))), (9, 17, .bool (!((decide (0 ≤ x1) && decide (x1 ≤ (l.length : Int) - 1)))))] ha fun a ha => ?_
  rcases Bool.eq_false_or_eq_true (decide (0 ≤ x1) && decide (x1 ≤ (l.length : Int) - 1)) with c10 | c10
  ·
   replace ha := ha.turn 14 (.bool true) rfl (congrArg Value.bool c10);replace ha := ha.turn 15 (.bool false) rfl (congrArg Value.bool (qG c10));replace ha := ha.turn 16 (.bool false) rfl (congrArg Value.bool (qG c10));replace ha := ha.turn 17 (.bool false) rfl (congrArg Value.bool (qG c10));have hok : okF l x1 = true := by unfold okF; rw [c7, Bool.true_and]; exact c10
   have ho8 := c7;have hx1 := okF_lt hok;obtain ⟨b, hb⟩ : ∃ b, l[x1.toNat]? = some b := ⟨_, List.getElem?_eq_getElem (by omega)⟩;have hb1 : b.length ≤ 1048576 := hf.each b (List.mem_of_getElem? hb);obtain ⟨hA0, sb, hcb, hrb⟩ := body_rd hr hb;have hsb := hrb.len;refine jX [(10, 18, iv x2), (11, 19, ptr b1 0)] ha fun a ha => ?_;refine xJ (d := 20) (b := b1) (j := 0) ha (hS.blk 1 rfl) rfl fun a ha => ?_;refine jX [(13, 21, iv x1)] ha fun a ha => ?_;refine qQ (.pointer (some ⟨bk s0, of_ s0 + x1.toNat * 1, none⟩)) ha (qW (s := s0) (el := 69) (sz := 1) (j := x1.toNat) ha (AtG.here (gd := 17) ⟨(by kernel_rfl : ((jY Try.f24 1)[14]?).map spec = some ((Op.indexAddr 26 (Operand.tmp 20) (Operand.tmp 21)), some 22, 0, some (9, false))), by kernel_rfl⟩ ha rfl) rfl rfl (by kernel_rfl) (by kernel_rfl) hA0 (Int.toNat_of_nonneg hx1.1).symm (by rw [hr.len]; omega)) fun a ha => ?_;refine qQ (.slice sb.A sb.n sb.c) ha (xX ha (AtG.here (gd := 17) ⟨(by kernel_rfl : ((jY Try.f24 1)[15]?).map spec = some ((Op.load 69 (Operand.tmp 22)), some 23, 69, some (9, false))), by kernel_rfl⟩ ha rfl) rfl (by kernel_rfl) (fun w' hw => by rw [hw]; rw [Nat.mul_one]; exact pw_cell_below hS.below hcb)) fun a ha => ?_;refine jX [(16, 24, iv (sb.n : Int))] ha fun a ha => ?_;refine xY 25 ((sb.n : Int) - 1) ha fun a ha => ?_;refine jU (qJ 26 (vs := [iv x2, iv 0, iv ((sb.n : Int) - 1)]) ha (q_in hS _ _ _) fun v11 w a hp12 ha => ?_);obtain ⟨rfl, hS⟩ := hp12;refine jX [(19, 27, .bool (!((inB x2 0 ((sb.n : Int) - 1))))), (20, 28, .bool (!((inB x2 0 ((sb.n : Int) - 1)))))] ha fun a ha => ?_;refine jK (jQ ?_)
   rcases Bool.eq_false_or_eq_true (inB x2 0 ((sb.n : Int) - 1)) with c13 | c13
   ·
    have hpl : placeB 1 l x1 x2 = true := by unfold placeB; rw [hok, Bool.true_and]; simp only [List.getD, hb, Option.getD_some]; rw [← hsb]; exact c13
    have hx2 : 0 ≤ x2 ∧ x2 ≤ (sb.n : Int) - 1 := by simpa only [inB, Bool.and_eq_true, decide_eq_true_eq] using c13
    refine jG ha rfl (qG c13) ?_;refine wp_skip (jQ (wp_seq (jZ [0, 1, 2, 3, 4, 5] (qX 30 ha (hS.blk 1 rfl) fun a ha => ?_))));refine jX [(1, 31, iv x1), (2, 32, iv x2)] ha fun a ha => ?_;refine jU (qJ 33 (vs := [.agg #[.slice s0.A s0.n s0.c], iv x1, iv x2]) ha (liftP1 hS (l2Drop_sat0 (hr.sat hS) hf ho8 hb hx1 (by rw [← hsb]; exact hx2))) fun v14 w a hp15 ha => ?_);obtain ⟨s1, rfl, hS⟩ := hp15;refine jU (o_sa 1 ha (xK (t := 28) (x := 6) (y := 33)) hS fun w a hS ha => ?_);refine jX [(5, 7, .bool true)] ha fun a ha => ?_;refine jK ?_;replace ha := ha.as [(6, ptr b3 0), (7, .bool true)] rfl;refine jQ (wp_ret (xQ ha (by kernel_rfl) (yJ (t := 6) (ty := 28) (i := 1) ha rfl hS rfl (by kernel_rfl)) (xZ (t := 7) ha rfl) ?_));rw [dropP_yes hpl hb];exact ⟨s1, rfl, hS.pickN 3 [0]⟩
   refine jH ha rfl (qH c13) ?_;refine wp_seq (jZ [0, 1, 2] (jX [(0, 29, .agg #[.slice none 0 0])] ha fun a ha => ?_));refine jU (o_sa 0 ha (xK (t := 28) (x := 6) (y := 29)) hS fun w a hS ha => ?_);refine jX [(2, 7, .bool false)] ha fun a ha => ?_;refine jK ?_;replace ha := ha.as [(1, iv x1), (2, iv x2), (3, ptr b1 0), (6, ptr b3 0), (7, .bool false)] rfl;refine jQ (wp_ret (qV ?_));have hpl : placeB 1 l x1 x2 = false := by unfold placeB; rw [hok, Bool.true_and]; simp only [List.getD, hb, Option.getD_some]; rw [← hsb]; exact c13
   refine xQ ha (by kernel_rfl) (yJ (t := 6) (ty := 28) (i := 0) ha rfl hS rfl (by kernel_rfl)) (xZ (t := 7) ha rfl) ?_;rw [dropP_no hpl];exact ⟨⟨none, 0, 0⟩, rfl, nilPrg (Sat.rest [_, _] hS)⟩
  replace ha := ha.turn 14 (.bool false) rfl (congrArg Value.bool c10)
  replace ha := ha.turn 15 (.bool true) rfl (congrArg Value.bool (qH c10))
  replace ha := ha.turn 16 (.bool true) rfl (congrArg Value.bool (qH c10))
  replace ha := ha.turn 17 (.bool true) rfl (congrArg Value.bool (qH c10))
  refine jX [(10, 18, undef), (11, 19, undef), (12, 20, undef), (13, 21, undef), (14, 22, undef), (15, 23, undef), (16, 24, undef), (17, 25, undef), (18, 26, undef), (19, 27, undef), (20, 28, .bool true)] ha fun a ha => ?_
  refine jK ?_
  replace ha := ha.as [(1, iv x1), (2, iv x2), (3, ptr b1 0), (6, ptr b3 0), (7, .bool false), (28, .bool true)] rfl
  refine jQ ?_
  refine jH ha rfl rfl ?_
  refine wp_seq (jZ [0, 1, 2] (jX [(0, 29, .agg #[.slice none 0 0])] ha fun a ha => ?_))
  refine jU (o_sa 0 ha (xK (t := 28) (x := 6) (y := 29)) hS fun w a hS ha => ?_)
  refine jX [(2, 7, .bool false)] ha fun a ha => ?_
  refine jK (jQ (wp_ret (qV ?_)))
  have hpl : placeB 1 l x1 x2 = false := by unfold placeB okF; rw [c7, Bool.true_and, c10, Bool.false_and]
  refine xQ ha (by kernel_rfl) (yJ (t := 6) (ty := 28) (i := 0) ha rfl hS rfl (by kernel_rfl)) (xZ (t := 7) ha rfl) ?_
  rw [dropP_no hpl]
  exact ⟨⟨none, 0, 0⟩, rfl, nilPrg (Sat.rest [_, _] hS)⟩
 replace ha := ha.turn 9 (.bool false) rfl (congrArg Value.bool c7)
 replace ha := ha.turn 10 (.bool true) rfl (congrArg Value.bool (qH c7))
 replace ha := ha.turn 11 (.bool true) rfl (congrArg Value.bool (qH c7))
 refine jX [(4, 12, undef), (5, 13, undef), (6, 14, undef), (7, 15, undef), (8, 16, .bool true), (9, 17, .bool true), (10, 18, undef), (11, 19, undef), (12, 20, undef), (13, 21, undef), (14, 22, undef), (15, 23, undef), (16, 24, undef), (17, 25, undef), (18, 26, undef), (19, 27, undef), (20, 28, .bool true)] ha fun a ha => ?_
 refine jK ?_
 replace ha := ha.as [(1, iv x1), (2, iv x2), (3, ptr b1 0), (6, ptr b3 0), (7, .bool false), (28, .bool true)] rfl
 refine jQ ?_
 refine jH ha rfl rfl ?_
 refine wp_seq (jZ [0, 1, 2] (jX [(0, 29, .agg #[.slice none 0 0])] ha fun a ha => ?_))
 refine jU (o_sa 0 ha (xK (t := 28) (x := 6) (y := 29)) hS fun w a hS ha => ?_)
 refine jX [(2, 7, .bool false)] ha fun a ha => ?_
 refine jK (jQ (wp_ret (qV ?_)))
 have hpl : placeB 1 l x1 x2 = false := by unfold placeB okF; rw [c7, Bool.false_and, Bool.false_and]
 refine xQ ha (by kernel_rfl) (yJ (t := 6) (ty := 28) (i := 0) ha rfl hS rfl (by kernel_rfl)) (xZ (t := 7) ha rfl) ?_
 rw [dropP_no hpl]
 exact ⟨⟨none, 0, 0⟩, rfl, nilPrg (Sat.rest [_, _] hS)⟩
theorem spec_DropStep_sat {w0 w : World} {Rs : List Asn} {s0 : Sl} {l : List (List ST)} {x1 x2 : Int} (hS : Sat w0 w Rs) (hr : RdP w s0 l) (hf : Fits l) :
  Calls Try.prog 24 #[.agg #[.slice s0.A s0.n s0.c], iv x1, iv x2] w (Ret fun r w' => ∃ s : Sl, r = .tuple #[.agg #[s.v], .bool (dropP l x1 x2).2] ∧ Sat w0 w' (prg w0.heap.size s (dropP l x1 x2).1 :: Rs)) := liftPB hS (spec_DropStep_sat0 hr hf)
theorem code5 : Try.f5.body = some (Code.seq (cr Try.f5 0 false) (Code.seq (cr Try.f5 1 false) (Code.seq (cr Try.f5 2 false) (Code.seq (Code.seq (cr Try.f5 3 false) (Code.cond (Operand.tmp 22) (Code.seq (cr Try.f5 4 false) Code.ret) Code.skip)) (Code.seq (cr Try.f5 5 false) (Code.seq (cr Try.f5 6 false) (Code.seq (cr Try.f5 7 false) (Code.seq (Code.seq (cr Try.f5 8 false) (Code.cond (Operand.tmp 48) (Code.seq (cr Try.f5 9 false) Code.ret) Code.skip)) (Code.seq (Code.seq (cr Try.f5 10 true) (Code.cond (Operand.tmp 53) (Code.seq (cr Try.f5 11 false) Code.ret) Code.skip)) (Code.seq (cr Try.f5 12 false) (Code.seq (cr Try.f5 13 false) (Code.seq (Code.seq (cr Try.f5 14 false) (Code.cond (Operand.tmp 69) (Code.seq (cr Try.f5 15 false) Code.ret) Code.skip)) (Code.seq (cr Try.f5 16 false) (Code.seq (cr Try.f5 17 false) (Code.seq (cr Try.f5 18 false) (Code.seq (cr Try.f5 19 false) (Code.seq (Code.seq (cr Try.f5 20 false) (Code.cond (Operand.tmp 77) (Code.seq (cr Try.f5 21 false) Code.ret) Code.skip)) (Code.seq (Code.seq (cr Try.f5 22 false) (Code.cond (Operand.tmp 80) (Code.seq (cr Try.f5 23 false) Code.ret) Code.skip)) (Code.seq (cr Try.f5 24 false) (Code.seq (Code.seq (cr Try.f5 25 false) (Code.cond (Operand.tmp 97) (Code.seq (cr Try.f5 26 false) Code.ret) Code.skip)) (Code.seq (cr Try.f5 27 false) (Code.seq (cr Try.f5 28 false) (Code.seq (Code.seq (cr Try.f5 29 false) (Code.cond (Operand.tmp 102) (Code.seq (cr Try.f5 30 false) Code.ret) Code.skip)) (Code.seq (Code.seq (cr Try.f5 31 false) (Code.cond (Operand.tmp 105) (Code.seq (cr Try.f5 32 false) Code.ret) Code.skip)) (Code.seq (cr Try.f5 33 false) Code.ret))))))))))))))))))))))))) := by kernel_rfl
theorem law5_walk (w0 : World) (s0 : Sl) (l0 : List (List LT)) (x1 : Int) (x2 : Int) (hr0 : RdA w0 s0 l0) :
  Calls Try.prog 5 #[.agg #[.slice s0.A s0.n s0.c], iv x1, iv x2] w0 (Ret fun r w' => r = .bool true ∧ Below w0.heap.size w0 w') := by
 have hS : Sat w0 w0 [] := Sat.start w0
 refine enter (n := 106) Try.func5 code5 (by kernel_rfl) (Nat.le_of_ble_eq_true rfl) (fun a ha => ?_)
 replace ha : Has 106 [(0, .agg #[.slice s0.A s0.n s0.c]), (1, iv x1), (2, iv x2)] a := ha
 refine wp_seq (jZ [0, 1] (jU (qZ 3 [.slice s0.A s0.n s0.c] 24 (ptr · 0) ha hS fun b1 w a hb2 hS ha => ?_)))
 refine jX [(1, 6, .bool false)] ha fun a ha => ?_
 refine jK (jQ (wp_seq (jZ [0] (jX [(0, 7, iv 1048576)] ha fun a ha => ?_))))
 refine jK (jQ (wp_seq (jZ [0, 1, 2, 3] (qX 18 ha (hS.blk 0 rfl) fun a ha => ?_))))
 refine jX [(1, 19, iv 1048576)] ha fun a ha => ?_
 refine jU (qJ 20 (vs := [.agg #[.slice s0.A s0.n s0.c], iv 1048576]) ha (szProgram_sat hS (hr0.sat hS) (by omega) (by omega)) fun v3 w a hp4 ha => ?_)
 obtain ⟨rfl, hS⟩ := hp4
 refine jX [(3, 7, iv (szP l0 1048576))] ha fun a ha => ?_
 refine jK (jQ (wp_seq (wp_seq (jZ [0, 1] (jX [(0, 21, iv (szP l0 1048576)), (1, 22, .bool (decide ((szP l0 1048576) < 0)))] ha fun a ha => ?_)))))
 refine jK (jQ ?_)
 by_cases c5 : (szP l0 1048576) < 0
 ·
  refine jH ha rfl (decide_eq_true c5) ?_
  refine wp_seq (jZ [0] (jX [(0, 6, .bool true)] ha fun a ha => ?_))
  refine jK (jQ (wp_ret (qV (qK ha (by kernel_rfl) (xZ (t := 6) ha rfl) ?_))))
  exact ⟨rfl, hS.below⟩
 have hf : Fits l0 := by have h8 : 0 ≤ szP l0 1048576 := (by omega); have h9 := szP_ok l0 1048576 h8; exact ⟨by omega, by omega⟩
 have hfr : Fits (dropP (toP l0) x1 x2).1 := dropP_fits (toP_fits hf) x1 x2
 refine jG ha rfl (decide_eq_false c5) ?_
 refine wp_skip (jQ (wp_seq (jZ [0, 1, 2, 3, 4, 5, 6, 7, 8, 9, 10] (qX 24 ha (hS.blk 0 rfl) fun a ha => ?_))))
 refine jU (qJ 25 (vs := [.agg #[.slice s0.A s0.n s0.c]]) ha (toProgram_sat hS (hr0.sat hS) hf) fun v6 w a hp7 ha => ?_)
 obtain ⟨s1, rfl, hS⟩ := hp7
 refine jX [(2, 26, iv x1), (3, 27, iv x2)] ha fun a ha => ?_
 refine jU (qJ 28 (vs := [.agg #[.slice s1.A s1.n s1.c], iv x1, iv x2]) ha (spec_DropStep_sat hS (hS.rdS 0 rfl) (toP_fits hf)) fun v8 w a hp9 ha => ?_)
 obtain ⟨s2, rfl, hS⟩ := hp9
 refine jX [(5, 23, .tuple #[.agg #[.slice s2.A s2.n s2.c], .bool ((dropP (toP l0) x1 x2).2)]), (6, 29, .agg #[.slice s2.A s2.n s2.c]), (7, 30, .bool ((dropP (toP l0) x1 x2).2))] ha fun a ha => ?_
 refine jU (qZ 8 [.slice none 0 0] 28 (ptr · 0) ha hS fun b10 w a hb11 hS ha => ?_)
 refine jU (o_sa 0 ha (xK (t := 28) (x := 8) (y := 29)) hS fun w a hS ha => ?_)
 refine jX [(10, 9, .bool ((dropP (toP l0) x1 x2).2))] ha fun a ha => ?_
 refine jK (jQ (wp_seq (jZ [0, 1, 2, 3] (qX 31 ha (hS.blk 3 rfl) fun a ha => ?_))))
 refine jU (qJ 32 (vs := [.agg #[.slice s0.A s0.n s0.c]]) ha (toProgram_sat hS (hr0.sat hS) hf) fun v12 w a hp13 ha => ?_)
 obtain ⟨s3, rfl, hS⟩ := hp13
 refine jU (qZ 10 [.slice none 0 0] 28 (ptr · 0) ha hS fun b14 w a hb15 hS ha => ?_)
 refine jU (o_sa 0 ha (xK (t := 28) (x := 10) (y := 32)) hS fun w a hS ha => ?_)
 refine jK (jQ (wp_seq (jZ [0, 1, 2, 3, 4, 5, 6, 7, 8, 9] (qX 34 ha (hS.blk 0 rfl) fun a ha => ?_))))
 refine jX [(1, 35, iv x1), (2, 36, iv x2)] ha fun a ha => ?_
 refine jU (qJ 37 (vs := [.agg #[.slice s3.A s3.n s3.c], iv x1, iv x2]) ha (impl_DropStep_sat hS (hS.rdS 1 rfl) (toP_fits hf)) fun v16 w a hp17 ha => ?_)
 obtain ⟨s4, rfl, hS⟩ := hp17
 refine jX [(4, 33, .tuple #[.agg #[.slice s4.A s4.n s4.c], .bool ((dropP (toP l0) x1 x2).2)]), (5, 38, .agg #[.slice s4.A s4.n s4.c]), (6, 39, .bool ((dropP (toP l0) x1 x2).2))] ha fun a ha => ?_
 refine jU (qZ 11 [.slice none 0 0] 28 (ptr · 0) ha hS fun b18 w a hb19 hS ha => ?_)
 refine jU (o_sa 0 ha (xK (t := 28) (x := 11) (y := 38)) hS fun w a hS ha => ?_)
 refine jX [(9, 12, .bool ((dropP (toP l0) x1 x2).2))] ha fun a ha => ?_
 refine jK ?_
 replace ha := ha.as [(1, iv x1), (2, iv x2), (3, ptr b1 0), (6, .bool false), (8, ptr b10 0), (9, .bool ((dropP (toP l0) x1 x2).2)), (10, ptr b14 0), (11, ptr b18 0), (12, .bool ((dropP (toP l0) x1 x2).2))] rfl
 refine jQ (wp_seq (wp_seq (jZ [0, 1, 2, 3, 4, 5, 6, 7, 8] (qX 40 ha (hS.blk 0 rfl) fun a ha => ?_))))
 refine qX 41 ha (hS.blk 4 rfl) fun a ha => ?_
 refine jU (qJ 42 (vs := [.agg #[.slice s4.A s4.n s4.c], .agg #[.slice s2.A s2.n s2.c]]) ha (eqProgram_sat hS (hS.rdS 1 rfl) (hS.rdS 5 rfl) hfr) fun v20 w a hp21 ha => ?_)
 obtain ⟨rfl, hS⟩ := hp21
 refine jX [(3, 43, .bool false), (4, 44, .bool false), (5, 45, .bool ((dropP (toP l0) x1 x2).2)), (6, 46, .bool ((dropP (toP l0) x1 x2).2))] ha fun a ha => ?_
 refine qQ (.bool false) ha ((jW (v := .bool (!(((dropP (toP l0) x1 x2).2) == ((dropP (toP l0) x1 x2).2)))) ha (AtG.here (gd := 44) ⟨(by kernel_rfl : ((jY Try.f5 8)[7]?).map spec = some ((Op.binOp BinOp.neq 4 (Operand.tmp 45) (Operand.tmp 46) 4), some 47, 4, some (4, false))), by kernel_rfl⟩ ha rfl) (by kernel_rfl) (fun _ => by kernel_rfl)).as (by simp)) fun a ha => ?_
 refine jX [(8, 48, .bool false)] ha fun a ha => ?_
 refine jK (jQ ?_)
 refine jG ha rfl rfl ?_
 refine wp_skip (jQ (wp_seq (wp_seq (xW 5 5 (hS.pickN 8 [0, 2, 4, 7]) hS fun w hS => ?_))))
 refine zX 0 49 ha (hS.pickN 8 [0, 2, 4, 7]) (fun _ hw => hw.blk 1 rfl) fun a ha => ?_
 refine zX 1 50 ha (hS.pickN 8 [0, 2, 4, 7]) (fun _ hw => hw.blk 3 rfl) fun a ha => ?_
 refine xU 2 (qJ 51 (vs := [.agg #[.slice s0.A s0.n s0.c]]) ha (toProgram_sat hS (hr0.sat hS) hf) fun v22 w a hp23 ha => ?_)
 obtain ⟨s5, rfl, hS⟩ := hp23
 refine ⟨.inr (hS.pickN 9 [1, 3, 5, 8]), ?_⟩
 refine xU 3 (qJ 52 (vs := [.agg #[.slice s3.A s3.n s3.c], .agg #[.slice s5.A s5.n s5.c]]) ha (eqProgram_sat hS (hS.rdS 4 rfl) (hS.rdS 0 rfl) (toP_fits hf)) fun v24 w a hp25 ha => ?_)
 obtain ⟨rfl, hS⟩ := hp25
 refine ⟨.inr (hS.pickN 9 [1, 3, 5, 8]), ?_⟩
 refine qY (k := 0) [(4, 53, .bool false)] ha (.inr (hS.pickN 9 [1, 3, 5, 8])) fun a ha => ?_
 refine yV (jQ ?_)
 refine jG ha rfl rfl ?_
 refine wp_skip (jQ (wp_seq (jZ [0] (jX [(0, 13, iv 1)] ha fun a ha => ?_))))
 refine jK (jQ (wp_seq (jZ [0, 1, 2, 3] (qX 54 ha (hS.blk 3 rfl) fun a ha => ?_))))
 refine jX [(1, 55, iv 1)] ha fun a ha => ?_
 replace hS := hS.pickN 9 [4, 0, 1, 2, 3, 5, 6, 7, 8]
 refine jU (qJ 56 (vs := [.agg #[.slice s3.A s3.n s3.c], iv 1]) ha (markProgram_sat hS (toP_fits hf) (by omega) (by omega)) fun v26 w a hp27 ha => ?_)
 obtain ⟨rfl, hS⟩ := hp27
 refine jX [(3, 13, iv (1 + 3 * (tot (toP l0) : Int)))] ha fun a ha => ?_
 refine jK ?_
 replace ha := ha.as [(1, iv x1), (2, iv x2), (3, ptr b1 0), (6, .bool false), (8, ptr b10 0), (9, .bool ((dropP (toP l0) x1 x2).2)), (11, ptr b18 0), (12, .bool ((dropP (toP l0) x1 x2).2)), (13, iv (1 + 3 * (tot (toP l0) : Int)))] rfl
 refine jQ (wp_seq (wp_seq (jZ [0, 1, 2, 3, 4, 5, 6, 7, 8, 9, 10, 11, 12] (jX [(0, 57, iv (1 + 3 * (tot (toP l0) : Int)))] ha fun a ha => ?_))))
 refine qQ (.bool false) ha ((jW (v := .bool (decide (1 + 3 * (tot (toP l0) : Int) < 0))) ha (yY (op := (Op.binOp BinOp.lss 3 (Operand.tmp 57) (Operand.const (Value.int IntKind.i64 0)) 3)) (d := some 58) (ty := 4)) (by kernel_rfl) (fun _ => by kernel_rfl)).as (by rw [decide_eq_false (by omega)])) fun a ha => ?_
 refine jX [(2, 59, .bool false)] ha fun a ha => ?_
 refine qX 60 ha (hS.blk 2 rfl) fun a ha => ?_
 refine qX 61 ha (hS.blk 5 rfl) fun a ha => ?_
 refine jU (qJ 62 (vs := [.agg #[.slice s4.A s4.n s4.c], .agg #[.slice s2.A s2.n s2.c]]) ha (eqProgram_sat hS (hS.rdS 3 rfl) (hS.rdS 6 rfl) hfr) fun v28 w a hp29 ha => ?_)
 obtain ⟨rfl, hS⟩ := hp29
 refine jX [(6, 63, .bool false), (7, 64, .bool false), (8, 65, .bool false), (9, 66, .bool ((dropP (toP l0) x1 x2).2)), (10, 67, .bool ((dropP (toP l0) x1 x2).2))] ha fun a ha => ?_
 refine qQ (.bool false) ha ((jW (v := .bool (!(((dropP (toP l0) x1 x2).2) == ((dropP (toP l0) x1 x2).2)))) ha (AtG.here (gd := 65) ⟨(by kernel_rfl : ((jY Try.f5 14)[11]?).map spec = some ((Op.binOp BinOp.neq 4 (Operand.tmp 66) (Operand.tmp 67) 4), some 68, 4, some (8, false))), by kernel_rfl⟩ ha rfl) (by kernel_rfl) (fun _ => by kernel_rfl)).as (by simp)) fun a ha => ?_
 refine jX [(12, 69, .bool false)] ha fun a ha => ?_
 refine jK (jQ ?_)
 refine jG ha rfl rfl ?_
 refine wp_skip (jQ (wp_seq (jZ [0] (jX [(0, 14, iv 1)] ha fun a ha => ?_))))
 refine jK (jQ (wp_seq (jZ [0, 1, 2, 3] (qX 70 ha (hS.blk 2 rfl) fun a ha => ?_))))
 refine jX [(1, 71, iv 1)] ha fun a ha => ?_
 replace hS := hS.pickN 9 [3, 0, 1, 2, 4, 5, 6, 7, 8]
 refine jU (qJ 72 (vs := [.agg #[.slice s4.A s4.n s4.c], iv 1]) ha (markProgram_sat hS hfr (by omega) (by omega)) fun v30 w a hp31 ha => ?_)
 obtain ⟨rfl, hS⟩ := hp31
 refine jX [(3, 14, iv (1 + 3 * (tot ((dropP (toP l0) x1 x2).1) : Int)))] ha fun a ha => ?_
 refine jK (jQ (wp_seq (jZ [0] (jX [(0, 15, iv 1)] ha fun a ha => ?_))))
 refine jK (jQ (wp_seq (jZ [0, 1, 2, 3] (qX 73 ha (hS.blk 3 rfl) fun a ha => ?_))))
 refine jX [(1, 74, iv 1)] ha fun a ha => ?_
 refine jU (qJ 75 (vs := [.agg #[.slice s4.A s4.n s4.c], iv 1]) ha (heldProgram_sat hS (hS.rdS 0 rfl) hfr) fun v32 w a hp33 ha => ?_)
 obtain ⟨rfl, hS⟩ := hp33
 refine jX [(3, 15, iv (1 + 3 * (tot ((dropP (toP l0) x1 x2).1) : Int)))] ha fun a ha => ?_
 refine jK ?_
 replace ha := ha.as [(1, iv x1), (2, iv x2), (3, ptr b1 0), (6, .bool false), (8, ptr b10 0), (9, .bool ((dropP (toP l0) x1 x2).2)), (11, ptr b18 0), (14, iv (1 + 3 * (tot ((dropP (toP l0) x1 x2).1) : Int))), (15, iv (1 + 3 * (tot ((dropP (toP l0) x1 x2).1) : Int)))] rfl
 refine jQ (wp_seq (wp_seq (jZ [0, 1] (jX [(0, 76, iv (1 + 3 * (tot ((dropP (toP l0) x1 x2).1) : Int)))] ha fun a ha => ?_))))
 refine qQ (.bool false) ha ((jW (v := .bool (decide (1 + 3 * (tot ((dropP (toP l0) x1 x2).1) : Int) < 0))) ha (yY (op := (Op.binOp BinOp.lss 3 (Operand.tmp 76) (Operand.const (Value.int IntKind.i64 0)) 3)) (d := some 77) (ty := 4)) (by kernel_rfl) (fun _ => by kernel_rfl)).as (by rw [decide_eq_false (by omega)])) fun a ha => ?_
 refine jK (jQ ?_)
 refine jG ha rfl rfl ?_
 refine wp_skip (jQ (wp_seq (wp_seq (jZ [0, 1, 2] (jX [(0, 78, iv (1 + 3 * (tot ((dropP (toP l0) x1 x2).1) : Int))), (1, 79, iv (1 + 3 * (tot ((dropP (toP l0) x1 x2).1) : Int)))] ha fun a ha => ?_)))))
 refine qQ (.bool false) ha ((jW (v := .bool (!(decide (1 + 3 * (tot ((dropP (toP l0) x1 x2).1) : Int) = 1 + 3 * (tot ((dropP (toP l0) x1 x2).1) : Int))))) ha (yY (op := (Op.binOp BinOp.neq 3 (Operand.tmp 78) (Operand.tmp 79) 3)) (d := some 80) (ty := 4)) (by kernel_rfl) (fun _ => by kernel_rfl)).as (by simp)) fun a ha => ?_
 refine jK (jQ ?_)
 refine jG ha rfl rfl ?_
 refine wp_skip (jQ (wp_seq (jZ [0, 1, 2, 3, 4, 5, 6, 7, 8, 9, 10] (qX 82 ha (hS.blk 8 rfl) fun a ha => ?_))))
 refine jU (qJ 83 (vs := [.agg #[.slice s0.A s0.n s0.c]]) ha (toProgram_sat hS (hr0.sat hS) hf) fun v34 w a hp35 ha => ?_)
 obtain ⟨s6, rfl, hS⟩ := hp35
 refine jX [(2, 84, iv x1), (3, 85, iv x2)] ha fun a ha => ?_
 refine jU (qJ 86 (vs := [.agg #[.slice s6.A s6.n s6.c], iv x1, iv x2]) ha (impl_DropStep_sat hS (hS.rdS 0 rfl) (toP_fits hf)) fun v36 w a hp37 ha => ?_)
 obtain ⟨s7, rfl, hS⟩ := hp37
 refine jX [(5, 81, .tuple #[.agg #[.slice s7.A s7.n s7.c], .bool ((dropP (toP l0) x1 x2).2)]), (6, 87, .agg #[.slice s7.A s7.n s7.c]), (7, 88, .bool ((dropP (toP l0) x1 x2).2))] ha fun a ha => ?_
 refine jU (qZ 16 [.slice none 0 0] 28 (ptr · 0) ha hS fun b38 w a hb39 hS ha => ?_)
 refine jU (o_sa 0 ha (xK (t := 28) (x := 16) (y := 87)) hS fun w a hS ha => ?_)
 refine jX [(10, 17, .bool ((dropP (toP l0) x1 x2).2))] ha fun a ha => ?_
 refine jK (jQ (wp_seq (wp_seq (jZ [0, 1, 2, 3, 4, 5, 6, 7, 8] (qX 89 ha (hS.blk 0 rfl) fun a ha => ?_)))))
 refine qX 90 ha (hS.blk 8 rfl) fun a ha => ?_
 refine jU (qJ 91 (vs := [.agg #[.slice s7.A s7.n s7.c], .agg #[.slice s2.A s2.n s2.c]]) ha (eqProgram_sat hS (hS.rdS 1 rfl) (hS.rdS 9 rfl) hfr) fun v40 w a hp41 ha => ?_)
 obtain ⟨rfl, hS⟩ := hp41
 refine jX [(3, 92, .bool false), (4, 93, .bool false), (5, 94, .bool ((dropP (toP l0) x1 x2).2)), (6, 95, .bool ((dropP (toP l0) x1 x2).2))] ha fun a ha => ?_
 refine qQ (.bool false) ha ((jW (v := .bool (!(((dropP (toP l0) x1 x2).2) == ((dropP (toP l0) x1 x2).2)))) ha (AtG.here (gd := 93) ⟨(by kernel_rfl : ((jY Try.f5 25)[7]?).map spec = some ((Op.binOp BinOp.neq 4 (Operand.tmp 94) (Operand.tmp 95) 4), some 96, 4, some (4, false))), by kernel_rfl⟩ ha rfl) (by kernel_rfl) (fun _ => by kernel_rfl)).as (by simp)) fun a ha => ?_
 refine jX [(8, 97, .bool false)] ha fun a ha => ?_
 refine jK ?_
 replace ha := ha.as [(6, .bool false), (11, ptr b18 0), (14, iv (1 + 3 * (tot ((dropP (toP l0) x1 x2).1) : Int))), (15, iv (1 + 3 * (tot ((dropP (toP l0) x1 x2).1) : Int))), (97, .bool false)] rfl
 refine jQ ?_
 refine jG ha rfl rfl ?_
 refine wp_skip (jQ (wp_seq (jZ [0] (jX [(0, 15, iv 1)] ha fun a ha => ?_))))
 refine jK (jQ (wp_seq (jZ [0, 1, 2, 3] (qX 98 ha (hS.blk 6 rfl) fun a ha => ?_))))
 refine jX [(1, 99, iv 1)] ha fun a ha => ?_
 refine jU (qJ 100 (vs := [.agg #[.slice s4.A s4.n s4.c], iv 1]) ha (heldProgram_sat hS (hS.rdS 3 rfl) hfr) fun v42 w a hp43 ha => ?_)
 obtain ⟨rfl, hS⟩ := hp43
 refine jX [(3, 15, iv (1 + 3 * (tot ((dropP (toP l0) x1 x2).1) : Int)))] ha fun a ha => ?_
 refine jK (jQ (wp_seq (wp_seq (jZ [0, 1] (jX [(0, 101, iv (1 + 3 * (tot ((dropP (toP l0) x1 x2).1) : Int)))] ha fun a ha => ?_)))))
 refine qQ (.bool false) ha ((jW (v := .bool (decide (1 + 3 * (tot ((dropP (toP l0) x1 x2).1) : Int) < 0))) ha (yY (op := (Op.binOp BinOp.lss 3 (Operand.tmp 101) (Operand.const (Value.int IntKind.i64 0)) 3)) (d := some 102) (ty := 4)) (by kernel_rfl) (fun _ => by kernel_rfl)).as (by rw [decide_eq_false (by omega)])) fun a ha => ?_
 refine jK (jQ ?_)
 refine jG ha rfl rfl ?_
 refine wp_skip (jQ (wp_seq (wp_seq (jZ [0, 1, 2] (jX [(0, 103, iv (1 + 3 * (tot ((dropP (toP l0) x1 x2).1) : Int))), (1, 104, iv (1 + 3 * (tot ((dropP (toP l0) x1 x2).1) : Int)))] ha fun a ha => ?_)))))
 refine qQ (.bool false) ha ((jW (v := .bool (!(decide (1 + 3 * (tot ((dropP (toP l0) x1 x2).1) : Int) = 1 + 3 * (tot ((dropP (toP l0) x1 x2).1) : Int))))) ha (yY (op := (Op.binOp BinOp.neq 3 (Operand.tmp 103) (Operand.tmp 104) 3)) (d := some 105) (ty := 4)) (by kernel_rfl) (fun _ => by kernel_rfl)).as (by simp)) fun a ha => ?_
 refine jK (jQ ?_)
 refine jG ha rfl rfl ?_
 refine wp_skip (jQ (wp_seq (jZ [0] (jX [(0, 6, .bool true)] ha fun a ha => ?_))))
 refine jK (jQ (wp_ret (qK ha (by kernel_rfl) (xZ (t := 6) ha rfl) ?_)))
 exact ⟨rfl, hS.below⟩
end Go.Proofs.Ytbgfiiehjaghiaa.G
