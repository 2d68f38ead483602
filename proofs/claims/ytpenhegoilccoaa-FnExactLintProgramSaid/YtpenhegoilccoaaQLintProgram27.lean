/- What the claim FnExactLintProgram rests on, part 27 of 29; the last part proves it: for every input the law answers true, and its arguments read behind the call as before it. No condition. -/
import Derived.Test.YtpenhegoilccoaaQLintProgram13
import Derived.Test.YtpenhegoilccoaaQLintProgram20
import Derived.Test.YtpenhegoilccoaaQLintProgram22
import Derived.Test.YtpenhegoilccoaaQLintProgram25
import Derived.Test.YtpenhegoilccoaaQLintProgram26
set_option linter.unusedSimpArgs false
set_option linter.unusedVariables false
set_option maxRecDepth 20000
set_option maxHeartbeats 1000000
namespace Go.Proofs.Ytpenhegoilccoaa.G
open Go.RowKit Go.Proofs.Ytpenhegoilccoaa.SX Go.Proofs.YtpenhegoilccoaaW.PrintWords Go.Proofs.YtpenhegoilccoaaW.PrintLast Go.Proofs.YtpenhegoilccoaaW.PrintMore
theorem okJ_of {l : List (List ST)} {b : List ST} (h : programB l = true) (hb : b ∈ l) : okJ b ∧ b.length ≤ 8 := by
  have hP := progOk_of h
  refine ⟨fun x hx h11 => ?_, ?_⟩
  · exact ((hP.steps (b.map toStp) (List.mem_map_of_mem hb) (toStp x) (List.mem_map_of_mem hx)).j h11).1
  · have := hP.short (b.map toStp) (List.mem_map_of_mem hb)
    rwa [List.length_map] at this
theorem take_next' {l : List Int} {i : Nat} {y : Int} (h : l[i]? = some y) : l.take (i + 1) = l.take i ++ [y] := by rw [List.take_add_one, h]; rfl
theorem putL_next {l o : List Int} {i : Nat} {y : Int} (h : l[i]? = some y) : putL o (l.take (i + 1)) = put1 (putL o (l.take i)) y := by rw [take_next' h]; unfold putL; rw [List.foldl_append]; rfl
theorem putL_len : ∀ (l o : List Int), (putL o l).length ≤ o.length + l.length
 | [], o => Nat.le_refl _
 | x :: l, o => by
  have h1 := putL_len l (put1 o x)
  have h2 := put1_len x o
  show (putL (put1 o x) l).length ≤ _
  simp only [List.length_cons]
  omega
theorem code81 : Try.f81.body = some (Code.seq (cr Try.f81 0 false) (Code.seq (cr Try.f81 1 false) Code.ret)) := by kernel_rfl
theorem ocont_sat0 {w0 : World} {se : Sl} {es : List Int} {x : Int} (hre : RdI w0 se es) :
  Calls Try.prog 81 #[.slice se.A se.n se.c, .int .i64 x] w0 (Ret fun r w' => r = .bool (es.contains x) ∧ Sat w0 w' []) := by
 have hS : Sat w0 w0 [] := Sat.start w0
 have hxx := idxI_le es x
 have hbig := hre.big
 refine enter (n := 9) Try.func81 code81 (by kernel_rfl) (Nat.le_of_ble_eq_true rfl) (fun a ha => ?_)
 replace ha : Has 9 [(0, .slice se.A se.n se.c), (1, iv x)] a := ha
 refine wp_seq (jX [0] (jQ [(0, 4, .bool false)] ha fun a ha => ?_))
 refine jY (jJ (wp_seq (jX [0, 1, 2, 3, 4] (jQ [(0, 5, .slice se.A se.n se.c), (1, 6, iv x)] ha fun a ha => ?_))))
 refine jW (qQ 7 (vs := [.slice se.A se.n se.c, iv x]) ha (bidx_sat hS (hre.sat hS)) fun v1 w a hp2 ha => ?_)
 obtain ⟨rfl, hS⟩ := hp2
 refine jQ [(3, 8, .bool (decide ((idxI es x) ≥ 0))), (4, 4, .bool (decide ((idxI es x) ≥ 0)))] ha fun a ha => ?_
 refine jY (jJ (wp_ret (jG ha (by kernel_rfl) (qK (t := 4) ha rfl) ?_)))
 have hE : es.contains x = decide ((idxI es x) ≥ 0) := by rw [Bool.eq_iff_iff, List.contains_iff_mem, decide_eq_true_iff]; exact idxI_mem.symm
 rw [hE]
 exact ⟨rfl, hS⟩
theorem ocont_sat {w0 w : World} {Rs : List Asn} {s : Sl} {l : List Int} (hS : Sat w0 w Rs) (hr : RdI w s l) (x : Int) :
  Calls Try.prog 81 #[.slice s.A s.n s.c, .int .i64 x] w (Ret fun r w' => r = .bool (l.contains x) ∧ Sat w0 w' Rs) := lift0 hS (ocont_sat0 hr)
theorem code163 : Try.f163.body = some (Code.seq (cr Try.f163 0 false) (Code.seq (cr Try.f163 1 false) Code.ret)) := by kernel_rfl
theorem own_sat {w0 w : World} {Rs : List Asn} {s2 : Sl} {ys : List Int} (hS : Sat w0 w (SX.row (.slice s2.A s2.n s2.c) 3 1 (SX.encI ys) :: Rs)) (hyl : ys.length ≤ 1000000) :
  Calls Try.prog 163 #[.slice s2.A s2.n s2.c] w (Ret fun r w' => ∃ o : Sl, r = .slice o.A o.n o.c ∧ Sat w0 w' (SX.row (.slice o.A o.n o.c) 3 1 (SX.encI ys) :: SX.row (.slice s2.A s2.n s2.c) 3 1 (SX.encI ys) :: Rs)) := by
 refine enter (n := 6) Try.func163 code163 (by kernel_rfl) (Nat.le_of_ble_eq_true rfl) (fun a ha => ?_)
 replace ha : Has 6 [(0, .slice s2.A s2.n s2.c)] a := ha
 refine wp_seq (jX [0] (jQ [(0, 2, .slice none 0 0)] ha fun a ha => ?_))
 refine jY (jJ (wp_seq (jX [0, 1, 2, 3] (jW (qY 3 [] 3 (fun b => .slice (some ⟨b, 0, none⟩) 0 0) ha hS fun b1 w a hb2 hS ha => ?_)))))
 refine jQ [(1, 4, .slice s2.A s2.n s2.c)] ha fun a ha => ?_
 replace hS := hS.blk0 1 0 rfl
 refine jW (o_appI (xs := []) (s2 := s2) (z := iv 0) (bytes := 8) 0 1 ha (by decide) (xV (op := (Op.call { callee := (Callee.builtin Builtin.append), args := #[(Operand.tmp 3), (Operand.tmp 4)], argTypes := #[44, 44] })) (d := some 5) (ty := 44)) rfl rfl (by kernel_rfl) (by kernel_rfl) rfl hS rfl rfl (by simp only [List.length_nil]; omega) (by decide) fun s3 w a hS ha => ?_)
 refine jQ [(3, 2, .slice s3.A s3.n s3.c)] ha fun a ha => ?_
 refine jY (jJ (wp_ret (jG ha (by kernel_rfl) (qK (t := 2) ha rfl) ?_)))
 replace hS : Sat w0 w ((rI s3 ([] ++ ys)) :: (rI s2 ys) :: Rs) := hS
 exact ⟨s3, rfl, hS⟩
theorem code115 : Try.f115.body = some (Code.seq (cr Try.f115 0 false) (Code.seq (cr Try.f115 1 false) (Code.seq (Code.block 0 (Code.loop (Code.seq (Code.seq (cr Try.f115 2 false) (Code.cond (Operand.tmp 10) Code.skip (Code.exit 0))) (Code.block 1 (Code.seq (cr Try.f115 3 false) (Code.seq (cr Try.f115 4 false) (Code.seq (cr Try.f115 5 false) (Code.cond (Operand.tmp 25) (cr Try.f115 6 false) Code.skip)))))))) (Code.seq (cr Try.f115 7 false) Code.ret)))) := by kernel_rfl
theorem comes_sat {w0 w : World} {Rs : List Asn} {sb sa : Sl} {b : List ST} {L0 : List Int} (hS : Sat w0 w (SX.row (.slice sa.A sa.n sa.c) 3 1 (SX.encI L0) :: Rs)) (hrb : RdE cT 3 w0 sb b) (hok : okJ b) (hb1 : b.length ≤ 1048576) (hL0 : ∀ x ∈ L0, 0 ≤ x) (hL : L0.length ≤ 100) (hb8 : b.length ≤ 8) :
  Calls Try.prog 115 #[.slice sb.A sb.n sb.c, .slice sa.A sa.n sa.c] w (Ret fun r w' => ∃ o : Sl, r = .slice o.A o.n o.c ∧ Sat w0 w' (SX.row (.slice o.A o.n o.c) 3 1 (SX.encI (openL b L0)) :: Rs)) := by
 have hsb := hrb.len
 refine enter (n := 38) Try.func115 code115 (by kernel_rfl) (Nat.le_of_ble_eq_true rfl) (fun a ha => ?_)
 replace ha : Has 38 [(0, .slice sb.A sb.n sb.c), (1, .slice sa.A sa.n sa.c)] a := ha
 refine wp_seq (jX [0] (jQ [(0, 4, .slice none 0 0)] ha fun a ha => ?_))
 refine jY (jJ (wp_seq (jX [0, 1] (jW (qY 7 [] 3 (fun b => .slice (some ⟨b, 0, none⟩) 0 0) ha hS fun b1 w a hb2 hS ha => ?_)))))
 refine jQ [(1, 5, .slice (some ⟨b1, 0, none⟩) 0 0)] ha fun a ha => ?_
 refine jY (jJ (wp_seq (wp_block ?_)))
 replace hS := hS.blk0 1 0 rfl
 replace hS : Sat w0 w ((rI (⟨some ⟨b1, 0, none⟩, 0, 0⟩ : Sl) []) :: (rI sa L0) :: Rs) := hS
 have hln := (hS.rdRow (s := sa) 1 rfl).len
 refine wp_loop_ghost (fun n_ a_ w_ => ∃ (kf : Nat) (j : Nat) (ou : Sl) (o : Sl) (z : Sl) (O : List Int) (Lf : List Int), n_ = kf * 1 ∧ (CInv b L0 O (Lf.drop j)) ∧ (goP b kf O (Lf.drop j) = goS b L0) ∧ (3 * (b.length - O.length) + (Lf.length - j) < kf) ∧ (TailOf z o Lf.length j) ∧ (j ≤ Lf.length) ∧ (Lf.length ≤ 100000) ∧ (kf ≤ 1000) ∧ Has 38 [(0, .slice sb.A sb.n sb.c), (4, .slice none 0 0), (1, .slice z.A z.n z.c), (5, .slice ou.A ou.n ou.c)] a_ ∧ Sat w0 w_ ((rI ou O) :: (rI o Lf) :: Rs)) _ ⟨3 * b.length + L0.length + 1, 0, ⟨some ⟨b1, 0, none⟩, 0, 0⟩, sa, sa, [], L0, rfl, CInv.start hL0, rfl, (by simp only [List.length_nil]; omega), hS.tail0 1 rfl, Nat.zero_le _, (by omega), (by omega), ha.keeps [0, 4, 1, 5] _ rfl, hS⟩ ?_
 rintro n_ a w ⟨kf, j, ou, o, z, O, Lf, rfl, hci, hgo, hms, hto, hj, hlf, hkf, ha, hS⟩
 refine wp_seq (wp_seq (jX [0, 1, 2] (jQ [(0, 8, .slice z.A z.n z.c), (1, 9, iv (z.n : Int)), (2, 10, .bool (decide ((z.n : Int) > 0)))] ha fun a ha => ?_)))
 refine jY (jJ ?_)
 by_cases c3 : (z.n : Int) > 0
 ·
  have hzn := hto.n_
  have hjl : j < Lf.length := by omega
  obtain ⟨y, hy⟩ : ∃ y, Lf[j]? = some y := ⟨_, List.getElem?_eq_getElem hjl⟩
  have hdr : Lf.drop j = y :: Lf.drop (j + 1) := by rw [List.drop_eq_getElem_cons hjl]; congr 1; exact Option.some.inj ((List.getElem?_eq_getElem hjl).symm.trans hy)
  rw [hdr] at hci hgo
  have hy0 := (hci.rf y List.mem_cons_self).1
  obtain ⟨kf, rfl⟩ : ∃ m, kf = m + 1 := ⟨kf - 1, by omega⟩
  refine jU ha rfl (decide_eq_true c3) ?_
  refine wp_skip (jJ (wp_block (wp_seq (jX [0, 1, 2, 3] (jQ [(0, 11, .slice z.A z.n z.c)] ha fun a ha => ?_)))))
  refine qX (.pointer (some ⟨bk z, of_ z + 0 * 1, none⟩)) ha (xZ (s := z) (el := 3) (sz := 1) (j := 0) ha (xV (op := (Op.indexAddr 44 (Operand.tmp 11) (Operand.const (Value.int IntKind.i64 0)))) (d := some 12) (ty := 0)) rfl rfl (by kernel_rfl) (by kernel_rfl) (hto.zA hjl) rfl (by omega)) fun a ha => ?_
  refine qX (iv y) ha (qV (p := ⟨bk z, of_ z + 0 * 1, none⟩) ha (xK (t := 3) (x := 12) (d := 13) (ty := 3)) rfl (by kernel_rfl) (fun w' hw => by rw [hw]; exact tail_cell hto hS 1 rfl hy)) fun a ha => ?_
  refine jQ [(3, 6, iv y)] ha fun a ha => ?_
  refine jY (jJ (wp_seq (jX [0, 1, 2] (jQ [(0, 14, .slice z.A z.n z.c)] ha fun a ha => ?_))))
  refine qX (.slice (tailA z.A 1 1 z.c) (z.n - 1) (z.c - 1)) ha (v_dropZ (el := 3) (sz := 1) (j := 1) ha (xV (op := (Op.slice 44 (Operand.tmp 14) (some (Operand.const (Value.int IntKind.i64 1))) none none)) (d := some 15) (ty := 44)) rfl rfl (by kernel_rfl) (by kernel_rfl) rfl (by omega) hto.c_) fun a ha => ?_
  refine jQ [(2, 1, .slice (tailA z.A 1 1 z.c) (z.n - 1) (z.c - 1))] ha fun a ha => ?_
  refine jY (jJ (wp_seq (jX [0, 1, 2, 3, 4, 5, 6, 7, 8, 9] (jQ [(0, 16, iv y), (1, 17, .slice sb.A sb.n sb.c), (2, 18, iv (sb.n : Int)), (3, 19, .bool (decide (y < (sb.n : Int)))), (4, 20, .bool (decide (y < (sb.n : Int))))] ha fun a ha => ?_))))
  by_cases c4 : y < (sb.n : Int)
  ·
   replace ha := ha.turn 19 (.bool true) rfl (congrArg Value.bool (decide_eq_true c4));replace ha := ha.turn 20 (.bool true) rfl (congrArg Value.bool (decide_eq_true c4));obtain ⟨x, hx⟩ : ∃ x, b[y.toNat]? = some x := ⟨_, List.getElem?_eq_getElem (by omega)⟩;refine jQ [(5, 21, .slice ou.A ou.n ou.c), (6, 22, iv y)] ha fun a ha => ?_;refine jW (qQ 23 (vs := [.slice ou.A ou.n ou.c, iv y]) ha (ocont_sat hS (hS.rdRow (s := ou) 0 rfl) y) fun v5 w a hp6 ha => ?_);obtain ⟨rfl, hS⟩ := hp6;refine jQ [(8, 24, .bool (!((O.contains y)))), (9, 25, .bool (!((O.contains y))))] ha fun a ha => ?_;refine jY (jJ ?_)
   rcases Bool.eq_false_or_eq_true (O.contains y) with c7 | c7
   ·
    refine jK ha rfl (xU c7) ?_;refine wp_skip (in_n (jJ ?_));replace hS : Sat w0 w ((rI ou O) :: (rI o Lf) :: Rs) := hS;rw [goP_skip (.inr c7)] at hgo;exact ⟨_, by omega, kf, j + 1, ou, o, ⟨tailA z.A 1 1 z.c, z.n - 1, z.c - 1⟩, O, Lf, rfl, hci.skip (.inr (List.contains_iff_mem.1 c7)), hgo, (by omega), hto.next hjl, hjl, hlf, (by omega), ha.keeps [0, 4, 1, 5] _ rfl, hS⟩
   refine jU ha rfl (xG c7) ?_;refine jX [0, 1, 2, 3, 4, 5, 6, 7, 8, 9, 10, 11] (jQ [(0, 26, .slice ou.A ou.n ou.c), (1, 27, iv y)] ha fun a ha => ?_);refine jW (qY 28 [iv y] 3 (fun b => .slice (some ⟨b, 0, none⟩) 1 1) ha hS fun b8 w a hb9 hS ha => ?_);refine jW (o_ap 29 1 0 (SX.encI (O ++ [y])) ha hS rfl rfl (by rw [encI_length]; have := hci.len; simp only [List.length_cons, List.length_nil]; omega) (encI_snoc _ _) fun s13 w a hS hn14 ha => ?_);refine jQ [(4, 30, .slice (tailA z.A 1 1 z.c) (z.n - 1) (z.c - 1))] ha fun a ha => ?_;replace hS := hS.pickN 3 [2, 0, 1];refine jW (qQ 31 (vs := [.slice (tailA z.A 1 1 z.c) (z.n - 1) (z.c - 1)]) ha (cloneT_sat (o := o) (l := Lf) (j := j + 1) (hto.next hjl) hjl hS (by omega)) fun v15 w a hp16 ha => ?_);obtain ⟨cl1, rfl, hS⟩ := hp16;refine jQ [(6, 32, .slice sb.A sb.n sb.c), (7, 33, iv y)] ha fun a ha => ?_;refine jW (qQ 34 (vs := [.slice sb.A sb.n sb.c, iv y]) ha (leadsI_sat hS hrb ⟨hy0, by omega⟩ hb1 hx) fun v17 w a hp18 ha => ?_);obtain ⟨ro1, rfl, hS⟩ := hp18;refine jW (o_appI (s2 := ro1) (z := iv 0) (bytes := 8) 1 0 ha (by decide) (xV (op := (Op.call { callee := (Callee.builtin Builtin.append), args := #[(Operand.tmp 31), (Operand.tmp 34)], argTypes := #[44, 44] })) (d := some 35) (ty := 44)) rfl rfl (by kernel_rfl) (by kernel_rfl) rfl hS rfl rfl (by have := leadsP_len b.length x y; rw [List.length_drop]; omega) (by decide) fun s19 w a hS ha => ?_);refine jQ [(10, 5, .slice s13.A s13.n s13.c), (11, 1, .slice s19.A s19.n s19.c)] ha fun a ha => ?_;refine jY (in_n (jJ ?_));replace hS := hS.pickN 5 [4, 1];have hnO : y ∉ O := fun h9 => by have h8 := List.contains_iff_mem.2 h9; rw [c7] at h8; cases h8
   have hyb : y < (b.length : Int) := by omega
   have hcn := hci.take hok hyb hnO;have hcl := hcn.len;have h2l := leadsAt_len b y;rw [leadsAt_at hx] at hcn h2l;rw [goP_take hyb c7, leadsAt_at hx] at hgo;have hdl : (Lf.drop (j + 1) ++ leadsP b.length x y).length = Lf.length - (j + 1) + (leadsP b.length x y).length := by rw [List.length_append, List.length_drop]
   simp only [List.length_append, List.length_cons, List.length_nil] at hcl;exact ⟨_, by omega, kf, 0, s13, s19, s19, O ++ [y], Lf.drop (j + 1) ++ leadsP b.length x y, rfl, hcn, hgo, (by rw [hdl]; simp only [List.length_append, List.length_cons, List.length_nil]; omega), hS.tail0 1 rfl, Nat.zero_le _, (by rw [hdl]; omega), (by omega), ha.keeps [0, 4, 1, 5] _ rfl, hS⟩
  replace ha := ha.turn 19 (.bool false) rfl (congrArg Value.bool (decide_eq_false c4))
  replace ha := ha.turn 20 (.bool false) rfl (congrArg Value.bool (decide_eq_false c4))
  refine jQ [(5, 21, undef), (6, 22, undef), (7, 23, undef), (8, 24, undef), (9, 25, .bool false)] ha fun a ha => ?_
  refine jY (jJ ?_)
  refine jK ha rfl rfl ?_
  refine wp_skip (in_n (jJ ?_))
  replace hS : Sat w0 w ((rI ou O) :: (rI o Lf) :: Rs) := hS
  rw [goP_skip (.inl (by omega))] at hgo
  exact ⟨_, by omega, kf, j + 1, ou, o, ⟨tailA z.A 1 1 z.c, z.n - 1, z.c - 1⟩, O, Lf, rfl, hci.skip (.inl (by omega)), hgo, (by omega), hto.next hjl, hjl, hlf, (by omega), ha.keeps [0, 4, 1, 5] _ rfl, hS⟩
 refine jK ha rfl (decide_eq_false c3) ?_
 refine wp_exit (qJ (qJ (in_x (jJ (wp_seq (jX [0, 1, 2] (jQ [(0, 36, .slice ou.A ou.n ou.c)] ha fun a ha => ?_)))))))
 replace hS : Sat w0 w ((rI ou O) :: (rI o Lf) :: Rs) := hS
 refine jW (qQ 37 (vs := [.slice ou.A ou.n ou.c]) ha (asc_sat hS (by have := hci.len; omega)) fun v20 w a hp21 ha => ?_)
 obtain ⟨ao1, rfl, hS⟩ := hp21
 refine jQ [(2, 4, .slice ao1.A ao1.n ao1.c)] ha fun a ha => ?_
 refine jY (jJ (wp_ret (jG ha (by kernel_rfl) (qK (t := 4) ha rfl) ?_)))
 have hF : Lf.drop j = [] := List.drop_eq_nil_of_le (by have := hto.n_; omega)
 rw [hF, goP_nil] at hgo
 have hE : openL b L0 = asc O := by unfold openL; rw [hgo]
 rw [hE]
 exact ⟨ao1, rfl, hS.pickN 2 [0]⟩
theorem code136 : Try.f136.body = some (Code.seq (cr Try.f136 0 false) (Code.seq (cr Try.f136 1 false) (Code.seq (Code.seq (cr Try.f136 2 false) (Code.block 0 (Code.loop (Code.seq (Code.seq (cr Try.f136 3 false) (Code.cond (Operand.tmp 16) Code.skip (Code.exit 0))) (Code.seq (Code.block 1 (Code.seq (Code.seq (cr Try.f136 5 false) (Code.cond (Operand.tmp 25) (Code.exit 1) Code.skip)) (Code.seq (cr Try.f136 6 false) (Code.seq (cr Try.f136 7 false) (Code.block 2 (Code.loop (Code.seq (Code.seq (cr Try.f136 8 false) (Code.cond (Operand.tmp 35) Code.skip (Code.exit 2))) (Code.seq (Code.block 3 (Code.seq (cr Try.f136 10 false) (Code.cond (Operand.tmp 44) (cr Try.f136 11 false) Code.skip))) (cr Try.f136 9 false))))))))) (cr Try.f136 4 false)))))) (Code.seq (cr Try.f136 12 false) (Code.seq (Code.seq (cr Try.f136 13 false) (Code.block 4 (Code.loop (Code.seq (Code.seq (cr Try.f136 14 false) (Code.cond (Operand.tmp 56) Code.skip (Code.exit 4))) (Code.seq (Code.block 5 (cr Try.f136 16 false)) (cr Try.f136 15 false)))))) (Code.seq (cr Try.f136 17 false) Code.ret)))))) := by kernel_rfl
theorem from11_sat {w0 w : World} {Rs : List Asn} {sb sa : Sl} {b : List ST} {L0 : List Int} (hS : Sat w0 w (SX.row (.slice sa.A sa.n sa.c) 3 1 (SX.encI L0) :: Rs)) (hrb : RdE cT 3 w0 sb b) (hok : okJ b) (hb1 : b.length ≤ 1048576) (hL0 : ∀ x ∈ L0, 0 ≤ x ∧ x ≤ (b.length : Int)) (hnd : L0.Nodup) (hL : L0.length ≤ 100) (hb8 : b.length ≤ 8) :
  Calls Try.prog 136 #[.slice sb.A sb.n sb.c, .slice sa.A sa.n sa.c] w (Ret fun r w' => ∃ (o : Sl) (R : List Int), r = .slice o.A o.n o.c ∧ IncI R ∧ (∀ x, x ∈ R ↔ Rch b L0 x) ∧ R.length ≤ b.length + 1 ∧ Sat w0 w' (SX.row (.slice o.A o.n o.c) 3 1 (SX.encI R) :: Rs)) := by
 have hsb := hrb.len
 refine enter (n := 66) Try.func136 code136 (by kernel_rfl) (Nat.le_of_ble_eq_true rfl) (fun a ha => ?_)
 replace ha : Has 66 [(0, .slice sb.A sb.n sb.c), (1, .slice sa.A sa.n sa.c)] a := ha
 refine wp_seq (jX [0] (jQ [(0, 4, .slice none 0 0)] ha fun a ha => ?_))
 refine jY (jJ (wp_seq (jX [0, 1, 2] (jQ [(0, 11, .slice sa.A sa.n sa.c)] ha fun a ha => ?_))))
 refine jW (qQ 12 (vs := [.slice sa.A sa.n sa.c]) ha (own_sat hS (by omega)) fun v1 w a hp2 ha => ?_)
 obtain ⟨ow1, rfl, hS⟩ := hp2
 refine jQ [(2, 5, .slice ow1.A ow1.n ow1.c)] ha fun a ha => ?_
 refine jY (jJ (wp_seq (wp_seq (jX [0] (jQ [(0, 6, iv 0)] ha fun a ha => ?_)))))
 refine jY (jJ (wp_block ?_))
 replace hS := hS.pickN 2 [0]
 refine wp_loop_ghost (fun n_ a_ w_ => ∃ (m : Nat) (o : Sl) (O : List Int), n_ = b.length + 1 - m ∧ (QInv b L0 O m) ∧ (m ≤ O.length) ∧ Has 66 [(0, .slice sb.A sb.n sb.c), (4, .slice none 0 0), (5, .slice o.A o.n o.c), (6, iv (m : Int))] a_ ∧ Sat w0 w_ ((rI o O) :: Rs)) _ ⟨0, ow1, L0, rfl, QInv.start hnd hL0, Nat.zero_le _, ha.keeps [0, 4, 5, 6] _ rfl, hS⟩ ?_
 rintro n_ a w ⟨m, o, O, rfl, hq, hm, ha, hS⟩
 refine wp_seq (wp_seq (jX [0, 1, 2, 3] (jQ [(0, 13, iv (m : Int)), (1, 14, .slice o.A o.n o.c), (2, 15, iv (o.n : Int)), (3, 16, .bool (decide ((m : Int) < (o.n : Int))))] ha fun a ha => ?_)))
 refine jY (jJ ?_)
 by_cases c3 : (m : Int) < (o.n : Int)
 ·
  have hom : o.n = O.length := (hS.rdRow (s := o) 0 rfl).len
  have hml : m < O.length := by omega
  obtain ⟨y, hy⟩ : ∃ y, O[m]? = some y := ⟨_, List.getElem?_eq_getElem hml⟩
  have hyr := hq.rg y (List.mem_of_getElem? hy)
  have hy0 := hyr.1
  have hql := hq.len
  refine jU ha rfl (decide_eq_true c3) ?_
  refine wp_skip (jJ (wp_seq (wp_block (wp_seq (wp_seq ?_)))))
  replace hS : Sat w0 w ((rI o O) :: Rs) := hS
  replace hS : Sat w0 w ((SX.row (.slice o.A o.n o.c) 3 1 (encJ O)) :: Rs) := by rw [← encJ_I]; exact hS
  refine jX [0, 1, 2, 3, 4, 5, 6] (jQ [(0, 19, .slice o.A o.n o.c), (1, 20, iv (m : Int))] ha fun a ha => ?_)
  refine qX (.pointer (some ⟨bk o, m * 1, none⟩)) ha (xQ (s := o) (el := 3) (sz := 1) (j := m) ha (xY (t := 44) (x := 19) (y := 20) (d := 21)) rfl rfl (by kernel_rfl) (by kernel_rfl) (hS.rowA (s := o) 0 rfl (by have := (List.getElem?_eq_some_iff.1 hy).1; rw [encJ_length]; omega)) (rfl) (by have h9 := hS.rowL (s := o) (enc := cellsJ) 0 cellsJ_len (by decide) rfl; have := (List.getElem?_eq_some_iff.1 hy).1; omega)) fun a ha => ?_
  refine qX (iv y) ha (qV ha (xK (t := 3) (x := 21) (d := 22) (ty := 3)) rfl (by kernel_rfl) (fun w' hw => by rw [hw]; exact (hS.rdC (s := o) 0 rfl).cells _ _ ((flat_get (enc := cellsJ) (o := 0) cellsJ_len hy (by decide)).trans rfl))) fun a ha => ?_
  refine jQ [(4, 23, .slice sb.A sb.n sb.c), (5, 24, iv (sb.n : Int)), (6, 25, .bool (decide (y ≥ (sb.n : Int))))] ha fun a ha => ?_
  refine jY (jJ ?_)
  by_cases c4 : y ≥ (sb.n : Int)
  ·
   refine jU ha rfl (decide_eq_true c4) ?_;refine wp_exit (qJ (in_x (jJ (jX [0, 1, 2] (jQ [(0, 17, iv (m : Int))] ha fun a ha => ?_)))));refine xJ 18 ((m : Int) + 1) ha fun a ha => ?_;refine jQ [(2, 6, iv ((m : Int) + 1))] ha fun a ha => ?_;refine jY (jJ ?_);replace hS : Sat w0 w ((SX.row (.slice o.A o.n o.c) 3 1 (encJ O)) :: Rs) := hS;have hql := hq.len;replace hS : Sat w0 w ((rI o O) :: Rs) := by have h9 := hS; rw [← encJ_I O] at h9; exact h9
   exact ⟨_, by omega, m + 1, o, O, rfl, hq.skip hy (by omega), hml, ha.keeps [0, 4, 5, 6] _ rfl, hS⟩
  refine jK ha rfl (decide_eq_false c4) ?_
  refine wp_skip (jJ (wp_seq ?_))
  obtain ⟨x, hx⟩ : ∃ x, b[y.toNat]? = some x := ⟨_, List.getElem?_eq_getElem (by omega)⟩
  refine jX [0, 1, 2, 3, 4, 5, 6] (jQ [(0, 26, .slice sb.A sb.n sb.c), (1, 27, .slice o.A o.n o.c), (2, 28, iv (m : Int))] ha fun a ha => ?_)
  refine qX (.pointer (some ⟨bk o, m * 1, none⟩)) ha (xQ (s := o) (el := 3) (sz := 1) (j := m) ha (xY (t := 44) (x := 27) (y := 28) (d := 29)) rfl rfl (by kernel_rfl) (by kernel_rfl) (hS.rowA (s := o) 0 rfl (by have := (List.getElem?_eq_some_iff.1 hy).1; rw [encJ_length]; omega)) (rfl) (by have h9 := hS.rowL (s := o) (enc := cellsJ) 0 cellsJ_len (by decide) rfl; have := (List.getElem?_eq_some_iff.1 hy).1; omega)) fun a ha => ?_
  refine qX (iv y) ha (qV ha (xK (t := 3) (x := 29) (d := 30) (ty := 3)) rfl (by kernel_rfl) (fun w' hw => by rw [hw]; exact (hS.rdC (s := o) 0 rfl).cells _ _ ((flat_get (enc := cellsJ) (o := 0) cellsJ_len hy (by decide)).trans rfl))) fun a ha => ?_
  refine jW (qQ 31 (vs := [.slice sb.A sb.n sb.c, iv y]) ha (leadsQ_sat hS hrb ⟨hy0, by omega⟩ hb1 hx) fun v5 w a hp6 ha => ?_)
  obtain ⟨ro1, rfl, hS⟩ := hp6
  refine jQ [(6, 7, .slice ro1.A ro1.n ro1.c)] ha fun a ha => ?_
  refine jY (jJ (wp_seq (jX [0] (jQ [(0, 8, iv 0)] ha fun a ha => ?_))))
  refine jY (jJ (wp_block ?_))
  replace hS := hS.pickN 2 [1, 0]
  replace hS : Sat w0 w ((rI o O) :: (SX.row (.slice ro1.A ro1.n ro1.c) 3 1 (encJ (leadsP b.length x y))) :: Rs) := by have h9 := hS; rw [← encJ_I O] at h9; rw [← encJ_I (leadsP b.length x y)]; exact h9
  have hnl : ro1.n = (leadsP b.length x y).length := hS.rowL (s := ro1) (enc := cellsJ) 1 cellsJ_len (by decide) rfl
  refine wp_loop_ghost (fun n_ a_ w_ => ∃ (i : Nat) (o2 : Sl) (O2 : List Int), n_ = (leadsP b.length x y).length - i ∧ (i ≤ (leadsP b.length x y).length) ∧ (QInv b L0 O2 m) ∧ (O2[m]? = some y) ∧ (∀ v ∈ (leadsP b.length x y).take i, v ∈ O2) ∧ Has 66 [(0, .slice sb.A sb.n sb.c), (4, .slice none 0 0), (6, iv (m : Int)), (13, iv (m : Int)), (14, .slice o.A o.n o.c), (15, iv (o.n : Int)), (16, .bool (decide ((m : Int) < (o.n : Int)))), (19, .slice o.A o.n o.c), (20, iv (m : Int)), (21, .pointer (some ⟨bk o, m * 1, none⟩)), (22, iv y), (23, .slice sb.A sb.n sb.c), (24, iv (sb.n : Int)), (25, .bool (decide (y ≥ (sb.n : Int)))), (26, .slice sb.A sb.n sb.c), (27, .slice o.A o.n o.c), (28, iv (m : Int)), (29, .pointer (some ⟨bk o, m * 1, none⟩)), (30, iv y), (31, .slice ro1.A ro1.n ro1.c), (7, .slice ro1.A ro1.n ro1.c), (5, .slice o2.A o2.n o2.c), (8, iv (i : Int))] a_ ∧ Sat w0 w_ ((rI o2 O2) :: (SX.row (.slice ro1.A ro1.n ro1.c) 3 1 (encJ (leadsP b.length x y))) :: Rs)) _ ⟨0, o, O, rfl, Nat.zero_le _, hq, hy, (fun v hv => absurd hv (by simp)), ha.keeps [0, 4, 6, 13, 14, 15, 16, 19, 20, 21, 22, 23, 24, 25, 26, 27, 28, 29, 30, 31, 7, 5, 8] _ rfl, hS⟩ ?_
  rintro n_ a w ⟨i, o2, O2, rfl, hi, hq2, hy2, hsub, ha, hS⟩
  refine wp_seq (wp_seq (jX [0, 1, 2, 3] (jQ [(0, 32, iv (i : Int)), (1, 33, .slice ro1.A ro1.n ro1.c), (2, 34, iv (ro1.n : Int)), (3, 35, .bool (decide ((i : Int) < (ro1.n : Int))))] ha fun a ha => ?_)))
  refine jY (jJ ?_)
  by_cases c7 : (i : Int) < (ro1.n : Int)
  ·
   have hlp2 := leadsP_len b.length x y;have hil : i < (leadsP b.length x y).length := by omega
   obtain ⟨u, hu⟩ : ∃ u, (leadsP b.length x y)[i]? = some u := ⟨_, List.getElem?_eq_getElem hil⟩;refine jU ha rfl (decide_eq_true c7) ?_;refine wp_skip (jJ (wp_seq (wp_block (wp_seq (jX [0, 1, 2, 3, 4, 5, 6] (jQ [(0, 38, .slice o2.A o2.n o2.c), (1, 39, .slice ro1.A ro1.n ro1.c), (2, 40, iv (i : Int))] ha fun a ha => ?_))))));refine qX (.pointer (some ⟨bk ro1, i * 1, none⟩)) ha (xQ (s := ro1) (el := 3) (sz := 1) (j := i) ha (xY (t := 44) (x := 39) (y := 40) (d := 41)) rfl rfl (by kernel_rfl) (by kernel_rfl) (hS.rowA (s := ro1) 1 rfl (by have := (List.getElem?_eq_some_iff.1 hu).1; rw [encJ_length]; omega)) (rfl) (by have h9 := hS.rowL (s := ro1) (enc := cellsJ) 1 cellsJ_len (by decide) rfl; have := (List.getElem?_eq_some_iff.1 hu).1; omega)) fun a ha => ?_;refine qX (iv u) ha (qV ha (xK (t := 3) (x := 41) (d := 42) (ty := 3)) rfl (by kernel_rfl) (fun w' hw => by rw [hw]; exact (hS.rdC (s := ro1) 1 rfl).cells _ _ ((flat_get (enc := cellsJ) (o := 0) cellsJ_len hu (by decide)).trans rfl))) fun a ha => ?_;refine jW (qQ 43 (vs := [.slice o2.A o2.n o2.c, iv u]) ha (bhas_sat hS (hS.rdRow (s := o2) 0 rfl)) fun v8 w a hp9 ha => ?_);obtain ⟨rfl, hS⟩ := hp9;refine jQ [(6, 44, .bool (!((O2.contains u))))] ha fun a ha => ?_;refine jY (jJ ?_)
   rcases Bool.eq_false_or_eq_true (O2.contains u) with c10 | c10
   ·
    refine jK ha rfl (xU c10) ?_;refine wp_skip (in_n (jJ (jX [0, 1, 2] (jQ [(0, 36, iv (i : Int))] ha fun a ha => ?_))));refine xJ 37 ((i : Int) + 1) ha fun a ha => ?_;refine jQ [(2, 8, iv ((i : Int) + 1))] ha fun a ha => ?_;refine jY (jJ ?_);replace hS : Sat w0 w ((rI o2 O2) :: (SX.row (.slice ro1.A ro1.n ro1.c) 3 1 (encJ (leadsP b.length x y))) :: Rs) := hS;have hux : u ∈ leadsAt b y := by rw [leadsAt_at hx]; exact List.mem_of_getElem? hu
    exact ⟨_, by omega, i + 1, o2, O2, rfl, hil, hq2, hy2, (fun v hv => by rw [take_next' hu] at hv; rcases List.mem_append.1 hv with hv | hv; exact hsub v hv; rw [List.mem_singleton.1 hv]; exact List.contains_iff_mem.1 c10), ha.keeps [0, 4, 6, 13, 14, 15, 16, 19, 20, 21, 22, 23, 24, 25, 26, 27, 28, 29, 30, 31, 7, 5, 8] _ rfl, hS⟩
   refine jU ha rfl (xG c10) ?_;refine jX [0, 1, 2, 3, 4, 5, 6, 7] (jQ [(0, 45, .slice o2.A o2.n o2.c), (1, 46, .slice ro1.A ro1.n ro1.c), (2, 47, iv (i : Int))] ha fun a ha => ?_);refine qX (.pointer (some ⟨bk ro1, i * 1, none⟩)) ha (xQ (s := ro1) (el := 3) (sz := 1) (j := i) ha (xY (t := 44) (x := 46) (y := 47) (d := 48)) rfl rfl (by kernel_rfl) (by kernel_rfl) (hS.rowA (s := ro1) 1 rfl (by have := (List.getElem?_eq_some_iff.1 hu).1; rw [encJ_length]; omega)) (rfl) (by have h9 := hS.rowL (s := ro1) (enc := cellsJ) 1 cellsJ_len (by decide) rfl; have := (List.getElem?_eq_some_iff.1 hu).1; omega)) fun a ha => ?_;refine qX (iv u) ha (qV ha (xK (t := 3) (x := 48) (d := 49) (ty := 3)) rfl (by kernel_rfl) (fun w' hw => by rw [hw]; exact (hS.rdC (s := ro1) 1 rfl).cells _ _ ((flat_get (enc := cellsJ) (o := 0) cellsJ_len hu (by decide)).trans rfl))) fun a ha => ?_;refine jW (qY 50 [iv u] 3 (fun b => .slice (some ⟨b, 0, none⟩) 1 1) ha hS fun b11 w a hb12 hS ha => ?_);refine jW (o_ap 51 1 0 (SX.encI (O2 ++ [u])) ha hS rfl rfl (by rw [encI_length]; have := hq2.len; simp only [List.length_cons, List.length_nil]; omega) (encI_snoc _ _) fun s16 w a hS hn17 ha => ?_);refine jQ [(7, 5, .slice s16.A s16.n s16.c)] ha fun a ha => ?_;refine jY (in_n (jJ (jX [0, 1, 2] (jQ [(0, 36, iv (i : Int))] ha fun a ha => ?_))));refine xJ 37 ((i : Int) + 1) ha fun a ha => ?_;refine jQ [(2, 8, iv ((i : Int) + 1))] ha fun a ha => ?_;refine jY (jJ ?_);replace hS := hS.pickN 3 [1, 2];have hux : u ∈ leadsAt b y := by rw [leadsAt_at hx]; exact List.mem_of_getElem? hu
   have hnu : u ∉ O2 := fun h9 => by have h8 := List.contains_iff_mem.2 h9; rw [c10] at h8; cases h8
   exact ⟨_, by omega, i + 1, s16, O2 ++ [u], rfl, hil, hq2.add hok hy2 (by omega) hux hnu, (by rw [List.getElem?_append_left (List.getElem?_eq_some_iff.1 hy2).1]; exact hy2), (fun v hv => by rw [take_next' hu] at hv; rcases List.mem_append.1 hv with hv | hv; exact List.mem_append_left _ (hsub v hv); exact List.mem_append_right _ hv), ha.keeps [0, 4, 6, 13, 14, 15, 16, 19, 20, 21, 22, 23, 24, 25, 26, 27, 28, 29, 30, 31, 7, 5, 8] _ rfl, hS⟩
  refine jK ha rfl (decide_eq_false c7) ?_
  refine wp_exit (qJ (qJ (in_x (in_n (jJ (jX [0, 1, 2] (jQ [(0, 17, iv (m : Int))] ha fun a ha => ?_)))))))
  refine xJ 18 ((m : Int) + 1) ha fun a ha => ?_
  refine jQ [(2, 6, iv ((m : Int) + 1))] ha fun a ha => ?_
  refine jY (jJ ?_)
  replace hS := hS.pickN 2 [0]
  have hql := hq.len
  have hil : i = (leadsP b.length x y).length := by omega
  rw [hil, List.take_length] at hsub
  have hmo2 : m < O2.length := (List.getElem?_eq_some_iff.1 hy2).1
  have hql2 := hq2.len
  exact ⟨_, by omega, m + 1, o2, O2, rfl, hq2.full hy2 (by rw [leadsAt_at hx]; exact hsub), hmo2, ha.keeps [0, 4, 5, 6] _ rfl, hS⟩
 refine jK ha rfl (decide_eq_false c3) ?_
 refine wp_exit (qJ (qJ (in_x (jJ (wp_seq (jX [0, 1] (jW (qY 52 [] 3 (fun b => .slice (some ⟨b, 0, none⟩) 0 0) ha hS fun b18 w a hb19 hS ha => ?_))))))))
 refine jQ [(1, 9, .slice (some ⟨b18, 0, none⟩) 0 0)] ha fun a ha => ?_
 refine jY (jJ (wp_seq (wp_seq (jX [0] (jQ [(0, 10, iv 0)] ha fun a ha => ?_)))))
 refine jY (jJ (wp_block ?_))
 replace hS := hS.blk0 1 0 rfl
 replace hS := hS.pickN 2 [1, 0]
 replace hS : Sat w0 w ((SX.row (.slice o.A o.n o.c) 3 1 (encJ O)) :: (rI (⟨some ⟨b18, 0, none⟩, 0, 0⟩ : Sl) (putL [] (O.take 0))) :: Rs) := by rw [← encJ_I]; exact hS
 have hon : o.n = O.length := hS.rowL (s := o) (enc := cellsJ) 0 cellsJ_len (by decide) rfl
 refine wp_loop_ghost (fun n_ a_ w_ => ∃ (k : Nat) (so : Sl), n_ = O.length - k ∧ (k ≤ O.length) ∧ Has 66 [(4, .slice none 0 0), (5, .slice o.A o.n o.c), (9, .slice so.A so.n so.c), (10, iv (k : Int))] a_ ∧ Sat w0 w_ ((SX.row (.slice o.A o.n o.c) 3 1 (encJ O)) :: (rI so (putL [] (O.take k))) :: Rs)) _ ⟨0, ⟨some ⟨b18, 0, none⟩, 0, 0⟩, rfl, Nat.zero_le _, ha.keeps [4, 5, 9, 10] _ rfl, hS⟩ ?_
 rintro n_ a w ⟨k, so, rfl, hk, ha, hS⟩
 refine wp_seq (wp_seq (jX [0, 1, 2, 3] (jQ [(0, 53, iv (k : Int)), (1, 54, .slice o.A o.n o.c), (2, 55, iv (o.n : Int)), (3, 56, .bool (decide ((k : Int) < (o.n : Int))))] ha fun a ha => ?_)))
 refine jY (jJ ?_)
 by_cases c20 : (k : Int) < (o.n : Int)
 ·
  have hql9 := hq.len
  have hkl : k < O.length := by omega
  obtain ⟨u, hu⟩ : ∃ u, O[k]? = some u := ⟨_, List.getElem?_eq_getElem hkl⟩
  refine jU ha rfl (decide_eq_true c20) ?_
  refine wp_skip (jJ (wp_seq (wp_block (jX [0, 1, 2, 3, 4, 5, 6] (jQ [(0, 59, .slice so.A so.n so.c), (1, 60, .slice o.A o.n o.c), (2, 61, iv (k : Int))] ha fun a ha => ?_)))))
  refine qX (.pointer (some ⟨bk o, k * 1, none⟩)) ha (xQ (s := o) (el := 3) (sz := 1) (j := k) ha (xY (t := 44) (x := 60) (y := 61) (d := 62)) rfl rfl (by kernel_rfl) (by kernel_rfl) (hS.rowA (s := o) 0 rfl (by have := (List.getElem?_eq_some_iff.1 hu).1; rw [encJ_length]; omega)) (rfl) (by have h9 := hS.rowL (s := o) (enc := cellsJ) 0 cellsJ_len (by decide) rfl; have := (List.getElem?_eq_some_iff.1 hu).1; omega)) fun a ha => ?_
  refine qX (iv u) ha (qV ha (xK (t := 3) (x := 62) (d := 63) (ty := 3)) rfl (by kernel_rfl) (fun w' hw => by rw [hw]; exact (hS.rdC (s := o) 0 rfl).cells _ _ ((flat_get (enc := cellsJ) (o := 0) cellsJ_len hu (by decide)).trans rfl))) fun a ha => ?_
  replace hS := hS.pickN 2 [1, 0]
  refine jW (qQ 64 (vs := [.slice so.A so.n so.c, iv u]) ha (put1_sat (x := u) hS (by have h8 := putL_len (O.take k) []; have h9 := hq.len; rw [List.length_take] at h8; simp only [List.length_nil] at h8; omega)) fun v21 w a hp22 ha => ?_)
  obtain ⟨po1, rfl, hS⟩ := hp22
  refine jQ [(6, 9, .slice po1.A po1.n po1.c)] ha fun a ha => ?_
  refine jY (in_n (jJ (jX [0, 1, 2] (jQ [(0, 57, iv (k : Int))] ha fun a ha => ?_))))
  refine xJ 58 ((k : Int) + 1) ha fun a ha => ?_
  refine jQ [(2, 10, iv ((k : Int) + 1))] ha fun a ha => ?_
  refine jY (jJ ?_)
  replace hS := hS.pickN 2 [1, 0]
  replace hS : Sat w0 w ((SX.row (.slice o.A o.n o.c) 3 1 (encJ O)) :: (rI po1 (putL [] (O.take (k + 1)))) :: Rs) := by rw [putL_next hu]; exact hS
  exact ⟨_, by omega, k + 1, po1, rfl, hkl, ha.keeps [4, 5, 9, 10] _ rfl, hS⟩
 refine jK ha rfl (decide_eq_false c20) ?_
 refine wp_exit (qJ (qJ (in_x (jJ (wp_seq (jX [0, 1] (jQ [(0, 65, .slice so.A so.n so.c), (1, 4, .slice so.A so.n so.c)] ha fun a ha => ?_)))))))
 refine jY ?_
 replace ha := ha.as [(4, .slice so.A so.n so.c)] rfl
 refine jJ (wp_ret (jG ha (by kernel_rfl) (qK (t := 4) ha rfl) ?_))
 have hke : k = O.length := by omega
 have hme : m = O.length := by omega
 rw [hme] at hq
 rw [hke, List.take_length, putL_asc] at hS
 exact ⟨so, asc O, rfl, asc_inc O, fun x => (asc_mem O x).trans (hq.mem x), Nat.le_trans (asc_le O) hq.len, hS.pickN 2 [1]⟩
theorem filt_no {l : List Int} {i : Nat} {y : Int} {p : Int → Bool} (h : l[i]? = some y) (hp : p y = false) : (l.take (i + 1)).filter p = (l.take i).filter p := by rw [take_next' h, List.filter_append]; simp [hp]
theorem filt_yes {l : List Int} {i : Nat} {y : Int} {p : Int → Bool} (h : l[i]? = some y) (hp : p y = true) : (l.take (i + 1)).filter p = (l.take i).filter p ++ [y] := by rw [take_next' h, List.filter_append]; simp [hp]
theorem code114 : Try.f114.body = some (Code.seq (cr Try.f114 0 false) (Code.seq (cr Try.f114 1 false) (Code.seq (Code.seq (cr Try.f114 2 false) (Code.block 0 (Code.loop (Code.seq (Code.seq (cr Try.f114 3 false) (Code.cond (Operand.tmp 13) Code.skip (Code.exit 0))) (Code.seq (Code.block 1 (Code.seq (cr Try.f114 5 false) (Code.cond (Operand.tmp 22) (cr Try.f114 6 false) Code.skip))) (cr Try.f114 4 false)))))) (Code.seq (cr Try.f114 7 false) Code.ret)))) := by kernel_rfl
theorem open11_sat {w0 w : World} {Rs : List Asn} {sb : Sl} {b : List ST} (hS : Sat w0 w Rs) (hrb : RdE cT 3 w0 sb b) (hok : okJ b) (hb1 : b.length ≤ 1048576) (hb8 : b.length ≤ 8) :
  Calls Try.prog 114 #[.slice sb.A sb.n sb.c] w (Ret fun r w' => ∃ o : Sl, r = .slice o.A o.n o.c ∧ Sat w0 w' (SX.row (.slice o.A o.n o.c) 3 1 (SX.encI (openL b [0])) :: Rs)) := by
 have hsb := hrb.len
 refine enter (n := 31) Try.func114 code114 (by kernel_rfl) (Nat.le_of_ble_eq_true rfl) (fun a ha => ?_)
 replace ha : Has 31 [(0, .slice sb.A sb.n sb.c)] a := ha
 refine wp_seq (jX [0] (jQ [(0, 2, .slice none 0 0)] ha fun a ha => ?_))
 refine jY (jJ (wp_seq (jX [0, 1, 2, 3, 4, 5] (jW (qY 6 [] 3 (fun b => .slice (some ⟨b, 0, none⟩) 0 0) ha hS fun b1 w a hb2 hS ha => ?_)))))
 refine jQ [(1, 7, .slice sb.A sb.n sb.c)] ha fun a ha => ?_
 refine jW (qY 8 [iv 0] 3 (fun b => .slice (some ⟨b, 0, none⟩) 1 1) ha hS fun b3 w a hb4 hS ha => ?_)
 replace hS := blkRow hS 1 1 0 rfl rfl (by decide)
 replace hS : Sat w0 w ((rI (⟨some ⟨b3, 0, none⟩, 1, 1⟩ : Sl) [0]) :: (SX.blk b1 [] 3) :: Rs) := hS
 refine jW (qQ 9 (vs := [.slice sb.A sb.n sb.c, .slice (some ⟨b3, 0, none⟩) 1 1]) ha (from11_sat (sa := (⟨some ⟨b3, 0, none⟩, 1, 1⟩ : Sl)) (L0 := [0]) hS hrb hok hb1 (fun x hx => by rw [List.mem_singleton.1 hx]; omega) (by simp) (by decide) hb8) fun v5 w a hp6 ha => ?_)
 obtain ⟨al, R, rfl, hRi, hRm, hRl, hS⟩ := hp6
 refine jQ [(4, 3, .slice (some ⟨b1, 0, none⟩) 0 0), (5, 4, .slice al.A al.n al.c)] ha fun a ha => ?_
 refine jY (jJ (wp_seq (wp_seq (jX [0] (jQ [(0, 5, iv 0)] ha fun a ha => ?_)))))
 refine jY (jJ (wp_block ?_))
 replace hS := hS.blk0 1 1 rfl
 replace hS : Sat w0 w ((rI al R) :: (rI (⟨some ⟨b1, 0, none⟩, 0, 0⟩ : Sl) []) :: Rs) := hS
 replace hS : Sat w0 w ((SX.row (.slice al.A al.n al.c) 3 1 (encJ R)) :: (rI (⟨some ⟨b1, 0, none⟩, 0, 0⟩ : Sl) ((R.take 0).filter (fun x => decide (x < (b.length : Int))))) :: Rs) := by rw [← encJ_I]; exact hS
 have han : al.n = R.length := hS.rowL (s := al) (enc := cellsJ) 0 cellsJ_len (by decide) rfl
 refine wp_loop_ghost (fun n_ a_ w_ => ∃ (i : Nat) (oo : Sl), n_ = R.length - i ∧ (i ≤ R.length) ∧ Has 31 [(0, .slice sb.A sb.n sb.c), (2, .slice none 0 0), (4, .slice al.A al.n al.c), (3, .slice oo.A oo.n oo.c), (5, iv (i : Int))] a_ ∧ Sat w0 w_ ((SX.row (.slice al.A al.n al.c) 3 1 (encJ R)) :: (rI oo ((R.take i).filter (fun x => decide (x < (b.length : Int))))) :: Rs)) _ ⟨0, ⟨some ⟨b1, 0, none⟩, 0, 0⟩, rfl, Nat.zero_le _, ha.keeps [0, 2, 4, 3, 5] _ rfl, hS⟩ ?_
 rintro n_ a w ⟨i, oo, rfl, hi, ha, hS⟩
 refine wp_seq (wp_seq (jX [0, 1, 2, 3] (jQ [(0, 10, iv (i : Int)), (1, 11, .slice al.A al.n al.c), (2, 12, iv (al.n : Int)), (3, 13, .bool (decide ((i : Int) < (al.n : Int))))] ha fun a ha => ?_)))
 refine jY (jJ ?_)
 by_cases c7 : (i : Int) < (al.n : Int)
 ·
  have hil : i < R.length := by omega
  obtain ⟨u, hu⟩ : ∃ u, R[i]? = some u := ⟨_, List.getElem?_eq_getElem hil⟩
  refine jU ha rfl (decide_eq_true c7) ?_
  refine wp_skip (jJ (wp_seq (wp_block (wp_seq (jX [0, 1, 2, 3, 4, 5, 6] (jQ [(0, 16, .slice al.A al.n al.c), (1, 17, iv (i : Int))] ha fun a ha => ?_))))))
  refine qX (.pointer (some ⟨bk al, i * 1, none⟩)) ha (xQ (s := al) (el := 3) (sz := 1) (j := i) ha (xY (t := 44) (x := 16) (y := 17) (d := 18)) rfl rfl (by kernel_rfl) (by kernel_rfl) (hS.rowA (s := al) 0 rfl (by have := (List.getElem?_eq_some_iff.1 hu).1; rw [encJ_length]; omega)) (rfl) (by have h9 := hS.rowL (s := al) (enc := cellsJ) 0 cellsJ_len (by decide) rfl; have := (List.getElem?_eq_some_iff.1 hu).1; omega)) fun a ha => ?_
  refine qX (iv u) ha (qV ha (xK (t := 3) (x := 18) (d := 19) (ty := 3)) rfl (by kernel_rfl) (fun w' hw => by rw [hw]; exact (hS.rdC (s := al) 0 rfl).cells _ _ ((flat_get (enc := cellsJ) (o := 0) cellsJ_len hu (by decide)).trans rfl))) fun a ha => ?_
  refine jQ [(4, 20, .slice sb.A sb.n sb.c), (5, 21, iv (sb.n : Int)), (6, 22, .bool (decide (u < (sb.n : Int))))] ha fun a ha => ?_
  refine jY (jJ ?_)
  by_cases c8 : u < (sb.n : Int)
  ·
   refine jU ha rfl (decide_eq_true c8) ?_;refine jX [0, 1, 2, 3, 4, 5, 6, 7] (jQ [(0, 23, .slice oo.A oo.n oo.c), (1, 24, .slice al.A al.n al.c), (2, 25, iv (i : Int))] ha fun a ha => ?_);refine qX (.pointer (some ⟨bk al, i * 1, none⟩)) ha (xQ (s := al) (el := 3) (sz := 1) (j := i) ha (xY (t := 44) (x := 24) (y := 25) (d := 26)) rfl rfl (by kernel_rfl) (by kernel_rfl) (hS.rowA (s := al) 0 rfl (by have := (List.getElem?_eq_some_iff.1 hu).1; rw [encJ_length]; omega)) (rfl) (by have h9 := hS.rowL (s := al) (enc := cellsJ) 0 cellsJ_len (by decide) rfl; have := (List.getElem?_eq_some_iff.1 hu).1; omega)) fun a ha => ?_;refine qX (iv u) ha (qV ha (xK (t := 3) (x := 26) (d := 27) (ty := 3)) rfl (by kernel_rfl) (fun w' hw => by rw [hw]; exact (hS.rdC (s := al) 0 rfl).cells _ _ ((flat_get (enc := cellsJ) (o := 0) cellsJ_len hu (by decide)).trans rfl))) fun a ha => ?_;refine jW (qY 28 [iv u] 3 (fun b => .slice (some ⟨b, 0, none⟩) 1 1) ha hS fun b9 w a hb10 hS ha => ?_);refine jW (o_ap 29 2 0 (SX.encI (((R.take i).filter (fun x => decide (x < (b.length : Int)))) ++ [u])) ha hS rfl rfl (by rw [encI_length]; have := List.length_filter_le (fun x => decide (x < (b.length : Int))) (R.take i); rw [List.length_take] at this; simp only [List.length_cons, List.length_nil]; omega) (encI_snoc _ _) fun s14 w a hS hn15 ha => ?_);refine jQ [(7, 3, .slice s14.A s14.n s14.c)] ha fun a ha => ?_;refine jY (in_n (jJ (jX [0, 1, 2] (jQ [(0, 14, iv (i : Int))] ha fun a ha => ?_))));refine xJ 15 ((i : Int) + 1) ha fun a ha => ?_;refine jQ [(2, 5, iv ((i : Int) + 1))] ha fun a ha => ?_;refine jY (jJ ?_);replace hS := hS.pickN 3 [1, 2];replace hS : Sat w0 w ((SX.row (.slice al.A al.n al.c) 3 1 (encJ R)) :: (rI s14 ((R.take (i + 1)).filter (fun x => decide (x < (b.length : Int))))) :: Rs) := by rw [filt_yes hu (by apply decide_eq_true; omega)]; exact hS
   exact ⟨_, by omega, i + 1, s14, rfl, hil, ha.keeps [0, 2, 4, 3, 5] _ rfl, hS⟩
  refine jK ha rfl (decide_eq_false c8) ?_
  refine wp_skip (in_n (jJ (jX [0, 1, 2] (jQ [(0, 14, iv (i : Int))] ha fun a ha => ?_))))
  refine xJ 15 ((i : Int) + 1) ha fun a ha => ?_
  refine jQ [(2, 5, iv ((i : Int) + 1))] ha fun a ha => ?_
  refine jY (jJ ?_)
  replace hS : Sat w0 w ((SX.row (.slice al.A al.n al.c) 3 1 (encJ R)) :: (rI oo ((R.take i).filter (fun x => decide (x < (b.length : Int))))) :: Rs) := hS
  replace hS : Sat w0 w ((SX.row (.slice al.A al.n al.c) 3 1 (encJ R)) :: (rI oo ((R.take (i + 1)).filter (fun x => decide (x < (b.length : Int))))) :: Rs) := by rw [filt_no hu (by apply decide_eq_false; omega)]; exact hS
  exact ⟨_, by omega, i + 1, oo, rfl, hil, ha.keeps [0, 2, 4, 3, 5] _ rfl, hS⟩
 refine jK ha rfl (decide_eq_false c7) ?_
 refine wp_exit (qJ (qJ (in_x (jJ (wp_seq (jX [0, 1] (jQ [(0, 30, .slice oo.A oo.n oo.c), (1, 2, .slice oo.A oo.n oo.c)] ha fun a ha => ?_)))))))
 refine jY (jJ (wp_ret (jG ha (by kernel_rfl) (qK (t := 2) ha rfl) ?_)))
 have hie : i = R.length := by omega
 rw [hie, List.take_length, filt_open hok (fun x hx => by rw [List.mem_singleton.1 hx]; omega) hRi hRm] at hS
 exact ⟨oo, rfl, hS.pickN 2 [1]⟩
theorem nodup_snoc {l : List Int} {x : Int} (h : l.Nodup) (hx : l.contains x = false) : (l ++ [x]).Nodup := List.nodup_append.2 ⟨h, by simp, fun y hy z hz e => by
 rw [List.mem_singleton] at hz; subst hz; subst e
 rw [List.contains_iff_mem.2 hy] at hx; cases hx⟩
def callB (x : ST) : Bool := decide (x.f0 = 4) || decide (x.f0 = 5)
theorem callB_yes {x : ST} (h : callB x = true) : x.f0 = 4 ∨ x.f0 = 5 := by simpa [callB] using h
theorem code132 : Try.f132.body = some (Code.seq (cr Try.f132 0 false) (Code.seq (cr Try.f132 1 false) Code.ret)) := by kernel_rfl
theorem calls_sat {w0 w : World} {Rs : List Asn} {x : ST} (hS : Sat w0 w Rs) :
  Calls Try.prog 132 #[.agg #[iv x.f0, iv x.f1, iv x.f2]] w (Ret fun r w' => r = .bool (callB x) ∧ Sat w0 w' Rs) := by
 refine enter (n := 11) Try.func132 code132 (by kernel_rfl) (Nat.le_of_ble_eq_true rfl) (fun a ha => ?_)
 replace ha : Has 11 [(0, .agg #[iv x.f0, iv x.f1, iv x.f2])] a := ha
 refine wp_seq (jX [0, 1] (jW (qY 1 [iv x.f0, iv x.f1, iv x.f2] 72 (ptr · 0) ha hS fun b1 w a hb2 hS ha => ?_)))
 refine jQ [(1, 2, .bool false)] ha fun a ha => ?_
 refine jY (jJ (wp_seq (jX [0, 1, 2, 3, 4, 5, 6, 7, 8] (jQ [(0, 3, ptr b1 0)] ha fun a ha => ?_))))
 refine qZ (d := 4) (b := b1) (j := 0) ha (hS.blk 0 rfl) rfl fun a ha => ?_
 refine jQ [(2, 5, .bool (decide (x.f0 = 4))), (3, 6, .bool (decide (x.f0 = 4)))] ha fun a ha => ?_
 by_cases c3 : x.f0 = 4
 ·
  replace ha := ha.turn 5 (.bool true) rfl (congrArg Value.bool (decide_eq_true c3))
  replace ha := ha.turn 6 (.bool true) rfl (congrArg Value.bool (decide_eq_true c3))
  refine jQ [(4, 7, undef), (5, 8, undef), (6, 9, undef), (7, 10, .bool true), (8, 2, .bool true)] ha fun a ha => ?_
  refine jY (jJ (wp_ret (jG ha (by kernel_rfl) (qK (t := 2) ha rfl) ?_)))
  have hE : callB x = true := by unfold callB; simp [c3]
  rw [hE]
  exact ⟨rfl, Sat.rest [_] hS⟩
 replace ha := ha.turn 5 (.bool false) rfl (congrArg Value.bool (decide_eq_false c3))
 replace ha := ha.turn 6 (.bool false) rfl (congrArg Value.bool (decide_eq_false c3))
 refine jQ [(4, 7, ptr b1 0)] ha fun a ha => ?_
 refine qZ (d := 8) (b := b1) (j := 0) ha (hS.blk 0 rfl) rfl fun a ha => ?_
 refine jQ [(6, 9, .bool (decide (x.f0 = 5))), (7, 10, .bool (decide (x.f0 = 5))), (8, 2, .bool (decide (x.f0 = 5)))] ha fun a ha => ?_
 refine jY (jJ (wp_ret (jG ha (by kernel_rfl) (qK (t := 2) ha rfl) ?_)))
 have hE : callB x = decide (x.f0 = 5) := by unfold callB; simp [c3]
 rw [hE]
 exact ⟨rfl, Sat.rest [_] hS⟩
theorem okC_of {l : List (List ST)} {b : List ST} (h : programB l = true) (hb : b ∈ l) : ∀ x ∈ b, x.f0 = 4 ∨ x.f0 = 5 → 0 ≤ x.f1 ∧ x.f1 < (l.length : Int) := by
 have hP := progOk_of h
 intro x hx h45
 have := (hP.steps (b.map toStp) (List.mem_map_of_mem hb) (toStp x) (List.mem_map_of_mem hx)).f h45
 rwa [PL_length] at this
def numsOf (ks : List Int) (b : List ST) : List Int := (b.filter fun x : ST => ks.contains x.f0).map fun x : ST => x.f1
def calledP (ks : List Int) (b : List ST) : List Int := asc (numsOf ks b)
theorem numsOf_yes {ks : List Int} {b : List ST} {i : Nat} {x : ST} (h : b[i]? = some x) (hk : ks.contains x.f0 = true) : numsOf ks (b.take (i + 1)) = numsOf ks (b.take i) ++ [x.f1] := by
 unfold numsOf; rw [List.take_add_one, h, List.filter_append, List.map_append]; simp only [Option.toList_some, List.filter_cons, hk, if_true, List.filter_nil, List.map_cons, List.map_nil]
theorem numsOf_no {ks : List Int} {b : List ST} {i : Nat} {x : ST} (h : b[i]? = some x) (hk : ks.contains x.f0 = false) : numsOf ks (b.take (i + 1)) = numsOf ks (b.take i) := by
 unfold numsOf; rw [List.take_add_one, h, List.filter_append, List.map_append]; simp only [Option.toList_some, List.filter_cons, hk, Bool.false_eq_true, if_false, List.filter_nil, List.map_nil, List.append_nil]
theorem numsOf_len (ks : List Int) (b : List ST) : (numsOf ks b).length ≤ b.length := by unfold numsOf; rw [List.length_map]; exact List.length_filter_le _ _
theorem numsOf_mem {ks : List Int} {b : List ST} {y : Int} : y ∈ numsOf ks b ↔ ∃ x ∈ b, ks.contains x.f0 = true ∧ x.f1 = y := by
 unfold numsOf
 simp only [List.mem_map, List.mem_filter, and_assoc]
theorem calledP_len (ks : List Int) (b : List ST) : (calledP ks b).length ≤ b.length := Nat.le_trans (asc_le _) (numsOf_len ks b)
def add1 (O : List Int) (g : Int) : List Int := if O.contains g then O else O ++ [g]
theorem add1_yes {O : List Int} {g : Int} (h : O.contains g = true) : add1 O g = O := if_pos h
theorem add1_no {O : List Int} {g : Int} (h : O.contains g = false) : add1 O g = O ++ [g] := by unfold add1; rw [h]; rfl
def addL (O L : List Int) : List Int := L.foldl add1 O
theorem addL_next {O L : List Int} {i : Nat} {g : Int} (h : L[i]? = some g) : addL O (L.take (i + 1)) = add1 (addL O (L.take i)) g := by
 unfold addL; rw [List.take_add_one, h, List.foldl_append]; rfl
theorem add1_get {O : List Int} {g x : Int} {m : Nat} (h : O[m]? = some x) : (add1 O g)[m]? = some x := by
 unfold add1; split
 · exact h
 · rw [List.getElem?_append_left (List.getElem?_eq_some_iff.1 h).1]; exact h
theorem addL_get {x : Int} {m : Nat} : ∀ (L O : List Int), O[m]? = some x → (addL O L)[m]? = some x
 | [], O, h => h
 | g :: L, O, h => addL_get L (add1 O g) (add1_get h)
structure NdR (n : Nat) (O : List Int) : Prop where
 nd : O.Nodup
 rg : ∀ x ∈ O, 0 ≤ x ∧ x < (n : Int)
theorem NdR.len {n : Nat} {O : List Int} (h : NdR n O) : O.length ≤ n := nodup_len n O h.nd h.rg
theorem NdR.add {n : Nat} {O : List Int} {g : Int} (h : NdR n O) (hg : 0 ≤ g ∧ g < (n : Int)) : NdR n (add1 O g) := by
  by_cases hc : O.contains g = true
  · rw [add1_yes hc]; exact h
  · rw [Bool.not_eq_true] at hc
    rw [add1_no hc];refine ⟨nodup_snoc h.nd hc, fun x hx => ?_⟩
    rcases List.mem_append.1 hx with hx | hx
    · exact h.rg x hx
    · rw [List.mem_singleton.1 hx]; exact hg
theorem NdR.addL {n : Nat} : ∀ (L : List Int) {O : List Int}, NdR n O → (∀ g ∈ L, 0 ≤ g ∧ g < (n : Int)) → NdR n (addL O L)
 | [], _, h, _ => h
 | g :: L, _, h, hL => NdR.addL L (h.add (hL g List.mem_cons_self)) fun x hx => hL x (List.mem_cons_of_mem _ hx)
def k45 : List Int := [4, 5]
theorem k45_iff (x : Int) : k45.contains x = true ↔ x = 4 ∨ x = 5 := by simp [k45]
theorem calledP_rng {l : List (List ST)} {b : List ST} (hpg : programB l = true) (hb : b ∈ l) : ∀ g ∈ calledP k45 b, 0 ≤ g ∧ g < (l.length : Int) := by
 intro g hg
 unfold calledP at hg
 rw [asc_mem, numsOf_mem] at hg
 obtain ⟨x, hx, hk, rfl⟩ := hg
 exact okC_of hpg hb x hx ((k45_iff _).1 hk)
def rcN (l : List (List ST)) (f : Int) : Nat → List Int
  | 0 => [f]
  | i + 1 => match (rcN l f i)[i]? with
    | some x => addL (rcN l f i) (calledP k45 (l.getD x.toNat []))
    | none => rcN l f i
theorem rcN_next {l : List (List ST)} {f : Int} {i : Nat} {x : Int} {b : List ST} (h : (rcN l f i)[i]? = some x) (hb : l[x.toNat]? = some b) : rcN l f (i + 1) = addL (rcN l f i) (calledP k45 b) := by
 rw [rcN, h]; simp only [List.getD, hb, Option.getD_some]
theorem rcN_ok {l : List (List ST)} {f : Int} (hpg : programB l = true) (hf : 0 ≤ f ∧ f < (l.length : Int)) : ∀ i, NdR l.length (rcN l f i)
 | 0 => ⟨by simp [rcN], fun x hx => by rw [rcN, List.mem_singleton] at hx; subst hx; exact hf⟩
 | i + 1 => by
  have ih := rcN_ok hpg hf i
  cases hx : (rcN l f i)[i]? with
  | none => rw [rcN, hx]; exact ih
  | some x =>
   have hr := ih.rg x (List.mem_of_getElem? hx)
   obtain ⟨b, hb⟩ : ∃ b, l[x.toNat]? = some b := ⟨_, List.getElem?_eq_getElem (by omega)⟩
   rw [rcN_next hx hb]
   exact ih.addL _ (calledP_rng hpg (List.mem_of_getElem? hb))
theorem rcN_stay {l : List (List ST)} {f : Int} {i : Nat} (h : (rcN l f i).length ≤ i) : ∀ d, rcN l f (i + d) = rcN l f i
 | 0 => rfl
 | d + 1 => by
  have ih := rcN_stay h d
  rw [← Nat.add_assoc, rcN, ih, List.getElem?_eq_none (by omega)]
def reachP (l : List (List ST)) (f : Int) : List Int := asc (rcN l f l.length)
theorem reach_at {l : List (List ST)} {f : Int} {i : Nat} (hi : i ≤ l.length) (h : (rcN l f i).length ≤ i) : reachP l f = asc (rcN l f i) := by
 have := rcN_stay h (l.length - i)
 rw [show i + (l.length - i) = l.length by omega] at this
 rw [reachP, this]
theorem asc_add {O : List Int} {g : Int} : put1 (asc O) g = asc (O ++ [g]) := IncI.ext (put1_inc g _ (asc_inc O)) (asc_inc _) fun x => by rw [put1_mem, asc_mem, asc_mem, List.mem_append, List.mem_singleton]
theorem asc_cont (O : List Int) (g : Int) : (asc O).contains g = O.contains g := by rw [Bool.eq_iff_iff, List.contains_iff_mem, List.contains_iff_mem, asc_mem]
theorem asc_one (f : Int) : asc [f] = [f] := IncI.ext (asc_inc _) (List.pairwise_singleton _ _) fun x => by rw [asc_mem]
theorem putL_app (o L : List Int) (y : Int) : putL o (L ++ [y]) = put1 (putL o L) y := by unfold putL; rw [List.foldl_append]; rfl
theorem k45_no {x : Int} (h4 : ¬ x = 4) (h5 : ¬ x = 5) : k45.contains x = false := by rw [Bool.eq_false_iff]; intro h; rcases (k45_iff x).1 h with h | h; exact h4 h; exact h5 h
theorem code80 : Try.f80.body = some (Code.seq (cr Try.f80 0 false) (Code.seq (cr Try.f80 1 false) (Code.seq (Code.seq (cr Try.f80 2 false) (Code.block 0 (Code.loop (Code.seq (cr Try.f80 3 false) (Code.seq (Code.cond (Operand.tmp 12) Code.skip (Code.exit 0)) (Code.seq (Code.block 1 (Code.seq (cr Try.f80 4 false) (Code.seq (cr Try.f80 5 false) (Code.cond (Operand.tmp 18) (cr Try.f80 6 false) Code.skip)))) (cr Try.f80 7 false))))))) (Code.seq (cr Try.f80 8 false) Code.ret)))) := by kernel_rfl
theorem called_sat {w0 w : World} {Rs : List Asn} {sb sk : Sl} {b : List ST} {ks : List Int} (hS : Sat w0 w (SX.row (.slice sk.A sk.n sk.c) 3 1 (SX.encI ks) :: Rs)) (hrb : RdE cT 3 w0 sb b) (hb1 : b.length ≤ 100000) :
  Calls Try.prog 80 #[.slice sb.A sb.n sb.c, .slice sk.A sk.n sk.c] w (Ret fun r w' => ∃ o : Sl, r = .slice o.A o.n o.c ∧ Sat w0 w' (SX.row (.slice o.A o.n o.c) 3 1 (SX.encI (calledP ks b)) :: Rs)) := by
 have hsb := hrb.len
 refine enter (n := 27) Try.func80 code80 (by kernel_rfl) (Nat.le_of_ble_eq_true rfl) (fun a ha => ?_)
 replace ha : Has 27 [(0, .slice sb.A sb.n sb.c), (1, .slice sk.A sk.n sk.c)] a := ha
 refine wp_seq (jX [0] (jQ [(0, 4, .slice none 0 0)] ha fun a ha => ?_))
 refine jY (jJ (wp_seq (jX [0, 1] (jW (qY 8 [] 3 (fun b => .slice (some ⟨b, 0, none⟩) 0 0) ha hS fun b1 w a hb2 hS ha => ?_)))))
 refine jQ [(1, 5, .slice (some ⟨b1, 0, none⟩) 0 0)] ha fun a ha => ?_
 refine jY (jJ (wp_seq (wp_seq (jX [0, 1, 2] (jQ [(0, 9, .slice sb.A sb.n sb.c), (1, 10, iv (sb.n : Int)), (2, 11, iv 0)] ha fun a ha => ?_)))))
 refine jY (jJ (wp_block ?_))
 replace hS := hS.blk0 1 0 rfl
 replace hS : Sat w0 w ((rI (⟨some ⟨b1, 0, none⟩, 0, 0⟩ : Sl) []) :: (rI sk ks) :: Rs) := hS
 replace hS : Sat w0 w ((rI (⟨some ⟨b1, 0, none⟩, 0, 0⟩ : Sl) (numsOf ks (b.take 0))) :: (rI sk ks) :: Rs) := hS
 refine wp_loop_ghost (fun n_ a_ w_ => ∃ (i : Nat) (o : Sl), n_ = b.length - i ∧ (i ≤ b.length) ∧ Has 27 [(1, .slice sk.A sk.n sk.c), (4, .slice none 0 0), (9, .slice sb.A sb.n sb.c), (10, iv (sb.n : Int)), (5, .slice o.A o.n o.c), (11, iv (i : Int))] a_ ∧ Sat w0 w_ ((rI o (numsOf ks (b.take i))) :: (rI sk ks) :: Rs)) _ ⟨0, ⟨some ⟨b1, 0, none⟩, 0, 0⟩, rfl, Nat.zero_le _, ha.keeps [1, 4, 9, 10, 5, 11] _ rfl, hS⟩ ?_
 rintro n_ a w ⟨i, o, rfl, hi, ha, hS⟩
 refine wp_seq (jX [0] (jQ [(0, 12, .bool (decide ((i : Int) < (sb.n : Int))))] ha fun a ha => ?_))
 refine jY (jJ (wp_seq ?_))
 by_cases c3 : (i : Int) < (sb.n : Int)
 ·
  have hil : i < b.length := by omega
  obtain ⟨x, hx⟩ : ∃ x, b[i]? = some x := ⟨_, List.getElem?_eq_getElem hil⟩
  refine jU ha rfl (decide_eq_true c3) ?_
  refine wp_skip (jJ (wp_seq (wp_block (wp_seq (jX [0, 1, 2, 3] (qX (.pointer (some ⟨bk sb, of_ sb + i * 3, none⟩)) ha (xZ (el := 72) (sz := 3) (j := i) ha (xY (t := 70) (x := 9) (y := 11) (d := 13)) rfl rfl (by kernel_rfl) (by kernel_rfl) (RdE.at_ (hrb.sat hS) _ _ hx).1 (rfl) (by rw [((hrb.sat hS)).len]; exact (List.getElem?_eq_some_iff.1 hx).1)) fun a ha => ?_))))))
  refine qX (.agg #[iv x.f0, iv x.f1, iv x.f2]) ha (v_loadE (b := bk sb) (f := of_ sb + i * 3) (vs := [iv x.f0, iv x.f1, iv x.f2]) ha (xK (t := 72) (x := 13) (d := 14) (ty := 72)) rfl (by kernel_rfl) (fun w' hw o u hu => by rw [hw]; exact (RdE.at_ (hrb.sat hS) _ _ hx).2 o u hu)) fun a ha => ?_
  refine jW (qY 7 [iv 0, iv 0, iv 0] 72 (ptr · 0) ha hS fun b4 w a hb5 hS ha => ?_)
  refine jW (o_sa 0 ha (zJ (t := 72) (x := 7) (y := 14)) hS fun w a hS ha => ?_)
  refine jY (jJ (wp_seq (jX [0, 1, 2, 3] (jQ [(0, 15, .slice sk.A sk.n sk.c), (1, 16, ptr b4 0)] ha fun a ha => ?_))))
  refine qZ (d := 17) (b := b4) (j := 0) ha (hS.blk 0 rfl) rfl fun a ha => ?_
  refine jW (qQ 18 (vs := [.slice sk.A sk.n sk.c, iv x.f0]) ha (ocont_sat hS (hS.rdRow (s := sk) 2 rfl) x.f0) fun v6 w a hp7 ha => ?_)
  obtain ⟨rfl, hS⟩ := hp7
  refine jY (jJ ?_)
  rcases Bool.eq_false_or_eq_true (ks.contains x.f0) with c8 | c8
  ·
   refine jU ha rfl c8 ?_;refine jX [0, 1, 2, 3, 4, 5] (jQ [(0, 19, .slice o.A o.n o.c), (1, 20, ptr b4 1)] ha fun a ha => ?_);refine qZ (d := 21) (b := b4) (j := 1) ha (hS.blk 0 rfl) rfl fun a ha => ?_;refine jW (qY 22 [iv x.f1] 3 (fun b => .slice (some ⟨b, 0, none⟩) 1 1) ha hS fun b9 w a hb10 hS ha => ?_);refine jW (o_ap 23 2 0 (SX.encI ((numsOf ks (b.take i)) ++ [x.f1])) ha hS rfl rfl (by rw [encI_length]; have := numsOf_len ks (b.take i); rw [List.length_take] at this; simp only [List.length_cons, List.length_nil]; omega) (encI_snoc _ _) fun s14 w a hS hn15 ha => ?_);refine jQ [(5, 5, .slice s14.A s14.n s14.c)] ha fun a ha => ?_;refine jY (in_n (jJ (jX [0, 1] (xJ 24 ((i : Int) + 1) ha fun a ha => ?_))));refine jQ [(1, 11, iv ((i : Int) + 1))] ha fun a ha => ?_;refine jY (jJ ?_);replace hS := hS.pickN 4 [2, 3];replace hS : Sat w0 w ((rI s14 (numsOf ks (b.take (i + 1)))) :: (rI sk ks) :: Rs) := by rw [numsOf_yes hx c8]; exact hS
   exact ⟨_, by omega, i + 1, s14, rfl, hil, ha.keeps [1, 4, 9, 10, 5, 11] _ rfl, hS⟩
  refine jK ha rfl c8 ?_
  refine wp_skip (in_n (jJ (jX [0, 1] (xJ 24 ((i : Int) + 1) ha fun a ha => ?_))))
  refine jQ [(1, 11, iv ((i : Int) + 1))] ha fun a ha => ?_
  refine jY (jJ ?_)
  replace hS := hS.pickN 3 [1, 2]
  replace hS : Sat w0 w ((rI o (numsOf ks (b.take (i + 1)))) :: (rI sk ks) :: Rs) := by rw [numsOf_no hx c8]; exact hS
  exact ⟨_, by omega, i + 1, o, rfl, hil, ha.keeps [1, 4, 9, 10, 5, 11] _ rfl, hS⟩
 refine jK ha rfl (decide_eq_false c3) ?_
 refine wp_exit (qJ (qJ (in_x (jJ (wp_seq (jX [0, 1, 2] (jQ [(0, 25, .slice o.A o.n o.c)] ha fun a ha => ?_)))))))
 have hie : i = b.length := by omega
 replace hS : Sat w0 w ((rI o (numsOf ks (b.take i))) :: (rI sk ks) :: Rs) := hS
 replace hS : Sat w0 w ((rI o (numsOf ks b)) :: (rI sk ks) :: Rs) := by rw [hie, List.take_length] at hS; exact hS
 refine jW (qQ 26 (vs := [.slice o.A o.n o.c]) ha (asc_sat (L := numsOf ks b) hS (by have := numsOf_len ks b; omega)) fun v16 w a hp17 ha => ?_)
 obtain ⟨ao1, rfl, hS⟩ := hp17
 refine jQ [(2, 4, .slice ao1.A ao1.n ao1.c)] ha fun a ha => ?_
 refine jY (jJ (wp_ret (jG ha (by kernel_rfl) (qK (t := 4) ha rfl) ?_)))
 exact ⟨ao1, rfl, hS.pickN 2 [0]⟩
theorem code127 : Try.f127.body = some (Code.seq (cr Try.f127 0 false) (Code.seq (cr Try.f127 1 false) (Code.seq (Code.seq (cr Try.f127 2 false) (Code.block 0 (Code.loop (Code.seq (Code.seq (cr Try.f127 3 false) (Code.cond (Operand.tmp 16) Code.skip (Code.exit 0))) (Code.seq (Code.block 1 (Code.seq (cr Try.f127 5 false) (Code.seq (cr Try.f127 6 false) (Code.cond (Operand.tmp 34) (cr Try.f127 7 false) Code.skip)))) (cr Try.f127 4 false)))))) (Code.seq (cr Try.f127 8 false) Code.ret)))) := by kernel_rfl
theorem qcalls_sat {w0 w : World} {Rs : List Asn} {s : Sl} {l : List (List ST)} {f : Int} {b : List ST} (hS : Sat w0 w Rs) (hr : RdP w0 s l) (hf : Fits l) (hpg : programB l = true) (hyr : 0 ≤ f ∧ f < (l.length : Int)) (hb : l[f.toNat]? = some b) :
  Calls Try.prog 127 #[.agg #[.slice s.A s.n s.c], iv f] w (Ret fun r w' => ∃ o : Sl, r = .slice o.A o.n o.c ∧ Sat w0 w' (SX.row (.slice o.A o.n o.c) 3 1 (SX.encI (calledP k45 b)) :: Rs)) := by
 have hb1 : b.length ≤ 8 := (okJ_of hpg (List.mem_of_getElem? hb)).2
 obtain ⟨hA0, sb, hcb, hrb⟩ := body_rd hr hb
 have hsb := hrb.len
 have hlen := hf.len
 refine enter (n := 40) Try.func127 code127 (by kernel_rfl) (Nat.le_of_ble_eq_true rfl) (fun a ha => ?_)
 replace ha : Has 40 [(0, .agg #[.slice s.A s.n s.c]), (1, iv f)] a := ha
 refine wp_seq (jX [0, 1] (jW (qY 2 [.slice s.A s.n s.c] 30 (ptr · 0) ha hS fun b1 w a hb2 hS ha => ?_)))
 refine jQ [(1, 4, .slice none 0 0)] ha fun a ha => ?_
 refine jY (jJ (wp_seq (jX [0, 1] (jW (qY 8 [] 3 (fun b => .slice (some ⟨b, 0, none⟩) 0 0) ha hS fun b3 w a hb4 hS ha => ?_)))))
 refine jQ [(1, 5, .slice (some ⟨b3, 0, none⟩) 0 0)] ha fun a ha => ?_
 refine jY (jJ (wp_seq (wp_seq (jX [0] (jQ [(0, 6, iv 0)] ha fun a ha => ?_)))))
 refine jY (jJ (wp_block ?_))
 replace hS := hS.blk0 1 0 rfl
 replace hS := hS.pickN 2 [1, 0]
 replace hS : Sat w0 w ((SX.blk b1 [.slice s.A s.n s.c] 30) :: (rI (⟨some ⟨b3, 0, none⟩, 0, 0⟩ : Sl) (putL [] (numsOf k45 (b.take 0)))) :: Rs) := hS
 refine wp_loop_ghost (fun n_ a_ w_ => ∃ (i : Nat) (o : Sl), n_ = b.length - i ∧ (i ≤ b.length) ∧ Has 40 [(1, iv f), (2, ptr b1 0), (4, .slice none 0 0), (5, .slice o.A o.n o.c), (6, iv (i : Int))] a_ ∧ Sat w0 w_ ((SX.blk b1 [.slice s.A s.n s.c] 30) :: (rI o (putL [] (numsOf k45 (b.take i)))) :: Rs)) _ ⟨0, ⟨some ⟨b3, 0, none⟩, 0, 0⟩, rfl, Nat.zero_le _, ha.keeps [1, 2, 4, 5, 6] _ rfl, hS⟩ ?_
 rintro n_ a w ⟨i, o, rfl, hi, ha, hS⟩
 refine wp_seq (wp_seq (jX [0, 1, 2, 3, 4, 5, 6, 7] (jQ [(0, 9, iv (i : Int)), (1, 10, ptr b1 0)] ha fun a ha => ?_)))
 refine qZ (d := 11) (b := b1) (j := 0) ha (hS.blk 0 rfl) rfl fun a ha => ?_
 refine jQ [(3, 12, iv f)] ha fun a ha => ?_
 refine qX (.pointer (some ⟨bk s, of_ s + f.toNat * 1, none⟩)) ha (xZ (s := s) (el := 70) (sz := 1) (j := f.toNat) ha (xY (t := 28) (x := 11) (y := 12) (d := 13)) rfl rfl (by kernel_rfl) (by kernel_rfl) hA0 (Int.toNat_of_nonneg hyr.1).symm (by rw [hr.len]; omega)) fun a ha => ?_
 refine qX (.slice sb.A sb.n sb.c) ha (qV ha (xK (t := 70) (x := 13) (d := 14) (ty := 70)) rfl (by kernel_rfl) (fun w' hw => by rw [hw]; rw [Nat.mul_one]; exact pw_cell_below hS.below hcb)) fun a ha => ?_
 refine jQ [(6, 15, iv (sb.n : Int)), (7, 16, .bool (decide ((i : Int) < (sb.n : Int))))] ha fun a ha => ?_
 refine jY (jJ ?_)
 by_cases c5 : (i : Int) < (sb.n : Int)
 ·
  have hil : i < b.length := by omega
  obtain ⟨x, hx⟩ : ∃ x, b[i]? = some x := ⟨_, List.getElem?_eq_getElem hil⟩
  refine jU ha rfl (decide_eq_true c5) ?_
  refine wp_skip (jJ (wp_seq (wp_block (wp_seq (jX [0, 1, 2, 3, 4, 5, 6, 7, 8, 9] (jQ [(0, 19, ptr b1 0)] ha fun a ha => ?_))))))
  refine qZ (d := 20) (b := b1) (j := 0) ha (hS.blk 0 rfl) rfl fun a ha => ?_
  refine jQ [(2, 21, iv f)] ha fun a ha => ?_
  refine qX (.pointer (some ⟨bk s, of_ s + f.toNat * 1, none⟩)) ha (xZ (s := s) (el := 70) (sz := 1) (j := f.toNat) ha (xY (t := 28) (x := 20) (y := 21) (d := 22)) rfl rfl (by kernel_rfl) (by kernel_rfl) hA0 (Int.toNat_of_nonneg hyr.1).symm (by rw [hr.len]; omega)) fun a ha => ?_
  refine qX (.slice sb.A sb.n sb.c) ha (qV ha (xK (t := 70) (x := 22) (d := 23) (ty := 70)) rfl (by kernel_rfl) (fun w' hw => by rw [hw]; rw [Nat.mul_one]; exact pw_cell_below hS.below hcb)) fun a ha => ?_
  refine jQ [(5, 24, iv (i : Int))] ha fun a ha => ?_
  refine qX (.pointer (some ⟨bk sb, of_ sb + i * 3, none⟩)) ha (xZ (el := 72) (sz := 3) (j := i) ha (xY (t := 70) (x := 23) (y := 24) (d := 25)) rfl rfl (by kernel_rfl) (by kernel_rfl) (RdE.at_ (hrb.sat hS) _ _ hx).1 (rfl) (by rw [((hrb.sat hS)).len]; exact (List.getElem?_eq_some_iff.1 hx).1)) fun a ha => ?_
  refine qX (.agg #[iv x.f0, iv x.f1, iv x.f2]) ha (v_loadE (b := bk sb) (f := of_ sb + i * 3) (vs := [iv x.f0, iv x.f1, iv x.f2]) ha (xK (t := 72) (x := 25) (d := 26) (ty := 72)) rfl (by kernel_rfl) (fun w' hw o u hu => by rw [hw]; exact (RdE.at_ (hrb.sat hS) _ _ hx).2 o u hu)) fun a ha => ?_
  refine jW (qY 7 [iv 0, iv 0, iv 0] 72 (ptr · 0) ha hS fun b6 w a hb7 hS ha => ?_)
  refine jW (o_sa 0 ha (zJ (t := 72) (x := 7) (y := 26)) hS fun w a hS ha => ?_)
  refine jY (jJ (wp_seq (jX [0, 1, 2, 3, 4, 5, 6, 7] (jQ [(0, 27, ptr b6 0)] ha fun a ha => ?_))))
  refine qZ (d := 28) (b := b6) (j := 0) ha (hS.blk 0 rfl) rfl fun a ha => ?_
  refine jQ [(2, 29, .bool (decide (x.f0 = 4))), (3, 30, .bool (decide (x.f0 = 4)))] ha fun a ha => ?_
  by_cases c8 : x.f0 = 4
  ·
   replace ha := ha.turn 29 (.bool true) rfl (congrArg Value.bool (decide_eq_true c8));replace ha := ha.turn 30 (.bool true) rfl (congrArg Value.bool (decide_eq_true c8));refine jQ [(4, 31, undef), (5, 32, undef), (6, 33, undef), (7, 34, .bool true)] ha fun a ha => ?_;refine jY (jJ ?_);refine jU ha rfl rfl ?_;refine jX [0, 1, 2, 3, 4] (jQ [(0, 35, .slice o.A o.n o.c), (1, 36, ptr b6 1)] ha fun a ha => ?_);refine qZ (d := 37) (b := b6) (j := 1) ha (hS.blk 0 rfl) rfl fun a ha => ?_;replace hS := hS.pickN 3 [2, 0, 1];refine jW (qQ 38 (vs := [.slice o.A o.n o.c, iv x.f1]) ha (put1_sat (x := x.f1) hS (by have h8 := putL_len (numsOf k45 (b.take i)) []; have h9 := numsOf_len k45 (b.take i); rw [List.length_take] at h9; simp only [List.length_nil] at h8; omega)) fun v9 w a hp10 ha => ?_);obtain ⟨po1, rfl, hS⟩ := hp10;refine jQ [(4, 5, .slice po1.A po1.n po1.c)] ha fun a ha => ?_;refine jY (in_n (jJ (jX [0, 1, 2] (jQ [(0, 17, iv (i : Int))] ha fun a ha => ?_))));refine xJ 18 ((i : Int) + 1) ha fun a ha => ?_;refine jQ [(2, 6, iv ((i : Int) + 1))] ha fun a ha => ?_;refine jY (jJ ?_);replace hS := hS.pickN 3 [2, 0];replace hS : Sat w0 w ((SX.blk b1 [.slice s.A s.n s.c] 30) :: (rI po1 (putL [] (numsOf k45 (b.take (i + 1))))) :: Rs) := by rw [numsOf_yes hx ((k45_iff _).2 (.inl c8)), putL_app]; exact hS
   exact ⟨_, by omega, i + 1, po1, rfl, hil, ha.keeps [1, 2, 4, 5, 6] _ rfl, hS⟩
  replace ha := ha.turn 29 (.bool false) rfl (congrArg Value.bool (decide_eq_false c8))
  replace ha := ha.turn 30 (.bool false) rfl (congrArg Value.bool (decide_eq_false c8))
  refine jQ [(4, 31, ptr b6 0)] ha fun a ha => ?_
  refine qZ (d := 32) (b := b6) (j := 0) ha (hS.blk 0 rfl) rfl fun a ha => ?_
  refine jQ [(6, 33, .bool (decide (x.f0 = 5))), (7, 34, .bool (decide (x.f0 = 5)))] ha fun a ha => ?_
  refine jY (jJ ?_)
  by_cases c11 : x.f0 = 5
  ·
   refine jU ha rfl (decide_eq_true c11) ?_;refine jX [0, 1, 2, 3, 4] (jQ [(0, 35, .slice o.A o.n o.c), (1, 36, ptr b6 1)] ha fun a ha => ?_);refine qZ (d := 37) (b := b6) (j := 1) ha (hS.blk 0 rfl) rfl fun a ha => ?_;replace hS := hS.pickN 3 [2, 0, 1];refine jW (qQ 38 (vs := [.slice o.A o.n o.c, iv x.f1]) ha (put1_sat (x := x.f1) hS (by have h8 := putL_len (numsOf k45 (b.take i)) []; have h9 := numsOf_len k45 (b.take i); rw [List.length_take] at h9; simp only [List.length_nil] at h8; omega)) fun v12 w a hp13 ha => ?_);obtain ⟨po2, rfl, hS⟩ := hp13;refine jQ [(4, 5, .slice po2.A po2.n po2.c)] ha fun a ha => ?_;refine jY (in_n (jJ (jX [0, 1, 2] (jQ [(0, 17, iv (i : Int))] ha fun a ha => ?_))));refine xJ 18 ((i : Int) + 1) ha fun a ha => ?_;refine jQ [(2, 6, iv ((i : Int) + 1))] ha fun a ha => ?_;refine jY (jJ ?_);replace hS := hS.pickN 3 [2, 0];replace hS : Sat w0 w ((SX.blk b1 [.slice s.A s.n s.c] 30) :: (rI po2 (putL [] (numsOf k45 (b.take (i + 1))))) :: Rs) := by rw [numsOf_yes hx ((k45_iff _).2 (.inr c11)), putL_app]; exact hS
   exact ⟨_, by omega, i + 1, po2, rfl, hil, ha.keeps [1, 2, 4, 5, 6] _ rfl, hS⟩
  refine jK ha rfl (decide_eq_false c11) ?_
  refine wp_skip (in_n (jJ (jX [0, 1, 2] (jQ [(0, 17, iv (i : Int))] ha fun a ha => ?_))))
  refine xJ 18 ((i : Int) + 1) ha fun a ha => ?_
  refine jQ [(2, 6, iv ((i : Int) + 1))] ha fun a ha => ?_
  refine jY (jJ ?_)
  replace hS := hS.pickN 3 [1, 2]
  replace hS : Sat w0 w ((SX.blk b1 [.slice s.A s.n s.c] 30) :: (rI o (putL [] (numsOf k45 (b.take (i + 1))))) :: Rs) := by rw [numsOf_no hx (k45_no c8 c11)]; exact hS
  exact ⟨_, by omega, i + 1, o, rfl, hil, ha.keeps [1, 2, 4, 5, 6] _ rfl, hS⟩
 refine jK ha rfl (decide_eq_false c5) ?_
 refine wp_exit (qJ (qJ (in_x (jJ (wp_seq (jX [0, 1] (jQ [(0, 39, .slice o.A o.n o.c), (1, 4, .slice o.A o.n o.c)] ha fun a ha => ?_)))))))
 refine jY (jJ (wp_ret (jG ha (by kernel_rfl) (qK (t := 4) ha rfl) ?_)))
 have hie : i = b.length := by omega
 rw [hie, List.take_length, putL_asc] at hS
 exact ⟨o, rfl, hS.pickN 2 [1]⟩
theorem code72 : Try.f72.body = some (Code.seq (cr Try.f72 0 false) (Code.seq (cr Try.f72 1 false) (Code.seq (Code.seq (cr Try.f72 2 false) (Code.block 0 (Code.loop (Code.seq (Code.seq (cr Try.f72 3 false) (Code.cond (Operand.tmp 14) Code.skip (Code.exit 0))) (Code.seq (Code.block 1 (Code.seq (cr Try.f72 5 true) (Code.block 2 (Code.loop (Code.seq (cr Try.f72 6 false) (Code.seq (Code.cond (Operand.tmp 29) Code.skip (Code.exit 2)) (Code.seq (Code.block 3 (Code.seq (cr Try.f72 7 false) (Code.seq (cr Try.f72 8 false) (Code.cond (Operand.tmp 35) (cr Try.f72 9 false) Code.skip)))) (cr Try.f72 10 false)))))))) (cr Try.f72 4 false)))))) (Code.seq (cr Try.f72 11 false) Code.ret)))) := by kernel_rfl
theorem reachI_sat {w0 w : World} {Rs : List Asn} {s : Sl} {l : List (List ST)} {f : Int} (hS : Sat w0 w Rs) (hr : RdP w0 s l) (hf : Fits l) (hpg : programB l = true) (hfx : 0 ≤ f ∧ f < (l.length : Int)) :
  Calls Try.prog 72 #[.agg #[.slice s.A s.n s.c], iv f] w (Ret fun r w' => ∃ o : Sl, r = .slice o.A o.n o.c ∧ Sat w0 w' (SX.row (.slice o.A o.n o.c) 3 1 (SX.encI (reachP l f)) :: Rs)) := by
 have hlen := hf.len
 have hl6 : l.length ≤ 6 := by have h9 := hpg; simp only [programB, Bool.and_eq_true, decide_eq_true_eq] at h9; exact h9.1.2
 refine enter (n := 43) Try.func72 code72 (by kernel_rfl) (Nat.le_of_ble_eq_true rfl) (fun a ha => ?_)
 replace ha : Has 43 [(0, .agg #[.slice s.A s.n s.c]), (1, iv f)] a := ha
 refine wp_seq (jX [0, 1] (jW (qY 2 [.slice s.A s.n s.c] 30 (ptr · 0) ha hS fun b1 w a hb2 hS ha => ?_)))
 refine jQ [(1, 4, .slice none 0 0)] ha fun a ha => ?_
 refine jY (jJ (wp_seq (jX [0, 1, 2] (jQ [(0, 9, iv f)] ha fun a ha => ?_))))
 refine jW (qY 10 [iv f] 3 (fun b => .slice (some ⟨b, 0, none⟩) 1 1) ha hS fun b3 w a hb4 hS ha => ?_)
 refine jQ [(2, 5, .slice (some ⟨b3, 0, none⟩) 1 1)] ha fun a ha => ?_
 refine jY (jJ (wp_seq (wp_seq (jX [0] (jQ [(0, 6, iv 0)] ha fun a ha => ?_)))))
 refine jY (jJ (wp_block ?_))
 replace hS := blkRow hS 1 1 0 rfl rfl (by decide)
 replace hS := hS.pickN 2 [1, 0]
 replace hS : Sat w0 w ((SX.blk b1 [.slice s.A s.n s.c] 30) :: (rI (⟨some ⟨b3, 0, none⟩, 1, 1⟩ : Sl) (rcN l f 0)) :: Rs) := hS
 refine wp_loop_ghost (fun n_ a_ w_ => ∃ (m : Nat) (o : Sl), n_ = l.length - m ∧ (m ≤ (rcN l f m).length) ∧ (m ≤ l.length) ∧ Has 43 [(2, ptr b1 0), (4, .slice none 0 0), (5, .slice o.A o.n o.c), (6, iv (m : Int))] a_ ∧ Sat w0 w_ ((SX.blk b1 [.slice s.A s.n s.c] 30) :: (rI o (rcN l f m)) :: Rs)) _ ⟨0, ⟨some ⟨b3, 0, none⟩, 1, 1⟩, rfl, Nat.zero_le _, Nat.zero_le _, ha.keeps [2, 4, 5, 6] _ rfl, hS⟩ ?_
 rintro n_ a w ⟨m, o, rfl, hm, hml, ha, hS⟩
 have hol : o.n = (rcN l f m).length := (hS.rdRow (s := o) 1 rfl).len
 have hok := rcN_ok hpg hfx m
 have hok3 := hok.len
 refine wp_seq (wp_seq (jX [0, 1, 2, 3] (jQ [(0, 11, iv (m : Int)), (1, 12, .slice o.A o.n o.c), (2, 13, iv (o.n : Int)), (3, 14, .bool (decide ((m : Int) < (o.n : Int))))] ha fun a ha => ?_)))
 refine jY (jJ ?_)
 by_cases c5 : (m : Int) < (o.n : Int)
 ·
  have hmo : m < (rcN l f m).length := by omega
  obtain ⟨y, hy⟩ : ∃ y, (rcN l f m)[m]? = some y := ⟨_, List.getElem?_eq_getElem hmo⟩
  have hyr := hok.rg y (List.mem_of_getElem? hy)
  obtain ⟨b, hb⟩ : ∃ b, l[y.toNat]? = some b := ⟨_, List.getElem?_eq_getElem (by omega)⟩
  have hb1 : b.length ≤ 8 := (okJ_of hpg (List.mem_of_getElem? hb)).2
  obtain ⟨hA0, sb, hcb, hrb⟩ := body_rd hr hb
  have hsb := hrb.len
  have hcl9 := calledP_len k45 b
  have hlm := hok.len
  refine jU ha rfl (decide_eq_true c5) ?_
  refine wp_skip (jJ (wp_seq (wp_block (wp_seq ?_))))
  replace hS := hS.pickN 2 [1, 0]
  replace hS : Sat w0 w ((SX.row (.slice o.A o.n o.c) 3 1 (encJ (rcN l f m))) :: (SX.blk b1 [.slice s.A s.n s.c] 30) :: Rs) := by rw [← encJ_I]; exact hS
  refine yV 9 12 hS fun w hS => ?_
  refine qH (k := 11) [(0, 17, ptr b1 0)] ha (.inr hS) fun a ha => ?_
  refine d_ldN 1 (d := 18) (b := b1) (j := 0) ha hS (fun _ hw => hw.blk 1 rfl) rfl fun a ha => ?_
  refine qH (k := 8) [(2, 19, .slice o.A o.n o.c), (3, 20, iv (m : Int))] ha (.inr hS) fun a ha => ?_
  refine yY 4 (.pointer (some ⟨bk o, m * 1, none⟩)) ha (xQ (s := o) (el := 3) (sz := 1) (j := m) ha (xY (t := 44) (x := 19) (y := 20) (d := 21)) rfl rfl (by kernel_rfl) (by kernel_rfl) (hS.rowA (s := o) 0 rfl (by have := (List.getElem?_eq_some_iff.1 hy).1; rw [encJ_length]; omega)) (rfl) (by have h9 := hS.rowL (s := o) (enc := cellsJ) 0 cellsJ_len (by decide) rfl; have := (List.getElem?_eq_some_iff.1 hy).1; omega)) (.inr hS) fun a ha => ?_
  refine d_valN (i := 5) (v := iv y) ha (by decide) (qV (v := iv y) ha (xK (t := 3) (x := 21) (d := 22) (ty := 3)) rfl (by kernel_rfl) (fun w' hw => ((hw.rdC (s := o) 0 rfl)).cells _ _ ((flat_get (enc := cellsJ) (o := 0) cellsJ_len hy (by decide)).trans rfl))) hS (by kernel_rfl) (by kernel_rfl) (yJ (yW (yJ (yJ (yW (yJ (yK))))))) fun a ha => ?_
  refine yY 6 (.pointer (some ⟨bk s, of_ s + y.toNat * 1, none⟩)) ha (xZ (s := s) (el := 70) (sz := 1) (j := y.toNat) ha (xY (t := 28) (x := 18) (y := 22) (d := 23)) rfl rfl (by kernel_rfl) (by kernel_rfl) hA0 (Int.toNat_of_nonneg hyr.1).symm (by rw [hr.len]; omega)) (.inr hS) fun a ha => ?_
  refine yU 7 (.slice sb.A sb.n sb.c) ha (qV ha (xK (t := 70) (x := 23) (d := 24) (ty := 70)) rfl (by kernel_rfl) (fun w' hw => by rw [Nat.mul_one]; exact pw_cell_below (Sat.below hw) hcb)) hS fun a ha => ?_
  refine qH (k := 3) [(11, 28, iv 0)] ha (.inr hS) fun a ha => ?_
  refine xX 8 (qY 25 [iv 4, iv 5] 3 (fun b => .slice (some ⟨b, 0, none⟩) 2 2) ha hS fun b6 w a hb7 hS ha => ?_)
  refine ⟨.inr (Sat.rest [_] hS), ?_⟩
  replace hS := blkRow hS 1 2 0 rfl rfl (by decide)
  replace hS : Sat w0 w ((rI (⟨some ⟨b6, 0, none⟩, 2, 2⟩ : Sl) [4, 5]) :: (SX.row (.slice o.A o.n o.c) 3 1 (encJ (rcN l f m))) :: (SX.blk b1 [.slice s.A s.n s.c] 30) :: Rs) := hS
  refine xX 9 (qQ 26 (vs := [.slice sb.A sb.n sb.c, .slice (some ⟨b6, 0, none⟩) 2 2]) ha (called_sat (sk := (⟨some ⟨b6, 0, none⟩, 2, 2⟩ : Sl)) (ks := k45) hS hrb (by omega)) fun v8 w a hp9 ha => ?_)
  obtain ⟨ro1, rfl, hS⟩ := hp9
  refine zY (qH (k := 0) [(10, 27, iv (ro1.n : Int))] ha (.inl (by kernel_rfl)) fun a ha => ?_)
  refine yQ (jJ (wp_block ?_))
  replace hS := hS.pickN 3 [2, 1, 0]
  replace hS : Sat w0 w ((SX.blk b1 [.slice s.A s.n s.c] 30) :: (rI o (addL (rcN l f m) ((calledP k45 b).take 0))) :: (SX.row (.slice ro1.A ro1.n ro1.c) 3 1 (encJ (calledP k45 b))) :: Rs) := by have h9 := hS; rw [← encJ_I (calledP k45 b)]; rw [← encJ_I (rcN l f m)] at h9; exact h9
  have hnl : ro1.n = (calledP k45 b).length := hS.rowL (s := ro1) (enc := cellsJ) 2 cellsJ_len (by decide) rfl
  refine wp_loop_ghost (fun n_ a_ w_ => ∃ (j : Nat) (o2 : Sl), n_ = (calledP k45 b).length - j ∧ (j ≤ (calledP k45 b).length) ∧ Has 43 [(2, ptr b1 0), (4, .slice none 0 0), (6, iv (m : Int)), (11, iv (m : Int)), (12, .slice o.A o.n o.c), (13, iv (o.n : Int)), (14, .bool (decide ((m : Int) < (o.n : Int)))), (17, ptr b1 0), (18, .slice s.A s.n s.c), (19, .slice o.A o.n o.c), (20, iv (m : Int)), (21, .pointer (some ⟨bk o, m * 1, none⟩)), (22, iv y), (23, .pointer (some ⟨bk s, of_ s + y.toNat * 1, none⟩)), (24, .slice sb.A sb.n sb.c), (25, .slice (some ⟨b6, 0, none⟩) 2 2), (26, .slice ro1.A ro1.n ro1.c), (27, iv (ro1.n : Int)), (5, .slice o2.A o2.n o2.c), (28, iv (j : Int))] a_ ∧ Sat w0 w_ ((SX.blk b1 [.slice s.A s.n s.c] 30) :: (rI o2 (addL (rcN l f m) ((calledP k45 b).take j))) :: (SX.row (.slice ro1.A ro1.n ro1.c) 3 1 (encJ (calledP k45 b))) :: Rs)) _ ⟨0, o, rfl, Nat.zero_le _, ha.keeps [2, 4, 6, 11, 12, 13, 14, 17, 18, 19, 20, 21, 22, 23, 24, 25, 26, 27, 5, 28] _ rfl, hS⟩ ?_
  rintro n_ a w ⟨j, o2, rfl, hj, ha, hS⟩
  refine wp_seq (jX [0] (jQ [(0, 29, .bool (decide ((j : Int) < (ro1.n : Int))))] ha fun a ha => ?_))
  refine jY (jJ (wp_seq ?_))
  by_cases c10 : (j : Int) < (ro1.n : Int)
  ·
   have hjl : j < (calledP k45 b).length := by omega
   obtain ⟨u, hu⟩ : ∃ u, (calledP k45 b)[j]? = some u := ⟨_, List.getElem?_eq_getElem hjl⟩;have hal : (addL (rcN l f m) ((calledP k45 b).take j)).length ≤ l.length := (hok.addL _ (fun g hg => calledP_rng hpg (List.mem_of_getElem? hb) g (List.mem_of_mem_take hg))).len;refine jU ha rfl (decide_eq_true c10) ?_;refine wp_skip (jJ (wp_seq (wp_block (wp_seq (jX [0, 1, 2] (qX (.pointer (some ⟨bk ro1, j * 1, none⟩)) ha (xQ (s := ro1) (el := 3) (sz := 1) (j := j) ha (xY (t := 44) (x := 26) (y := 28) (d := 30)) rfl rfl (by kernel_rfl) (by kernel_rfl) (hS.rowA (s := ro1) 2 rfl (by have := (List.getElem?_eq_some_iff.1 hu).1; rw [encJ_length]; omega)) (rfl) (by have h9 := hS.rowL (s := ro1) (enc := cellsJ) 2 cellsJ_len (by decide) rfl; have := (List.getElem?_eq_some_iff.1 hu).1; omega)) fun a ha => ?_))))));refine qX (iv u) ha (qV ha (xK (t := 3) (x := 30) (d := 31) (ty := 3)) rfl (by kernel_rfl) (fun w' hw => by rw [hw]; exact (hS.rdC (s := ro1) 2 rfl).cells _ _ ((flat_get (enc := cellsJ) (o := 0) cellsJ_len hu (by decide)).trans rfl))) fun a ha => ?_;refine jQ [(2, 8, iv u)] ha fun a ha => ?_;refine jY (jJ (wp_seq (jX [0, 1, 2, 3] (jQ [(0, 32, .slice o2.A o2.n o2.c), (1, 33, iv u)] ha fun a ha => ?_))));refine jW (qQ 34 (vs := [.slice o2.A o2.n o2.c, iv u]) ha (ocont_sat hS (hS.rdRow (s := o2) 1 rfl) u) fun v11 w a hp12 ha => ?_);obtain ⟨rfl, hS⟩ := hp12;refine jQ [(3, 35, .bool (!(((addL (rcN l f m) ((calledP k45 b).take j)).contains u))))] ha fun a ha => ?_;refine jY (jJ ?_)
   rcases Bool.eq_false_or_eq_true ((addL (rcN l f m) ((calledP k45 b).take j)).contains u) with c13 | c13
   ·
    refine jK ha rfl (xU c13) ?_;refine wp_skip (in_n (jJ (jX [0, 1] (xJ 40 ((j : Int) + 1) ha fun a ha => ?_))));refine jQ [(1, 28, iv ((j : Int) + 1))] ha fun a ha => ?_;refine jY (jJ ?_);replace hS : Sat w0 w ((SX.blk b1 [.slice s.A s.n s.c] 30) :: (rI o2 (addL (rcN l f m) ((calledP k45 b).take j))) :: (SX.row (.slice ro1.A ro1.n ro1.c) 3 1 (encJ (calledP k45 b))) :: Rs) := hS;replace hS : Sat w0 w ((SX.blk b1 [.slice s.A s.n s.c] 30) :: (rI o2 (addL (rcN l f m) ((calledP k45 b).take (j + 1)))) :: (SX.row (.slice ro1.A ro1.n ro1.c) 3 1 (encJ (calledP k45 b))) :: Rs) := by rw [addL_next hu, add1_yes c13]; exact hS
    exact ⟨_, by omega, j + 1, o2, rfl, hjl, ha.keeps [2, 4, 6, 11, 12, 13, 14, 17, 18, 19, 20, 21, 22, 23, 24, 25, 26, 27, 5, 28] _ rfl, hS⟩
   refine jU ha rfl (xG c13) ?_;refine jX [0, 1, 2, 3, 4] (jQ [(0, 36, .slice o2.A o2.n o2.c), (1, 37, iv u)] ha fun a ha => ?_);refine jW (qY 38 [iv u] 3 (fun b => .slice (some ⟨b, 0, none⟩) 1 1) ha hS fun b14 w a hb15 hS ha => ?_);refine jW (o_ap 39 2 0 (SX.encI ((addL (rcN l f m) ((calledP k45 b).take j)) ++ [u])) ha hS rfl rfl (by rw [encI_length]; simp only [List.length_cons, List.length_nil]; omega) (encI_snoc _ _) fun s19 w a hS hn20 ha => ?_);refine jQ [(4, 5, .slice s19.A s19.n s19.c)] ha fun a ha => ?_;refine jY (in_n (jJ (jX [0, 1] (xJ 40 ((j : Int) + 1) ha fun a ha => ?_))));refine jQ [(1, 28, iv ((j : Int) + 1))] ha fun a ha => ?_;refine jY (jJ ?_);replace hS := hS.pickN 4 [1, 2, 3];replace hS : Sat w0 w ((SX.blk b1 [.slice s.A s.n s.c] 30) :: (rI s19 (addL (rcN l f m) ((calledP k45 b).take (j + 1)))) :: (SX.row (.slice ro1.A ro1.n ro1.c) 3 1 (encJ (calledP k45 b))) :: Rs) := by rw [addL_next hu, add1_no c13]; exact hS
   exact ⟨_, by omega, j + 1, s19, rfl, hjl, ha.keeps [2, 4, 6, 11, 12, 13, 14, 17, 18, 19, 20, 21, 22, 23, 24, 25, 26, 27, 5, 28] _ rfl, hS⟩
  refine jK ha rfl (decide_eq_false c10) ?_
  refine wp_exit (qJ (qJ (in_x (in_n (jJ (jX [0, 1, 2] (jQ [(0, 15, iv (m : Int))] ha fun a ha => ?_)))))))
  refine xJ 16 ((m : Int) + 1) ha fun a ha => ?_
  refine jQ [(2, 6, iv ((m : Int) + 1))] ha fun a ha => ?_
  refine jY (jJ ?_)
  replace hS := hS.pickN 3 [0, 1]
  have hje : j = (calledP k45 b).length := by omega
  rw [hje, List.take_length, ← rcN_next hy hb] at hS
  have hm2 : (rcN l f (m + 1))[m]? = some y := by rw [rcN_next hy hb]; exact addL_get _ _ hy
  have hm3 := (List.getElem?_eq_some_iff.1 hm2).1
  replace hS : Sat w0 w ((SX.blk b1 [.slice s.A s.n s.c] 30) :: (rI o2 (rcN l f (m + 1))) :: Rs) := hS
  exact ⟨_, by omega, m + 1, o2, rfl, hm3, (by omega), ha.keeps [2, 4, 5, 6] _ rfl, hS⟩
 refine jK ha rfl (decide_eq_false c5) ?_
 refine wp_exit (qJ (qJ (in_x (jJ (wp_seq (jX [0, 1, 2] (jQ [(0, 41, .slice o.A o.n o.c)] ha fun a ha => ?_)))))))
 replace hS := hS.pickN 2 [1, 0]
 refine jW (qQ 42 (vs := [.slice o.A o.n o.c]) ha (asc_sat hS (by omega)) fun v21 w a hp22 ha => ?_)
 obtain ⟨ao1, rfl, hS⟩ := hp22
 refine jQ [(2, 4, .slice ao1.A ao1.n ao1.c)] ha fun a ha => ?_
 refine jY (jJ (wp_ret (jG ha (by kernel_rfl) (qK (t := 4) ha rfl) ?_)))
 have hE : reachP l f = asc (rcN l f m) := reach_at hml (by omega)
 rw [hE]
 exact ⟨ao1, rfl, hS.pickN 2 [0]⟩
theorem code68 : Try.f68.body = some (Code.seq (cr Try.f68 0 false) (Code.seq (cr Try.f68 1 false) (Code.seq (Code.seq (cr Try.f68 2 false) (Code.block 0 (Code.loop (Code.seq (Code.seq (cr Try.f68 3 false) (Code.cond (Operand.tmp 17) Code.skip (Code.exit 0))) (Code.seq (Code.block 1 (Code.seq (cr Try.f68 5 true) (Code.seq (cr Try.f68 6 false) (Code.block 2 (Code.loop (Code.seq (Code.seq (cr Try.f68 7 false) (Code.cond (Operand.tmp 29) Code.skip (Code.exit 2))) (Code.seq (Code.block 3 (Code.seq (cr Try.f68 9 false) (Code.cond (Operand.tmp 38) (Code.seq (cr Try.f68 10 false) (cr Try.f68 11 false)) Code.skip))) (cr Try.f68 8 false)))))))) (cr Try.f68 4 false)))))) (Code.seq (cr Try.f68 12 false) Code.ret)))) := by kernel_rfl
theorem reachQ_sat {w0 w : World} {Rs : List Asn} {s : Sl} {l : List (List ST)} {f : Int} (hS : Sat w0 w Rs) (hr : RdP w0 s l) (hf : Fits l) (hpg : programB l = true) (hfx : 0 ≤ f ∧ f < (l.length : Int)) :
  Calls Try.prog 68 #[.agg #[.slice s.A s.n s.c], iv f] w (Ret fun r w' => ∃ o : Sl, r = .slice o.A o.n o.c ∧ Sat w0 w' (SX.row (.slice o.A o.n o.c) 3 1 (SX.encI (reachP l f)) :: Rs)) := by
 have hlen := hf.len
 have hl6 : l.length ≤ 6 := by have h9 := hpg; simp only [programB, Bool.and_eq_true, decide_eq_true_eq] at h9; exact h9.1.2
 refine enter (n := 53) Try.func68 code68 (by kernel_rfl) (Nat.le_of_ble_eq_true rfl) (fun a ha => ?_)
 replace ha : Has 53 [(0, .agg #[.slice s.A s.n s.c]), (1, iv f)] a := ha
 refine wp_seq (jX [0, 1] (jW (qY 2 [.slice s.A s.n s.c] 30 (ptr · 0) ha hS fun b1 w a hb2 hS ha => ?_)))
 refine jQ [(1, 4, .slice none 0 0)] ha fun a ha => ?_
 refine jY (jJ (wp_seq (jX [0, 1, 2, 3, 4, 5] (jQ [(0, 10, iv f)] ha fun a ha => ?_))))
 refine jW (qY 11 [iv f] 3 (fun b => .slice (some ⟨b, 0, none⟩) 1 1) ha hS fun b3 w a hb4 hS ha => ?_)
 refine jQ [(2, 12, iv f)] ha fun a ha => ?_
 refine jW (qY 13 [iv f] 3 (fun b => .slice (some ⟨b, 0, none⟩) 1 1) ha hS fun b5 w a hb6 hS ha => ?_)
 refine jQ [(4, 5, .slice (some ⟨b3, 0, none⟩) 1 1), (5, 6, .slice (some ⟨b5, 0, none⟩) 1 1)] ha fun a ha => ?_
 refine jY (jJ (wp_seq (wp_seq (jX [0] (jQ [(0, 7, iv 0)] ha fun a ha => ?_)))))
 refine jY (jJ (wp_block ?_))
 replace hS := blkRow hS 1 1 0 rfl rfl (by decide)
 replace hS := blkRow hS 1 1 1 rfl rfl (by decide)
 replace hS := hS.pickN 3 [2, 0, 1]
 replace hS : Sat w0 w ((SX.blk b1 [.slice s.A s.n s.c] 30) :: (rI (⟨some ⟨b5, 0, none⟩, 1, 1⟩ : Sl) (rcN l f 0)) :: (rI (⟨some ⟨b3, 0, none⟩, 1, 1⟩ : Sl) (asc (rcN l f 0))) :: Rs) := by rw [show asc (rcN l f 0) = [f] from asc_one f]; exact hS
 refine wp_loop_ghost (fun n_ a_ w_ => ∃ (m : Nat) (o : Sl) (os : Sl), n_ = l.length - m ∧ (m ≤ (rcN l f m).length) ∧ (m ≤ l.length) ∧ Has 53 [(2, ptr b1 0), (4, .slice none 0 0), (6, .slice o.A o.n o.c), (7, iv (m : Int)), (5, .slice os.A os.n os.c)] a_ ∧ Sat w0 w_ ((SX.blk b1 [.slice s.A s.n s.c] 30) :: (rI o (rcN l f m)) :: (rI os (asc (rcN l f m))) :: Rs)) _ ⟨0, ⟨some ⟨b5, 0, none⟩, 1, 1⟩, ⟨some ⟨b3, 0, none⟩, 1, 1⟩, rfl, Nat.zero_le _, Nat.zero_le _, ha.keeps [2, 4, 6, 7, 5] _ rfl, hS⟩ ?_
 rintro n_ a w ⟨m, o, os, rfl, hm, hml, ha, hS⟩
 have hol : o.n = (rcN l f m).length := (hS.rdRow (s := o) 1 rfl).len
 have hok := rcN_ok hpg hfx m
 have hok3 := hok.len
 refine wp_seq (wp_seq (jX [0, 1, 2, 3] (jQ [(0, 14, iv (m : Int)), (1, 15, .slice o.A o.n o.c), (2, 16, iv (o.n : Int)), (3, 17, .bool (decide ((m : Int) < (o.n : Int))))] ha fun a ha => ?_)))
 refine jY (jJ ?_)
 by_cases c7 : (m : Int) < (o.n : Int)
 ·
  have hmo : m < (rcN l f m).length := by omega
  obtain ⟨y, hy⟩ : ∃ y, (rcN l f m)[m]? = some y := ⟨_, List.getElem?_eq_getElem hmo⟩
  have hyr := hok.rg y (List.mem_of_getElem? hy)
  obtain ⟨b, hb⟩ : ∃ b, l[y.toNat]? = some b := ⟨_, List.getElem?_eq_getElem (by omega)⟩
  have hb1 : b.length ≤ 8 := (okJ_of hpg (List.mem_of_getElem? hb)).2
  obtain ⟨hA0, sb, hcb, hrb⟩ := body_rd hr hb
  have hsb := hrb.len
  have hcl9 := calledP_len k45 b
  have hlm := hok.len
  refine jU ha rfl (decide_eq_true c7) ?_
  refine wp_skip (jJ (wp_seq (wp_block (wp_seq ?_))))
  replace hS := hS.pickN 3 [1, 0, 2]
  replace hS : Sat w0 w ((SX.row (.slice o.A o.n o.c) 3 1 (encJ (rcN l f m))) :: (SX.blk b1 [.slice s.A s.n s.c] 30) :: (rI os (asc (rcN l f m))) :: Rs) := by rw [← encJ_I]; exact hS
  refine yV 5 7 hS fun w hS => ?_
  refine zK 0 20 ha hS (fun _ hw => hw.blk 1 rfl) fun a ha => ?_
  refine qH (k := 4) [(1, 21, .slice o.A o.n o.c), (2, 22, iv (m : Int))] ha (.inr hS) fun a ha => ?_
  refine yY 3 (.pointer (some ⟨bk o, m * 1, none⟩)) ha (xQ (s := o) (el := 3) (sz := 1) (j := m) ha (xY (t := 44) (x := 21) (y := 22) (d := 23)) rfl rfl (by kernel_rfl) (by kernel_rfl) (hS.rowA (s := o) 0 rfl (by have := (List.getElem?_eq_some_iff.1 hy).1; rw [encJ_length]; omega)) (rfl) (by have h9 := hS.rowL (s := o) (enc := cellsJ) 0 cellsJ_len (by decide) rfl; have := (List.getElem?_eq_some_iff.1 hy).1; omega)) (.inr hS) fun a ha => ?_
  refine yU 4 (iv y) ha (qV ha (xK (t := 3) (x := 23) (d := 24) (ty := 3)) rfl (by kernel_rfl) (fun w' hw => ((hw.rdC (s := o) 0 rfl)).cells _ _ ((flat_get (enc := cellsJ) (o := 0) cellsJ_len hy (by decide)).trans rfl))) hS fun a ha => ?_
  refine xX 5 (qQ 25 (vs := [.agg #[.slice s.A s.n s.c], iv y]) ha (qcalls_sat hS hr hf hpg hyr hb) fun v8 w a hp9 ha => ?_)
  obtain ⟨ro1, rfl, hS⟩ := hp9
  refine zY (qH (k := 0) [(6, 8, .slice ro1.A ro1.n ro1.c)] ha (.inl (by kernel_rfl)) fun a ha => ?_)
  refine yQ (jJ (wp_seq (jX [0] (jQ [(0, 9, iv 0)] ha fun a ha => ?_))))
  refine jY (jJ (wp_block ?_))
  replace hS := hS.pickN 4 [2, 1, 0, 3]
  replace hS : Sat w0 w ((SX.blk b1 [.slice s.A s.n s.c] 30) :: (rI o (addL (rcN l f m) ((calledP k45 b).take 0))) :: (SX.row (.slice ro1.A ro1.n ro1.c) 3 1 (encJ (calledP k45 b))) :: (rI os (asc (addL (rcN l f m) ((calledP k45 b).take 0)))) :: Rs) := by have h9 := hS; rw [← encJ_I (calledP k45 b)]; rw [← encJ_I (rcN l f m)] at h9; exact h9
  have hnl : ro1.n = (calledP k45 b).length := hS.rowL (s := ro1) (enc := cellsJ) 2 cellsJ_len (by decide) rfl
  refine wp_loop_ghost (fun n_ a_ w_ => ∃ (j : Nat) (o2 : Sl) (os2 : Sl), n_ = (calledP k45 b).length - j ∧ (j ≤ (calledP k45 b).length) ∧ Has 53 [(2, ptr b1 0), (4, .slice none 0 0), (7, iv (m : Int)), (14, iv (m : Int)), (15, .slice o.A o.n o.c), (16, iv (o.n : Int)), (17, .bool (decide ((m : Int) < (o.n : Int)))), (20, .agg #[.slice s.A s.n s.c]), (21, .slice o.A o.n o.c), (22, iv (m : Int)), (23, .pointer (some ⟨bk o, m * 1, none⟩)), (24, iv y), (25, .slice ro1.A ro1.n ro1.c), (8, .slice ro1.A ro1.n ro1.c), (6, .slice o2.A o2.n o2.c), (9, iv (j : Int)), (5, .slice os2.A os2.n os2.c)] a_ ∧ Sat w0 w_ ((SX.blk b1 [.slice s.A s.n s.c] 30) :: (rI o2 (addL (rcN l f m) ((calledP k45 b).take j))) :: (SX.row (.slice ro1.A ro1.n ro1.c) 3 1 (encJ (calledP k45 b))) :: (rI os2 (asc (addL (rcN l f m) ((calledP k45 b).take j)))) :: Rs)) _ ⟨0, o, os, rfl, Nat.zero_le _, ha.keeps [2, 4, 7, 14, 15, 16, 17, 20, 21, 22, 23, 24, 25, 8, 6, 9, 5] _ rfl, hS⟩ ?_
  rintro n_ a w ⟨j, o2, os2, rfl, hj, ha, hS⟩
  refine wp_seq (wp_seq (jX [0, 1, 2, 3] (jQ [(0, 26, iv (j : Int)), (1, 27, .slice ro1.A ro1.n ro1.c), (2, 28, iv (ro1.n : Int)), (3, 29, .bool (decide ((j : Int) < (ro1.n : Int))))] ha fun a ha => ?_)))
  refine jY (jJ ?_)
  by_cases c10 : (j : Int) < (ro1.n : Int)
  ·
   have hjl : j < (calledP k45 b).length := by omega
   obtain ⟨u, hu⟩ : ∃ u, (calledP k45 b)[j]? = some u := ⟨_, List.getElem?_eq_getElem hjl⟩;have hal : (addL (rcN l f m) ((calledP k45 b).take j)).length ≤ l.length := (hok.addL _ (fun g hg => calledP_rng hpg (List.mem_of_getElem? hb) g (List.mem_of_mem_take hg))).len;refine jU ha rfl (decide_eq_true c10) ?_;refine wp_skip (jJ (wp_seq (wp_block (wp_seq (jX [0, 1, 2, 3, 4, 5, 6] (jQ [(0, 32, .slice os2.A os2.n os2.c), (1, 33, .slice ro1.A ro1.n ro1.c), (2, 34, iv (j : Int))] ha fun a ha => ?_))))));refine qX (.pointer (some ⟨bk ro1, j * 1, none⟩)) ha (xQ (s := ro1) (el := 3) (sz := 1) (j := j) ha (xY (t := 44) (x := 33) (y := 34) (d := 35)) rfl rfl (by kernel_rfl) (by kernel_rfl) (hS.rowA (s := ro1) 2 rfl (by have := (List.getElem?_eq_some_iff.1 hu).1; rw [encJ_length]; omega)) (rfl) (by have h9 := hS.rowL (s := ro1) (enc := cellsJ) 2 cellsJ_len (by decide) rfl; have := (List.getElem?_eq_some_iff.1 hu).1; omega)) fun a ha => ?_;refine qX (iv u) ha (qV ha (xK (t := 3) (x := 35) (d := 36) (ty := 3)) rfl (by kernel_rfl) (fun w' hw => by rw [hw]; exact (hS.rdC (s := ro1) 2 rfl).cells _ _ ((flat_get (enc := cellsJ) (o := 0) cellsJ_len hu (by decide)).trans rfl))) fun a ha => ?_;refine jW (qQ 37 (vs := [.slice os2.A os2.n os2.c, iv u]) ha (bhas_sat hS (hS.rdRow (s := os2) 3 rfl)) fun v11 w a hp12 ha => ?_);obtain ⟨rfl, hS⟩ := hp12;refine jQ [(6, 38, .bool (!(((asc (addL (rcN l f m) ((calledP k45 b).take j))).contains u))))] ha fun a ha => ?_;refine jY (jJ ?_)
   rcases Bool.eq_false_or_eq_true ((asc (addL (rcN l f m) ((calledP k45 b).take j))).contains u) with c13 | c13
   ·
    refine jK ha rfl (xU c13) ?_;refine wp_skip (in_n (jJ (jX [0, 1, 2] (jQ [(0, 30, iv (j : Int))] ha fun a ha => ?_))));refine xJ 31 ((j : Int) + 1) ha fun a ha => ?_;refine jQ [(2, 9, iv ((j : Int) + 1))] ha fun a ha => ?_;refine jY (jJ ?_);replace hS : Sat w0 w ((SX.blk b1 [.slice s.A s.n s.c] 30) :: (rI o2 (addL (rcN l f m) ((calledP k45 b).take j))) :: (SX.row (.slice ro1.A ro1.n ro1.c) 3 1 (encJ (calledP k45 b))) :: (rI os2 (asc (addL (rcN l f m) ((calledP k45 b).take j)))) :: Rs) := hS;have hq9 : (addL (rcN l f m) ((calledP k45 b).take j)).contains u = true := by rw [← asc_cont]; exact c13
    replace hS : Sat w0 w ((SX.blk b1 [.slice s.A s.n s.c] 30) :: (rI o2 (addL (rcN l f m) ((calledP k45 b).take (j + 1)))) :: (SX.row (.slice ro1.A ro1.n ro1.c) 3 1 (encJ (calledP k45 b))) :: (rI os2 (asc (addL (rcN l f m) ((calledP k45 b).take (j + 1))))) :: Rs) := by rw [addL_next hu, add1_yes hq9]; exact hS
    exact ⟨_, by omega, j + 1, o2, os2, rfl, hjl, ha.keeps [2, 4, 7, 14, 15, 16, 17, 20, 21, 22, 23, 24, 25, 8, 6, 9, 5] _ rfl, hS⟩
   refine jU ha rfl (xG c13) ?_;refine wp_seq (jX [0, 1, 2, 3, 4, 5, 6] (jQ [(0, 39, .slice os2.A os2.n os2.c), (1, 40, .slice ro1.A ro1.n ro1.c), (2, 41, iv (j : Int))] ha fun a ha => ?_));refine qX (.pointer (some ⟨bk ro1, j * 1, none⟩)) ha (xQ (s := ro1) (el := 3) (sz := 1) (j := j) ha (xY (t := 44) (x := 40) (y := 41) (d := 42)) rfl rfl (by kernel_rfl) (by kernel_rfl) (hS.rowA (s := ro1) 2 rfl (by have := (List.getElem?_eq_some_iff.1 hu).1; rw [encJ_length]; omega)) (rfl) (by have h9 := hS.rowL (s := ro1) (enc := cellsJ) 2 cellsJ_len (by decide) rfl; have := (List.getElem?_eq_some_iff.1 hu).1; omega)) fun a ha => ?_;refine qX (iv u) ha (qV ha (xK (t := 3) (x := 42) (d := 43) (ty := 3)) rfl (by kernel_rfl) (fun w' hw => by rw [hw]; exact (hS.rdC (s := ro1) 2 rfl).cells _ _ ((flat_get (enc := cellsJ) (o := 0) cellsJ_len hu (by decide)).trans rfl))) fun a ha => ?_;replace hS := hS.pickN 4 [3, 0, 1, 2];refine jW (qQ 44 (vs := [.slice os2.A os2.n os2.c, iv u]) ha (put1_sat (x := u) hS (by have := asc_le (addL (rcN l f m) ((calledP k45 b).take j)); omega)) fun v14 w a hp15 ha => ?_);obtain ⟨po1, rfl, hS⟩ := hp15;refine jQ [(6, 5, .slice po1.A po1.n po1.c)] ha fun a ha => ?_;refine jY (jJ (jX [0, 1, 2, 3, 4, 5, 6, 7] (jQ [(0, 45, .slice o2.A o2.n o2.c), (1, 46, .slice ro1.A ro1.n ro1.c), (2, 47, iv (j : Int))] ha fun a ha => ?_)));refine qX (.pointer (some ⟨bk ro1, j * 1, none⟩)) ha (xQ (s := ro1) (el := 3) (sz := 1) (j := j) ha (xY (t := 44) (x := 46) (y := 47) (d := 48)) rfl rfl (by kernel_rfl) (by kernel_rfl) (hS.rowA (s := ro1) 3 rfl (by have := (List.getElem?_eq_some_iff.1 hu).1; rw [encJ_length]; omega)) (rfl) (by have h9 := hS.rowL (s := ro1) (enc := cellsJ) 3 cellsJ_len (by decide) rfl; have := (List.getElem?_eq_some_iff.1 hu).1; omega)) fun a ha => ?_;refine qX (iv u) ha (qV ha (xK (t := 3) (x := 48) (d := 49) (ty := 3)) rfl (by kernel_rfl) (fun w' hw => by rw [hw]; exact (hS.rdC (s := ro1) 3 rfl).cells _ _ ((flat_get (enc := cellsJ) (o := 0) cellsJ_len hu (by decide)).trans rfl))) fun a ha => ?_;refine jW (qY 50 [iv u] 3 (fun b => .slice (some ⟨b, 0, none⟩) 1 1) ha hS fun b16 w a hb17 hS ha => ?_);refine jW (o_ap 51 3 0 (SX.encI ((addL (rcN l f m) ((calledP k45 b).take j)) ++ [u])) ha hS rfl rfl (by rw [encI_length]; simp only [List.length_cons, List.length_nil]; omega) (encI_snoc _ _) fun s21 w a hS hn22 ha => ?_);refine jQ [(7, 6, .slice s21.A s21.n s21.c)] ha fun a ha => ?_;refine jY (in_n (jJ (jX [0, 1, 2] (jQ [(0, 30, iv (j : Int))] ha fun a ha => ?_))));refine xJ 31 ((j : Int) + 1) ha fun a ha => ?_;refine jQ [(2, 9, iv ((j : Int) + 1))] ha fun a ha => ?_;refine jY (jJ ?_);replace hS := hS.pickN 5 [2, 3, 4, 1];have hq9 : (addL (rcN l f m) ((calledP k45 b).take j)).contains u = false := by rw [← asc_cont]; exact c13
   replace hS : Sat w0 w ((SX.blk b1 [.slice s.A s.n s.c] 30) :: (rI s21 (addL (rcN l f m) ((calledP k45 b).take (j + 1)))) :: (SX.row (.slice ro1.A ro1.n ro1.c) 3 1 (encJ (calledP k45 b))) :: (rI po1 (asc (addL (rcN l f m) ((calledP k45 b).take (j + 1))))) :: Rs) := by rw [addL_next hu, add1_no hq9]; rw [← asc_add]; exact hS
   exact ⟨_, by omega, j + 1, s21, po1, rfl, hjl, ha.keeps [2, 4, 7, 14, 15, 16, 17, 20, 21, 22, 23, 24, 25, 8, 6, 9, 5] _ rfl, hS⟩
  refine jK ha rfl (decide_eq_false c10) ?_
  refine wp_exit (qJ (qJ (in_x (in_n (jJ (jX [0, 1, 2] (jQ [(0, 18, iv (m : Int))] ha fun a ha => ?_)))))))
  refine xJ 19 ((m : Int) + 1) ha fun a ha => ?_
  refine jQ [(2, 7, iv ((m : Int) + 1))] ha fun a ha => ?_
  refine jY (jJ ?_)
  replace hS := hS.pickN 4 [0, 1, 3]
  have hje : j = (calledP k45 b).length := by omega
  rw [hje, List.take_length, ← rcN_next hy hb] at hS
  have hm2 : (rcN l f (m + 1))[m]? = some y := by rw [rcN_next hy hb]; exact addL_get _ _ hy
  have hm3 := (List.getElem?_eq_some_iff.1 hm2).1
  replace hS : Sat w0 w ((SX.blk b1 [.slice s.A s.n s.c] 30) :: (rI o2 (rcN l f (m + 1))) :: (rI os2 (asc (rcN l f (m + 1)))) :: Rs) := hS
  exact ⟨_, by omega, m + 1, o2, os2, rfl, hm3, (by omega), ha.keeps [2, 4, 6, 7, 5] _ rfl, hS⟩
 refine jK ha rfl (decide_eq_false c7) ?_
 refine wp_exit (qJ (qJ (in_x (jJ (wp_seq (jX [0, 1] (jQ [(0, 52, .slice os.A os.n os.c), (1, 4, .slice os.A os.n os.c)] ha fun a ha => ?_)))))))
 refine jY (jJ (wp_ret (jG ha (by kernel_rfl) (qK (t := 4) ha rfl) ?_)))
 have hE : reachP l f = asc (rcN l f m) := reach_at hml (by omega)
 rw [hE]
 exact ⟨os, rfl, hS.pickN 3 [2]⟩
abbrev Fd : Type := Int × Int × Int
def lt3 (x y : Fd) : Prop := x.1 < y.1 ∨ x.1 = y.1 ∧ (x.2.1 < y.2.1 ∨ x.2.1 = y.2.1 ∧ x.2.2 < y.2.2)
theorem lt3_irr (x : Fd) : ¬ lt3 x x := by unfold lt3; omega
theorem lt3_trans {x y z : Fd} (h : lt3 x y) (k : lt3 y z) : lt3 x z := by unfold lt3 at *; omega
theorem lt3_tot {x y : Fd} (h : ¬ lt3 y x) (k : x ≠ y) : lt3 x y := by
  obtain ⟨a, b, c⟩ := x
  obtain ⟨a', b', c'⟩ := y
  unfold lt3 at *
  simp only [ne_eq, Prod.mk.injEq, not_and] at k
  dsimp only at *
  by_cases h1 : a = a'
  · by_cases h2 : b = b'
    · have := k h1 h2; omega
    · omega
  · omega
theorem pw_ext : ∀ {l k : List Fd}, l.Pairwise lt3 → k.Pairwise lt3 → (∀ x, x ∈ l ↔ x ∈ k) → l = k := by
  intro l
  induction l with
  | nil =>
    intro k _ _ h;cases k with
    | nil => rfl
    | cons y k => exact absurd ((h y).2 (by simp)) (by simp)
  | cons x l ih =>
    intro k hl hk h;cases k with
    | nil => exact absurd ((h x).1 (by simp)) (by simp)
    | cons y k =>
      obtain ⟨l1, l2⟩ := List.pairwise_cons.1 hl;obtain ⟨k1, k2⟩ := List.pairwise_cons.1 hk
      have hxy : x = y := by
        rcases List.mem_cons.1 ((h x).1 (by simp)) with e | e
        · exact e
        · rcases List.mem_cons.1 ((h y).2 (by simp)) with e2 | e2
          · exact e2.symm
          · exact absurd (lt3_trans (l1 y e2) (k1 x e)) (lt3_irr x)
      subst hxy;refine congrArg (x :: ·) (ih l2 k2 fun z => ?_)
      constructor
      · intro hz
        rcases List.mem_cons.1 ((h z).1 (List.mem_cons_of_mem _ hz)) with e | e
        · subst e; exact absurd (l1 z hz) (lt3_irr z)
        · exact e
      · intro hz
        rcases List.mem_cons.1 ((h z).2 (List.mem_cons_of_mem _ hz)) with e | e
        · subst e; exact absurd (k1 z hz) (lt3_irr z)
        · exact e
def dfrB (l : List (List ST)) (f : Int) : Bool := l.any fun b => (numsOf [5] b).contains f
def fndB (l : List (List ST)) (r f a : Int) (b : List ST) (x : ST) : Bool :=
 if r = 1 then !((openL b [0]).contains a)
 else if r = 2 then decide (x.f0 = 7) && !dfrB l f
 else if r = 3 then decide (x.f0 = 9) && !dfrB l f
 else if r = 5 then decide (x.f0 = 11) && decide (x.f1 = a + 1)
 else if r = 6 then decide (x.f0 = 5) && (openL b (leadsP b.length x a)).contains a
 else if r = 7 then (decide (x.f0 = 4) || decide (x.f0 = 5)) && (reachP l x.f1).contains f
 else false
def rul : List Int := [1, 2, 3, 5, 6, 7]
def lintP (l : List (List ST)) (f a : Int) (b : List ST) (x : ST) : List Int := rul.filter fun r => fndB l r f a b x
theorem lintP_len (l : List (List ST)) (f a : Int) (b : List ST) (x : ST) : (lintP l f a b x).length ≤ 6 := List.length_filter_le _ _
theorem lintP_mem {l : List (List ST)} {f a r : Int} {b : List ST} {x : ST} : r ∈ lintP l f a b x ↔ r ∈ rul ∧ fndB l r f a b x = true := List.mem_filter
def dfrP (l : List (List ST)) : List Int := l.flatMap (calledP [5])
def dfrQ (l : List (List ST)) : List Int := asc (l.flatMap (numsOf [5]))
theorem dfrP_next {l : List (List ST)} {i : Nat} {b : List ST} (h : l[i]? = some b) : dfrP (l.take (i + 1)) = dfrP (l.take i) ++ calledP [5] b := by
 unfold dfrP; rw [List.take_add_one, h, List.flatMap_append]; simp
theorem dfrP_cont (l : List (List ST)) (f : Int) : (dfrP l).contains f = dfrB l f := by
 rw [Bool.eq_iff_iff, List.contains_iff_mem, dfrP, List.mem_flatMap, dfrB, List.any_eq_true]
 constructor
 · rintro ⟨b, hb, h⟩; exact ⟨b, hb, List.contains_iff_mem.2 (by unfold calledP at h; rwa [asc_mem] at h)⟩
 · rintro ⟨b, hb, h⟩; exact ⟨b, hb, by unfold calledP; rw [asc_mem]; exact List.contains_iff_mem.1 h⟩
theorem dfrQ_cont (l : List (List ST)) (f : Int) : (dfrQ l).contains f = dfrB l f := by
 rw [Bool.eq_iff_iff, List.contains_iff_mem, dfrQ, asc_mem, List.mem_flatMap, dfrB, List.any_eq_true]
 constructor
 · rintro ⟨b, hb, h⟩; exact ⟨b, hb, List.contains_iff_mem.2 h⟩
 · rintro ⟨b, hb, h⟩; exact ⟨b, hb, List.contains_iff_mem.1 h⟩
def dqN (l : List (List ST)) (i : Nat) (b : List ST) (j : Nat) : List Int := (l.take i).flatMap (numsOf [5]) ++ numsOf [5] (b.take j)
theorem dq_next {l : List (List ST)} {i : Nat} {b : List ST} (h : l[i]? = some b) : (l.take (i + 1)).flatMap (numsOf [5]) = dqN l i b b.length := by
 unfold dqN; rw [List.take_add_one, h, List.flatMap_append, List.take_length]; simp
theorem dq_zero (l : List (List ST)) (i : Nat) (b : List ST) : dqN l i b 0 = (l.take i).flatMap (numsOf [5]) := by unfold dqN; simp [numsOf]
theorem dq_yes {l : List (List ST)} {i j : Nat} {b : List ST} {x : ST} (h : b[j]? = some x) (hk : x.f0 = 5) : dqN l i b (j + 1) = dqN l i b j ++ [x.f1] := by
 unfold dqN; rw [numsOf_yes h (by rw [hk]; rfl), List.append_assoc]
theorem dq_no {l : List (List ST)} {i j : Nat} {b : List ST} {x : ST} (h : b[j]? = some x) (hk : ¬ x.f0 = 5) : dqN l i b (j + 1) = dqN l i b j := by
 unfold dqN; rw [numsOf_no h (by simpa using hk)]
def unu (l : List (List ST)) (f : Nat) : List Fd := if (reachP l 0).contains (f : Int) then [] else [((4 : Int), (f : Int), (0 : Int))]
theorem unu_len (l : List (List ST)) (f : Nat) : (unu l f).length ≤ 1 := by unfold unu; split <;> simp
def tagI (f a : Nat) (R : List Int) : List Fd := R.map fun r => (r, (f : Int), (a : Int))
def atI (l : List (List ST)) (f : Nat) (b : List ST) (a : Nat) : List Fd := match b[a]? with | some x => tagI f a (lintP l f a b x) | none => []
def bodI (l : List (List ST)) (f : Nat) (b : List ST) (n : Nat) : List Fd := (List.range n).flatMap (atI l f b)
def funI (l : List (List ST)) (f : Nat) : List Fd := match l[f]? with | some b => unu l f ++ bodI l f b b.length | none => []
def lntI (l : List (List ST)) (n : Nat) : List Fd := (List.range n).flatMap (funI l)
theorem bodI_next {l : List (List ST)} {f a : Nat} {b : List ST} {x : ST} (h : b[a]? = some x) : bodI l f b (a + 1) = bodI l f b a ++ tagI f a (lintP l f a b x) := by
 unfold bodI; rw [List.range_succ, List.flatMap_append]; simp [atI, h]
theorem lntI_next {l : List (List ST)} {f : Nat} {b : List ST} (h : l[f]? = some b) : lntI l (f + 1) = lntI l f ++ (unu l f ++ bodI l f b b.length) := by
 unfold lntI; rw [List.range_succ, List.flatMap_append]; simp [funI, h]
theorem tagI_next {f a i : Nat} {R : List Int} {r : Int} (h : R[i]? = some r) : tagI f a (R.take (i + 1)) = tagI f a (R.take i) ++ [(r, (f : Int), (a : Int))] := by
 unfold tagI; rw [List.take_add_one, h, List.map_append]; rfl
def atQ (l : List (List ST)) (r : Int) (f : Nat) (b : List ST) (a : Nat) : List Fd := match b[a]? with | some x => if fndB l r f a b x = true then [(r, (f : Int), (a : Int))] else [] | none => []
def bodQ (l : List (List ST)) (r : Int) (f : Nat) (b : List ST) (n : Nat) : List Fd := (List.range n).flatMap (atQ l r f b)
def unuQ (l : List (List ST)) (r : Int) (f : Nat) : List Fd := if r = 4 then unu l f else []
def funQ (l : List (List ST)) (r : Int) (f : Nat) : List Fd := match l[f]? with | some b => unuQ l r f ++ bodQ l r f b b.length | none => []
def rulQ (l : List (List ST)) (r : Int) (n : Nat) : List Fd := (List.range n).flatMap (funQ l r)
def lntQ (l : List (List ST)) (n : Nat) : List Fd := (List.range n).flatMap fun j : Nat => rulQ l ((j : Int) + 1) l.length
theorem bodQ_yes {l : List (List ST)} {r : Int} {f a : Nat} {b : List ST} {x : ST} (h : b[a]? = some x) (hf : fndB l r f a b x = true) : bodQ l r f b (a + 1) = bodQ l r f b a ++ [(r, (f : Int), (a : Int))] := by
 unfold bodQ; rw [List.range_succ, List.flatMap_append]; simp [atQ, h, hf]
theorem bodQ_no {l : List (List ST)} {r : Int} {f a : Nat} {b : List ST} {x : ST} (h : b[a]? = some x) (hf : fndB l r f a b x = false) : bodQ l r f b (a + 1) = bodQ l r f b a := by
 unfold bodQ; rw [List.range_succ, List.flatMap_append]; simp [atQ, h, hf]
theorem rulQ_next {l : List (List ST)} {r : Int} {f : Nat} {b : List ST} (h : l[f]? = some b) : rulQ l r (f + 1) = rulQ l r f ++ (unuQ l r f ++ bodQ l r f b b.length) := by
 unfold rulQ; rw [List.range_succ, List.flatMap_append]; simp [funQ, h]
theorem lntQ_next (l : List (List ST)) (j : Nat) : lntQ l (j + 1) = lntQ l j ++ rulQ l ((j : Int) + 1) l.length := by
 unfold lntQ; rw [List.range_succ, List.flatMap_append]; simp
theorem fm_len {α β : Type} {g : α → List β} {c : Nat} : ∀ (L : List α), (∀ x ∈ L, (g x).length ≤ c) → (L.flatMap g).length ≤ L.length * c
 | [], _ => by simp
 | x :: L, h => by
  have h1 := h x List.mem_cons_self
  have h2 := fm_len L fun y hy => h y (List.mem_cons_of_mem _ hy)
  rw [List.flatMap_cons, List.length_append, List.length_cons, Nat.succ_mul]
  omega
theorem bodI_len (l : List (List ST)) (f : Nat) (b : List ST) (n : Nat) : (bodI l f b n).length ≤ n * 6 := by
 have := fm_len (g := atI l f b) (c := 6) (List.range n) fun a _ => by
  unfold atI; split
  · unfold tagI; rw [List.length_map]; exact lintP_len ..
  · exact Nat.zero_le _
 rwa [List.length_range] at this
theorem lntI_len {l : List (List ST)} (h8 : ∀ b ∈ l, b.length ≤ 8) (n : Nat) : (lntI l n).length ≤ n * 49 := by
  have := fm_len (g := funI l) (c := 49) (List.range n) fun f _ => by
    unfold funI; split
    · rename_i b hb
      have h1 := bodI_len l f b b.length;have h2 := unu_len l f;have h3 := h8 b (List.mem_of_getElem? hb);rw [List.length_append]; omega
    · exact Nat.zero_le _
  rwa [List.length_range] at this
theorem bodQ_len (l : List (List ST)) (r : Int) (f : Nat) (b : List ST) (n : Nat) : (bodQ l r f b n).length ≤ n * 1 := by
 have := fm_len (g := atQ l r f b) (c := 1) (List.range n) fun a _ => by
  unfold atQ; split
  · split <;> simp
  · exact Nat.zero_le _
 rwa [List.length_range] at this
theorem unuQ_len (l : List (List ST)) (r : Int) (f : Nat) : (unuQ l r f).length ≤ 1 := by unfold unuQ; split; exact unu_len l f; exact Nat.zero_le _
theorem rulQ_len {l : List (List ST)} (h8 : ∀ b ∈ l, b.length ≤ 8) (r : Int) (n : Nat) : (rulQ l r n).length ≤ n * 9 := by
  have := fm_len (g := funQ l r) (c := 9) (List.range n) fun f _ => by
    unfold funQ; split
    · rename_i b hb
      have h1 := bodQ_len l r f b b.length;have h2 := unuQ_len l r f;have h3 := h8 b (List.mem_of_getElem? hb);rw [List.length_append]; omega
    · exact Nat.zero_le _
  rwa [List.length_range] at this
theorem lntQ_len {l : List (List ST)} (h8 : ∀ b ∈ l, b.length ≤ 8) (h6 : l.length ≤ 6) (n : Nat) : (lntQ l n).length ≤ n * 54 := by
 have := fm_len (g := fun j : Nat => rulQ l ((j : Int) + 1) l.length) (c := 54) (List.range n) fun j _ => by
  have := rulQ_len h8 ((j : Int) + 1) l.length; omega
 rwa [List.length_range] at this
theorem mem_unu {l : List (List ST)} {f : Nat} {z : Fd} : z ∈ unu l f ↔ (reachP l 0).contains (f : Int) = false ∧ z = (4, (f : Int), 0) := by
 unfold unu
 cases h : (reachP l 0).contains (f : Int) <;> simp
theorem mem_bodI {l : List (List ST)} {f n : Nat} {b : List ST} {z : Fd} : z ∈ bodI l f b n ↔ ∃ a, a < n ∧ ∃ x, b[a]? = some x ∧ ∃ r, r ∈ rul ∧ fndB l r f a b x = true ∧ z = (r, (f : Int), (a : Int)) := by
 unfold bodI
 simp only [List.mem_flatMap, List.mem_range]
 refine exists_congr fun a => and_congr_right fun _ => ?_
 unfold atI
 cases h : b[a]? with
 | none => simp
 | some x =>
  simp only [tagI, List.mem_map, lintP_mem, Option.some.injEq]
  constructor
  · rintro ⟨r, ⟨h1, h2⟩, rfl⟩; exact ⟨x, rfl, r, h1, h2, rfl⟩
  · rintro ⟨_, rfl, r, h1, h2, rfl⟩; exact ⟨r, ⟨h1, h2⟩, rfl⟩
theorem mem_bodQ {l : List (List ST)} {r : Int} {f n : Nat} {b : List ST} {z : Fd} : z ∈ bodQ l r f b n ↔ ∃ a, a < n ∧ ∃ x, b[a]? = some x ∧ fndB l r f a b x = true ∧ z = (r, (f : Int), (a : Int)) := by
 unfold bodQ
 simp only [List.mem_flatMap, List.mem_range]
 refine exists_congr fun a => and_congr_right fun _ => ?_
 unfold atQ
 cases h : b[a]? with
 | none => simp
 | some x =>
  simp only [Option.some.injEq]
  cases hf : fndB l r f a b x with
  | true =>
   rw [if_pos rfl, List.mem_singleton]
   constructor
   · rintro rfl; exact ⟨x, rfl, hf, rfl⟩
   · rintro ⟨_, rfl, _, rfl⟩; rfl
  | false =>
   constructor
   · intro h; simp at h
   · rintro ⟨_, rfl, h2, _⟩; rw [hf] at h2; cases h2
def FoundAt (l : List (List ST)) (z : Fd) : Prop := ∃ f b, l[f]? = some b ∧ (z ∈ unu l f ∨ z ∈ bodI l f b b.length)
theorem mem_lntI {l : List (List ST)} {z : Fd} : z ∈ lntI l l.length ↔ FoundAt l z := by
  unfold lntI FoundAt
  simp only [List.mem_flatMap, List.mem_range]
  constructor
  · rintro ⟨f, hf, hz⟩
    obtain ⟨b, hb⟩ : ∃ b, l[f]? = some b := ⟨_, List.getElem?_eq_getElem hf⟩;refine ⟨f, b, hb, ?_⟩;simp only [funI, hb, List.mem_append] at hz;exact hz
  · rintro ⟨f, b, hb, hz⟩
    refine ⟨f, (List.getElem?_eq_some_iff.1 hb).1, ?_⟩;simp only [funI, hb, List.mem_append];exact hz
theorem mem_rulQ {l : List (List ST)} {r : Int} {z : Fd} : z ∈ rulQ l r l.length ↔ ∃ f b, l[f]? = some b ∧ (z ∈ unuQ l r f ∨ z ∈ bodQ l r f b b.length) := by
  unfold rulQ
  simp only [List.mem_flatMap, List.mem_range]
  constructor
  · rintro ⟨f, hf, hz⟩
    obtain ⟨b, hb⟩ : ∃ b, l[f]? = some b := ⟨_, List.getElem?_eq_getElem hf⟩;refine ⟨f, b, hb, ?_⟩;simp only [funQ, hb, List.mem_append] at hz;exact hz
  · rintro ⟨f, b, hb, hz⟩
    refine ⟨f, (List.getElem?_eq_some_iff.1 hb).1, ?_⟩;simp only [funQ, hb, List.mem_append];exact hz
theorem rul_lt {r : Int} (h : r ∈ rul) : ∃ j : Nat, j < 7 ∧ r = (j : Int) + 1 := by
 simp only [rul, List.mem_cons, List.not_mem_nil, or_false] at h
 exact ⟨(r - 1).toNat, by omega, by omega⟩
theorem fnd_rul {l : List (List ST)} {r f a : Int} {b : List ST} {x : ST} (h : fndB l r f a b x = true) : r ∈ rul := by
  unfold fndB at h
  simp only [rul, List.mem_cons, List.not_mem_nil, or_false]
  by_cases h1 : r = 1
  · omega
  · by_cases h2 : r = 2
    · omega
    · by_cases h3 : r = 3
      · omega
      · by_cases h5 : r = 5
        · omega
        · by_cases h6 : r = 6
          · omega
          · by_cases h7 : r = 7
            · omega
            · rw [if_neg h1, if_neg h2, if_neg h3, if_neg h5, if_neg h6, if_neg h7] at h; cases h
theorem mem_lntQ {l : List (List ST)} {z : Fd} : z ∈ lntQ l 7 ↔ FoundAt l z := by
  unfold lntQ FoundAt
  simp only [List.mem_flatMap, List.mem_range, mem_rulQ]
  constructor
  · rintro ⟨j, hj, f, b, hb, h | h⟩
    · unfold unuQ at h
      split at h
      · exact ⟨f, b, hb, .inl h⟩
      · cases h
    · rw [mem_bodQ] at h
      obtain ⟨a, ha, x, hx, h1, rfl⟩ := h;exact ⟨f, b, hb, .inr (mem_bodI.2 ⟨a, ha, x, hx, _, fnd_rul h1, h1, rfl⟩)⟩
  · rintro ⟨f, b, hb, h | h⟩
    · exact ⟨3, by omega, f, b, hb, .inl (by unfold unuQ; rw [if_pos (by decide)]; exact h)⟩
    · rw [mem_bodI] at h
      obtain ⟨a, ha, x, hx, r, hr, h1, rfl⟩ := h;obtain ⟨j, hj, rfl⟩ := rul_lt hr;exact ⟨j, hj, f, b, hb, .inr (mem_bodQ.2 ⟨a, ha, x, hx, h1, rfl⟩)⟩
theorem range_lt (n : Nat) : (List.range n).Pairwise (· < ·) := List.pairwise_lt_range
theorem bodQ_pw (l : List (List ST)) (r : Int) (f : Nat) (b : List ST) (n : Nat) : (bodQ l r f b n).Pairwise lt3 := by
  unfold bodQ
  refine List.pairwise_flatMap.2 ⟨fun a _ => ?_, (range_lt n).imp fun h x hx y hy => ?_⟩
  · unfold atQ; split
    · split <;> simp
    · simp
  · rename_i a a'
    have e1 : ∀ {a : Nat} {x : Fd}, x ∈ atQ l r f b a → x = (r, (f : Int), (a : Int)) := by
      intro a x hx;unfold atQ at hx
      split at hx
      · split at hx
        · exact List.mem_singleton.1 hx
        · cases hx
      · cases hx
    rw [e1 hx, e1 hy];unfold lt3; dsimp only; omega
theorem funQ_mem {l : List (List ST)} {r : Int} {f : Nat} {z : Fd} (h : z ∈ funQ l r f) : z.1 = r ∧ z.2.1 = (f : Int) := by
  unfold funQ at h
  split at h
  · rcases List.mem_append.1 h with h | h
    · unfold unuQ at h
      split at h
      · rename_i h4; rw [mem_unu] at h; rw [h.2]; exact ⟨h4.symm, rfl⟩
      · cases h
    · obtain ⟨a, _, x, _, _, rfl⟩ := mem_bodQ.1 h
      exact ⟨rfl, rfl⟩
  · cases h
theorem funQ_pw (l : List (List ST)) (r : Int) (f : Nat) : (funQ l r f).Pairwise lt3 := by
  unfold funQ
  split
  · rename_i b hb
    by_cases h4 : r = 4
    · have h0 : bodQ l r f b b.length = [] := by
        refine List.eq_nil_iff_forall_not_mem.2 fun z hz => ?_;obtain ⟨a, _, x, _, h1, _⟩ := mem_bodQ.1 hz;subst h4;have := fnd_rul h1
        simp [rul] at this
      rw [h0, List.append_nil];unfold unuQ unu;rw [if_pos h4]
      split <;> simp
    · have h0 : unuQ l r f = [] := if_neg h4
      rw [h0, List.nil_append];exact bodQ_pw l r f b _
  · simp
theorem lntQ_pw (l : List (List ST)) (n : Nat) : (lntQ l n).Pairwise lt3 := by
  unfold lntQ
  refine List.pairwise_flatMap.2 ⟨fun j _ => ?_, (range_lt n).imp fun h x hx y hy => ?_⟩
  · unfold rulQ
    refine List.pairwise_flatMap.2 ⟨fun f _ => funQ_pw l _ f, (range_lt _).imp fun h x hx y hy => ?_⟩;have h1 := funQ_mem hx;have h2 := funQ_mem hy;unfold lt3; omega
  · obtain ⟨f, _, h1⟩ := List.mem_flatMap.1 hx
    obtain ⟨g, _, h2⟩ := List.mem_flatMap.1 hy;have h1 := funQ_mem h1;have h2 := funQ_mem h2;unfold lt3; omega
theorem lintP_nd (l : List (List ST)) (f a : Int) (b : List ST) (x : ST) : (lintP l f a b x).Nodup := List.Pairwise.filter _ (show rul.Nodup by decide)
theorem bodI_nd (l : List (List ST)) (f : Nat) (b : List ST) (n : Nat) : (bodI l f b n).Nodup := by
  unfold bodI
  refine List.pairwise_flatMap.2 ⟨fun a _ => ?_, (range_lt n).imp fun h x hx y hy => ?_⟩
  · unfold atI; split
    · unfold tagI
      refine List.pairwise_map.2 ((lintP_nd ..).imp fun h e => h ?_);exact congrArg Prod.fst e
    · simp
  · have e1 : ∀ {a : Nat} {x : Fd}, x ∈ atI l f b a → x.2.2 = (a : Int) := by
      intro a x hx;unfold atI at hx
      split at hx
      · obtain ⟨r, _, rfl⟩ := List.mem_map.1 hx; rfl
      · cases hx
    intro e;have h1 := e1 hx;have h2 := e1 hy;rw [e] at h1
    omega
theorem lntI_nd (l : List (List ST)) (n : Nat) : (lntI l n).Nodup := by
  unfold lntI
  refine List.pairwise_flatMap.2 ⟨fun f _ => ?_, (range_lt n).imp fun h x hx y hy => ?_⟩
  · unfold funI; split
    · rename_i b hb
      refine List.nodup_append.2 ⟨?_, bodI_nd .., fun x hx y hy e => ?_⟩
      · unfold unu; split <;> simp
      · rw [mem_unu] at hx
        obtain ⟨a, _, s, _, r, hr, _, rfl⟩ := mem_bodI.1 hy;rw [hx.2] at e;have : (4 : Int) = r := congrArg Prod.fst e;subst this
        simp [rul] at hr
    · simp
  · have e1 : ∀ {f : Nat} {x : Fd}, x ∈ funI l f → x.2.1 = (f : Int) := by
      intro f x hx;unfold funI at hx
      split at hx
      · rcases List.mem_append.1 hx with hx | hx
        · rw [mem_unu] at hx; rw [hx.2]
        · obtain ⟨a, _, s, _, r, _, _, rfl⟩ := mem_bodI.1 hx; rfl
      · cases hx
    intro e;have h1 := e1 hx;have h2 := e1 hy;rw [e] at h1
    omega
theorem lnt_sorted {l : List (List ST)} {L : List Fd} (hp : L.Perm (lntI l l.length)) (hs : ∀ i j : Nat, i < j → ∀ x y, L[i]? = some x → L[j]? = some y → ¬ lt3 y x) : L = lntQ l 7 := by
 have hnd : L.Nodup := hp.nodup_iff.2 (lntI_nd l _)
 refine pw_ext ?_ (lntQ_pw l 7) fun x => by rw [hp.mem_iff, mem_lntI, mem_lntQ]
 rw [List.pairwise_iff_getElem]
 intro i j hi hj hij
 have h1 : L[i]? = some L[i] := List.getElem?_eq_getElem hi
 have h2 : L[j]? = some L[j] := List.getElem?_eq_getElem hj
 refine lt3_tot (hs i j hij _ _ h1 h2) fun e => ?_
 exact (List.pairwise_iff_getElem.1 hnd i j hi hj hij) e
def lintR (l : List (List ST)) : List Fd × Bool := if programB l = true then (lntQ l 7, true) else ([], false)
theorem lintR_yes {l : List (List ST)} (h : programB l = true) : lintR l = (lntQ l 7, true) := if_pos h
theorem lintR_no {l : List (List ST)} (h : programB l = false) : lintR l = ([], false) := by unfold lintR; rw [h]; rfl
theorem prog_short {l : List (List ST)} (h : programB l = true) : (∀ b ∈ l, b.length ≤ 8) ∧ l.length ≤ 6 := by
 refine ⟨fun b hb => (okJ_of h hb).2, ?_⟩
 simp only [programB, Bool.and_eq_true, decide_eq_true_eq] at h
 exact h.1.2
theorem lintR_len (l : List (List ST)) : (lintR l).1.length ≤ 100000 := by
  by_cases h : programB l = true
  · rw [lintR_yes h]
    have h1 := prog_short h;have h2 := lntQ_len h1.1 h1.2 7;exact Nat.le_trans h2 (by decide)
  · rw [Bool.not_eq_true] at h
    rw [lintR_no h]; exact Nat.zero_le _
section
variable {l : List (List ST)} {f a : Int} {b : List ST} {x : ST}
theorem fnd_1 : fndB l 1 f a b x = !((openL b [0]).contains a) := by unfold fndB; rw [if_pos rfl]
theorem fnd_2 : fndB l 2 f a b x = (decide (x.f0 = 7) && !dfrB l f) := by unfold fndB; rw [if_neg (by decide), if_pos rfl]
theorem fnd_3 : fndB l 3 f a b x = (decide (x.f0 = 9) && !dfrB l f) := by unfold fndB; rw [if_neg (by decide), if_neg (by decide), if_pos rfl]
theorem fnd_5 : fndB l 5 f a b x = (decide (x.f0 = 11) && decide (x.f1 = a + 1)) := by unfold fndB; rw [if_neg (by decide), if_neg (by decide), if_neg (by decide), if_pos rfl]
theorem fnd_6 : fndB l 6 f a b x = (decide (x.f0 = 5) && (openL b (leadsP b.length x a)).contains a) := by unfold fndB; rw [if_neg (by decide), if_neg (by decide), if_neg (by decide), if_neg (by decide), if_pos rfl]
theorem fnd_7 : fndB l 7 f a b x = ((decide (x.f0 = 4) || decide (x.f0 = 5)) && (reachP l x.f1).contains f) := by unfold fndB; rw [if_neg (by decide), if_neg (by decide), if_neg (by decide), if_neg (by decide), if_neg (by decide), if_pos rfl]
def lintF (l : List (List ST)) (f a : Int) (b : List ST) (x : ST) (k : Nat) : List Int := (rul.take k).filter fun r => fndB l r f a b x
theorem lintF_1y (h : (openL b [0]).contains a = true) : lintF l f a b x 1 = [] := by
 show List.filter _ [(1 : Int)] = _
 rw [List.filter_cons, fnd_1, h]; rfl
theorem lintF_1n (h : (openL b [0]).contains a = false) : lintF l f a b x 1 = [1] := by
 show List.filter _ [(1 : Int)] = _
 rw [List.filter_cons, fnd_1, h]; rfl
theorem lintF_5 : lintF l f a b x 5 = lintF l f a b x 1 ++ [2, 3, 5, 6].filter fun r => fndB l r f a b x := by
 unfold lintF; rw [← List.filter_append]; rfl
theorem four (p : Int → Bool) : [(2 : Int), 3, 5, 6].filter p = (if p 2 = true then [2] else []) ++ ((if p 3 = true then [3] else []) ++ ((if p 5 = true then [5] else []) ++ (if p 6 = true then [6] else []))) := by
 simp only [List.filter_cons, List.filter_nil]
 split <;> split <;> split <;> split <;> rfl
theorem sw (l : List (List ST)) (f a : Int) (b : List ST) (x : ST) : lintF l f a b x 5 = lintF l f a b x 1 ++ ((if (decide (x.f0 = 7) && !dfrB l f) = true then [2] else []) ++ ((if (decide (x.f0 = 9) && !dfrB l f) = true then [3] else []) ++ ((if (decide (x.f0 = 11) && decide (x.f1 = a + 1)) = true then [5] else []) ++ (if (decide (x.f0 = 5) && (openL b (leadsP b.length x a)).contains a) = true then [6] else [])))) := by
 rw [lintF_5, four, fnd_2, fnd_3, fnd_5, fnd_6]
theorem sw_7y (h : x.f0 = 7) (k : dfrB l f = false) : lintF l f a b x 5 = lintF l f a b x 1 ++ [2] := by rw [sw, k]; simp [h]
theorem sw_9y (h : x.f0 = 9) (k : dfrB l f = false) : lintF l f a b x 5 = lintF l f a b x 1 ++ [3] := by rw [sw, k]; simp [h]
theorem sw_11y (h : x.f0 = 11) (k : x.f1 = a + 1) : lintF l f a b x 5 = lintF l f a b x 1 ++ [5] := by rw [sw]; simp [h, k]
theorem sw_5y (h : x.f0 = 5) (k : (openL b (leadsP b.length x a)).contains a = true) : lintF l f a b x 5 = lintF l f a b x 1 ++ [6] := by rw [sw, k]; simp [h]
theorem sw_no (h7 : x.f0 = 7 → dfrB l f = true) (h9 : x.f0 = 9 → dfrB l f = true) (h11 : x.f0 = 11 → ¬ x.f1 = a + 1) (h5 : x.f0 = 5 → (openL b (leadsP b.length x a)).contains a = false) : lintF l f a b x 5 = lintF l f a b x 1 := by
 have e : ∀ {p q : Bool} {r : Int}, (p = true → q = false) → (if (p && q) = true then [r] else []) = ([] : List Int) := by
  intro p q r h
  cases p with
  | false => rfl
  | true => rw [h rfl]; rfl
 rw [sw, e fun h => by rw [h7 (of_decide_eq_true h)]; rfl, e fun h => by rw [h9 (of_decide_eq_true h)]; rfl, e fun h => decide_eq_false (h11 (of_decide_eq_true h)), e fun h => h5 (of_decide_eq_true h)]
 simp
theorem lintF_6 : lintP l f a b x = lintF l f a b x 5 ++ [(7 : Int)].filter fun r => fndB l r f a b x := by
 unfold lintF lintP; rw [← List.filter_append]; rfl
theorem callB_eq (x : ST) : (decide (x.f0 = 4) || decide (x.f0 = 5)) = callB x := rfl
theorem en_y (h : callB x = true) (k : (reachP l x.f1).contains f = true) : lintP l f a b x = lintF l f a b x 5 ++ [7] := by rw [lintF_6, List.filter_cons, fnd_7, callB_eq, h, k]; rfl
theorem en_n1 (h : callB x = false) : lintP l f a b x = lintF l f a b x 5 := by rw [lintF_6, List.filter_cons, fnd_7, callB_eq, h, Bool.false_and]; simp
theorem en_n2 (k : (reachP l x.f1).contains f = false) : lintP l f a b x = lintF l f a b x 5 := by rw [lintF_6, List.filter_cons, fnd_7, k, Bool.and_false]; simp
end
theorem unu_yes {l : List (List ST)} {f : Nat} (h : (reachP l 0).contains (f : Int) = true) : unu l f = [] := if_pos h
theorem unu_no {l : List (List ST)} {f : Nat} (h : (reachP l 0).contains (f : Int) = false) : unu l f = [((4 : Int), (f : Int), (0 : Int))] := by unfold unu; rw [h]; rfl
theorem unuQ_yes {l : List (List ST)} {f : Nat} {r : Int} (h : r = 4) (k : (reachP l 0).contains (f : Int) = false) : unuQ l r f = [(r, (f : Int), (0 : Int))] := by unfold unuQ; rw [if_pos h, unu_no k, h]
theorem unuQ_in {l : List (List ST)} {f : Nat} {r : Int} (k : (reachP l 0).contains (f : Int) = true) : unuQ l r f = [] := by unfold unuQ; rw [unu_yes k]; split <;> rfl
theorem unuQ_no {l : List (List ST)} {f : Nat} {r : Int} (h : ¬ r = 4) : unuQ l r f = [] := if_neg h
theorem tagI_len (f a : Nat) (l : List (List ST)) (u v : Int) (b : List ST) (x : ST) (k : Nat) : (tagI f a ((lintP l u v b x).take k)).length ≤ 6 := by
 unfold tagI; rw [List.length_map, List.length_take]; have := lintP_len l u v b x; omega
theorem asc_nil : asc [] = [] := IncI.ext (asc_inc _) List.Pairwise.nil fun x => asc_mem [] x
theorem dq_len {l : List (List ST)} (h8 : ∀ b ∈ l, b.length ≤ 8) (h6 : l.length ≤ 6) (i : Nat) {b : List ST} (hb : b.length ≤ 8) (j : Nat) : (dqN l i b j).length ≤ 56 := by
 have h1 := fm_len (g := numsOf [5]) (c := 8) (l.take i) fun c hc => Nat.le_trans (numsOf_len [5] c) (h8 c (List.mem_of_mem_take hc))
 have h2 := numsOf_len [5] (b.take j)
 rw [List.length_take] at h1 h2
 unfold dqN
 rw [List.length_append]
 omega
theorem dfrP_len {l : List (List ST)} (h8 : ∀ b ∈ l, b.length ≤ 8) (h6 : l.length ≤ 6) (i : Nat) : (dfrP (l.take i)).length ≤ 48 := by
 have h1 := fm_len (g := calledP [5]) (c := 8) (l.take i) fun c hc => Nat.le_trans (calledP_len [5] c) (h8 c (List.mem_of_mem_take hc))
 rw [List.length_take] at h1
 unfold dfrP
 omega
theorem leads_rng {b : List ST} {x : ST} {a : Int} (hok : okJ b) (ha : 0 ≤ a ∧ a < (b.length : Int)) (hx : b[a.toNat]? = some x) : ∀ y ∈ leadsP b.length x a, 0 ≤ y ∧ y ≤ (b.length : Int) := by
 intro y hy
 refine leadsAt_rng hok ha.1 ha.2 ?_
 rw [leadsAt_at hx]; exact hy
theorem inc_nodup {l : List Int} (h : IncI l) : l.Nodup := h.imp fun h e => by omega
theorem leads_nd (n : Nat) (x : ST) (a : Int) : (leadsP n x a).Nodup := by
  unfold leadsP
  split
  · simp
  · split
    · exact inc_nodup (asc_inc _)
    · simp
theorem rch_cont {b : List ST} {L R : List Int} {a : Int} (hok : okJ b) (hL : ∀ y ∈ L, 0 ≤ y ∧ y ≤ (b.length : Int)) (hR : ∀ x, x ∈ R ↔ Rch b L x) (ha : a < (b.length : Int)) : R.contains a = (openL b L).contains a := by
 rw [Bool.eq_iff_iff, List.contains_iff_mem, List.contains_iff_mem, hR, openL_mem hok fun y hy => (hL y hy).1]
 exact ⟨fun h => ⟨h, ha⟩, fun h => h.1⟩
theorem bool_eq {P : Program} {F : FuncId} {args : Array Value} {w0 w : World} {Rs : List Asn} {b c : Bool} (h : b = c) (k : Calls P F args w (Ret fun r w' => r = .bool b ∧ Sat w0 w' Rs)) : Calls P F args w (Ret fun r w' => r = .bool c ∧ Sat w0 w' Rs) := by subst h; exact k
end Go.Proofs.Ytpenhegoilccoaa.G
