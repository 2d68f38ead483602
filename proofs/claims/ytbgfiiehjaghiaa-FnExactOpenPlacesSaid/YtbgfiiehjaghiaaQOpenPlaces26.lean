/- What the claim FnExactOpenPlaces rests on, part 26 of 27; the last part proves it: for every input the law answers true, and its arguments read behind the call as before it. No condition. -/
import Derived.Test.YtbgfiiehjaghiaaQOpenPlaces19
import Derived.Test.YtbgfiiehjaghiaaQOpenPlaces21
import Derived.Test.YtbgfiiehjaghiaaQOpenPlaces24
import Derived.Test.YtbgfiiehjaghiaaQOpenPlaces25
set_option linter.unusedSimpArgs false
set_option linter.unusedVariables false
set_option maxRecDepth 20000
set_option maxHeartbeats 1000000
namespace Go.Proofs.Ytbgfiiehjaghiaa.G
open Go.RowKit Go.Proofs.Ytbgfiiehjaghiaa.SX Go.Proofs.YtbgfiiehjaghiaaW.PrintWords Go.Proofs.YtbgfiiehjaghiaaW.PrintLast Go.Proofs.YtbgfiiehjaghiaaW.PrintMore
theorem okJ_of {l : List (List ST)} {b : List ST} (h : programB l = true) (hb : b ∈ l) : okJ b ∧ b.length ≤ 8 := by
  have hP := progOk_of h
  refine ⟨fun x hx h11 => ?_, ?_⟩
  · exact ((hP.steps (b.map toStp) (List.mem_map_of_mem hb) (toStp x) (List.mem_map_of_mem hx)).j h11).1
  · have := hP.short (b.map toStp) (List.mem_map_of_mem hb)
    rwa [List.length_map] at this
theorem okF_prog {l : List (List ST)} {f : Int} (h : okF l f = true) : programB l = true := by
 rw [okF, Bool.and_eq_true] at h
 exact h.1
theorem take_next' {l : List Int} {i : Nat} {y : Int} (h : l[i]? = some y) : l.take (i + 1) = l.take i ++ [y] := by rw [List.take_add_one, h]; rfl
theorem putL_next {l o : List Int} {i : Nat} {y : Int} (h : l[i]? = some y) : putL o (l.take (i + 1)) = put1 (putL o (l.take i)) y := by rw [take_next' h]; unfold putL; rw [List.foldl_append]; rfl
theorem putL_len : ∀ (l o : List Int), (putL o l).length ≤ o.length + l.length
 | [], o => Nat.le_refl _
 | x :: l, o => by
  have h1 := putL_len l (put1 o x)
  have h2 := put1_len x o
  show (putL (put1 o x) l).length ≤ _
  simp only [List.length_cons]
  omega
theorem code87 : Try.f87.body = some (Code.seq (cr Try.f87 0 false) (Code.seq (cr Try.f87 1 false) Code.ret)) := by kernel_rfl
theorem ocont_sat0 {w0 : World} {se : Sl} {es : List Int} {x : Int} (hre : RdI w0 se es) :
  Calls Try.prog 87 #[.slice se.A se.n se.c, .int .i64 x] w0 (Ret fun r w' => r = .bool (es.contains x) ∧ Sat w0 w' []) := by
 have hS : Sat w0 w0 [] := Sat.start w0
 have hxx := idxI_le es x
 have hbig := hre.big
 refine enter (n := 9) Try.func87 code87 (by kernel_rfl) (Nat.le_of_ble_eq_true rfl) (fun a ha => ?_)
 replace ha : Has 9 [(0, .slice se.A se.n se.c), (1, iv x)] a := ha
 refine wp_seq (jX [0] (jY [(0, 4, .bool false)] ha fun a ha => ?_))
 refine jZ (jJ (wp_seq (jX [0, 1, 2, 3, 4] (jY [(0, 5, .slice se.A se.n se.c), (1, 6, iv x)] ha fun a ha => ?_))))
 refine jU (qX 7 (vs := [.slice se.A se.n se.c, iv x]) ha (bidx_sat hS (hre.sat hS)) fun v1 w a hp2 ha => ?_)
 obtain ⟨rfl, hS⟩ := hp2
 refine jY [(3, 8, .bool (decide ((idxI es x) ≥ 0))), (4, 4, .bool (decide ((idxI es x) ≥ 0)))] ha fun a ha => ?_
 refine jZ (jJ (wp_ret (jH ha (by kernel_rfl) (qK (t := 4) ha rfl) ?_)))
 have hE : es.contains x = decide ((idxI es x) ≥ 0) := by rw [Bool.eq_iff_iff, List.contains_iff_mem, decide_eq_true_iff]; exact idxI_mem.symm
 rw [hE]
 exact ⟨rfl, hS⟩
theorem ocont_sat {w0 w : World} {Rs : List Asn} {s : Sl} {l : List Int} (hS : Sat w0 w Rs) (hr : RdI w s l) (x : Int) :
  Calls Try.prog 87 #[.slice s.A s.n s.c, .int .i64 x] w (Ret fun r w' => r = .bool (l.contains x) ∧ Sat w0 w' Rs) := lift0 hS (ocont_sat0 hr)
theorem code136 : Try.f136.body = some (Code.seq (cr Try.f136 0 false) (Code.seq (cr Try.f136 1 false) Code.ret)) := by kernel_rfl
theorem own_sat {w0 w : World} {Rs : List Asn} {s2 : Sl} {ys : List Int} (hS : Sat w0 w (SX.row (.slice s2.A s2.n s2.c) 3 1 (SX.encI ys) :: Rs)) (hyl : ys.length ≤ 1000000) :
  Calls Try.prog 136 #[.slice s2.A s2.n s2.c] w (Ret fun r w' => ∃ o : Sl, r = .slice o.A o.n o.c ∧ Sat w0 w' (SX.row (.slice o.A o.n o.c) 3 1 (SX.encI ys) :: SX.row (.slice s2.A s2.n s2.c) 3 1 (SX.encI ys) :: Rs)) := by
 refine enter (n := 6) Try.func136 code136 (by kernel_rfl) (Nat.le_of_ble_eq_true rfl) (fun a ha => ?_)
 replace ha : Has 6 [(0, .slice s2.A s2.n s2.c)] a := ha
 refine wp_seq (jX [0] (jY [(0, 2, .slice none 0 0)] ha fun a ha => ?_))
 refine jZ (jJ (wp_seq (jX [0, 1, 2, 3] (jU (qW 3 [] 3 (fun b => .slice (some ⟨b, 0, none⟩) 0 0) ha hS fun b1 w a hb2 hS ha => ?_)))))
 refine jY [(1, 4, .slice s2.A s2.n s2.c)] ha fun a ha => ?_
 replace hS := hS.blk0 1 0 rfl
 refine jU (o_appI (xs := []) (s2 := s2) (z := iv 0) (bytes := 8) 0 1 ha (by decide) (qH (op := (Op.call { callee := (Callee.builtin Builtin.append), args := #[(Operand.tmp 3), (Operand.tmp 4)], argTypes := #[37, 37] })) (d := some 5) (ty := 37)) rfl rfl (by kernel_rfl) (by kernel_rfl) rfl hS rfl rfl (by simp only [List.length_nil]; omega) (by decide) fun s3 w a hS ha => ?_)
 refine jY [(3, 2, .slice s3.A s3.n s3.c)] ha fun a ha => ?_
 refine jZ (jJ (wp_ret (jH ha (by kernel_rfl) (qK (t := 2) ha rfl) ?_)))
 replace hS : Sat w0 w ((rI s3 ([] ++ ys)) :: (rI s2 ys) :: Rs) := hS
 exact ⟨s3, rfl, hS⟩
theorem code81 : Try.f81.body = some (Code.seq (cr Try.f81 0 false) (Code.seq (cr Try.f81 1 false) (Code.seq (Code.block 0 (Code.loop (Code.seq (Code.seq (cr Try.f81 2 false) (Code.cond (Operand.tmp 10) Code.skip (Code.exit 0))) (Code.block 1 (Code.seq (cr Try.f81 3 false) (Code.seq (cr Try.f81 4 false) (Code.seq (cr Try.f81 5 false) (Code.cond (Operand.tmp 25) (cr Try.f81 6 false) Code.skip)))))))) (Code.seq (cr Try.f81 7 false) Code.ret)))) := by kernel_rfl
theorem comes_sat {w0 w : World} {Rs : List Asn} {sb sa : Sl} {b : List ST} {L0 : List Int} (hS : Sat w0 w (SX.row (.slice sa.A sa.n sa.c) 3 1 (SX.encI L0) :: Rs)) (hrb : RdE cT 3 w0 sb b) (hok : okJ b) (hb1 : b.length ≤ 1048576) (hL0 : ∀ x ∈ L0, 0 ≤ x) (hL : L0.length ≤ 100) (hb8 : b.length ≤ 8) :
  Calls Try.prog 81 #[.slice sb.A sb.n sb.c, .slice sa.A sa.n sa.c] w (Ret fun r w' => ∃ o : Sl, r = .slice o.A o.n o.c ∧ Sat w0 w' (SX.row (.slice o.A o.n o.c) 3 1 (SX.encI (openL b L0)) :: Rs)) := by
 have hsb := hrb.len
 refine enter (n := 38) Try.func81 code81 (by kernel_rfl) (Nat.le_of_ble_eq_true rfl) (fun a ha => ?_)
 replace ha : Has 38 [(0, .slice sb.A sb.n sb.c), (1, .slice sa.A sa.n sa.c)] a := ha
 refine wp_seq (jX [0] (jY [(0, 4, .slice none 0 0)] ha fun a ha => ?_))
 refine jZ (jJ (wp_seq (jX [0, 1] (jU (qW 7 [] 3 (fun b => .slice (some ⟨b, 0, none⟩) 0 0) ha hS fun b1 w a hb2 hS ha => ?_)))))
 refine jY [(1, 5, .slice (some ⟨b1, 0, none⟩) 0 0)] ha fun a ha => ?_
 refine jZ (jJ (wp_seq (wp_block ?_)))
 replace hS := hS.blk0 1 0 rfl
 replace hS : Sat w0 w ((rI (⟨some ⟨b1, 0, none⟩, 0, 0⟩ : Sl) []) :: (rI sa L0) :: Rs) := hS
 have hln := (hS.rdRow (s := sa) 1 rfl).len
 refine wp_loop_ghost (fun n_ a_ w_ => ∃ (kf : Nat) (j : Nat) (ou : Sl) (o : Sl) (z : Sl) (O : List Int) (Lf : List Int), n_ = kf * 1 ∧ (CInv b L0 O (Lf.drop j)) ∧ (goP b kf O (Lf.drop j) = goS b L0) ∧ (3 * (b.length - O.length) + (Lf.length - j) < kf) ∧ (TailOf z o Lf.length j) ∧ (j ≤ Lf.length) ∧ (Lf.length ≤ 100000) ∧ (kf ≤ 1000) ∧ Has 38 [(0, .slice sb.A sb.n sb.c), (4, .slice none 0 0), (1, .slice z.A z.n z.c), (5, .slice ou.A ou.n ou.c)] a_ ∧ Sat w0 w_ ((rI ou O) :: (rI o Lf) :: Rs)) _ ⟨3 * b.length + L0.length + 1, 0, ⟨some ⟨b1, 0, none⟩, 0, 0⟩, sa, sa, [], L0, rfl, CInv.start hL0, rfl, (by simp only [List.length_nil]; omega), hS.tail0 1 rfl, Nat.zero_le _, (by omega), (by omega), ha.keeps [0, 4, 1, 5] _ rfl, hS⟩ ?_
 rintro n_ a w ⟨kf, j, ou, o, z, O, Lf, rfl, hci, hgo, hms, hto, hj, hlf, hkf, ha, hS⟩
 refine wp_seq (wp_seq (jX [0, 1, 2] (jY [(0, 8, .slice z.A z.n z.c), (1, 9, iv (z.n : Int)), (2, 10, .bool (decide ((z.n : Int) > 0)))] ha fun a ha => ?_)))
 refine jZ (jJ ?_)
 by_cases c3 : (z.n : Int) > 0
 ·
  have hzn := hto.n_
  have hjl : j < Lf.length := by omega
  obtain ⟨y, hy⟩ : ∃ y, Lf[j]? = some y := ⟨_, List.getElem?_eq_getElem hjl⟩
  have hdr : Lf.drop j = y :: Lf.drop (j + 1) := by rw [List.drop_eq_getElem_cons hjl]; congr 1; exact Option.some.inj ((List.getElem?_eq_getElem hjl).symm.trans hy)
  rw [hdr] at hci hgo
  have hy0 := (hci.rf y List.mem_cons_self).1
  obtain ⟨kf, rfl⟩ : ∃ m, kf = m + 1 := ⟨kf - 1, by omega⟩
  refine qJ ha rfl (decide_eq_true c3) ?_
  refine wp_skip (jJ (wp_block (wp_seq (jX [0, 1, 2, 3] (jY [(0, 11, .slice z.A z.n z.c)] ha fun a ha => ?_)))))
  refine qY (.pointer (some ⟨bk z, of_ z + 0 * 1, none⟩)) ha (xZ (s := z) (el := 3) (sz := 1) (j := 0) ha (qH (op := (Op.indexAddr 37 (Operand.tmp 11) (Operand.const (Value.int IntKind.i64 0)))) (d := some 12) (ty := 0)) rfl rfl (by kernel_rfl) (by kernel_rfl) (hto.zA hjl) rfl (by omega)) fun a ha => ?_
  refine qY (iv y) ha (qU (p := ⟨bk z, of_ z + 0 * 1, none⟩) ha (xK (t := 3) (x := 12) (d := 13) (ty := 3)) rfl (by kernel_rfl) (fun w' hw => by rw [hw]; exact tail_cell hto hS 1 rfl hy)) fun a ha => ?_
  refine jY [(3, 6, iv y)] ha fun a ha => ?_
  refine jZ (jJ (wp_seq (jX [0, 1, 2] (jY [(0, 14, .slice z.A z.n z.c)] ha fun a ha => ?_))))
  refine qY (.slice (tailA z.A 1 1 z.c) (z.n - 1) (z.c - 1)) ha (v_dropZ (el := 3) (sz := 1) (j := 1) ha (qH (op := (Op.slice 37 (Operand.tmp 14) (some (Operand.const (Value.int IntKind.i64 1))) none none)) (d := some 15) (ty := 37)) rfl rfl (by kernel_rfl) (by kernel_rfl) rfl (by omega) hto.c_) fun a ha => ?_
  refine jY [(2, 1, .slice (tailA z.A 1 1 z.c) (z.n - 1) (z.c - 1))] ha fun a ha => ?_
  refine jZ (jJ (wp_seq (jX [0, 1, 2, 3, 4, 5, 6, 7, 8, 9] (jY [(0, 16, iv y), (1, 17, .slice sb.A sb.n sb.c), (2, 18, iv (sb.n : Int)), (3, 19, .bool (decide (y < (sb.n : Int)))), (4, 20, .bool (decide (y < (sb.n : Int))))] ha fun a ha => ?_))))
  by_cases c4 : y < (sb.n : Int)
  ·
   replace ha := ha.turn 19 (.bool true) rfl (congrArg Value.bool (decide_eq_true c4));replace ha := ha.turn 20 (.bool true) rfl (congrArg Value.bool (decide_eq_true c4));obtain ⟨x, hx⟩ : ∃ x, b[y.toNat]? = some x := ⟨_, List.getElem?_eq_getElem (by omega)⟩;refine jY [(5, 21, .slice ou.A ou.n ou.c), (6, 22, iv y)] ha fun a ha => ?_;refine jU (qX 23 (vs := [.slice ou.A ou.n ou.c, iv y]) ha (ocont_sat hS (hS.rdRow (s := ou) 0 rfl) y) fun v5 w a hp6 ha => ?_);obtain ⟨rfl, hS⟩ := hp6;refine jY [(8, 24, .bool (!((O.contains y)))), (9, 25, .bool (!((O.contains y))))] ha fun a ha => ?_;refine jZ (jJ ?_)
   rcases Bool.eq_false_or_eq_true (O.contains y) with c7 | c7
   ·
    refine jV ha rfl (yQ c7) ?_;refine wp_skip (in_n (jJ ?_));replace hS : Sat w0 w ((rI ou O) :: (rI o Lf) :: Rs) := hS;rw [goP_skip (.inr c7)] at hgo;exact ⟨_, by omega, kf, j + 1, ou, o, ⟨tailA z.A 1 1 z.c, z.n - 1, z.c - 1⟩, O, Lf, rfl, hci.skip (.inr (List.contains_iff_mem.1 c7)), hgo, (by omega), hto.next hjl, hjl, hlf, (by omega), ha.keeps [0, 4, 1, 5] _ rfl, hS⟩
   refine qJ ha rfl (yK c7) ?_;refine jX [0, 1, 2, 3, 4, 5, 6, 7, 8, 9, 10, 11] (jY [(0, 26, .slice ou.A ou.n ou.c), (1, 27, iv y)] ha fun a ha => ?_);refine jU (qW 28 [iv y] 3 (fun b => .slice (some ⟨b, 0, none⟩) 1 1) ha hS fun b8 w a hb9 hS ha => ?_);refine jU (o_ap 29 1 0 (SX.encI (O ++ [y])) ha hS rfl rfl (by rw [encI_length]; have := hci.len; simp only [List.length_cons, List.length_nil]; omega) (encI_snoc _ _) fun s13 w a hS hn14 ha => ?_);refine jY [(4, 30, .slice (tailA z.A 1 1 z.c) (z.n - 1) (z.c - 1))] ha fun a ha => ?_;replace hS := hS.pickN 3 [2, 0, 1];refine jU (qX 31 (vs := [.slice (tailA z.A 1 1 z.c) (z.n - 1) (z.c - 1)]) ha (cloneT_sat (o := o) (l := Lf) (j := j + 1) (hto.next hjl) hjl hS (by omega)) fun v15 w a hp16 ha => ?_);obtain ⟨cl1, rfl, hS⟩ := hp16;refine jY [(6, 32, .slice sb.A sb.n sb.c), (7, 33, iv y)] ha fun a ha => ?_;refine jU (qX 34 (vs := [.slice sb.A sb.n sb.c, iv y]) ha (leadsI_sat hS hrb ⟨hy0, by omega⟩ hb1 hx) fun v17 w a hp18 ha => ?_);obtain ⟨ro1, rfl, hS⟩ := hp18;refine jU (o_appI (s2 := ro1) (z := iv 0) (bytes := 8) 1 0 ha (by decide) (qH (op := (Op.call { callee := (Callee.builtin Builtin.append), args := #[(Operand.tmp 31), (Operand.tmp 34)], argTypes := #[37, 37] })) (d := some 35) (ty := 37)) rfl rfl (by kernel_rfl) (by kernel_rfl) rfl hS rfl rfl (by have := leadsP_len b.length x y; rw [List.length_drop]; omega) (by decide) fun s19 w a hS ha => ?_);refine jY [(10, 5, .slice s13.A s13.n s13.c), (11, 1, .slice s19.A s19.n s19.c)] ha fun a ha => ?_;refine jZ (in_n (jJ ?_));replace hS := hS.pickN 5 [4, 1];have hnO : y ∉ O := fun h9 => by have h8 := List.contains_iff_mem.2 h9; rw [c7] at h8; cases h8
   have hyb : y < (b.length : Int) := by omega
   have hcn := hci.take hok hyb hnO;have hcl := hcn.len;have h2l := leadsAt_len b y;rw [leadsAt_at hx] at hcn h2l;rw [goP_take hyb c7, leadsAt_at hx] at hgo;have hdl : (Lf.drop (j + 1) ++ leadsP b.length x y).length = Lf.length - (j + 1) + (leadsP b.length x y).length := by rw [List.length_append, List.length_drop]
   simp only [List.length_append, List.length_cons, List.length_nil] at hcl;exact ⟨_, by omega, kf, 0, s13, s19, s19, O ++ [y], Lf.drop (j + 1) ++ leadsP b.length x y, rfl, hcn, hgo, (by rw [hdl]; simp only [List.length_append, List.length_cons, List.length_nil]; omega), hS.tail0 1 rfl, Nat.zero_le _, (by rw [hdl]; omega), (by omega), ha.keeps [0, 4, 1, 5] _ rfl, hS⟩
  replace ha := ha.turn 19 (.bool false) rfl (congrArg Value.bool (decide_eq_false c4))
  replace ha := ha.turn 20 (.bool false) rfl (congrArg Value.bool (decide_eq_false c4))
  refine jY [(5, 21, undef), (6, 22, undef), (7, 23, undef), (8, 24, undef), (9, 25, .bool false)] ha fun a ha => ?_
  refine jZ (jJ ?_)
  refine jV ha rfl rfl ?_
  refine wp_skip (in_n (jJ ?_))
  replace hS : Sat w0 w ((rI ou O) :: (rI o Lf) :: Rs) := hS
  rw [goP_skip (.inl (by omega))] at hgo
  exact ⟨_, by omega, kf, j + 1, ou, o, ⟨tailA z.A 1 1 z.c, z.n - 1, z.c - 1⟩, O, Lf, rfl, hci.skip (.inl (by omega)), hgo, (by omega), hto.next hjl, hjl, hlf, (by omega), ha.keeps [0, 4, 1, 5] _ rfl, hS⟩
 refine jV ha rfl (decide_eq_false c3) ?_
 refine wp_exit (qQ (qQ (in_x (jJ (wp_seq (jX [0, 1, 2] (jY [(0, 36, .slice ou.A ou.n ou.c)] ha fun a ha => ?_)))))))
 replace hS : Sat w0 w ((rI ou O) :: (rI o Lf) :: Rs) := hS
 refine jU (qX 37 (vs := [.slice ou.A ou.n ou.c]) ha (asc_sat hS (by have := hci.len; omega)) fun v20 w a hp21 ha => ?_)
 obtain ⟨ao1, rfl, hS⟩ := hp21
 refine jY [(2, 4, .slice ao1.A ao1.n ao1.c)] ha fun a ha => ?_
 refine jZ (jJ (wp_ret (jH ha (by kernel_rfl) (qK (t := 4) ha rfl) ?_)))
 have hF : Lf.drop j = [] := List.drop_eq_nil_of_le (by have := hto.n_; omega)
 rw [hF, goP_nil] at hgo
 have hE : openL b L0 = asc O := by unfold openL; rw [hgo]
 rw [hE]
 exact ⟨ao1, rfl, hS.pickN 2 [0]⟩
theorem code115 : Try.f115.body = some (Code.seq (cr Try.f115 0 false) (Code.seq (cr Try.f115 1 false) (Code.seq (Code.seq (cr Try.f115 2 false) (Code.block 0 (Code.loop (Code.seq (Code.seq (cr Try.f115 3 false) (Code.cond (Operand.tmp 16) Code.skip (Code.exit 0))) (Code.seq (Code.block 1 (Code.seq (Code.seq (cr Try.f115 5 false) (Code.cond (Operand.tmp 25) (Code.exit 1) Code.skip)) (Code.seq (cr Try.f115 6 false) (Code.seq (cr Try.f115 7 false) (Code.block 2 (Code.loop (Code.seq (Code.seq (cr Try.f115 8 false) (Code.cond (Operand.tmp 35) Code.skip (Code.exit 2))) (Code.seq (Code.block 3 (Code.seq (cr Try.f115 10 false) (Code.cond (Operand.tmp 44) (cr Try.f115 11 false) Code.skip))) (cr Try.f115 9 false))))))))) (cr Try.f115 4 false)))))) (Code.seq (cr Try.f115 12 false) (Code.seq (Code.seq (cr Try.f115 13 false) (Code.block 4 (Code.loop (Code.seq (Code.seq (cr Try.f115 14 false) (Code.cond (Operand.tmp 56) Code.skip (Code.exit 4))) (Code.seq (Code.block 5 (cr Try.f115 16 false)) (cr Try.f115 15 false)))))) (Code.seq (cr Try.f115 17 false) Code.ret)))))) := by kernel_rfl
theorem from11_sat {w0 w : World} {Rs : List Asn} {sb sa : Sl} {b : List ST} {L0 : List Int} (hS : Sat w0 w (SX.row (.slice sa.A sa.n sa.c) 3 1 (SX.encI L0) :: Rs)) (hrb : RdE cT 3 w0 sb b) (hok : okJ b) (hb1 : b.length ≤ 1048576) (hL0 : ∀ x ∈ L0, 0 ≤ x ∧ x ≤ (b.length : Int)) (hnd : L0.Nodup) (hL : L0.length ≤ 100) (hb8 : b.length ≤ 8) :
  Calls Try.prog 115 #[.slice sb.A sb.n sb.c, .slice sa.A sa.n sa.c] w (Ret fun r w' => ∃ (o : Sl) (R : List Int), r = .slice o.A o.n o.c ∧ IncI R ∧ (∀ x, x ∈ R ↔ Rch b L0 x) ∧ R.length ≤ b.length + 1 ∧ Sat w0 w' (SX.row (.slice o.A o.n o.c) 3 1 (SX.encI R) :: Rs)) := by
 have hsb := hrb.len
 refine enter (n := 66) Try.func115 code115 (by kernel_rfl) (Nat.le_of_ble_eq_true rfl) (fun a ha => ?_)
 replace ha : Has 66 [(0, .slice sb.A sb.n sb.c), (1, .slice sa.A sa.n sa.c)] a := ha
 refine wp_seq (jX [0] (jY [(0, 4, .slice none 0 0)] ha fun a ha => ?_))
 refine jZ (jJ (wp_seq (jX [0, 1, 2] (jY [(0, 11, .slice sa.A sa.n sa.c)] ha fun a ha => ?_))))
 refine jU (qX 12 (vs := [.slice sa.A sa.n sa.c]) ha (own_sat hS (by omega)) fun v1 w a hp2 ha => ?_)
 obtain ⟨ow1, rfl, hS⟩ := hp2
 refine jY [(2, 5, .slice ow1.A ow1.n ow1.c)] ha fun a ha => ?_
 refine jZ (jJ (wp_seq (wp_seq (jX [0] (jY [(0, 6, iv 0)] ha fun a ha => ?_)))))
 refine jZ (jJ (wp_block ?_))
 replace hS := hS.pickN 2 [0]
 refine wp_loop_ghost (fun n_ a_ w_ => ∃ (m : Nat) (o : Sl) (O : List Int), n_ = b.length + 1 - m ∧ (QInv b L0 O m) ∧ (m ≤ O.length) ∧ Has 66 [(0, .slice sb.A sb.n sb.c), (4, .slice none 0 0), (5, .slice o.A o.n o.c), (6, iv (m : Int))] a_ ∧ Sat w0 w_ ((rI o O) :: Rs)) _ ⟨0, ow1, L0, rfl, QInv.start hnd hL0, Nat.zero_le _, ha.keeps [0, 4, 5, 6] _ rfl, hS⟩ ?_
 rintro n_ a w ⟨m, o, O, rfl, hq, hm, ha, hS⟩
 refine wp_seq (wp_seq (jX [0, 1, 2, 3] (jY [(0, 13, iv (m : Int)), (1, 14, .slice o.A o.n o.c), (2, 15, iv (o.n : Int)), (3, 16, .bool (decide ((m : Int) < (o.n : Int))))] ha fun a ha => ?_)))
 refine jZ (jJ ?_)
 by_cases c3 : (m : Int) < (o.n : Int)
 ·
  have hom : o.n = O.length := (hS.rdRow (s := o) 0 rfl).len
  have hml : m < O.length := by omega
  obtain ⟨y, hy⟩ : ∃ y, O[m]? = some y := ⟨_, List.getElem?_eq_getElem hml⟩
  have hyr := hq.rg y (List.mem_of_getElem? hy)
  have hy0 := hyr.1
  have hql := hq.len
  refine qJ ha rfl (decide_eq_true c3) ?_
  refine wp_skip (jJ (wp_seq (wp_block (wp_seq (wp_seq ?_)))))
  replace hS : Sat w0 w ((rI o O) :: Rs) := hS
  replace hS : Sat w0 w ((SX.row (.slice o.A o.n o.c) 3 1 (encJ O)) :: Rs) := by rw [← encJ_I]; exact hS
  refine jX [0, 1, 2, 3, 4, 5, 6] (jY [(0, 19, .slice o.A o.n o.c), (1, 20, iv (m : Int))] ha fun a ha => ?_)
  refine qY (.pointer (some ⟨bk o, m * 1, none⟩)) ha (xQ (s := o) (el := 3) (sz := 1) (j := m) ha (xW (t := 37) (x := 19) (y := 20) (d := 21)) rfl rfl (by kernel_rfl) (by kernel_rfl) (hS.rowA (s := o) 0 rfl (by have := (List.getElem?_eq_some_iff.1 hy).1; rw [encJ_length]; omega)) (rfl) (by have h9 := hS.rowL (s := o) (enc := cellsJ) 0 cellsJ_len (by decide) rfl; have := (List.getElem?_eq_some_iff.1 hy).1; omega)) fun a ha => ?_
  refine qY (iv y) ha (qU ha (xK (t := 3) (x := 21) (d := 22) (ty := 3)) rfl (by kernel_rfl) (fun w' hw => by rw [hw]; exact (hS.rdC (s := o) 0 rfl).cells _ _ ((flat_get (enc := cellsJ) (o := 0) cellsJ_len hy (by decide)).trans rfl))) fun a ha => ?_
  refine jY [(4, 23, .slice sb.A sb.n sb.c), (5, 24, iv (sb.n : Int)), (6, 25, .bool (decide (y ≥ (sb.n : Int))))] ha fun a ha => ?_
  refine jZ (jJ ?_)
  by_cases c4 : y ≥ (sb.n : Int)
  ·
   refine qJ ha rfl (decide_eq_true c4) ?_;refine wp_exit (qQ (in_x (jJ (jX [0, 1, 2] (jY [(0, 17, iv (m : Int))] ha fun a ha => ?_)))));refine xJ 18 ((m : Int) + 1) ha fun a ha => ?_;refine jY [(2, 6, iv ((m : Int) + 1))] ha fun a ha => ?_;refine jZ (jJ ?_);replace hS : Sat w0 w ((SX.row (.slice o.A o.n o.c) 3 1 (encJ O)) :: Rs) := hS;have hql := hq.len;replace hS : Sat w0 w ((rI o O) :: Rs) := by have h9 := hS; rw [← encJ_I O] at h9; exact h9
   exact ⟨_, by omega, m + 1, o, O, rfl, hq.skip hy (by omega), hml, ha.keeps [0, 4, 5, 6] _ rfl, hS⟩
  refine jV ha rfl (decide_eq_false c4) ?_
  refine wp_skip (jJ (wp_seq ?_))
  obtain ⟨x, hx⟩ : ∃ x, b[y.toNat]? = some x := ⟨_, List.getElem?_eq_getElem (by omega)⟩
  refine jX [0, 1, 2, 3, 4, 5, 6] (jY [(0, 26, .slice sb.A sb.n sb.c), (1, 27, .slice o.A o.n o.c), (2, 28, iv (m : Int))] ha fun a ha => ?_)
  refine qY (.pointer (some ⟨bk o, m * 1, none⟩)) ha (xQ (s := o) (el := 3) (sz := 1) (j := m) ha (xW (t := 37) (x := 27) (y := 28) (d := 29)) rfl rfl (by kernel_rfl) (by kernel_rfl) (hS.rowA (s := o) 0 rfl (by have := (List.getElem?_eq_some_iff.1 hy).1; rw [encJ_length]; omega)) (rfl) (by have h9 := hS.rowL (s := o) (enc := cellsJ) 0 cellsJ_len (by decide) rfl; have := (List.getElem?_eq_some_iff.1 hy).1; omega)) fun a ha => ?_
  refine qY (iv y) ha (qU ha (xK (t := 3) (x := 29) (d := 30) (ty := 3)) rfl (by kernel_rfl) (fun w' hw => by rw [hw]; exact (hS.rdC (s := o) 0 rfl).cells _ _ ((flat_get (enc := cellsJ) (o := 0) cellsJ_len hy (by decide)).trans rfl))) fun a ha => ?_
  refine jU (qX 31 (vs := [.slice sb.A sb.n sb.c, iv y]) ha (leadsQ_sat hS hrb ⟨hy0, by omega⟩ hb1 hx) fun v5 w a hp6 ha => ?_)
  obtain ⟨ro1, rfl, hS⟩ := hp6
  refine jY [(6, 7, .slice ro1.A ro1.n ro1.c)] ha fun a ha => ?_
  refine jZ (jJ (wp_seq (jX [0] (jY [(0, 8, iv 0)] ha fun a ha => ?_))))
  refine jZ (jJ (wp_block ?_))
  replace hS := hS.pickN 2 [1, 0]
  replace hS : Sat w0 w ((rI o O) :: (SX.row (.slice ro1.A ro1.n ro1.c) 3 1 (encJ (leadsP b.length x y))) :: Rs) := by have h9 := hS; rw [← encJ_I O] at h9; rw [← encJ_I (leadsP b.length x y)]; exact h9
  have hnl : ro1.n = (leadsP b.length x y).length := hS.rowL (s := ro1) (enc := cellsJ) 1 cellsJ_len (by decide) rfl
  refine wp_loop_ghost (fun n_ a_ w_ => ∃ (i : Nat) (o2 : Sl) (O2 : List Int), n_ = (leadsP b.length x y).length - i ∧ (i ≤ (leadsP b.length x y).length) ∧ (QInv b L0 O2 m) ∧ (O2[m]? = some y) ∧ (∀ v ∈ (leadsP b.length x y).take i, v ∈ O2) ∧ Has 66 [(0, .slice sb.A sb.n sb.c), (4, .slice none 0 0), (6, iv (m : Int)), (13, iv (m : Int)), (14, .slice o.A o.n o.c), (15, iv (o.n : Int)), (16, .bool (decide ((m : Int) < (o.n : Int)))), (19, .slice o.A o.n o.c), (20, iv (m : Int)), (21, .pointer (some ⟨bk o, m * 1, none⟩)), (22, iv y), (23, .slice sb.A sb.n sb.c), (24, iv (sb.n : Int)), (25, .bool (decide (y ≥ (sb.n : Int)))), (26, .slice sb.A sb.n sb.c), (27, .slice o.A o.n o.c), (28, iv (m : Int)), (29, .pointer (some ⟨bk o, m * 1, none⟩)), (30, iv y), (31, .slice ro1.A ro1.n ro1.c), (7, .slice ro1.A ro1.n ro1.c), (5, .slice o2.A o2.n o2.c), (8, iv (i : Int))] a_ ∧ Sat w0 w_ ((rI o2 O2) :: (SX.row (.slice ro1.A ro1.n ro1.c) 3 1 (encJ (leadsP b.length x y))) :: Rs)) _ ⟨0, o, O, rfl, Nat.zero_le _, hq, hy, (fun v hv => absurd hv (by simp)), ha.keeps [0, 4, 6, 13, 14, 15, 16, 19, 20, 21, 22, 23, 24, 25, 26, 27, 28, 29, 30, 31, 7, 5, 8] _ rfl, hS⟩ ?_
  rintro n_ a w ⟨i, o2, O2, rfl, hi, hq2, hy2, hsub, ha, hS⟩
  refine wp_seq (wp_seq (jX [0, 1, 2, 3] (jY [(0, 32, iv (i : Int)), (1, 33, .slice ro1.A ro1.n ro1.c), (2, 34, iv (ro1.n : Int)), (3, 35, .bool (decide ((i : Int) < (ro1.n : Int))))] ha fun a ha => ?_)))
  refine jZ (jJ ?_)
  by_cases c7 : (i : Int) < (ro1.n : Int)
  ·
   have hlp2 := leadsP_len b.length x y;have hil : i < (leadsP b.length x y).length := by omega
   obtain ⟨u, hu⟩ : ∃ u, (leadsP b.length x y)[i]? = some u := ⟨_, List.getElem?_eq_getElem hil⟩;refine qJ ha rfl (decide_eq_true c7) ?_;refine wp_skip (jJ (wp_seq (wp_block (wp_seq (jX [0, 1, 2, 3, 4, 5, 6] (jY [(0, 38, .slice o2.A o2.n o2.c), (1, 39, .slice ro1.A ro1.n ro1.c), (2, 40, iv (i : Int))] ha fun a ha => ?_))))));refine qY (.pointer (some ⟨bk ro1, i * 1, none⟩)) ha (xQ (s := ro1) (el := 3) (sz := 1) (j := i) ha (xW (t := 37) (x := 39) (y := 40) (d := 41)) rfl rfl (by kernel_rfl) (by kernel_rfl) (hS.rowA (s := ro1) 1 rfl (by have := (List.getElem?_eq_some_iff.1 hu).1; rw [encJ_length]; omega)) (rfl) (by have h9 := hS.rowL (s := ro1) (enc := cellsJ) 1 cellsJ_len (by decide) rfl; have := (List.getElem?_eq_some_iff.1 hu).1; omega)) fun a ha => ?_;refine qY (iv u) ha (qU ha (xK (t := 3) (x := 41) (d := 42) (ty := 3)) rfl (by kernel_rfl) (fun w' hw => by rw [hw]; exact (hS.rdC (s := ro1) 1 rfl).cells _ _ ((flat_get (enc := cellsJ) (o := 0) cellsJ_len hu (by decide)).trans rfl))) fun a ha => ?_;refine jU (qX 43 (vs := [.slice o2.A o2.n o2.c, iv u]) ha (bhas_sat hS (hS.rdRow (s := o2) 0 rfl)) fun v8 w a hp9 ha => ?_);obtain ⟨rfl, hS⟩ := hp9;refine jY [(6, 44, .bool (!((O2.contains u))))] ha fun a ha => ?_;refine jZ (jJ ?_)
   rcases Bool.eq_false_or_eq_true (O2.contains u) with c10 | c10
   ·
    refine jV ha rfl (yQ c10) ?_;refine wp_skip (in_n (jJ (jX [0, 1, 2] (jY [(0, 36, iv (i : Int))] ha fun a ha => ?_))));refine xJ 37 ((i : Int) + 1) ha fun a ha => ?_;refine jY [(2, 8, iv ((i : Int) + 1))] ha fun a ha => ?_;refine jZ (jJ ?_);replace hS : Sat w0 w ((rI o2 O2) :: (SX.row (.slice ro1.A ro1.n ro1.c) 3 1 (encJ (leadsP b.length x y))) :: Rs) := hS;have hux : u ∈ leadsAt b y := by rw [leadsAt_at hx]; exact List.mem_of_getElem? hu
    exact ⟨_, by omega, i + 1, o2, O2, rfl, hil, hq2, hy2, (fun v hv => by rw [take_next' hu] at hv; rcases List.mem_append.1 hv with hv | hv; exact hsub v hv; rw [List.mem_singleton.1 hv]; exact List.contains_iff_mem.1 c10), ha.keeps [0, 4, 6, 13, 14, 15, 16, 19, 20, 21, 22, 23, 24, 25, 26, 27, 28, 29, 30, 31, 7, 5, 8] _ rfl, hS⟩
   refine qJ ha rfl (yK c10) ?_;refine jX [0, 1, 2, 3, 4, 5, 6, 7] (jY [(0, 45, .slice o2.A o2.n o2.c), (1, 46, .slice ro1.A ro1.n ro1.c), (2, 47, iv (i : Int))] ha fun a ha => ?_);refine qY (.pointer (some ⟨bk ro1, i * 1, none⟩)) ha (xQ (s := ro1) (el := 3) (sz := 1) (j := i) ha (xW (t := 37) (x := 46) (y := 47) (d := 48)) rfl rfl (by kernel_rfl) (by kernel_rfl) (hS.rowA (s := ro1) 1 rfl (by have := (List.getElem?_eq_some_iff.1 hu).1; rw [encJ_length]; omega)) (rfl) (by have h9 := hS.rowL (s := ro1) (enc := cellsJ) 1 cellsJ_len (by decide) rfl; have := (List.getElem?_eq_some_iff.1 hu).1; omega)) fun a ha => ?_;refine qY (iv u) ha (qU ha (xK (t := 3) (x := 48) (d := 49) (ty := 3)) rfl (by kernel_rfl) (fun w' hw => by rw [hw]; exact (hS.rdC (s := ro1) 1 rfl).cells _ _ ((flat_get (enc := cellsJ) (o := 0) cellsJ_len hu (by decide)).trans rfl))) fun a ha => ?_;refine jU (qW 50 [iv u] 3 (fun b => .slice (some ⟨b, 0, none⟩) 1 1) ha hS fun b11 w a hb12 hS ha => ?_);refine jU (o_ap 51 1 0 (SX.encI (O2 ++ [u])) ha hS rfl rfl (by rw [encI_length]; have := hq2.len; simp only [List.length_cons, List.length_nil]; omega) (encI_snoc _ _) fun s16 w a hS hn17 ha => ?_);refine jY [(7, 5, .slice s16.A s16.n s16.c)] ha fun a ha => ?_;refine jZ (in_n (jJ (jX [0, 1, 2] (jY [(0, 36, iv (i : Int))] ha fun a ha => ?_))));refine xJ 37 ((i : Int) + 1) ha fun a ha => ?_;refine jY [(2, 8, iv ((i : Int) + 1))] ha fun a ha => ?_;refine jZ (jJ ?_);replace hS := hS.pickN 3 [1, 2];have hux : u ∈ leadsAt b y := by rw [leadsAt_at hx]; exact List.mem_of_getElem? hu
   have hnu : u ∉ O2 := fun h9 => by have h8 := List.contains_iff_mem.2 h9; rw [c10] at h8; cases h8
   exact ⟨_, by omega, i + 1, s16, O2 ++ [u], rfl, hil, hq2.add hok hy2 (by omega) hux hnu, (by rw [List.getElem?_append_left (List.getElem?_eq_some_iff.1 hy2).1]; exact hy2), (fun v hv => by rw [take_next' hu] at hv; rcases List.mem_append.1 hv with hv | hv; exact List.mem_append_left _ (hsub v hv); exact List.mem_append_right _ hv), ha.keeps [0, 4, 6, 13, 14, 15, 16, 19, 20, 21, 22, 23, 24, 25, 26, 27, 28, 29, 30, 31, 7, 5, 8] _ rfl, hS⟩
  refine jV ha rfl (decide_eq_false c7) ?_
  refine wp_exit (qQ (qQ (in_x (in_n (jJ (jX [0, 1, 2] (jY [(0, 17, iv (m : Int))] ha fun a ha => ?_)))))))
  refine xJ 18 ((m : Int) + 1) ha fun a ha => ?_
  refine jY [(2, 6, iv ((m : Int) + 1))] ha fun a ha => ?_
  refine jZ (jJ ?_)
  replace hS := hS.pickN 2 [0]
  have hql := hq.len
  have hil : i = (leadsP b.length x y).length := by omega
  rw [hil, List.take_length] at hsub
  have hmo2 : m < O2.length := (List.getElem?_eq_some_iff.1 hy2).1
  have hql2 := hq2.len
  exact ⟨_, by omega, m + 1, o2, O2, rfl, hq2.full hy2 (by rw [leadsAt_at hx]; exact hsub), hmo2, ha.keeps [0, 4, 5, 6] _ rfl, hS⟩
 refine jV ha rfl (decide_eq_false c3) ?_
 refine wp_exit (qQ (qQ (in_x (jJ (wp_seq (jX [0, 1] (jU (qW 52 [] 3 (fun b => .slice (some ⟨b, 0, none⟩) 0 0) ha hS fun b18 w a hb19 hS ha => ?_))))))))
 refine jY [(1, 9, .slice (some ⟨b18, 0, none⟩) 0 0)] ha fun a ha => ?_
 refine jZ (jJ (wp_seq (wp_seq (jX [0] (jY [(0, 10, iv 0)] ha fun a ha => ?_)))))
 refine jZ (jJ (wp_block ?_))
 replace hS := hS.blk0 1 0 rfl
 replace hS := hS.pickN 2 [1, 0]
 replace hS : Sat w0 w ((SX.row (.slice o.A o.n o.c) 3 1 (encJ O)) :: (rI (⟨some ⟨b18, 0, none⟩, 0, 0⟩ : Sl) (putL [] (O.take 0))) :: Rs) := by rw [← encJ_I]; exact hS
 have hon : o.n = O.length := hS.rowL (s := o) (enc := cellsJ) 0 cellsJ_len (by decide) rfl
 refine wp_loop_ghost (fun n_ a_ w_ => ∃ (k : Nat) (so : Sl), n_ = O.length - k ∧ (k ≤ O.length) ∧ Has 66 [(4, .slice none 0 0), (5, .slice o.A o.n o.c), (9, .slice so.A so.n so.c), (10, iv (k : Int))] a_ ∧ Sat w0 w_ ((SX.row (.slice o.A o.n o.c) 3 1 (encJ O)) :: (rI so (putL [] (O.take k))) :: Rs)) _ ⟨0, ⟨some ⟨b18, 0, none⟩, 0, 0⟩, rfl, Nat.zero_le _, ha.keeps [4, 5, 9, 10] _ rfl, hS⟩ ?_
 rintro n_ a w ⟨k, so, rfl, hk, ha, hS⟩
 refine wp_seq (wp_seq (jX [0, 1, 2, 3] (jY [(0, 53, iv (k : Int)), (1, 54, .slice o.A o.n o.c), (2, 55, iv (o.n : Int)), (3, 56, .bool (decide ((k : Int) < (o.n : Int))))] ha fun a ha => ?_)))
 refine jZ (jJ ?_)
 by_cases c20 : (k : Int) < (o.n : Int)
 ·
  have hql9 := hq.len
  have hkl : k < O.length := by omega
  obtain ⟨u, hu⟩ : ∃ u, O[k]? = some u := ⟨_, List.getElem?_eq_getElem hkl⟩
  refine qJ ha rfl (decide_eq_true c20) ?_
  refine wp_skip (jJ (wp_seq (wp_block (jX [0, 1, 2, 3, 4, 5, 6] (jY [(0, 59, .slice so.A so.n so.c), (1, 60, .slice o.A o.n o.c), (2, 61, iv (k : Int))] ha fun a ha => ?_)))))
  refine qY (.pointer (some ⟨bk o, k * 1, none⟩)) ha (xQ (s := o) (el := 3) (sz := 1) (j := k) ha (xW (t := 37) (x := 60) (y := 61) (d := 62)) rfl rfl (by kernel_rfl) (by kernel_rfl) (hS.rowA (s := o) 0 rfl (by have := (List.getElem?_eq_some_iff.1 hu).1; rw [encJ_length]; omega)) (rfl) (by have h9 := hS.rowL (s := o) (enc := cellsJ) 0 cellsJ_len (by decide) rfl; have := (List.getElem?_eq_some_iff.1 hu).1; omega)) fun a ha => ?_
  refine qY (iv u) ha (qU ha (xK (t := 3) (x := 62) (d := 63) (ty := 3)) rfl (by kernel_rfl) (fun w' hw => by rw [hw]; exact (hS.rdC (s := o) 0 rfl).cells _ _ ((flat_get (enc := cellsJ) (o := 0) cellsJ_len hu (by decide)).trans rfl))) fun a ha => ?_
  replace hS := hS.pickN 2 [1, 0]
  refine jU (qX 64 (vs := [.slice so.A so.n so.c, iv u]) ha (put1_sat (x := u) hS (by have h8 := putL_len (O.take k) []; have h9 := hq.len; rw [List.length_take] at h8; simp only [List.length_nil] at h8; omega)) fun v21 w a hp22 ha => ?_)
  obtain ⟨po1, rfl, hS⟩ := hp22
  refine jY [(6, 9, .slice po1.A po1.n po1.c)] ha fun a ha => ?_
  refine jZ (in_n (jJ (jX [0, 1, 2] (jY [(0, 57, iv (k : Int))] ha fun a ha => ?_))))
  refine xJ 58 ((k : Int) + 1) ha fun a ha => ?_
  refine jY [(2, 10, iv ((k : Int) + 1))] ha fun a ha => ?_
  refine jZ (jJ ?_)
  replace hS := hS.pickN 2 [1, 0]
  replace hS : Sat w0 w ((SX.row (.slice o.A o.n o.c) 3 1 (encJ O)) :: (rI po1 (putL [] (O.take (k + 1)))) :: Rs) := by rw [putL_next hu]; exact hS
  exact ⟨_, by omega, k + 1, po1, rfl, hkl, ha.keeps [4, 5, 9, 10] _ rfl, hS⟩
 refine jV ha rfl (decide_eq_false c20) ?_
 refine wp_exit (qQ (qQ (in_x (jJ (wp_seq (jX [0, 1] (jY [(0, 65, .slice so.A so.n so.c), (1, 4, .slice so.A so.n so.c)] ha fun a ha => ?_)))))))
 refine jZ ?_
 replace ha := ha.as [(4, .slice so.A so.n so.c)] rfl
 refine jJ (wp_ret (jH ha (by kernel_rfl) (qK (t := 4) ha rfl) ?_))
 have hke : k = O.length := by omega
 have hme : m = O.length := by omega
 rw [hme] at hq
 rw [hke, List.take_length, putL_asc] at hS
 exact ⟨so, asc O, rfl, asc_inc O, fun x => (asc_mem O x).trans (hq.mem x), Nat.le_trans (asc_le O) hq.len, hS.pickN 2 [1]⟩
theorem filt_no {l : List Int} {i : Nat} {y : Int} {p : Int → Bool} (h : l[i]? = some y) (hp : p y = false) : (l.take (i + 1)).filter p = (l.take i).filter p := by rw [take_next' h, List.filter_append]; simp [hp]
theorem filt_yes {l : List Int} {i : Nat} {y : Int} {p : Int → Bool} (h : l[i]? = some y) (hp : p y = true) : (l.take (i + 1)).filter p = (l.take i).filter p ++ [y] := by rw [take_next' h, List.filter_append]; simp [hp]
theorem code80 : Try.f80.body = some (Code.seq (cr Try.f80 0 false) (Code.seq (cr Try.f80 1 false) (Code.seq (Code.seq (cr Try.f80 2 false) (Code.block 0 (Code.loop (Code.seq (Code.seq (cr Try.f80 3 false) (Code.cond (Operand.tmp 13) Code.skip (Code.exit 0))) (Code.seq (Code.block 1 (Code.seq (cr Try.f80 5 false) (Code.cond (Operand.tmp 22) (cr Try.f80 6 false) Code.skip))) (cr Try.f80 4 false)))))) (Code.seq (cr Try.f80 7 false) Code.ret)))) := by kernel_rfl
theorem open11_sat {w0 w : World} {Rs : List Asn} {sb : Sl} {b : List ST} (hS : Sat w0 w Rs) (hrb : RdE cT 3 w0 sb b) (hok : okJ b) (hb1 : b.length ≤ 1048576) (hb8 : b.length ≤ 8) :
  Calls Try.prog 80 #[.slice sb.A sb.n sb.c] w (Ret fun r w' => ∃ o : Sl, r = .slice o.A o.n o.c ∧ Sat w0 w' (SX.row (.slice o.A o.n o.c) 3 1 (SX.encI (openL b [0])) :: Rs)) := by
 have hsb := hrb.len
 refine enter (n := 31) Try.func80 code80 (by kernel_rfl) (Nat.le_of_ble_eq_true rfl) (fun a ha => ?_)
 replace ha : Has 31 [(0, .slice sb.A sb.n sb.c)] a := ha
 refine wp_seq (jX [0] (jY [(0, 2, .slice none 0 0)] ha fun a ha => ?_))
 refine jZ (jJ (wp_seq (jX [0, 1, 2, 3, 4, 5] (jU (qW 6 [] 3 (fun b => .slice (some ⟨b, 0, none⟩) 0 0) ha hS fun b1 w a hb2 hS ha => ?_)))))
 refine jY [(1, 7, .slice sb.A sb.n sb.c)] ha fun a ha => ?_
 refine jU (qW 8 [iv 0] 3 (fun b => .slice (some ⟨b, 0, none⟩) 1 1) ha hS fun b3 w a hb4 hS ha => ?_)
 replace hS := blkRow hS 1 1 0 rfl rfl (by decide)
 replace hS : Sat w0 w ((rI (⟨some ⟨b3, 0, none⟩, 1, 1⟩ : Sl) [0]) :: (SX.blk b1 [] 3) :: Rs) := hS
 refine jU (qX 9 (vs := [.slice sb.A sb.n sb.c, .slice (some ⟨b3, 0, none⟩) 1 1]) ha (from11_sat (sa := (⟨some ⟨b3, 0, none⟩, 1, 1⟩ : Sl)) (L0 := [0]) hS hrb hok hb1 (fun x hx => by rw [List.mem_singleton.1 hx]; omega) (by simp) (by decide) hb8) fun v5 w a hp6 ha => ?_)
 obtain ⟨al, R, rfl, hRi, hRm, hRl, hS⟩ := hp6
 refine jY [(4, 3, .slice (some ⟨b1, 0, none⟩) 0 0), (5, 4, .slice al.A al.n al.c)] ha fun a ha => ?_
 refine jZ (jJ (wp_seq (wp_seq (jX [0] (jY [(0, 5, iv 0)] ha fun a ha => ?_)))))
 refine jZ (jJ (wp_block ?_))
 replace hS := hS.blk0 1 1 rfl
 replace hS : Sat w0 w ((rI al R) :: (rI (⟨some ⟨b1, 0, none⟩, 0, 0⟩ : Sl) []) :: Rs) := hS
 replace hS : Sat w0 w ((SX.row (.slice al.A al.n al.c) 3 1 (encJ R)) :: (rI (⟨some ⟨b1, 0, none⟩, 0, 0⟩ : Sl) ((R.take 0).filter (fun x => decide (x < (b.length : Int))))) :: Rs) := by rw [← encJ_I]; exact hS
 have han : al.n = R.length := hS.rowL (s := al) (enc := cellsJ) 0 cellsJ_len (by decide) rfl
 refine wp_loop_ghost (fun n_ a_ w_ => ∃ (i : Nat) (oo : Sl), n_ = R.length - i ∧ (i ≤ R.length) ∧ Has 31 [(0, .slice sb.A sb.n sb.c), (2, .slice none 0 0), (4, .slice al.A al.n al.c), (3, .slice oo.A oo.n oo.c), (5, iv (i : Int))] a_ ∧ Sat w0 w_ ((SX.row (.slice al.A al.n al.c) 3 1 (encJ R)) :: (rI oo ((R.take i).filter (fun x => decide (x < (b.length : Int))))) :: Rs)) _ ⟨0, ⟨some ⟨b1, 0, none⟩, 0, 0⟩, rfl, Nat.zero_le _, ha.keeps [0, 2, 4, 3, 5] _ rfl, hS⟩ ?_
 rintro n_ a w ⟨i, oo, rfl, hi, ha, hS⟩
 refine wp_seq (wp_seq (jX [0, 1, 2, 3] (jY [(0, 10, iv (i : Int)), (1, 11, .slice al.A al.n al.c), (2, 12, iv (al.n : Int)), (3, 13, .bool (decide ((i : Int) < (al.n : Int))))] ha fun a ha => ?_)))
 refine jZ (jJ ?_)
 by_cases c7 : (i : Int) < (al.n : Int)
 ·
  have hil : i < R.length := by omega
  obtain ⟨u, hu⟩ : ∃ u, R[i]? = some u := ⟨_, List.getElem?_eq_getElem hil⟩
  refine qJ ha rfl (decide_eq_true c7) ?_
  refine wp_skip (jJ (wp_seq (wp_block (wp_seq (jX [0, 1, 2, 3, 4, 5, 6] (jY [(0, 16, .slice al.A al.n al.c), (1, 17, iv (i : Int))] ha fun a ha => ?_))))))
  refine qY (.pointer (some ⟨bk al, i * 1, none⟩)) ha (xQ (s := al) (el := 3) (sz := 1) (j := i) ha (xW (t := 37) (x := 16) (y := 17) (d := 18)) rfl rfl (by kernel_rfl) (by kernel_rfl) (hS.rowA (s := al) 0 rfl (by have := (List.getElem?_eq_some_iff.1 hu).1; rw [encJ_length]; omega)) (rfl) (by have h9 := hS.rowL (s := al) (enc := cellsJ) 0 cellsJ_len (by decide) rfl; have := (List.getElem?_eq_some_iff.1 hu).1; omega)) fun a ha => ?_
  refine qY (iv u) ha (qU ha (xK (t := 3) (x := 18) (d := 19) (ty := 3)) rfl (by kernel_rfl) (fun w' hw => by rw [hw]; exact (hS.rdC (s := al) 0 rfl).cells _ _ ((flat_get (enc := cellsJ) (o := 0) cellsJ_len hu (by decide)).trans rfl))) fun a ha => ?_
  refine jY [(4, 20, .slice sb.A sb.n sb.c), (5, 21, iv (sb.n : Int)), (6, 22, .bool (decide (u < (sb.n : Int))))] ha fun a ha => ?_
  refine jZ (jJ ?_)
  by_cases c8 : u < (sb.n : Int)
  ·
   refine qJ ha rfl (decide_eq_true c8) ?_;refine jX [0, 1, 2, 3, 4, 5, 6, 7] (jY [(0, 23, .slice oo.A oo.n oo.c), (1, 24, .slice al.A al.n al.c), (2, 25, iv (i : Int))] ha fun a ha => ?_);refine qY (.pointer (some ⟨bk al, i * 1, none⟩)) ha (xQ (s := al) (el := 3) (sz := 1) (j := i) ha (xW (t := 37) (x := 24) (y := 25) (d := 26)) rfl rfl (by kernel_rfl) (by kernel_rfl) (hS.rowA (s := al) 0 rfl (by have := (List.getElem?_eq_some_iff.1 hu).1; rw [encJ_length]; omega)) (rfl) (by have h9 := hS.rowL (s := al) (enc := cellsJ) 0 cellsJ_len (by decide) rfl; have := (List.getElem?_eq_some_iff.1 hu).1; omega)) fun a ha => ?_;refine qY (iv u) ha (qU ha (xK (t := 3) (x := 26) (d := 27) (ty := 3)) rfl (by kernel_rfl) (fun w' hw => by rw [hw]; exact (hS.rdC (s := al) 0 rfl).cells _ _ ((flat_get (enc := cellsJ) (o := 0) cellsJ_len hu (by decide)).trans rfl))) fun a ha => ?_;refine jU (qW 28 [iv u] 3 (fun b => .slice (some ⟨b, 0, none⟩) 1 1) ha hS fun b9 w a hb10 hS ha => ?_);refine jU (o_ap 29 2 0 (SX.encI (((R.take i).filter (fun x => decide (x < (b.length : Int)))) ++ [u])) ha hS rfl rfl (by rw [encI_length]; have := List.length_filter_le (fun x => decide (x < (b.length : Int))) (R.take i); rw [List.length_take] at this; simp only [List.length_cons, List.length_nil]; omega) (encI_snoc _ _) fun s14 w a hS hn15 ha => ?_);refine jY [(7, 3, .slice s14.A s14.n s14.c)] ha fun a ha => ?_;refine jZ (in_n (jJ (jX [0, 1, 2] (jY [(0, 14, iv (i : Int))] ha fun a ha => ?_))));refine xJ 15 ((i : Int) + 1) ha fun a ha => ?_;refine jY [(2, 5, iv ((i : Int) + 1))] ha fun a ha => ?_;refine jZ (jJ ?_);replace hS := hS.pickN 3 [1, 2];replace hS : Sat w0 w ((SX.row (.slice al.A al.n al.c) 3 1 (encJ R)) :: (rI s14 ((R.take (i + 1)).filter (fun x => decide (x < (b.length : Int))))) :: Rs) := by rw [filt_yes hu (by apply decide_eq_true; omega)]; exact hS
   exact ⟨_, by omega, i + 1, s14, rfl, hil, ha.keeps [0, 2, 4, 3, 5] _ rfl, hS⟩
  refine jV ha rfl (decide_eq_false c8) ?_
  refine wp_skip (in_n (jJ (jX [0, 1, 2] (jY [(0, 14, iv (i : Int))] ha fun a ha => ?_))))
  refine xJ 15 ((i : Int) + 1) ha fun a ha => ?_
  refine jY [(2, 5, iv ((i : Int) + 1))] ha fun a ha => ?_
  refine jZ (jJ ?_)
  replace hS : Sat w0 w ((SX.row (.slice al.A al.n al.c) 3 1 (encJ R)) :: (rI oo ((R.take i).filter (fun x => decide (x < (b.length : Int))))) :: Rs) := hS
  replace hS : Sat w0 w ((SX.row (.slice al.A al.n al.c) 3 1 (encJ R)) :: (rI oo ((R.take (i + 1)).filter (fun x => decide (x < (b.length : Int))))) :: Rs) := by rw [filt_no hu (by apply decide_eq_false; omega)]; exact hS
  exact ⟨_, by omega, i + 1, oo, rfl, hil, ha.keeps [0, 2, 4, 3, 5] _ rfl, hS⟩
 refine jV ha rfl (decide_eq_false c7) ?_
 refine wp_exit (qQ (qQ (in_x (jJ (wp_seq (jX [0, 1] (jY [(0, 30, .slice oo.A oo.n oo.c), (1, 2, .slice oo.A oo.n oo.c)] ha fun a ha => ?_)))))))
 refine jZ (jJ (wp_ret (jH ha (by kernel_rfl) (qK (t := 2) ha rfl) ?_)))
 have hie : i = R.length := by omega
 rw [hie, List.take_length, filt_open hok (fun x hx => by rw [List.mem_singleton.1 hx]; omega) hRi hRm] at hS
 exact ⟨oo, rfl, hS.pickN 2 [1]⟩
def opnP (l : List (List ST)) (f : Int) : List Int × Bool := if okF l f = true then (openL (l.getD f.toNat []) [0], true) else ([], false)
theorem opnP_at {l : List (List ST)} {f : Int} {b : List ST} (h : okF l f = true) (hb : l[f.toNat]? = some b) : opnP l f = (openL b [0], true) := by unfold opnP; rw [if_pos h]; simp only [List.getD, hb, Option.getD_some]
theorem opnP_len (l : List (List ST)) (f : Int) : (opnP l f).1.length ≤ 1000000 := by
  by_cases h : okF l f = true
  · have hx := okF_lt h
    obtain ⟨b, hb⟩ : ∃ b, l[f.toNat]? = some b := ⟨_, List.getElem?_eq_getElem (by omega)⟩;have h1 := okJ_of (okF_prog h) (List.mem_of_getElem? hb);rw [opnP_at h hb];have := openL_len h1.1 (f := [0]) (fun x hx => by rw [List.mem_singleton.1 hx]; omega)
    dsimp only; omega
  · unfold opnP; rw [if_neg h]; exact Nat.zero_le _
theorem code36 : Try.f36.body = some (Code.seq (cr Try.f36 0 false) (Code.seq (Code.seq (cr Try.f36 1 false) (Code.cond (Operand.tmp 9) (Code.seq (cr Try.f36 2 false) Code.ret) Code.skip)) (Code.seq (cr Try.f36 3 false) Code.ret))) := by kernel_rfl
theorem impl_OpenPlaces_sat0 {w0 : World} {s : Sl} {l : List (List ST)} {f : Int} (hr : RdP w0 s l) (hf : Fits l) :
  Calls Try.prog 36 #[.agg #[.slice s.A s.n s.c], iv f] w0 (Ret fun r w' => ∃ o : Sl, r = .tuple #[.slice o.A o.n o.c, .bool (opnP l f).2] ∧ Sat w0 w' [SX.row (.slice o.A o.n o.c) 3 1 (SX.encI ((opnP l f).1))]) := by
 have hS : Sat w0 w0 [] := Sat.start w0
 refine enter (n := 17) Try.func36 code36 (by kernel_rfl) (Nat.le_of_ble_eq_true rfl) (fun a ha => ?_)
 replace ha : Has 17 [(0, .agg #[.slice s.A s.n s.c]), (1, iv f)] a := ha
 refine wp_seq (jX [0, 1, 2] (jU (qW 2 [.slice s.A s.n s.c] 28 (ptr · 0) ha hS fun b1 w a hb2 hS ha => ?_)))
 refine jY [(1, 4, .slice none 0 0), (2, 5, .bool false)] ha fun a ha => ?_
 refine jZ (jJ (wp_seq (wp_seq (jX [0, 1, 2, 3] (yY 6 ha (hS.blk 0 rfl) fun a ha => ?_)))))
 refine jY [(1, 7, iv f)] ha fun a ha => ?_
 refine jU (qX 8 (vs := [.agg #[.slice s.A s.n s.c], iv f]) ha (isFunction_sat hS (hr.sat hS) hf) fun v3 w a hp4 ha => ?_)
 obtain ⟨rfl, hS⟩ := hp4
 refine jY [(3, 9, .bool (!(okF l f)))] ha fun a ha => ?_
 refine jZ (jJ ?_)
 rcases Bool.eq_false_or_eq_true (okF l f) with c5 | c5
 ·
  have hx1 := okF_lt c5
  obtain ⟨b, hb⟩ : ∃ b, l[f.toNat]? = some b := ⟨_, List.getElem?_eq_getElem (by omega)⟩
  have hb1 : b.length ≤ 1048576 := hf.each b (List.mem_of_getElem? hb)
  obtain ⟨hA0, sb, hcb, hrb⟩ := body_rd hr hb
  have hsb := hrb.len
  have hoj := okJ_of (okF_prog c5) (List.mem_of_getElem? hb)
  refine jV ha rfl (yQ c5) ?_
  refine wp_skip (jJ (wp_seq (jX [0, 1, 2, 3, 4, 5, 6, 7, 8] (jY [(0, 10, ptr b1 0)] ha fun a ha => ?_))))
  refine xY (d := 11) (b := b1) (j := 0) ha (hS.blk 0 rfl) rfl fun a ha => ?_
  refine jY [(2, 12, iv f)] ha fun a ha => ?_
  refine qY (.pointer (some ⟨bk s, of_ s + f.toNat * 1, none⟩)) ha (xZ (s := s) (el := 69) (sz := 1) (j := f.toNat) ha (xW (t := 26) (x := 11) (y := 12) (d := 13)) rfl rfl (by kernel_rfl) (by kernel_rfl) hA0 (Int.toNat_of_nonneg hx1.1).symm (by rw [hr.len]; omega)) fun a ha => ?_
  refine qY (.slice sb.A sb.n sb.c) ha (qU ha (xK (t := 69) (x := 13) (d := 14) (ty := 69)) rfl (by kernel_rfl) (fun w' hw => by rw [hw]; rw [Nat.mul_one]; exact pw_cell_below hS.below hcb)) fun a ha => ?_
  refine jU (qW 15 [iv 0] 3 (fun b => .slice (some ⟨b, 0, none⟩) 1 1) ha hS fun b6 w a hb7 hS ha => ?_)
  replace hS := blkRow hS 1 1 0 rfl rfl (by decide)
  replace hS : Sat w0 w ((rI (⟨some ⟨b6, 0, none⟩, 1, 1⟩ : Sl) [0]) :: (SX.blk b1 [.slice s.A s.n s.c] 28) :: []) := hS
  refine jU (qX 16 (vs := [.slice sb.A sb.n sb.c, .slice (some ⟨b6, 0, none⟩) 1 1]) ha (comes_sat (sa := (⟨some ⟨b6, 0, none⟩, 1, 1⟩ : Sl)) (L0 := [0]) hS hrb hoj.1 hb1 (fun x hx => by rw [List.mem_singleton.1 hx]; omega) (by decide) hoj.2) fun v8 w a hp9 ha => ?_)
  obtain ⟨ro1, rfl, hS⟩ := hp9
  refine jY [(7, 4, .slice ro1.A ro1.n ro1.c), (8, 5, .bool true)] ha fun a ha => ?_
  refine jZ (jJ (wp_ret (yX ha (by kernel_rfl) (qK (t := 4) ha rfl) (qK (t := 5) ha rfl) ?_)))
  rw [opnP_at c5 hb]
  exact ⟨ro1, rfl, hS.pickN 2 [0]⟩
 refine qJ ha rfl (yK c5) ?_
 refine wp_seq (jX [0, 1] (jY [(0, 4, .slice none 0 0), (1, 5, .bool false)] ha fun a ha => ?_))
 refine jZ (jJ (wp_ret (qV (yX ha (by kernel_rfl) (qK (t := 4) ha rfl) (qK (t := 5) ha rfl) ?_))))
 rw [show opnP l f = ([], false) by unfold opnP; rw [if_neg (by rw [c5]; decide)]]
 exact ⟨⟨none, 0, 0⟩, rfl, Sat.nilRow (Sat.rest [_] hS)⟩
theorem impl_OpenPlaces_sat {w0 w : World} {Rs : List Asn} {s : Sl} {l : List (List ST)} {f : Int} (hS : Sat w0 w Rs) (hr : RdP w s l) (hf : Fits l) :
  Calls Try.prog 36 #[.agg #[.slice s.A s.n s.c], iv f] w (Ret fun r w' => ∃ o : Sl, r = .tuple #[.slice o.A o.n o.c, .bool (opnP l f).2] ∧ Sat w0 w' (SX.row (.slice o.A o.n o.c) 3 1 (SX.encI ((opnP l f).1)) :: Rs)) :=
 (impl_OpenPlaces_sat0 hr hf).mono fun e w' h => by
  cases e with
  | returned r => obtain ⟨o, h1, h2⟩ := h; exact ⟨o, h1, hS.comp h2⟩
  | _ => exact h.elim
theorem code35 : Try.f35.body = some (Code.seq (cr Try.f35 0 false) (Code.seq (Code.seq (cr Try.f35 1 false) (Code.cond (Operand.tmp 9) (Code.seq (cr Try.f35 2 false) Code.ret) Code.skip)) (Code.seq (cr Try.f35 3 false) Code.ret))) := by kernel_rfl
theorem spec_OpenPlaces_sat0 {w0 : World} {s : Sl} {l : List (List ST)} {f : Int} (hr : RdP w0 s l) (hf : Fits l) :
  Calls Try.prog 35 #[.agg #[.slice s.A s.n s.c], iv f] w0 (Ret fun r w' => ∃ o : Sl, r = .tuple #[.slice o.A o.n o.c, .bool (opnP l f).2] ∧ Sat w0 w' [SX.row (.slice o.A o.n o.c) 3 1 (SX.encI ((opnP l f).1))]) := by
 have hS : Sat w0 w0 [] := Sat.start w0
 refine enter (n := 17) Try.func35 code35 (by kernel_rfl) (Nat.le_of_ble_eq_true rfl) (fun a ha => ?_)
 replace ha : Has 17 [(0, .agg #[.slice s.A s.n s.c]), (1, iv f)] a := ha
 refine wp_seq (jX [0, 1, 2] (jU (qW 2 [.slice s.A s.n s.c] 28 (ptr · 0) ha hS fun b1 w a hb2 hS ha => ?_)))
 refine jY [(1, 4, .slice none 0 0), (2, 5, .bool false)] ha fun a ha => ?_
 refine jZ (jJ (wp_seq (wp_seq (jX [0, 1, 2, 3] (yY 6 ha (hS.blk 0 rfl) fun a ha => ?_)))))
 refine jY [(1, 7, iv f)] ha fun a ha => ?_
 refine jU (qX 8 (vs := [.agg #[.slice s.A s.n s.c], iv f]) ha (l11Function_sat hS (hr.sat hS) hf) fun v3 w a hp4 ha => ?_)
 obtain ⟨rfl, hS⟩ := hp4
 refine jY [(3, 9, .bool (!(okF l f)))] ha fun a ha => ?_
 refine jZ (jJ ?_)
 rcases Bool.eq_false_or_eq_true (okF l f) with c5 | c5
 ·
  have hx1 := okF_lt c5
  obtain ⟨b, hb⟩ : ∃ b, l[f.toNat]? = some b := ⟨_, List.getElem?_eq_getElem (by omega)⟩
  have hb1 : b.length ≤ 1048576 := hf.each b (List.mem_of_getElem? hb)
  obtain ⟨hA0, sb, hcb, hrb⟩ := body_rd hr hb
  have hsb := hrb.len
  have hoj := okJ_of (okF_prog c5) (List.mem_of_getElem? hb)
  refine jV ha rfl (yQ c5) ?_
  refine wp_skip (jJ (wp_seq (jX [0, 1, 2, 3, 4, 5, 6, 7] (jY [(0, 11, ptr b1 0)] ha fun a ha => ?_))))
  refine xY (d := 12) (b := b1) (j := 0) ha (hS.blk 0 rfl) rfl fun a ha => ?_
  refine jY [(2, 13, iv f)] ha fun a ha => ?_
  refine qY (.pointer (some ⟨bk s, of_ s + f.toNat * 1, none⟩)) ha (xZ (s := s) (el := 69) (sz := 1) (j := f.toNat) ha (xW (t := 26) (x := 12) (y := 13) (d := 14)) rfl rfl (by kernel_rfl) (by kernel_rfl) hA0 (Int.toNat_of_nonneg hx1.1).symm (by rw [hr.len]; omega)) fun a ha => ?_
  refine qY (.slice sb.A sb.n sb.c) ha (qU ha (xK (t := 69) (x := 14) (d := 15) (ty := 69)) rfl (by kernel_rfl) (fun w' hw => by rw [hw]; rw [Nat.mul_one]; exact pw_cell_below hS.below hcb)) fun a ha => ?_
  refine jU (qX 16 (vs := [.slice sb.A sb.n sb.c]) ha (open11_sat hS hrb hoj.1 hb1 hoj.2) fun v6 w a hp7 ha => ?_)
  obtain ⟨ro1, rfl, hS⟩ := hp7
  refine jY [(6, 4, .slice ro1.A ro1.n ro1.c), (7, 5, .bool true)] ha fun a ha => ?_
  refine jZ (jJ (wp_ret (yX ha (by kernel_rfl) (qK (t := 4) ha rfl) (qK (t := 5) ha rfl) ?_)))
  rw [opnP_at c5 hb]
  exact ⟨ro1, rfl, hS.pickN 2 [0]⟩
 refine qJ ha rfl (yK c5) ?_
 refine wp_seq (jX [0, 1, 2] (jU (qW 10 [] 3 (fun b => .slice (some ⟨b, 0, none⟩) 0 0) ha hS fun b8 w a hb9 hS ha => ?_)))
 refine jY [(1, 4, .slice (some ⟨b8, 0, none⟩) 0 0), (2, 5, .bool false)] ha fun a ha => ?_
 refine jZ (jJ (wp_ret (qV (yX ha (by kernel_rfl) (qK (t := 4) ha rfl) (qK (t := 5) ha rfl) ?_))))
 rw [show opnP l f = ([], false) by unfold opnP; rw [if_neg (by rw [c5]; decide)]]
 replace hS := hS.blk0 1 0 rfl
 exact ⟨(⟨some ⟨b8, 0, none⟩, 0, 0⟩ : Sl), rfl, hS.pickN 2 [0]⟩
theorem spec_OpenPlaces_sat {w0 w : World} {Rs : List Asn} {s : Sl} {l : List (List ST)} {f : Int} (hS : Sat w0 w Rs) (hr : RdP w s l) (hf : Fits l) :
  Calls Try.prog 35 #[.agg #[.slice s.A s.n s.c], iv f] w (Ret fun r w' => ∃ o : Sl, r = .tuple #[.slice o.A o.n o.c, .bool (opnP l f).2] ∧ Sat w0 w' (SX.row (.slice o.A o.n o.c) 3 1 (SX.encI ((opnP l f).1)) :: Rs)) :=
 (spec_OpenPlaces_sat0 hr hf).mono fun e w' h => by
  cases e with
  | returned r => obtain ⟨o, h1, h2⟩ := h; exact ⟨o, h1, hS.comp h2⟩
  | _ => exact h.elim
theorem code9 : Try.f9.body = some (Code.seq (cr Try.f9 0 false) (Code.seq (cr Try.f9 1 false) (Code.seq (cr Try.f9 2 false) (Code.seq (Code.seq (cr Try.f9 3 false) (Code.cond (Operand.tmp 20) (Code.seq (cr Try.f9 4 false) Code.ret) Code.skip)) (Code.seq (cr Try.f9 5 false) (Code.seq (cr Try.f9 6 false) (Code.seq (cr Try.f9 7 false) (Code.seq (Code.seq (cr Try.f9 8 false) (Code.cond (Operand.tmp 44) (Code.seq (cr Try.f9 9 false) Code.ret) Code.skip)) (Code.seq (Code.seq (cr Try.f9 10 true) (Code.cond (Operand.tmp 49) (Code.seq (cr Try.f9 11 false) Code.ret) Code.skip)) (Code.seq (cr Try.f9 12 false) (Code.seq (cr Try.f9 13 false) (Code.seq (Code.seq (cr Try.f9 14 false) (Code.cond (Operand.tmp 65) (Code.seq (cr Try.f9 15 false) Code.ret) Code.skip)) (Code.seq (cr Try.f9 16 false) (Code.seq (cr Try.f9 17 false) (Code.seq (cr Try.f9 18 false) (Code.seq (cr Try.f9 19 false) (Code.seq (Code.seq (cr Try.f9 20 false) (Code.cond (Operand.tmp 73) (Code.seq (cr Try.f9 21 false) Code.ret) Code.skip)) (Code.seq (Code.seq (cr Try.f9 22 false) (Code.cond (Operand.tmp 76) (Code.seq (cr Try.f9 23 false) Code.ret) Code.skip)) (Code.seq (cr Try.f9 24 false) (Code.seq (Code.seq (cr Try.f9 25 false) (Code.cond (Operand.tmp 92) (Code.seq (cr Try.f9 26 false) Code.ret) Code.skip)) (Code.seq (cr Try.f9 27 false) (Code.seq (cr Try.f9 28 false) (Code.seq (Code.seq (cr Try.f9 29 false) (Code.cond (Operand.tmp 97) (Code.seq (cr Try.f9 30 false) Code.ret) Code.skip)) (Code.seq (Code.seq (cr Try.f9 31 false) (Code.cond (Operand.tmp 100) (Code.seq (cr Try.f9 32 false) Code.ret) Code.skip)) (Code.seq (cr Try.f9 33 false) Code.ret))))))))))))))))))))))))) := by kernel_rfl
theorem law9_walk (w0 : World) (s0 : Sl) (l0 : List (List LT)) (f : Int) (hr0 : RdA w0 s0 l0) :
  Calls Try.prog 9 #[.agg #[.slice s0.A s0.n s0.c], iv f] w0 (Ret fun r w' => r = .bool true ∧ Below w0.heap.size w0 w') := by
 have hS : Sat w0 w0 [] := Sat.start w0
 refine enter (n := 101) Try.func9 code9 (by kernel_rfl) (Nat.le_of_ble_eq_true rfl) (fun a ha => ?_)
 replace ha : Has 101 [(0, .agg #[.slice s0.A s0.n s0.c]), (1, iv f)] a := ha
 refine wp_seq (jX [0, 1] (jU (qW 2 [.slice s0.A s0.n s0.c] 24 (ptr · 0) ha hS fun b1 w a hb2 hS ha => ?_)))
 refine jY [(1, 4, .bool false)] ha fun a ha => ?_
 refine jZ (jJ (wp_seq (jX [0] (jY [(0, 5, iv 1048576)] ha fun a ha => ?_))))
 refine jZ (jJ (wp_seq (jX [0, 1, 2, 3] (yY 16 ha (hS.blk 0 rfl) fun a ha => ?_))))
 refine jY [(1, 17, iv 1048576)] ha fun a ha => ?_
 refine jU (qX 18 (vs := [.agg #[.slice s0.A s0.n s0.c], iv 1048576]) ha (szProgram_sat hS (hr0.sat hS) (by omega) (by omega)) fun v3 w a hp4 ha => ?_)
 obtain ⟨rfl, hS⟩ := hp4
 refine jY [(3, 5, iv (szP l0 1048576))] ha fun a ha => ?_
 refine jZ (jJ (wp_seq (wp_seq (jX [0, 1] (jY [(0, 19, iv (szP l0 1048576)), (1, 20, .bool (decide ((szP l0 1048576) < 0)))] ha fun a ha => ?_)))))
 refine jZ (jJ ?_)
 by_cases c5 : (szP l0 1048576) < 0
 ·
  refine qJ ha rfl (decide_eq_true c5) ?_
  refine wp_seq (jX [0] (jY [(0, 4, .bool true)] ha fun a ha => ?_))
  refine jZ (jJ (wp_ret (qV (jH ha (by kernel_rfl) (qK (t := 4) ha rfl) ?_))))
  exact ⟨rfl, hS.below⟩
 have hf0 : Fits l0 := by have h8 : 0 ≤ szP l0 1048576 := (by omega); have h9 := szP_ok l0 1048576 h8; exact ⟨by omega, by omega⟩
 have htp0 := (toP_fits hf0).tot
 have hz0 := szP_ok l0 1048576 (by omega)
 refine jV ha rfl (decide_eq_false c5) ?_
 refine wp_skip (jJ (wp_seq (jX [0, 1, 2, 3, 4, 5, 6, 7, 8] (yY 22 ha (hS.blk 0 rfl) fun a ha => ?_))))
 refine jU (qX 23 (vs := [.agg #[.slice s0.A s0.n s0.c]]) ha (toProgram_sat hS (hr0.sat hS) hf0) fun v6 w a hp7 ha => ?_)
 obtain ⟨sp1, rfl, hS⟩ := hp7
 refine jY [(2, 24, iv f)] ha fun a ha => ?_
 refine jU (qX 25 (vs := [.agg #[.slice sp1.A sp1.n sp1.c], iv f]) ha (spec_OpenPlaces_sat hS (hS.rdS 0 rfl) (toP_fits hf0)) fun v8 w a hp9 ha => ?_)
 obtain ⟨o1, rfl, hS⟩ := hp9
 refine jY [(4, 21, .tuple #[.slice o1.A o1.n o1.c, .bool ((opnP (toP l0) f).2)]), (5, 26, .slice o1.A o1.n o1.c), (6, 27, .bool ((opnP (toP l0) f).2)), (7, 6, .slice o1.A o1.n o1.c), (8, 7, .bool ((opnP (toP l0) f).2))] ha fun a ha => ?_
 refine jZ (jJ (wp_seq (jX [0, 1, 2, 3] (yY 28 ha (hS.blk 2 rfl) fun a ha => ?_))))
 refine jU (qX 29 (vs := [.agg #[.slice s0.A s0.n s0.c]]) ha (toProgram_sat hS (hr0.sat hS) hf0) fun v10 w a hp11 ha => ?_)
 obtain ⟨sp2, rfl, hS⟩ := hp11
 refine jU (qW 8 [.slice none 0 0] 28 (ptr · 0) ha hS fun b12 w a hb13 hS ha => ?_)
 refine jU (o_sa 0 ha (zY (t := 28) (x := 8) (y := 29)) hS fun w a hS ha => ?_)
 refine jZ (jJ (wp_seq (jX [0, 1, 2, 3, 4, 5, 6, 7] (yY 31 ha (hS.blk 0 rfl) fun a ha => ?_))))
 refine jY [(1, 32, iv f)] ha fun a ha => ?_
 refine jU (qX 33 (vs := [.agg #[.slice sp2.A sp2.n sp2.c], iv f]) ha (impl_OpenPlaces_sat hS (hS.rdS 1 rfl) (toP_fits hf0)) fun v14 w a hp15 ha => ?_)
 obtain ⟨o2, rfl, hS⟩ := hp15
 refine jY [(3, 30, .tuple #[.slice o2.A o2.n o2.c, .bool ((opnP (toP l0) f).2)]), (4, 34, .slice o2.A o2.n o2.c), (5, 35, .bool ((opnP (toP l0) f).2)), (6, 9, .slice o2.A o2.n o2.c), (7, 10, .bool ((opnP (toP l0) f).2))] ha fun a ha => ?_
 refine jZ ?_
 replace ha := ha.as [(1, iv f), (2, ptr b1 0), (4, .bool false), (6, .slice o1.A o1.n o1.c), (7, .bool ((opnP (toP l0) f).2)), (8, ptr b12 0), (9, .slice o2.A o2.n o2.c), (10, .bool ((opnP (toP l0) f).2))] rfl
 refine jJ (wp_seq (wp_seq (jX [0, 1, 2, 3, 4, 5, 6, 7, 8] (jY [(0, 36, .slice o2.A o2.n o2.c), (1, 37, .slice o1.A o1.n o1.c)] ha fun a ha => ?_))))
 refine jU (qX 38 (vs := [.slice o2.A o2.n o2.c, .slice o1.A o1.n o1.c]) ha (eqIntS_sat hS (hS.rdRow (s := o2) 0 rfl) (hS.rdRow (s := o1) 3 rfl)) fun v16 w a hp17 ha => ?_)
 obtain ⟨rfl, hS⟩ := hp17
 refine jY [(3, 39, .bool false), (4, 40, .bool false), (5, 41, .bool ((opnP (toP l0) f).2)), (6, 42, .bool ((opnP (toP l0) f).2))] ha fun a ha => ?_
 refine qY (.bool false) ha ((jW (v := .bool (!(((opnP (toP l0) f).2) == ((opnP (toP l0) f).2)))) ha (AtG.here (gd := 40) ⟨(by kernel_rfl : ((jK Try.f9 8)[7]?).map spec = some ((Op.binOp BinOp.neq 4 (Operand.tmp 41) (Operand.tmp 42) 4), some 43, 4, some (4, false))), by kernel_rfl⟩ ha rfl) (by kernel_rfl) (fun _ => by kernel_rfl)).as (by simp)) fun a ha => ?_
 refine jY [(8, 44, .bool false)] ha fun a ha => ?_
 refine jZ (jJ ?_)
 refine jV ha rfl rfl ?_
 refine wp_skip (jJ (wp_seq (wp_seq (xV 5 5 (hS.pickN 6 [1, 5]) hS fun w hS => ?_))))
 refine zK 0 45 ha (hS.pickN 6 [1, 5]) (fun _ hw => hw.blk 0 rfl) fun a ha => ?_
 refine zK 1 46 ha (hS.pickN 6 [1, 5]) (fun _ hw => hw.blk 1 rfl) fun a ha => ?_
 refine qG 2 (qX 47 (vs := [.agg #[.slice s0.A s0.n s0.c]]) ha (toProgram_sat hS (hr0.sat hS) hf0) fun v18 w a hp19 ha => ?_)
 obtain ⟨sp3, rfl, hS⟩ := hp19
 refine ⟨.inr (hS.pickN 7 [2, 6]), ?_⟩
 refine qG 3 (qX 48 (vs := [.agg #[.slice sp2.A sp2.n sp2.c], .agg #[.slice sp3.A sp3.n sp3.c]]) ha (eqP_sat hS (hS.rdS 3 rfl) (hS.rdS 0 rfl) (toP_fits hf0)) fun v20 w a hp21 ha => ?_)
 obtain ⟨rfl, hS⟩ := hp21
 refine ⟨.inr (hS.pickN 7 [2, 6]), ?_⟩
 refine qZ (k := 0) [(4, 49, .bool false)] ha (.inr (hS.pickN 7 [2, 6])) fun a ha => ?_
 refine xU (jJ ?_)
 refine jV ha rfl rfl ?_
 refine wp_skip (jJ (wp_seq (jX [0] (jY [(0, 11, iv 1)] ha fun a ha => ?_))))
 refine jZ (jJ (wp_seq (jX [0, 1, 2, 3] (yY 50 ha (hS.blk 2 rfl) fun a ha => ?_))))
 refine jY [(1, 51, iv 1)] ha fun a ha => ?_
 replace hS := hS.pickN 7 [3, 0, 1, 2, 4, 5, 6]
 refine jU (qX 52 (vs := [.agg #[.slice sp2.A sp2.n sp2.c], iv 1]) ha (markProgram_sat hS (toP_fits hf0) (by omega) (by omega)) fun v22 w a hp23 ha => ?_)
 obtain ⟨rfl, hS⟩ := hp23
 refine jY [(3, 11, iv (1 + 3 * (tot (toP l0) : Int)))] ha fun a ha => ?_
 refine jZ ?_
 replace ha := ha.as [(1, iv f), (2, ptr b1 0), (4, .bool false), (6, .slice o1.A o1.n o1.c), (7, .bool ((opnP (toP l0) f).2)), (9, .slice o2.A o2.n o2.c), (10, .bool ((opnP (toP l0) f).2)), (11, iv (1 + 3 * (tot (toP l0) : Int)))] rfl
 refine jJ (wp_seq (wp_seq (jX [0, 1, 2, 3, 4, 5, 6, 7, 8, 9, 10, 11, 12] (jY [(0, 53, iv (1 + 3 * (tot (toP l0) : Int)))] ha fun a ha => ?_))))
 refine qY (.bool false) ha ((jW (v := .bool (decide (1 + 3 * (tot (toP l0) : Int) < 0))) ha (qH (op := (Op.binOp BinOp.lss 3 (Operand.tmp 53) (Operand.const (Value.int IntKind.i64 0)) 3)) (d := some 54) (ty := 4)) (by kernel_rfl) (fun _ => by kernel_rfl)).as (by rw [decide_eq_false (by omega)])) fun a ha => ?_
 refine jY [(2, 55, .bool false), (3, 56, .slice o2.A o2.n o2.c), (4, 57, .slice o1.A o1.n o1.c)] ha fun a ha => ?_
 refine jU (qX 58 (vs := [.slice o2.A o2.n o2.c, .slice o1.A o1.n o1.c]) ha (eqIntS_sat hS (hS.rdRow (s := o2) 2 rfl) (hS.rdRow (s := o1) 4 rfl)) fun v24 w a hp25 ha => ?_)
 obtain ⟨rfl, hS⟩ := hp25
 refine jY [(6, 59, .bool false), (7, 60, .bool false), (8, 61, .bool false), (9, 62, .bool ((opnP (toP l0) f).2)), (10, 63, .bool ((opnP (toP l0) f).2))] ha fun a ha => ?_
 refine qY (.bool false) ha ((jW (v := .bool (!(((opnP (toP l0) f).2) == ((opnP (toP l0) f).2)))) ha (AtG.here (gd := 61) ⟨(by kernel_rfl : ((jK Try.f9 14)[11]?).map spec = some ((Op.binOp BinOp.neq 4 (Operand.tmp 62) (Operand.tmp 63) 4), some 64, 4, some (8, false))), by kernel_rfl⟩ ha rfl) (by kernel_rfl) (fun _ => by kernel_rfl)).as (by simp)) fun a ha => ?_
 refine jY [(12, 65, .bool false)] ha fun a ha => ?_
 refine jZ (jJ ?_)
 refine jV ha rfl rfl ?_
 refine wp_skip (jJ (wp_seq (jX [0] (jY [(0, 12, iv 1)] ha fun a ha => ?_))))
 refine jZ (jJ (wp_seq (jX [0, 1, 2, 3] (jY [(0, 66, .slice o2.A o2.n o2.c), (1, 67, iv 1)] ha fun a ha => ?_))))
 replace hS := hS.pickN 7 [2, 0, 1, 3, 4, 5, 6]
 refine jU (qX 68 (vs := [.slice o2.A o2.n o2.c, iv 1]) ha (markG_sat hS (by omega) (by omega) (Nat.le_trans (opnP_len ..) (by decide))) fun v26 w a hp27 ha => ?_)
 obtain ⟨rfl, hS⟩ := hp27
 refine jY [(3, 12, iv (1 + (((opnP (toP l0) f).1).length : Int)))] ha fun a ha => ?_
 refine jZ ?_
 replace ha := ha.as [(1, iv f), (2, ptr b1 0), (4, .bool false), (6, .slice o1.A o1.n o1.c), (7, .bool ((opnP (toP l0) f).2)), (9, .slice o2.A o2.n o2.c), (12, iv (1 + (((opnP (toP l0) f).1).length : Int)))] rfl
 refine jJ (wp_seq (jX [0] (jY [(0, 13, iv 1)] ha fun a ha => ?_)))
 refine jZ (jJ (wp_seq (jX [0, 1, 2, 3] (jY [(0, 69, .slice o2.A o2.n o2.c), (1, 70, iv 1)] ha fun a ha => ?_))))
 refine jU (qX 71 (vs := [.slice o2.A o2.n o2.c, iv 1]) ha (heldI_sat hS (hS.rdRow (s := o2) 0 rfl) (Nat.le_trans (opnP_len ..) (by decide))) fun v28 w a hp29 ha => ?_)
 obtain ⟨rfl, hS⟩ := hp29
 refine jY [(3, 13, iv (1 + (((opnP (toP l0) f).1).length : Int)))] ha fun a ha => ?_
 refine jZ (jJ (wp_seq (wp_seq (jX [0, 1] (jY [(0, 72, iv (1 + (((opnP (toP l0) f).1).length : Int)))] ha fun a ha => ?_)))))
 refine qY (.bool false) ha ((jW (v := .bool (decide (1 + (((opnP (toP l0) f).1).length : Int) < 0))) ha (qH (op := (Op.binOp BinOp.lss 3 (Operand.tmp 72) (Operand.const (Value.int IntKind.i64 0)) 3)) (d := some 73) (ty := 4)) (by kernel_rfl) (fun _ => by kernel_rfl)).as (by rw [decide_eq_false (by omega)])) fun a ha => ?_
 refine jZ (jJ ?_)
 refine jV ha rfl rfl ?_
 refine wp_skip (jJ (wp_seq (wp_seq (jX [0, 1, 2] (jY [(0, 74, iv (1 + (((opnP (toP l0) f).1).length : Int))), (1, 75, iv (1 + (((opnP (toP l0) f).1).length : Int)))] ha fun a ha => ?_)))))
 refine qY (.bool false) ha ((jW (v := .bool (!(decide (1 + (((opnP (toP l0) f).1).length : Int) = 1 + (((opnP (toP l0) f).1).length : Int))))) ha (qH (op := (Op.binOp BinOp.neq 3 (Operand.tmp 74) (Operand.tmp 75) 3)) (d := some 76) (ty := 4)) (by kernel_rfl) (fun _ => by kernel_rfl)).as (by simp)) fun a ha => ?_
 refine jZ (jJ ?_)
 refine jV ha rfl rfl ?_
 refine wp_skip (jJ (wp_seq (jX [0, 1, 2, 3, 4, 5, 6, 7, 8] (yY 78 ha (hS.blk 6 rfl) fun a ha => ?_))))
 refine jU (qX 79 (vs := [.agg #[.slice s0.A s0.n s0.c]]) ha (toProgram_sat hS (hr0.sat hS) hf0) fun v30 w a hp31 ha => ?_)
 obtain ⟨sp4, rfl, hS⟩ := hp31
 refine jY [(2, 80, iv f)] ha fun a ha => ?_
 refine jU (qX 81 (vs := [.agg #[.slice sp4.A sp4.n sp4.c], iv f]) ha (impl_OpenPlaces_sat hS (hS.rdS 0 rfl) (toP_fits hf0)) fun v32 w a hp33 ha => ?_)
 obtain ⟨o3, rfl, hS⟩ := hp33
 refine jY [(4, 77, .tuple #[.slice o3.A o3.n o3.c, .bool ((opnP (toP l0) f).2)]), (5, 82, .slice o3.A o3.n o3.c), (6, 83, .bool ((opnP (toP l0) f).2)), (7, 14, .slice o3.A o3.n o3.c), (8, 15, .bool ((opnP (toP l0) f).2))] ha fun a ha => ?_
 refine jZ ?_
 replace ha := ha.as [(4, .bool false), (6, .slice o1.A o1.n o1.c), (7, .bool ((opnP (toP l0) f).2)), (9, .slice o2.A o2.n o2.c), (12, iv (1 + (((opnP (toP l0) f).1).length : Int))), (13, iv (1 + (((opnP (toP l0) f).1).length : Int))), (14, .slice o3.A o3.n o3.c), (15, .bool ((opnP (toP l0) f).2))] rfl
 refine jJ (wp_seq (wp_seq (jX [0, 1, 2, 3, 4, 5, 6, 7, 8] (jY [(0, 84, .slice o3.A o3.n o3.c), (1, 85, .slice o1.A o1.n o1.c)] ha fun a ha => ?_))))
 refine jU (qX 86 (vs := [.slice o3.A o3.n o3.c, .slice o1.A o1.n o1.c]) ha (eqIntS_sat hS (hS.rdRow (s := o3) 0 rfl) (hS.rdRow (s := o1) 6 rfl)) fun v34 w a hp35 ha => ?_)
 obtain ⟨rfl, hS⟩ := hp35
 refine jY [(3, 87, .bool false), (4, 88, .bool false), (5, 89, .bool ((opnP (toP l0) f).2)), (6, 90, .bool ((opnP (toP l0) f).2))] ha fun a ha => ?_
 refine qY (.bool false) ha ((jW (v := .bool (!(((opnP (toP l0) f).2) == ((opnP (toP l0) f).2)))) ha (AtG.here (gd := 88) ⟨(by kernel_rfl : ((jK Try.f9 25)[7]?).map spec = some ((Op.binOp BinOp.neq 4 (Operand.tmp 89) (Operand.tmp 90) 4), some 91, 4, some (4, false))), by kernel_rfl⟩ ha rfl) (by kernel_rfl) (fun _ => by kernel_rfl)).as (by simp)) fun a ha => ?_
 refine jY [(8, 92, .bool false)] ha fun a ha => ?_
 refine jZ (jJ ?_)
 refine jV ha rfl rfl ?_
 refine wp_skip (jJ (wp_seq (jX [0] (jY [(0, 13, iv 1)] ha fun a ha => ?_))))
 refine jZ (jJ (wp_seq (jX [0, 1, 2, 3] (jY [(0, 93, .slice o2.A o2.n o2.c), (1, 94, iv 1)] ha fun a ha => ?_))))
 refine jU (qX 95 (vs := [.slice o2.A o2.n o2.c, iv 1]) ha (heldI_sat hS (hS.rdRow (s := o2) 2 rfl) (Nat.le_trans (opnP_len ..) (by decide))) fun v36 w a hp37 ha => ?_)
 obtain ⟨rfl, hS⟩ := hp37
 refine jY [(3, 13, iv (1 + (((opnP (toP l0) f).1).length : Int)))] ha fun a ha => ?_
 refine jZ ?_
 replace ha := ha.as [(4, .bool false), (12, iv (1 + (((opnP (toP l0) f).1).length : Int))), (13, iv (1 + (((opnP (toP l0) f).1).length : Int)))] rfl
 refine jJ (wp_seq (wp_seq (jX [0, 1] (jY [(0, 96, iv (1 + (((opnP (toP l0) f).1).length : Int)))] ha fun a ha => ?_))))
 refine qY (.bool false) ha ((jW (v := .bool (decide (1 + (((opnP (toP l0) f).1).length : Int) < 0))) ha (qH (op := (Op.binOp BinOp.lss 3 (Operand.tmp 96) (Operand.const (Value.int IntKind.i64 0)) 3)) (d := some 97) (ty := 4)) (by kernel_rfl) (fun _ => by kernel_rfl)).as (by rw [decide_eq_false (by omega)])) fun a ha => ?_
 refine jZ (jJ ?_)
 refine jV ha rfl rfl ?_
 refine wp_skip (jJ (wp_seq (wp_seq (jX [0, 1, 2] (jY [(0, 98, iv (1 + (((opnP (toP l0) f).1).length : Int))), (1, 99, iv (1 + (((opnP (toP l0) f).1).length : Int)))] ha fun a ha => ?_)))))
 refine qY (.bool false) ha ((jW (v := .bool (!(decide (1 + (((opnP (toP l0) f).1).length : Int) = 1 + (((opnP (toP l0) f).1).length : Int))))) ha (qH (op := (Op.binOp BinOp.neq 3 (Operand.tmp 98) (Operand.tmp 99) 3)) (d := some 100) (ty := 4)) (by kernel_rfl) (fun _ => by kernel_rfl)).as (by simp)) fun a ha => ?_
 refine jZ (jJ ?_)
 refine jV ha rfl rfl ?_
 refine wp_skip (jJ (wp_seq (jX [0] (jY [(0, 4, .bool true)] ha fun a ha => ?_))))
 refine jZ (jJ (wp_ret (jH ha (by kernel_rfl) (qK (t := 4) ha rfl) ?_)))
 exact ⟨rfl, hS.below⟩
end Go.Proofs.Ytbgfiiehjaghiaa.G
