/- What the claim FnExactWithoutRecovers rests on, part 17 of 18; the last part proves it: for every input the law answers true, and its arguments read behind the call as before it. No condition. -/
import Derived.Test.YtbgfiiehjaghiaaQWithoutRecovers7
import Derived.Test.YtbgfiiehjaghiaaQWithoutRecovers8
import Derived.Test.YtbgfiiehjaghiaaQWithoutRecovers13
import Derived.Test.YtbgfiiehjaghiaaQWithoutRecovers14
import Derived.Test.YtbgfiiehjaghiaaQWithoutRecovers16
set_option linter.unusedSimpArgs false
set_option linter.unusedVariables false
set_option maxRecDepth 20000
set_option maxHeartbeats 1000000
namespace Go.Proofs.Ytbgfiiehjaghiaa.G
open Go.RowKit Go.Proofs.Ytbgfiiehjaghiaa.SX Go.Proofs.YtbgfiiehjaghiaaW.PrintWords Go.Proofs.YtbgfiiehjaghiaaW.PrintLast Go.Proofs.YtbgfiiehjaghiaaW.PrintMore
theorem l2Own_l0 (l : List (List ST)) (hl : l.length ≤ 1048576) (hb : ∀ b ∈ l, b.length ≤ 1048576) : ∀ d i, i + d = l.length → ∀ k, d < k → spec_l2Own.l0 k (i : Int) l (l.take i) = some l := by
 intro d
 induction d with
 | zero =>
  intro i hi k hk
  obtain ⟨k, rfl⟩ : ∃ m, k = m + 1 := ⟨k - 1, by omega⟩
  have : i = l.length := by omega
  subst this
  simp only [spec_l2Own.l0]
  rw [if_neg (by omega), List.take_length]
 | succ d ih =>
  intro i hi k hk
  obtain ⟨k, rfl⟩ : ∃ m, k = m + 1 := ⟨k - 1, by omega⟩
  have hlt : i < l.length := by omega
  have hrd : rd_L4 l (i : Int) = l[i] := by simp [rd_L4, List.getD, hlt]
  simp only [spec_l2Own.l0, hrd, Option.bind_some, List.nil_append]
  rw [if_pos (by omega), if_pos (by omega), if_pos (by have := hb _ (List.getElem_mem hlt); simp; omega)]
  rw [if_pos (by rw [List.length_take]; omega), w64b (by omega) (by omega), show ((i : Int) + 1) = ((i + 1 : Nat) : Int) from rfl]
  have := ih (i + 1) (by omega) k (by omega)
  rw [List.take_add_one, List.getElem?_eq_getElem hlt] at this
  exact this
theorem l2Own_f (l : List (List ST)) (hf : Fits l) (k : Nat) (hk : l.length < k) : spec_l2Own.f k l = some l := by
 have := l2Own_l0 l hf.len hf.each l.length 0 (by omega) k hk
 unfold spec_l2Own.f
 simpa using this
theorem nil_fits {α : Type} : Fits ([] : List (List α)) := ⟨by simp, by simp [tot]⟩
section
variable {w0 w : World} {Rs : List Asn} {s : Sl} {l : List (List ST)} {f at_ : Int}
theorem l2Program_sat (hS : Sat w0 w Rs) (hr : RdP w s l) (hf : Fits l) :
  Calls Try.prog 63 #[.agg #[.slice s.A s.n s.c]] w (Ret fun r w' => r = .bool (programB l) ∧ Sat w0 w' Rs) := by
 have := spec_l2Program.calls 1048580 s.A s.c l (programB l) w hr.rd hr.le (l2Program_f l hf.len 1048580 (by omega))
 rw [← hr.len] at this
 refine this.mono ?_
 rintro e w' ⟨rfl, hb⟩
 exact ⟨rfl, Sat.skip hS hb⟩
theorem isProgram_sat (hS : Sat w0 w Rs) (hr : RdP w s l) (hf : Fits l) :
  Calls Try.prog 64 #[.agg #[.slice s.A s.n s.c]] w (Ret fun r w' => r = .bool (programB l) ∧ Sat w0 w' Rs) := by
 have := impl_IsProgram.calls s.A s.c l (programB l) w hr.rd hr.le rfl
 rw [← hr.len] at this
 refine this.mono ?_
 rintro e w' ⟨rfl, hb⟩
 exact ⟨rfl, Sat.skip hS hb⟩
theorem l2Own_sat (hS : Sat w0 w Rs) (hr : RdP w s l) (hf : Fits l) :
  Calls Try.prog 56 #[.agg #[.slice s.A s.n s.c]] w (Ret fun r w' => ∃ s' : Sl, r = .agg #[s'.v] ∧ Sat w0 w' (prg w0.heap.size s' l :: Rs)) := by
 have := spec_l2Own.calls 1048580 s.A s.c l l w hr.rd hr.le (l2Own_f l hf 1048580 (by have := hf.len; omega))
 rw [← hr.len] at this
 refine this.mono ?_
 rintro e w' ⟨v, rfl, h1, h2⟩
 obtain ⟨s', rfl, h3⟩ := hS.madeS h2 h1
 exact ⟨s', rfl, h3⟩
end
def wrS (x : ST) : ST := if x.f0 = 7 then ⟨1, x.f1, 0⟩ else x
def curF (l : List (List ST)) (i : Nat) : List (List ST) := (l.take i).map (List.map wrS) ++ l.drop i
theorem curF_zero (l : List (List ST)) : curF l 0 = l := by simp [curF]
theorem curF_end (l : List (List ST)) : curF l l.length = l.map (List.map wrS) := by simp [curF]
theorem curF_len (l : List (List ST)) (i : Nat) : (curF l i).length = l.length := by unfold curF; rw [List.length_append, List.length_map, List.length_take, List.length_drop]; omega
theorem curF_get {l : List (List ST)} {i : Nat} {b : List ST} (hb : l[i]? = some b) : (curF l i)[i]? = some b := by
 have hi := (List.getElem?_eq_some_iff.1 hb).1
 have hl : ((l.take i).map (List.map wrS)).length = i := by rw [List.length_map, List.length_take]; omega
 unfold curF
 rw [List.getElem?_append_right (by omega), hl, Nat.sub_self, List.getElem?_drop, Nat.add_zero, hb]
theorem curF_set {l : List (List ST)} {i : Nat} {b : List ST} (hb : l[i]? = some b) : (curF l i).set i (b.map wrS) = curF l (i + 1) := by
 have hi := (List.getElem?_eq_some_iff.1 hb).1
 have hl : ((l.take i).map (List.map wrS)).length = i := by rw [List.length_map, List.length_take]; omega
 unfold curF
 rw [List.set_append_right _ _ (by omega), hl, Nat.sub_self, List.drop_eq_getElem_cons hi, List.set_cons_zero, List.take_add_one, hb, List.map_append, List.append_assoc]; rfl
def withoP (l : List (List ST)) : List (List ST) × Bool := if programB l = true then (l.map (List.map wrS), true) else ([], false)
theorem tot_wr (l : List (List ST)) : tot (l.map (List.map wrS)) = tot l := by
 induction l with
 | nil => rfl
 | cons b l ih => simp only [List.map_cons, tot, List.length_map, ih]
theorem withoP_fits {l : List (List ST)} (hf : Fits l) : Fits (withoP l).1 := by
 unfold withoP
 split
 · exact ⟨by rw [List.length_map]; exact hf.len, by rw [tot_wr]; exact hf.tot⟩
 · exact nil_fits
theorem code23 : Try.f23.body = some (Code.seq (cr Try.f23 0 false) (Code.seq (Code.seq (cr Try.f23 1 false) (Code.cond (Operand.tmp 11) (Code.seq (cr Try.f23 2 false) Code.ret) Code.skip)) (Code.seq (cr Try.f23 3 false) (Code.seq (Code.seq (cr Try.f23 4 false) (Code.block 0 (Code.loop (Code.seq (cr Try.f23 5 false) (Code.seq (Code.cond (Operand.tmp 19) Code.skip (Code.exit 0)) (Code.seq (Code.block 1 (Code.seq (cr Try.f23 6 false) (Code.seq (cr Try.f23 7 false) (Code.block 2 (Code.loop (Code.seq (cr Try.f23 8 false) (Code.seq (Code.cond (Operand.tmp 25) Code.skip (Code.exit 2)) (Code.seq (Code.block 3 (Code.seq (cr Try.f23 9 false) (Code.seq (cr Try.f23 10 false) (Code.cond (Operand.tmp 31) (cr Try.f23 11 false) Code.skip)))) (cr Try.f23 12 false))))))))) (cr Try.f23 13 false))))))) (Code.seq (cr Try.f23 14 false) Code.ret))))) := by kernel_rfl
theorem impl_WithoutRecovers_sat0 {w0 : World} {s0 : Sl} {l : List (List ST)}  (hr : RdP w0 s0 l) (hf : Fits l) :
  Calls Try.prog 23 #[.agg #[.slice s0.A s0.n s0.c]] w0 (Ret fun r w' => ∃ s : Sl, r = .tuple #[.agg #[s.v], .bool (withoP l).2] ∧ Sat w0 w' [prg w0.heap.size s (withoP l).1]) := by
 have hS : Sat w0 w0 [] := Sat.start w0
 refine enter (n := 41) Try.func23 code23 (by kernel_rfl) (Nat.le_of_ble_eq_true rfl) (fun a ha => ?_)
 replace ha : Has 41 [(0, .agg #[.slice s0.A s0.n s0.c])] a := ha
 refine wp_seq (jY [0, 1, 2] (jU (qG 1 [.slice s0.A s0.n s0.c] 28 (ptr · 0) ha hS fun b1 w a hb2 hS ha => ?_)))
 refine jU (qG 2 [.slice none 0 0] 28 (ptr · 0) ha hS fun b3 w a hb4 hS ha => ?_)
 refine jK [(2, 3, .bool false)] ha fun a ha => ?_
 refine jZ (jQ (wp_seq (wp_seq (jY [0, 1, 2] (qY 9 ha (hS.blk 1 rfl) fun a ha => ?_)))))
 refine jU (qJ 10 (vs := [.agg #[.slice s0.A s0.n s0.c]]) ha (isProgram_sat hS (hr.sat hS) hf) fun v5 w a hp6 ha => ?_)
 obtain ⟨rfl, hS⟩ := hp6
 refine jK [(2, 11, .bool (!(programB l)))] ha fun a ha => ?_
 refine jZ (jQ ?_)
 rcases Bool.eq_false_or_eq_true (programB l) with c7 | c7
 ·
  have hll := hf.len
  refine jG ha rfl (yV c7) ?_
  refine wp_skip (jQ (wp_seq (jY [0, 1, 2, 3] (qY 13 ha (hS.blk 1 rfl) fun a ha => ?_))))
  refine jU (qJ 14 (vs := [.agg #[.slice s0.A s0.n s0.c]]) ha (copied_sat hS (hr.sat hS) hf) fun v8 w a hp9 ha => ?_)
  obtain ⟨s1, rfl, hS⟩ := hp9
  refine jU (qG 4 [.slice none 0 0] 28 (ptr · 0) ha hS fun b10 w a hb11 hS ha => ?_)
  refine jU (o_sa 0 ha (xW (t := 28) (x := 4) (y := 14)) hS fun w a hS ha => ?_)
  refine jZ (jQ (wp_seq (wp_seq (jY [0, 1, 2, 3] (jK [(0, 15, ptr b10 0)] ha fun a ha => ?_)))))
  refine xX (d := 16) (b := b10) (j := 0) ha (hS.blk 0 rfl) rfl fun a ha => ?_
  refine jK [(2, 17, iv (s1.n : Int)), (3, 18, iv 0)] ha fun a ha => ?_
  refine jZ (jQ (wp_block ?_))
  replace hS := hS.pickN 4 [1, 0, 2]
  have hsn := (hS.rdS 0 rfl).len
  replace hS : Sat w0 w ((prg w0.heap.size s1 (curF l 0)) :: (SX.blk b10 [.slice s1.A s1.n s1.c] 28) :: (SX.blk b3 [.slice none 0 0] 28) :: []) := by rw [curF_zero]; exact hS
  refine wp_loop_ghost (fun n_ a_ w_ => ∃ (i : Nat), n_ = l.length - i ∧ (i ≤ l.length) ∧ Has 41 [(2, ptr b3 0), (3, .bool false), (4, ptr b10 0), (16, .slice s1.A s1.n s1.c), (17, iv (s1.n : Int)), (18, iv (i : Int))] a_ ∧ Sat w0 w_ ((prg w0.heap.size s1 (curF l i)) :: (SX.blk b10 [.slice s1.A s1.n s1.c] 28) :: (SX.blk b3 [.slice none 0 0] 28) :: [])) _ ⟨0, rfl, Nat.zero_le _, ha.keeps [2, 3, 4, 16, 17, 18] _ rfl, hS⟩ ?_
  rintro n_ a w ⟨i, rfl, hi, ha, hS⟩
  refine wp_seq (jY [0] (jK [(0, 19, .bool (decide ((i : Int) < (s1.n : Int))))] ha fun a ha => ?_))
  refine jZ (jQ (wp_seq ?_))
  by_cases c12 : (i : Int) < (s1.n : Int)
  ·
   have hlt : i < l.length := by omega
   obtain ⟨b, hb⟩ : ∃ b, l[i]? = some b := ⟨_, List.getElem?_eq_getElem hlt⟩;have hb1 : b.length ≤ 1048576 := hf.each b (List.mem_of_getElem? hb);refine jH ha rfl (decide_eq_true c12) ?_;refine wp_skip (jQ (wp_seq (wp_block (wp_seq ?_))));replace hS : Sat w0 w ((prg w0.heap.size s1 (curF l i)) :: (SX.blk b10 [.slice s1.A s1.n s1.c] 28) :: (SX.blk b3 [.slice none 0 0] 28) :: []) := hS;obtain ⟨vs, z, hvl, hz, hS⟩ := openFn hS (curF_get hb);replace hS : Sat w0 w ((SX.row (.slice s1.A s1.n s1.c) 69 1 (encSl vs)) :: (SX.row (.slice z.A z.n z.c) 68 3 (encS3 b)) :: (holeA w0.heap.size (curF l i) vs i) :: (SX.blk b10 [.slice s1.A s1.n s1.c] 28) :: (SX.blk b3 [.slice none 0 0] 28) :: []) := hS;have hzl : z.n = b.length := hS.rowL (s := z) (enc := cT) 1 cT_len (by decide) rfl;refine jY [0, 1, 2] (qK (.pointer (some ⟨bk s1, i * 1, none⟩)) ha (qZ (s := s1) (el := 69) (sz := 1) (j := i) ha (yJ (t := 26) (x := 16) (y := 18) (d := 20)) rfl rfl (by kernel_rfl) (by kernel_rfl) (hS.rowA (s := s1) 0 rfl (by have := (List.getElem?_eq_some_iff.1 hz).1; rw [encSl_length]; omega)) (rfl) (by have h9 := hS.rowL (s := s1) (enc := cSl) 0 cSl_len (by decide) rfl; have := (List.getElem?_eq_some_iff.1 hz).1; omega)) fun a ha => ?_);refine qK (.slice z.A z.n z.c) ha (qW ha (yY (t := 69) (x := 20) (d := 21) (ty := 69)) rfl (by kernel_rfl) (fun w' hw => by rw [hw]; exact (hS.rdC (s := s1) 0 rfl).cells _ _ ((flat_get (enc := cSl) (o := 0) cSl_len hz (by decide)).trans rfl))) fun a ha => ?_;refine jK [(2, 6, .slice z.A z.n z.c)] ha fun a ha => ?_;refine jZ (jQ (wp_seq (jY [0, 1, 2] (jK [(0, 22, .slice z.A z.n z.c), (1, 23, iv (z.n : Int)), (2, 24, iv 0)] ha fun a ha => ?_))));refine jZ (jQ (wp_block ?_));replace hS : Sat w0 w ((SX.row (.slice s1.A s1.n s1.c) 69 1 (encSl vs)) :: (SX.row (.slice z.A z.n z.c) 68 3 (encS3 b)) :: (holeA w0.heap.size (curF l i) vs i) :: (SX.blk b10 [.slice s1.A s1.n s1.c] 28) :: (SX.blk b3 [.slice none 0 0] 28) :: []) := hS;replace hS : Sat w0 w ((SX.row (.slice s1.A s1.n s1.c) 69 1 (encSl vs)) :: (SX.row (.slice z.A z.n z.c) 68 3 (encS3 (cur wrS b 0))) :: (holeA w0.heap.size (curF l i) vs i) :: (SX.blk b10 [.slice s1.A s1.n s1.c] 28) :: (SX.blk b3 [.slice none 0 0] 28) :: []) := by rw [cur_zero]; exact hS
   refine wp_loop_ghost (fun n_ a_ w_ => ∃ (j : Nat), n_ = b.length - j ∧ (j ≤ b.length) ∧ Has 41 [(2, ptr b3 0), (3, .bool false), (4, ptr b10 0), (16, .slice s1.A s1.n s1.c), (17, iv (s1.n : Int)), (18, iv (i : Int)), (19, .bool (decide ((i : Int) < (s1.n : Int)))), (20, .pointer (some ⟨bk s1, i * 1, none⟩)), (21, .slice z.A z.n z.c), (6, .slice z.A z.n z.c), (22, .slice z.A z.n z.c), (23, iv (z.n : Int)), (24, iv (j : Int))] a_ ∧ Sat w0 w_ ((SX.row (.slice s1.A s1.n s1.c) 69 1 (encSl vs)) :: (SX.row (.slice z.A z.n z.c) 68 3 (encS3 (cur wrS b j))) :: (holeA w0.heap.size (curF l i) vs i) :: (SX.blk b10 [.slice s1.A s1.n s1.c] 28) :: (SX.blk b3 [.slice none 0 0] 28) :: [])) _ ⟨0, rfl, Nat.zero_le _, ha.keeps [2, 3, 4, 16, 17, 18, 19, 20, 21, 6, 22, 23, 24] _ rfl, hS⟩ ?_
   rintro n_ a w ⟨j, rfl, hj, ha, hS⟩
   refine wp_seq (jY [0] (jK [(0, 25, .bool (decide ((j : Int) < (z.n : Int))))] ha fun a ha => ?_));refine jZ (jQ (wp_seq ?_))
   by_cases c13 : (j : Int) < (z.n : Int)
   ·
    have hjt : j < b.length := by omega
    obtain ⟨x, hx⟩ : ∃ x, b[j]? = some x := ⟨_, List.getElem?_eq_getElem hjt⟩;refine jH ha rfl (decide_eq_true c13) ?_;refine wp_skip (jQ (wp_seq (wp_block (wp_seq (jY [0, 1, 2, 3, 4, 5] (jK [(0, 26, iv (j : Int))] ha fun a ha => ?_))))));refine qK (.pointer (some ⟨bk z, j * 3, none⟩)) ha (qZ (s := z) (el := 68) (sz := 3) (j := j) ha (yJ (t := 69) (x := 22) (y := 24) (d := 27)) rfl rfl (by kernel_rfl) (by kernel_rfl) (hS.rowA (s := z) 1 rfl (by have := (List.getElem?_eq_some_iff.1 (cur_get (g := wrS) hx)).1; rw [encS3_length]; omega)) (rfl) (by have h9 := hS.rowL (s := z) (enc := cT) 1 cT_len (by decide) rfl; have := (List.getElem?_eq_some_iff.1 (cur_get (g := wrS) hx)).1; omega)) fun a ha => ?_;refine qK (.agg #[iv x.f0, iv x.f1, iv x.f2]) ha (v_loadL ha (yY (t := 68) (x := 27) (d := 28) (ty := 68)) rfl (fun w' hw => by rw [hw]; exact run_loadVar_agg (vs := [iv x.f0, iv x.f1, iv x.f2]) (by kernel_rfl) (fun i u hu => by match i, hu with | 0, hu => rw [add0]; rw [← Option.some.inj hu]; exact ((hS.rdC (s := z) 1 rfl).cells _ _ ((flat_get (enc := cT) (o := 0) cT_len (cur_get (g := wrS) hx) (by decide)).trans rfl)) | 1, hu => rw [add0]; rw [← Option.some.inj hu]; exact ((hS.rdC (s := z) 1 rfl).cells _ _ ((flat_get (enc := cT) (o := 1) cT_len (cur_get (g := wrS) hx) (by decide)).trans rfl)) | 2, hu => rw [add0]; rw [← Option.some.inj hu]; exact ((hS.rdC (s := z) 1 rfl).cells _ _ ((flat_get (enc := cT) (o := 2) cT_len (cur_get (g := wrS) hx) (by decide)).trans rfl)) | n + 3, hu => simp at hu))) fun a ha => ?_;refine jU (qG 8 [iv 0, iv 0, iv 0] 68 (ptr · 0) ha hS fun b14 w a hb15 hS ha => ?_);refine jK [(4, 7, iv (j : Int))] ha fun a ha => ?_;refine jU (o_sa 0 ha (xW (t := 68) (x := 8) (y := 28)) hS fun w a hS ha => ?_);refine jZ (jQ (wp_seq (jY [0, 1, 2] (jK [(0, 29, ptr b14 0)] ha fun a ha => ?_))));refine xX (d := 30) (b := b14) (j := 0) ha (hS.blk 0 rfl) rfl fun a ha => ?_;refine jK [(2, 31, .bool (decide (x.f0 = 7)))] ha fun a ha => ?_;refine jZ (jQ ?_)
    by_cases c16 : x.f0 = 7
    ·
     refine jH ha rfl (decide_eq_true c16) ?_;refine jY [0, 1, 2, 3, 4, 5, 6] (jK [(0, 32, .slice z.A z.n z.c), (1, 33, iv (j : Int)), (2, 34, ptr b14 1)] ha fun a ha => ?_);refine xX (d := 35) (b := b14) (j := 1) ha (hS.blk 0 rfl) rfl fun a ha => ?_;refine jK [(4, 36, .agg #[iv 1, iv x.f1, iv 0])] ha fun a ha => ?_;refine qK (.pointer (some ⟨bk z, j * 3, none⟩)) ha (qZ (s := z) (el := 68) (sz := 3) (j := j) ha (yJ (t := 69) (x := 32) (y := 33) (d := 37)) rfl rfl (by kernel_rfl) (by kernel_rfl) (hS.rowA (s := z) 2 rfl (by have := (List.getElem?_eq_some_iff.1 (cur_get (g := wrS) hx)).1; rw [encS3_length]; omega)) (rfl) (by have h9 := hS.rowL (s := z) (enc := cT) 2 cT_len (by decide) rfl; have := (List.getElem?_eq_some_iff.1 (cur_get (g := wrS) hx)).1; omega)) fun a ha => ?_;refine jU (o_storeRowA (s := z) (j := j * 3) (xs := encS3 (cur wrS b j)) (xs' := encS3 ((cur wrS b j).set j (⟨1, x.f1, 0⟩ : ST))) (vs := [iv 1, iv x.f1, iv 0]) 2 ha (xW (t := 68) (x := 37) (y := 36)) rfl rfl rfl (by kernel_rfl) hS rfl (by have := (List.getElem?_eq_some_iff.1 (cur_get (g := wrS) hx)).1; rw [encS3_length]; simp only [List.length_cons, List.length_nil]; omega) (Nat.succ_pos _) (flat_put (enc := cT) (x' := (⟨1, x.f1, 0⟩ : ST)) cT_len (cur_get (g := wrS) hx)) (fun w a (hS : Sat w0 w ((SX.blk b14 [iv x.f0, iv x.f1, iv x.f2] 68) :: (SX.row (.slice s1.A s1.n s1.c) 69 1 (encSl vs)) :: (SX.row (.slice z.A z.n z.c) 68 3 (encS3 ((cur wrS b j).set j (⟨1, x.f1, 0⟩ : ST)))) :: (holeA w0.heap.size (curF l i) vs i) :: (SX.blk b10 [.slice s1.A s1.n s1.c] 28) :: (SX.blk b3 [.slice none 0 0] 28) :: [])) ha => ?_));refine jZ (in_n (jQ (jY [0, 1] (yQ 38 ((j : Int) + 1) ha fun a ha => ?_))));refine jK [(1, 24, iv ((j : Int) + 1))] ha fun a ha => ?_;refine jZ (jQ ?_);replace hS := hS.pickN 6 [1, 2, 3, 4, 5];replace hS : Sat w0 w ((SX.row (.slice s1.A s1.n s1.c) 69 1 (encSl vs)) :: (SX.row (.slice z.A z.n z.c) 68 3 (encS3 (cur wrS b (j + 1)))) :: (holeA w0.heap.size (curF l i) vs i) :: (SX.blk b10 [.slice s1.A s1.n s1.c] 28) :: (SX.blk b3 [.slice none 0 0] 28) :: []) := by rw [← cur_set hx, show wrS x = ⟨1, x.f1, 0⟩ from if_pos c16]; exact hS
     exact ⟨_, by omega, j + 1, rfl, by omega, ha.keeps [2, 3, 4, 16, 17, 18, 19, 20, 21, 6, 22, 23, 24] _ rfl, hS⟩
    refine jG ha rfl (decide_eq_false c16) ?_;refine wp_skip (in_n (jQ (jY [0, 1] (yQ 38 ((j : Int) + 1) ha fun a ha => ?_))));refine jK [(1, 24, iv ((j : Int) + 1))] ha fun a ha => ?_;refine jZ (jQ ?_);replace hS := hS.pickN 6 [1, 2, 3, 4, 5];replace hS : Sat w0 w ((SX.row (.slice s1.A s1.n s1.c) 69 1 (encSl vs)) :: (SX.row (.slice z.A z.n z.c) 68 3 (encS3 (cur wrS b (j + 1)))) :: (holeA w0.heap.size (curF l i) vs i) :: (SX.blk b10 [.slice s1.A s1.n s1.c] 28) :: (SX.blk b3 [.slice none 0 0] 28) :: []) := by rw [← cur_same hx (show wrS x = x from if_neg c16)]; exact hS
    exact ⟨_, by omega, j + 1, rfl, by omega, ha.keeps [2, 3, 4, 16, 17, 18, 19, 20, 21, 6, 22, 23, 24] _ rfl, hS⟩
   refine jG ha rfl (decide_eq_false c13) ?_;refine wp_exit (qX (qX (in_x (in_n (jQ (jY [0, 1] (yQ 39 ((i : Int) + 1) ha fun a ha => ?_)))))));refine jK [(1, 18, iv ((i : Int) + 1))] ha fun a ha => ?_;refine jZ (jQ ?_);have hje : j = b.length := by omega
   replace hS : Sat w0 w ((SX.row (.slice s1.A s1.n s1.c) 69 1 (encSl vs)) :: (SX.row (.slice z.A z.n z.c) 68 3 (encS3 (cur wrS b j))) :: (holeA w0.heap.size (curF l i) vs i) :: (SX.blk b10 [.slice s1.A s1.n s1.c] 28) :: (SX.blk b3 [.slice none 0 0] 28) :: []) := hS;replace hS : Sat w0 w ((prg w0.heap.size s1 (curF l (i + 1))) :: (SX.blk b10 [.slice s1.A s1.n s1.c] 28) :: (SX.blk b3 [.slice none 0 0] 28) :: []) := by rw [← curF_set hb]; exact shutFn' hz (by rw [curF_len]; omega) (by rw [← cur_end (g := wrS) (b := b), ← hje]; exact hS)
   exact ⟨_, by omega, i + 1, rfl, by omega, ha.keeps [2, 3, 4, 16, 17, 18] _ rfl, hS⟩
  refine jG ha rfl (decide_eq_false c12) ?_
  refine wp_exit (qX (qX (in_x (jQ (wp_seq (jY [0, 1, 2] (qY 40 ha (hS.blk 1 rfl) fun a ha => ?_)))))))
  refine jU (o_sa 2 ha (xW (t := 28) (x := 2) (y := 40)) hS fun w a hS ha => ?_)
  refine jK [(2, 3, .bool true)] ha fun a ha => ?_
  refine jZ (jQ (wp_ret (xV ha (by kernel_rfl) (yK (t := 2) (ty := 28) (i := 2) ha rfl hS rfl (by kernel_rfl)) (xK (t := 3) ha rfl) ?_)))
  obtain rfl : i = l.length := by omega
  rw [curF_end] at hS
  rw [show withoP l = (l.map (List.map wrS), true) from if_pos c7]
  exact ⟨s1, rfl, hS.pickN 3 [0]⟩
 refine jH ha rfl (yU c7) ?_
 refine wp_seq (jY [0, 1, 2] (jK [(0, 12, .agg #[.slice none 0 0])] ha fun a ha => ?_))
 refine jU (o_sa 0 ha (xW (t := 28) (x := 2) (y := 12)) hS fun w a hS ha => ?_)
 refine jK [(2, 3, .bool false)] ha fun a ha => ?_
 refine jZ (jQ (wp_ret (qU (xV ha (by kernel_rfl) (yK (t := 2) (ty := 28) (i := 0) ha rfl hS rfl (by kernel_rfl)) (xK (t := 3) ha rfl) ?_))))
 rw [show withoP l = ([], false) by unfold withoP; rw [if_neg (by rw [c7]; decide)]]
 exact ⟨⟨none, 0, 0⟩, rfl, nilPrg (Sat.rest [_, _] hS)⟩
theorem impl_WithoutRecovers_sat {w0 w : World} {Rs : List Asn} {s0 : Sl} {l : List (List ST)}  (hS : Sat w0 w Rs) (hr : RdP w s0 l) (hf : Fits l) :
  Calls Try.prog 23 #[.agg #[.slice s0.A s0.n s0.c]] w (Ret fun r w' => ∃ s : Sl, r = .tuple #[.agg #[s.v], .bool (withoP l).2] ∧ Sat w0 w' (prg w0.heap.size s (withoP l).1 :: Rs)) := liftPB hS (impl_WithoutRecovers_sat0 hr hf)
theorem code22 : Try.f22.body = some (Code.seq (cr Try.f22 0 false) (Code.seq (Code.seq (cr Try.f22 1 false) (Code.cond (Operand.tmp 9) (Code.seq (cr Try.f22 2 false) Code.ret) Code.skip)) (Code.seq (cr Try.f22 3 false) (Code.seq (Code.seq (cr Try.f22 4 false) (Code.block 0 (Code.loop (Code.seq (Code.seq (cr Try.f22 5 false) (Code.cond (Operand.tmp 17) Code.skip (Code.exit 0))) (Code.seq (Code.block 1 (Code.seq (cr Try.f22 7 false) (Code.block 2 (Code.loop (Code.seq (Code.seq (cr Try.f22 8 false) (Code.cond (Operand.tmp 27) Code.skip (Code.exit 2))) (Code.seq (Code.block 3 (Code.seq (cr Try.f22 10 false) (Code.cond (Operand.tmp 39) (cr Try.f22 11 true) Code.skip))) (cr Try.f22 9 false))))))) (cr Try.f22 6 false)))))) (Code.seq (cr Try.f22 12 false) Code.ret))))) := by kernel_rfl
theorem spec_WithoutRecovers_sat0 {w0 : World} {s0 : Sl} {l : List (List ST)}  (hr : RdP w0 s0 l) (hf : Fits l) :
  Calls Try.prog 22 #[.agg #[.slice s0.A s0.n s0.c]] w0 (Ret fun r w' => ∃ s : Sl, r = .tuple #[.agg #[s.v], .bool (withoP l).2] ∧ Sat w0 w' [prg w0.heap.size s (withoP l).1]) := by
 have hS : Sat w0 w0 [] := Sat.start w0
 refine enter (n := 58) Try.func22 code22 (by kernel_rfl) (Nat.le_of_ble_eq_true rfl) (fun a ha => ?_)
 replace ha : Has 58 [(0, .agg #[.slice s0.A s0.n s0.c])] a := ha
 refine wp_seq (jY [0, 1, 2] (jU (qG 1 [.slice s0.A s0.n s0.c] 28 (ptr · 0) ha hS fun b1 w a hb2 hS ha => ?_)))
 refine jU (qG 2 [.slice none 0 0] 28 (ptr · 0) ha hS fun b3 w a hb4 hS ha => ?_)
 refine jK [(2, 3, .bool false)] ha fun a ha => ?_
 refine jZ (jQ (wp_seq (wp_seq (jY [0, 1, 2] (qY 7 ha (hS.blk 1 rfl) fun a ha => ?_)))))
 refine jU (qJ 8 (vs := [.agg #[.slice s0.A s0.n s0.c]]) ha (l2Program_sat hS (hr.sat hS) hf) fun v5 w a hp6 ha => ?_)
 obtain ⟨rfl, hS⟩ := hp6
 refine jK [(2, 9, .bool (!(programB l)))] ha fun a ha => ?_
 refine jZ (jQ ?_)
 rcases Bool.eq_false_or_eq_true (programB l) with c7 | c7
 ·
  have hll := hf.len
  refine jG ha rfl (yV c7) ?_
  refine wp_skip (jQ (wp_seq (jY [0, 1, 2, 3] (qY 11 ha (hS.blk 1 rfl) fun a ha => ?_))))
  refine jU (qJ 12 (vs := [.agg #[.slice s0.A s0.n s0.c]]) ha (l2Own_sat hS (hr.sat hS) hf) fun v8 w a hp9 ha => ?_)
  obtain ⟨s1, rfl, hS⟩ := hp9
  refine jU (qG 4 [.slice none 0 0] 28 (ptr · 0) ha hS fun b10 w a hb11 hS ha => ?_)
  refine jU (o_sa 0 ha (xW (t := 28) (x := 4) (y := 12)) hS fun w a hS ha => ?_)
  refine jZ (jQ (wp_seq (wp_seq (jY [0] (jK [(0, 5, iv 0)] ha fun a ha => ?_)))))
  refine jZ (jQ (wp_block ?_))
  replace hS := hS.pickN 4 [1, 0, 2]
  have hsn := (hS.rdS 0 rfl).len
  replace hS : Sat w0 w ((prg w0.heap.size s1 (curF l 0)) :: (SX.blk b10 [.slice s1.A s1.n s1.c] 28) :: (SX.blk b3 [.slice none 0 0] 28) :: []) := by rw [curF_zero]; exact hS
  refine wp_loop_ghost (fun n_ a_ w_ => ∃ (i : Nat), n_ = l.length - i ∧ (i ≤ l.length) ∧ Has 58 [(2, ptr b3 0), (3, .bool false), (4, ptr b10 0), (5, iv (i : Int))] a_ ∧ Sat w0 w_ ((prg w0.heap.size s1 (curF l i)) :: (SX.blk b10 [.slice s1.A s1.n s1.c] 28) :: (SX.blk b3 [.slice none 0 0] 28) :: [])) _ ⟨0, rfl, Nat.zero_le _, ha.keeps [2, 3, 4, 5] _ rfl, hS⟩ ?_
  rintro n_ a w ⟨i, rfl, hi, ha, hS⟩
  refine wp_seq (wp_seq (jY [0, 1, 2, 3, 4] (jK [(0, 13, iv (i : Int)), (1, 14, ptr b10 0)] ha fun a ha => ?_)))
  refine xX (d := 15) (b := b10) (j := 0) ha (hS.blk 1 rfl) rfl fun a ha => ?_
  refine jK [(3, 16, iv (s1.n : Int)), (4, 17, .bool (decide ((i : Int) < (s1.n : Int))))] ha fun a ha => ?_
  refine jZ (jQ ?_)
  by_cases c12 : (i : Int) < (s1.n : Int)
  ·
   have hlt : i < l.length := by omega
   obtain ⟨b, hb⟩ : ∃ b, l[i]? = some b := ⟨_, List.getElem?_eq_getElem hlt⟩;have hb1 : b.length ≤ 1048576 := hf.each b (List.mem_of_getElem? hb);refine jH ha rfl (decide_eq_true c12) ?_;refine wp_skip (jQ (wp_seq (wp_block (wp_seq ?_))));replace hS : Sat w0 w ((prg w0.heap.size s1 (curF l i)) :: (SX.blk b10 [.slice s1.A s1.n s1.c] 28) :: (SX.blk b3 [.slice none 0 0] 28) :: []) := hS;obtain ⟨vs, z, hvl, hz, hS⟩ := openFn hS (curF_get hb);replace hS : Sat w0 w ((SX.row (.slice s1.A s1.n s1.c) 69 1 (encSl vs)) :: (SX.row (.slice z.A z.n z.c) 68 3 (encS3 b)) :: (holeA w0.heap.size (curF l i) vs i) :: (SX.blk b10 [.slice s1.A s1.n s1.c] 28) :: (SX.blk b3 [.slice none 0 0] 28) :: []) := hS;have hzl : z.n = b.length := hS.rowL (s := z) (enc := cT) 1 cT_len (by decide) rfl;refine jY [0] (jK [(0, 6, iv 0)] ha fun a ha => ?_);refine jZ (jQ (wp_block ?_));replace hS : Sat w0 w ((SX.row (.slice s1.A s1.n s1.c) 69 1 (encSl vs)) :: (SX.row (.slice z.A z.n z.c) 68 3 (encS3 b)) :: (holeA w0.heap.size (curF l i) vs i) :: (SX.blk b10 [.slice s1.A s1.n s1.c] 28) :: (SX.blk b3 [.slice none 0 0] 28) :: []) := hS;replace hS : Sat w0 w ((SX.row (.slice s1.A s1.n s1.c) 69 1 (encSl vs)) :: (SX.row (.slice z.A z.n z.c) 68 3 (encS3 (cur wrS b 0))) :: (holeA w0.heap.size (curF l i) vs i) :: (SX.blk b10 [.slice s1.A s1.n s1.c] 28) :: (SX.blk b3 [.slice none 0 0] 28) :: []) := by rw [cur_zero]; exact hS
   refine wp_loop_ghost (fun n_ a_ w_ => ∃ (j : Nat), n_ = b.length - j ∧ (j ≤ b.length) ∧ Has 58 [(2, ptr b3 0), (3, .bool false), (4, ptr b10 0), (5, iv (i : Int)), (13, iv (i : Int)), (14, ptr b10 0), (15, .slice s1.A s1.n s1.c), (16, iv (s1.n : Int)), (17, .bool (decide ((i : Int) < (s1.n : Int)))), (6, iv (j : Int))] a_ ∧ Sat w0 w_ ((SX.row (.slice s1.A s1.n s1.c) 69 1 (encSl vs)) :: (SX.row (.slice z.A z.n z.c) 68 3 (encS3 (cur wrS b j))) :: (holeA w0.heap.size (curF l i) vs i) :: (SX.blk b10 [.slice s1.A s1.n s1.c] 28) :: (SX.blk b3 [.slice none 0 0] 28) :: [])) _ ⟨0, rfl, Nat.zero_le _, ha.keeps [2, 3, 4, 5, 13, 14, 15, 16, 17, 6] _ rfl, hS⟩ ?_
   rintro n_ a w ⟨j, rfl, hj, ha, hS⟩
   refine wp_seq (wp_seq (jY [0, 1, 2, 3, 4, 5, 6, 7] (jK [(0, 20, iv (j : Int)), (1, 21, ptr b10 0)] ha fun a ha => ?_)));refine xX (d := 22) (b := b10) (j := 0) ha (hS.blk 3 rfl) rfl fun a ha => ?_;refine jK [(3, 23, iv (i : Int))] ha fun a ha => ?_;refine qK (.pointer (some ⟨bk s1, i * 1, none⟩)) ha (qZ (s := s1) (el := 69) (sz := 1) (j := i) ha (yJ (t := 26) (x := 22) (y := 23) (d := 24)) rfl rfl (by kernel_rfl) (by kernel_rfl) (hS.rowA (s := s1) 0 rfl (by have := (List.getElem?_eq_some_iff.1 hz).1; rw [encSl_length]; omega)) (rfl) (by have h9 := hS.rowL (s := s1) (enc := cSl) 0 cSl_len (by decide) rfl; have := (List.getElem?_eq_some_iff.1 hz).1; omega)) fun a ha => ?_;refine qK (.slice z.A z.n z.c) ha (qW ha (yY (t := 69) (x := 24) (d := 25) (ty := 69)) rfl (by kernel_rfl) (fun w' hw => by rw [hw]; exact (hS.rdC (s := s1) 0 rfl).cells _ _ ((flat_get (enc := cSl) (o := 0) cSl_len hz (by decide)).trans rfl))) fun a ha => ?_;refine jK [(6, 26, iv (z.n : Int)), (7, 27, .bool (decide ((j : Int) < (z.n : Int))))] ha fun a ha => ?_;refine jZ (jQ ?_)
   by_cases c13 : (j : Int) < (z.n : Int)
   ·
    have hjt : j < b.length := by omega
    obtain ⟨x, hx⟩ : ∃ x, b[j]? = some x := ⟨_, List.getElem?_eq_getElem hjt⟩;refine jH ha rfl (decide_eq_true c13) ?_;refine wp_skip (jQ (wp_seq (wp_block (wp_seq (jY [0, 1, 2, 3, 4, 5, 6, 7, 8, 9] (jK [(0, 30, ptr b10 0)] ha fun a ha => ?_))))));refine xX (d := 31) (b := b10) (j := 0) ha (hS.blk 3 rfl) rfl fun a ha => ?_;refine jK [(2, 32, iv (i : Int))] ha fun a ha => ?_;refine qK (.pointer (some ⟨bk s1, i * 1, none⟩)) ha (qZ (s := s1) (el := 69) (sz := 1) (j := i) ha (yJ (t := 26) (x := 31) (y := 32) (d := 33)) rfl rfl (by kernel_rfl) (by kernel_rfl) (hS.rowA (s := s1) 0 rfl (by have := (List.getElem?_eq_some_iff.1 hz).1; rw [encSl_length]; omega)) (rfl) (by have h9 := hS.rowL (s := s1) (enc := cSl) 0 cSl_len (by decide) rfl; have := (List.getElem?_eq_some_iff.1 hz).1; omega)) fun a ha => ?_;refine qK (.slice z.A z.n z.c) ha (qW ha (yY (t := 69) (x := 33) (d := 34) (ty := 69)) rfl (by kernel_rfl) (fun w' hw => by rw [hw]; exact (hS.rdC (s := s1) 0 rfl).cells _ _ ((flat_get (enc := cSl) (o := 0) cSl_len hz (by decide)).trans rfl))) fun a ha => ?_;refine jK [(5, 35, iv (j : Int))] ha fun a ha => ?_;refine qK (.pointer (some ⟨bk z, j * 3, none⟩)) ha (qZ (s := z) (el := 68) (sz := 3) (j := j) ha (yJ (t := 69) (x := 34) (y := 35) (d := 36)) rfl rfl (by kernel_rfl) (by kernel_rfl) (hS.rowA (s := z) 1 rfl (by have := (List.getElem?_eq_some_iff.1 (cur_get (g := wrS) hx)).1; rw [encS3_length]; omega)) (rfl) (by have h9 := hS.rowL (s := z) (enc := cT) 1 cT_len (by decide) rfl; have := (List.getElem?_eq_some_iff.1 (cur_get (g := wrS) hx)).1; omega)) fun a ha => ?_;refine jK [(7, 37, .pointer (some ⟨bk z, j * 3, none⟩))] ha fun a ha => ?_;refine qK (iv x.f0) ha (qW ha (yY (t := 3) (x := 37) (d := 38) (ty := 3)) rfl (by kernel_rfl) (fun w' hw => by rw [hw]; exact (hS.rdC (s := z) 1 rfl).cells _ _ ((flat_get (enc := cT) (o := 0) cT_len (cur_get (g := wrS) hx) (by decide)).trans rfl))) fun a ha => ?_;refine jK [(9, 39, .bool (decide (x.f0 = 7)))] ha fun a ha => ?_;refine jZ (jQ ?_)
    by_cases c14 : x.f0 = 7
    ·
     refine jH ha rfl (decide_eq_true c14) ?_;refine zQ 17 18 hS fun w hS => ?_;refine qQ (k := 17) [(0, 40, ptr b10 0)] ha (.inr hS) fun a ha => ?_;refine xZ 1 (d := 41) (b := b10) (j := 0) ha hS (fun _ hw => hw.blk 3 rfl) rfl fun a ha => ?_;refine qQ (k := 15) [(2, 42, iv (i : Int))] ha (.inr hS) fun a ha => ?_;refine yZ 3 (.pointer (some ⟨bk s1, i * 1, none⟩)) ha (qZ (s := s1) (el := 69) (sz := 1) (j := i) ha (yJ (t := 26) (x := 41) (y := 42) (d := 43)) rfl rfl (by kernel_rfl) (by kernel_rfl) (hS.rowA (s := s1) 0 rfl (by have := (List.getElem?_eq_some_iff.1 hz).1; rw [encSl_length]; omega)) (rfl) (by have h9 := hS.rowL (s := s1) (enc := cSl) 0 cSl_len (by decide) rfl; have := (List.getElem?_eq_some_iff.1 hz).1; omega)) (.inr hS) fun a ha => ?_;refine yG 4 (.slice z.A z.n z.c) ha (qW ha (yY (t := 69) (x := 43) (d := 44) (ty := 69)) rfl (by kernel_rfl) (fun w' hw => ((hw.rdC (s := s1) 0 rfl)).cells _ _ ((flat_get (enc := cSl) (o := 0) cSl_len hz (by decide)).trans rfl))) hS fun a ha => ?_;refine qQ (k := 11) [(5, 45, iv (j : Int)), (6, 46, ptr b10 0)] ha (.inr hS) fun a ha => ?_;refine xZ 7 (d := 47) (b := b10) (j := 0) ha hS (fun _ hw => hw.blk 3 rfl) rfl fun a ha => ?_;refine qQ (k := 9) [(8, 48, iv (i : Int))] ha (.inr hS) fun a ha => ?_;refine yZ 9 (.pointer (some ⟨bk s1, i * 1, none⟩)) ha (qZ (s := s1) (el := 69) (sz := 1) (j := i) ha (yJ (t := 26) (x := 47) (y := 48) (d := 49)) rfl rfl (by kernel_rfl) (by kernel_rfl) (hS.rowA (s := s1) 0 rfl (by have := (List.getElem?_eq_some_iff.1 hz).1; rw [encSl_length]; omega)) (rfl) (by have h9 := hS.rowL (s := s1) (enc := cSl) 0 cSl_len (by decide) rfl; have := (List.getElem?_eq_some_iff.1 hz).1; omega)) (.inr hS) fun a ha => ?_;refine yG 10 (.slice z.A z.n z.c) ha (qW ha (yY (t := 69) (x := 49) (d := 50) (ty := 69)) rfl (by kernel_rfl) (fun w' hw => ((hw.rdC (s := s1) 0 rfl)).cells _ _ ((flat_get (enc := cSl) (o := 0) cSl_len hz (by decide)).trans rfl))) hS fun a ha => ?_;refine qQ (k := 6) [(11, 51, iv (j : Int))] ha (.inr hS) fun a ha => ?_;refine yZ 12 (.pointer (some ⟨bk z, j * 3, none⟩)) ha (qZ (s := z) (el := 68) (sz := 3) (j := j) ha (yJ (t := 69) (x := 50) (y := 51) (d := 52)) rfl rfl (by kernel_rfl) (by kernel_rfl) (hS.rowA (s := z) 1 rfl (by have := (List.getElem?_eq_some_iff.1 (cur_get (g := wrS) hx)).1; rw [encS3_length]; omega)) (rfl) (by have h9 := hS.rowL (s := z) (enc := cT) 1 cT_len (by decide) rfl; have := (List.getElem?_eq_some_iff.1 (cur_get (g := wrS) hx)).1; omega)) (.inr hS) fun a ha => ?_;refine qQ (k := 4) [(13, 53, .pointer (some ⟨bk z, j * 3 + 1, none⟩))] ha (.inr hS) fun a ha => ?_;refine yG 14 (iv x.f1) ha (qW ha (yY (t := 3) (x := 53) (d := 54) (ty := 3)) rfl (by kernel_rfl) (fun w' hw => ((hw.rdC (s := z) 1 rfl)).cells _ _ ((flat_get (enc := cT) (o := 1) cT_len (cur_get (g := wrS) hx) (by decide)).trans rfl))) hS fun a ha => ?_;refine qQ (k := 2) [(15, 55, .agg #[iv 1, iv x.f1, iv 0])] ha (.inr hS) fun a ha => ?_;refine yZ 16 (.pointer (some ⟨bk z, j * 3, none⟩)) ha (qZ (s := z) (el := 68) (sz := 3) (j := j) ha (yJ (t := 69) (x := 44) (y := 45) (d := 56)) rfl rfl (by kernel_rfl) (by kernel_rfl) (hS.rowA (s := z) 1 rfl (by have := (List.getElem?_eq_some_iff.1 (cur_get (g := wrS) hx)).1; rw [encS3_length]; omega)) (rfl) (by have h9 := hS.rowL (s := z) (enc := cT) 1 cT_len (by decide) rfl; have := (List.getElem?_eq_some_iff.1 (cur_get (g := wrS) hx)).1; omega)) (.inr hS) fun a ha => ?_
     refine xY 17 (o_storeRowA (s := z) (j := j * 3) (xs := encS3 (cur wrS b j)) (xs' := encS3 ((cur wrS b j).set j (⟨1, x.f1, 0⟩ : ST))) (vs := [iv 1, iv x.f1, iv 0]) 1 ha (xW (t := 68) (x := 56) (y := 55)) rfl rfl rfl (by kernel_rfl) hS rfl (by have := (List.getElem?_eq_some_iff.1 (cur_get (g := wrS) hx)).1; rw [encS3_length]; simp only [List.length_cons, List.length_nil]; omega) (Nat.succ_pos _) (flat_put (enc := cT) (x' := (⟨1, x.f1, 0⟩ : ST)) cT_len (cur_get (g := wrS) hx)) (fun w a (hS : Sat w0 w ((SX.row (.slice s1.A s1.n s1.c) 69 1 (encSl vs)) :: (SX.row (.slice z.A z.n z.c) 68 3 (encS3 ((cur wrS b j).set j (⟨1, x.f1, 0⟩ : ST)))) :: (holeA w0.heap.size (curF l i) vs i) :: (SX.blk b10 [.slice s1.A s1.n s1.c] 28) :: (SX.blk b3 [.slice none 0 0] 28) :: [])) ha => ?_));refine zK (yX (in_n (jQ (jY [0, 1, 2] (jK [(0, 28, iv (j : Int))] ha fun a ha => ?_)))));refine yQ 29 ((j : Int) + 1) ha fun a ha => ?_;refine jK [(2, 6, iv ((j : Int) + 1))] ha fun a ha => ?_;refine jZ (jQ ?_);replace hS : Sat w0 w ((SX.row (.slice s1.A s1.n s1.c) 69 1 (encSl vs)) :: (SX.row (.slice z.A z.n z.c) 68 3 (encS3 ((cur wrS b j).set j (⟨1, x.f1, 0⟩ : ST)))) :: (holeA w0.heap.size (curF l i) vs i) :: (SX.blk b10 [.slice s1.A s1.n s1.c] 28) :: (SX.blk b3 [.slice none 0 0] 28) :: []) := hS;replace hS : Sat w0 w ((SX.row (.slice s1.A s1.n s1.c) 69 1 (encSl vs)) :: (SX.row (.slice z.A z.n z.c) 68 3 (encS3 (cur wrS b (j + 1)))) :: (holeA w0.heap.size (curF l i) vs i) :: (SX.blk b10 [.slice s1.A s1.n s1.c] 28) :: (SX.blk b3 [.slice none 0 0] 28) :: []) := by rw [← cur_set hx, show wrS x = ⟨1, x.f1, 0⟩ from if_pos c14]; exact hS
     exact ⟨_, by omega, j + 1, rfl, by omega, ha.keeps [2, 3, 4, 5, 13, 14, 15, 16, 17, 6] _ rfl, hS⟩
    refine jG ha rfl (decide_eq_false c14) ?_;refine wp_skip (in_n (jQ (jY [0, 1, 2] (jK [(0, 28, iv (j : Int))] ha fun a ha => ?_))));refine yQ 29 ((j : Int) + 1) ha fun a ha => ?_;refine jK [(2, 6, iv ((j : Int) + 1))] ha fun a ha => ?_;refine jZ (jQ ?_);replace hS : Sat w0 w ((SX.row (.slice s1.A s1.n s1.c) 69 1 (encSl vs)) :: (SX.row (.slice z.A z.n z.c) 68 3 (encS3 (cur wrS b j))) :: (holeA w0.heap.size (curF l i) vs i) :: (SX.blk b10 [.slice s1.A s1.n s1.c] 28) :: (SX.blk b3 [.slice none 0 0] 28) :: []) := hS;replace hS : Sat w0 w ((SX.row (.slice s1.A s1.n s1.c) 69 1 (encSl vs)) :: (SX.row (.slice z.A z.n z.c) 68 3 (encS3 (cur wrS b (j + 1)))) :: (holeA w0.heap.size (curF l i) vs i) :: (SX.blk b10 [.slice s1.A s1.n s1.c] 28) :: (SX.blk b3 [.slice none 0 0] 28) :: []) := by rw [← cur_same hx (show wrS x = x from if_neg c14)]; exact hS
    exact ⟨_, by omega, j + 1, rfl, by omega, ha.keeps [2, 3, 4, 5, 13, 14, 15, 16, 17, 6] _ rfl, hS⟩
   refine jG ha rfl (decide_eq_false c13) ?_;refine wp_exit (qX (qX (in_x (in_n (jQ (jY [0, 1, 2] (jK [(0, 18, iv (i : Int))] ha fun a ha => ?_)))))));refine yQ 19 ((i : Int) + 1) ha fun a ha => ?_;refine jK [(2, 5, iv ((i : Int) + 1))] ha fun a ha => ?_;refine jZ (jQ ?_);have hje : j = b.length := by omega
   replace hS : Sat w0 w ((SX.row (.slice s1.A s1.n s1.c) 69 1 (encSl vs)) :: (SX.row (.slice z.A z.n z.c) 68 3 (encS3 (cur wrS b j))) :: (holeA w0.heap.size (curF l i) vs i) :: (SX.blk b10 [.slice s1.A s1.n s1.c] 28) :: (SX.blk b3 [.slice none 0 0] 28) :: []) := hS;replace hS : Sat w0 w ((prg w0.heap.size s1 (curF l (i + 1))) :: (SX.blk b10 [.slice s1.A s1.n s1.c] 28) :: (SX.blk b3 [.slice none 0 0] 28) :: []) := by rw [← curF_set hb]; exact shutFn' hz (by rw [curF_len]; omega) (by rw [← cur_end (g := wrS) (b := b), ← hje]; exact hS)
   exact ⟨_, by omega, i + 1, rfl, by omega, ha.keeps [2, 3, 4, 5] _ rfl, hS⟩
  refine jG ha rfl (decide_eq_false c12) ?_
  refine wp_exit (qX (qX (in_x (jQ (wp_seq (jY [0, 1, 2] (qY 57 ha (hS.blk 1 rfl) fun a ha => ?_)))))))
  refine jU (o_sa 2 ha (xW (t := 28) (x := 2) (y := 57)) hS fun w a hS ha => ?_)
  refine jK [(2, 3, .bool true)] ha fun a ha => ?_
  refine jZ (jQ (wp_ret (xV ha (by kernel_rfl) (yK (t := 2) (ty := 28) (i := 2) ha rfl hS rfl (by kernel_rfl)) (xK (t := 3) ha rfl) ?_)))
  obtain rfl : i = l.length := by omega
  rw [curF_end] at hS
  rw [show withoP l = (l.map (List.map wrS), true) from if_pos c7]
  exact ⟨s1, rfl, hS.pickN 3 [0]⟩
 refine jH ha rfl (yU c7) ?_
 refine wp_seq (jY [0, 1, 2] (jK [(0, 10, .agg #[.slice none 0 0])] ha fun a ha => ?_))
 refine jU (o_sa 0 ha (xW (t := 28) (x := 2) (y := 10)) hS fun w a hS ha => ?_)
 refine jK [(2, 3, .bool false)] ha fun a ha => ?_
 refine jZ (jQ (wp_ret (qU (xV ha (by kernel_rfl) (yK (t := 2) (ty := 28) (i := 0) ha rfl hS rfl (by kernel_rfl)) (xK (t := 3) ha rfl) ?_))))
 rw [show withoP l = ([], false) by unfold withoP; rw [if_neg (by rw [c7]; decide)]]
 exact ⟨⟨none, 0, 0⟩, rfl, nilPrg (Sat.rest [_, _] hS)⟩
theorem spec_WithoutRecovers_sat {w0 w : World} {Rs : List Asn} {s0 : Sl} {l : List (List ST)}  (hS : Sat w0 w Rs) (hr : RdP w s0 l) (hf : Fits l) :
  Calls Try.prog 22 #[.agg #[.slice s0.A s0.n s0.c]] w (Ret fun r w' => ∃ s : Sl, r = .tuple #[.agg #[s.v], .bool (withoP l).2] ∧ Sat w0 w' (prg w0.heap.size s (withoP l).1 :: Rs)) := liftPB hS (spec_WithoutRecovers_sat0 hr hf)
theorem code4 : Try.f4.body = some (Code.seq (cr Try.f4 0 false) (Code.seq (cr Try.f4 1 false) (Code.seq (cr Try.f4 2 false) (Code.seq (Code.seq (cr Try.f4 3 false) (Code.cond (Operand.tmp 18) (Code.seq (cr Try.f4 4 false) Code.ret) Code.skip)) (Code.seq (cr Try.f4 5 false) (Code.seq (cr Try.f4 6 false) (Code.seq (cr Try.f4 7 false) (Code.seq (Code.seq (cr Try.f4 8 false) (Code.cond (Operand.tmp 40) (Code.seq (cr Try.f4 9 false) Code.ret) Code.skip)) (Code.seq (Code.seq (cr Try.f4 10 true) (Code.cond (Operand.tmp 45) (Code.seq (cr Try.f4 11 false) Code.ret) Code.skip)) (Code.seq (cr Try.f4 12 false) (Code.seq (cr Try.f4 13 false) (Code.seq (Code.seq (cr Try.f4 14 false) (Code.cond (Operand.tmp 61) (Code.seq (cr Try.f4 15 false) Code.ret) Code.skip)) (Code.seq (cr Try.f4 16 false) (Code.seq (cr Try.f4 17 false) (Code.seq (cr Try.f4 18 false) (Code.seq (cr Try.f4 19 false) (Code.seq (Code.seq (cr Try.f4 20 false) (Code.cond (Operand.tmp 69) (Code.seq (cr Try.f4 21 false) Code.ret) Code.skip)) (Code.seq (Code.seq (cr Try.f4 22 false) (Code.cond (Operand.tmp 72) (Code.seq (cr Try.f4 23 false) Code.ret) Code.skip)) (Code.seq (cr Try.f4 24 false) (Code.seq (Code.seq (cr Try.f4 25 false) (Code.cond (Operand.tmp 87) (Code.seq (cr Try.f4 26 false) Code.ret) Code.skip)) (Code.seq (cr Try.f4 27 false) (Code.seq (cr Try.f4 28 false) (Code.seq (Code.seq (cr Try.f4 29 false) (Code.cond (Operand.tmp 92) (Code.seq (cr Try.f4 30 false) Code.ret) Code.skip)) (Code.seq (Code.seq (cr Try.f4 31 false) (Code.cond (Operand.tmp 95) (Code.seq (cr Try.f4 32 false) Code.ret) Code.skip)) (Code.seq (cr Try.f4 33 false) Code.ret))))))))))))))))))))))))) := by kernel_rfl
theorem law4_walk (w0 : World) (s0 : Sl) (l0 : List (List LT)) (hr0 : RdA w0 s0 l0) :
  Calls Try.prog 4 #[.agg #[.slice s0.A s0.n s0.c]] w0 (Ret fun r w' => r = .bool true ∧ Below w0.heap.size w0 w') := by
 have hS : Sat w0 w0 [] := Sat.start w0
 refine enter (n := 96) Try.func4 code4 (by kernel_rfl) (Nat.le_of_ble_eq_true rfl) (fun a ha => ?_)
 replace ha : Has 96 [(0, .agg #[.slice s0.A s0.n s0.c])] a := ha
 refine wp_seq (jY [0, 1] (jU (qG 1 [.slice s0.A s0.n s0.c] 24 (ptr · 0) ha hS fun b1 w a hb2 hS ha => ?_)))
 refine jK [(1, 2, .bool false)] ha fun a ha => ?_
 refine jZ (jQ (wp_seq (jY [0] (jK [(0, 3, iv 1048576)] ha fun a ha => ?_))))
 refine jZ (jQ (wp_seq (jY [0, 1, 2, 3] (qY 14 ha (hS.blk 0 rfl) fun a ha => ?_))))
 refine jK [(1, 15, iv 1048576)] ha fun a ha => ?_
 refine jU (qJ 16 (vs := [.agg #[.slice s0.A s0.n s0.c], iv 1048576]) ha (szProgram_sat hS (hr0.sat hS) (by omega) (by omega)) fun v3 w a hp4 ha => ?_)
 obtain ⟨rfl, hS⟩ := hp4
 refine jK [(3, 3, iv (szP l0 1048576))] ha fun a ha => ?_
 refine jZ (jQ (wp_seq (wp_seq (jY [0, 1] (jK [(0, 17, iv (szP l0 1048576)), (1, 18, .bool (decide ((szP l0 1048576) < 0)))] ha fun a ha => ?_)))))
 refine jZ (jQ ?_)
 by_cases c5 : (szP l0 1048576) < 0
 ·
  refine jH ha rfl (decide_eq_true c5) ?_
  refine wp_seq (jY [0] (jK [(0, 2, .bool true)] ha fun a ha => ?_))
  refine jZ (jQ (wp_ret (qU (qV ha (by kernel_rfl) (xK (t := 2) ha rfl) ?_))))
  exact ⟨rfl, hS.below⟩
 have hf : Fits l0 := by have h8 : 0 ≤ szP l0 1048576 := (by omega); have h9 := szP_ok l0 1048576 h8; exact ⟨by omega, by omega⟩
 have hfr : Fits (withoP (toP l0)).1 := withoP_fits (toP_fits hf)
 refine jG ha rfl (decide_eq_false c5) ?_
 refine wp_skip (jQ (wp_seq (jY [0, 1, 2, 3, 4, 5, 6, 7, 8] (qY 20 ha (hS.blk 0 rfl) fun a ha => ?_))))
 refine jU (qJ 21 (vs := [.agg #[.slice s0.A s0.n s0.c]]) ha (toProgram_sat hS (hr0.sat hS) hf) fun v6 w a hp7 ha => ?_)
 obtain ⟨s1, rfl, hS⟩ := hp7
 refine jU (qJ 22 (vs := [.agg #[.slice s1.A s1.n s1.c]]) ha (spec_WithoutRecovers_sat hS (hS.rdS 0 rfl) (toP_fits hf)) fun v8 w a hp9 ha => ?_)
 obtain ⟨s2, rfl, hS⟩ := hp9
 refine jK [(3, 19, .tuple #[.agg #[.slice s2.A s2.n s2.c], .bool ((withoP (toP l0)).2)]), (4, 23, .agg #[.slice s2.A s2.n s2.c]), (5, 24, .bool ((withoP (toP l0)).2))] ha fun a ha => ?_
 refine jU (qG 4 [.slice none 0 0] 28 (ptr · 0) ha hS fun b10 w a hb11 hS ha => ?_)
 refine jU (o_sa 0 ha (xW (t := 28) (x := 4) (y := 23)) hS fun w a hS ha => ?_)
 refine jK [(8, 5, .bool ((withoP (toP l0)).2))] ha fun a ha => ?_
 refine jZ (jQ (wp_seq (jY [0, 1, 2, 3] (qY 25 ha (hS.blk 3 rfl) fun a ha => ?_))))
 refine jU (qJ 26 (vs := [.agg #[.slice s0.A s0.n s0.c]]) ha (toProgram_sat hS (hr0.sat hS) hf) fun v12 w a hp13 ha => ?_)
 obtain ⟨s3, rfl, hS⟩ := hp13
 refine jU (qG 6 [.slice none 0 0] 28 (ptr · 0) ha hS fun b14 w a hb15 hS ha => ?_)
 refine jU (o_sa 0 ha (xW (t := 28) (x := 6) (y := 26)) hS fun w a hS ha => ?_)
 refine jZ (jQ (wp_seq (jY [0, 1, 2, 3, 4, 5, 6, 7] (qY 28 ha (hS.blk 0 rfl) fun a ha => ?_))))
 refine jU (qJ 29 (vs := [.agg #[.slice s3.A s3.n s3.c]]) ha (impl_WithoutRecovers_sat hS (hS.rdS 1 rfl) (toP_fits hf)) fun v16 w a hp17 ha => ?_)
 obtain ⟨s4, rfl, hS⟩ := hp17
 refine jK [(2, 27, .tuple #[.agg #[.slice s4.A s4.n s4.c], .bool ((withoP (toP l0)).2)]), (3, 30, .agg #[.slice s4.A s4.n s4.c]), (4, 31, .bool ((withoP (toP l0)).2))] ha fun a ha => ?_
 refine jU (qG 7 [.slice none 0 0] 28 (ptr · 0) ha hS fun b18 w a hb19 hS ha => ?_)
 refine jU (o_sa 0 ha (xW (t := 28) (x := 7) (y := 30)) hS fun w a hS ha => ?_)
 refine jK [(7, 8, .bool ((withoP (toP l0)).2))] ha fun a ha => ?_
 refine jZ ?_
 replace ha := ha.as [(1, ptr b1 0), (2, .bool false), (4, ptr b10 0), (5, .bool ((withoP (toP l0)).2)), (6, ptr b14 0), (7, ptr b18 0), (8, .bool ((withoP (toP l0)).2))] rfl
 refine jQ (wp_seq (wp_seq (jY [0, 1, 2, 3, 4, 5, 6, 7, 8] (qY 32 ha (hS.blk 0 rfl) fun a ha => ?_))))
 refine qY 33 ha (hS.blk 4 rfl) fun a ha => ?_
 refine jU (qJ 34 (vs := [.agg #[.slice s4.A s4.n s4.c], .agg #[.slice s2.A s2.n s2.c]]) ha (eqProgram_sat hS (hS.rdS 1 rfl) (hS.rdS 5 rfl) hfr) fun v20 w a hp21 ha => ?_)
 obtain ⟨rfl, hS⟩ := hp21
 refine jK [(3, 35, .bool false), (4, 36, .bool false), (5, 37, .bool ((withoP (toP l0)).2)), (6, 38, .bool ((withoP (toP l0)).2))] ha fun a ha => ?_
 refine qK (.bool false) ha ((jW (v := .bool (!(((withoP (toP l0)).2) == ((withoP (toP l0)).2)))) ha (AtG.here (gd := 36) ⟨(by kernel_rfl : ((jX Try.f4 8)[7]?).map spec = some ((Op.binOp BinOp.neq 4 (Operand.tmp 37) (Operand.tmp 38) 4), some 39, 4, some (4, false))), by kernel_rfl⟩ ha rfl) (by kernel_rfl) (fun _ => by kernel_rfl)).as (by simp)) fun a ha => ?_
 refine jK [(8, 40, .bool false)] ha fun a ha => ?_
 refine jZ (jQ ?_)
 refine jG ha rfl rfl ?_
 refine wp_skip (jQ (wp_seq (wp_seq (xQ 5 5 (hS.pickN 8 [0, 2, 4, 7]) hS fun w hS => ?_))))
 refine zY 0 41 ha (hS.pickN 8 [0, 2, 4, 7]) (fun _ hw => hw.blk 1 rfl) fun a ha => ?_
 refine zY 1 42 ha (hS.pickN 8 [0, 2, 4, 7]) (fun _ hw => hw.blk 3 rfl) fun a ha => ?_
 refine xY 2 (qJ 43 (vs := [.agg #[.slice s0.A s0.n s0.c]]) ha (toProgram_sat hS (hr0.sat hS) hf) fun v22 w a hp23 ha => ?_)
 obtain ⟨s5, rfl, hS⟩ := hp23
 refine ⟨.inr (hS.pickN 9 [1, 3, 5, 8]), ?_⟩
 refine xY 3 (qJ 44 (vs := [.agg #[.slice s3.A s3.n s3.c], .agg #[.slice s5.A s5.n s5.c]]) ha (eqProgram_sat hS (hS.rdS 4 rfl) (hS.rdS 0 rfl) (toP_fits hf)) fun v24 w a hp25 ha => ?_)
 obtain ⟨rfl, hS⟩ := hp25
 refine ⟨.inr (hS.pickN 9 [1, 3, 5, 8]), ?_⟩
 refine qQ (k := 0) [(4, 45, .bool false)] ha (.inr (hS.pickN 9 [1, 3, 5, 8])) fun a ha => ?_
 refine yX (jQ ?_)
 refine jG ha rfl rfl ?_
 refine wp_skip (jQ (wp_seq (jY [0] (jK [(0, 9, iv 1)] ha fun a ha => ?_))))
 refine jZ (jQ (wp_seq (jY [0, 1, 2, 3] (qY 46 ha (hS.blk 3 rfl) fun a ha => ?_))))
 refine jK [(1, 47, iv 1)] ha fun a ha => ?_
 replace hS := hS.pickN 9 [4, 0, 1, 2, 3, 5, 6, 7, 8]
 refine jU (qJ 48 (vs := [.agg #[.slice s3.A s3.n s3.c], iv 1]) ha (markProgram_sat hS (toP_fits hf) (by omega) (by omega)) fun v26 w a hp27 ha => ?_)
 obtain ⟨rfl, hS⟩ := hp27
 refine jK [(3, 9, iv (1 + 3 * (tot (toP l0) : Int)))] ha fun a ha => ?_
 refine jZ ?_
 replace ha := ha.as [(1, ptr b1 0), (2, .bool false), (4, ptr b10 0), (5, .bool ((withoP (toP l0)).2)), (7, ptr b18 0), (8, .bool ((withoP (toP l0)).2)), (9, iv (1 + 3 * (tot (toP l0) : Int)))] rfl
 refine jQ (wp_seq (wp_seq (jY [0, 1, 2, 3, 4, 5, 6, 7, 8, 9, 10, 11, 12] (jK [(0, 49, iv (1 + 3 * (tot (toP l0) : Int)))] ha fun a ha => ?_))))
 refine qK (.bool false) ha ((jW (v := .bool (decide (1 + 3 * (tot (toP l0) : Int) < 0))) ha (yW (op := (Op.binOp BinOp.lss 3 (Operand.tmp 49) (Operand.const (Value.int IntKind.i64 0)) 3)) (d := some 50) (ty := 4)) (by kernel_rfl) (fun _ => by kernel_rfl)).as (by rw [decide_eq_false (by omega)])) fun a ha => ?_
 refine jK [(2, 51, .bool false)] ha fun a ha => ?_
 refine qY 52 ha (hS.blk 2 rfl) fun a ha => ?_
 refine qY 53 ha (hS.blk 5 rfl) fun a ha => ?_
 refine jU (qJ 54 (vs := [.agg #[.slice s4.A s4.n s4.c], .agg #[.slice s2.A s2.n s2.c]]) ha (eqProgram_sat hS (hS.rdS 3 rfl) (hS.rdS 6 rfl) hfr) fun v28 w a hp29 ha => ?_)
 obtain ⟨rfl, hS⟩ := hp29
 refine jK [(6, 55, .bool false), (7, 56, .bool false), (8, 57, .bool false), (9, 58, .bool ((withoP (toP l0)).2)), (10, 59, .bool ((withoP (toP l0)).2))] ha fun a ha => ?_
 refine qK (.bool false) ha ((jW (v := .bool (!(((withoP (toP l0)).2) == ((withoP (toP l0)).2)))) ha (AtG.here (gd := 57) ⟨(by kernel_rfl : ((jX Try.f4 14)[11]?).map spec = some ((Op.binOp BinOp.neq 4 (Operand.tmp 58) (Operand.tmp 59) 4), some 60, 4, some (8, false))), by kernel_rfl⟩ ha rfl) (by kernel_rfl) (fun _ => by kernel_rfl)).as (by simp)) fun a ha => ?_
 refine jK [(12, 61, .bool false)] ha fun a ha => ?_
 refine jZ (jQ ?_)
 refine jG ha rfl rfl ?_
 refine wp_skip (jQ (wp_seq (jY [0] (jK [(0, 10, iv 1)] ha fun a ha => ?_))))
 refine jZ (jQ (wp_seq (jY [0, 1, 2, 3] (qY 62 ha (hS.blk 2 rfl) fun a ha => ?_))))
 refine jK [(1, 63, iv 1)] ha fun a ha => ?_
 replace hS := hS.pickN 9 [3, 0, 1, 2, 4, 5, 6, 7, 8]
 refine jU (qJ 64 (vs := [.agg #[.slice s4.A s4.n s4.c], iv 1]) ha (markProgram_sat hS hfr (by omega) (by omega)) fun v30 w a hp31 ha => ?_)
 obtain ⟨rfl, hS⟩ := hp31
 refine jK [(3, 10, iv (1 + 3 * (tot ((withoP (toP l0)).1) : Int)))] ha fun a ha => ?_
 refine jZ (jQ (wp_seq (jY [0] (jK [(0, 11, iv 1)] ha fun a ha => ?_))))
 refine jZ (jQ (wp_seq (jY [0, 1, 2, 3] (qY 65 ha (hS.blk 3 rfl) fun a ha => ?_))))
 refine jK [(1, 66, iv 1)] ha fun a ha => ?_
 refine jU (qJ 67 (vs := [.agg #[.slice s4.A s4.n s4.c], iv 1]) ha (heldProgram_sat hS (hS.rdS 0 rfl) hfr) fun v32 w a hp33 ha => ?_)
 obtain ⟨rfl, hS⟩ := hp33
 refine jK [(3, 11, iv (1 + 3 * (tot ((withoP (toP l0)).1) : Int)))] ha fun a ha => ?_
 refine jZ ?_
 replace ha := ha.as [(1, ptr b1 0), (2, .bool false), (4, ptr b10 0), (5, .bool ((withoP (toP l0)).2)), (7, ptr b18 0), (10, iv (1 + 3 * (tot ((withoP (toP l0)).1) : Int))), (11, iv (1 + 3 * (tot ((withoP (toP l0)).1) : Int)))] rfl
 refine jQ (wp_seq (wp_seq (jY [0, 1] (jK [(0, 68, iv (1 + 3 * (tot ((withoP (toP l0)).1) : Int)))] ha fun a ha => ?_))))
 refine qK (.bool false) ha ((jW (v := .bool (decide (1 + 3 * (tot ((withoP (toP l0)).1) : Int) < 0))) ha (yW (op := (Op.binOp BinOp.lss 3 (Operand.tmp 68) (Operand.const (Value.int IntKind.i64 0)) 3)) (d := some 69) (ty := 4)) (by kernel_rfl) (fun _ => by kernel_rfl)).as (by rw [decide_eq_false (by omega)])) fun a ha => ?_
 refine jZ (jQ ?_)
 refine jG ha rfl rfl ?_
 refine wp_skip (jQ (wp_seq (wp_seq (jY [0, 1, 2] (jK [(0, 70, iv (1 + 3 * (tot ((withoP (toP l0)).1) : Int))), (1, 71, iv (1 + 3 * (tot ((withoP (toP l0)).1) : Int)))] ha fun a ha => ?_)))))
 refine qK (.bool false) ha ((jW (v := .bool (!(decide (1 + 3 * (tot ((withoP (toP l0)).1) : Int) = 1 + 3 * (tot ((withoP (toP l0)).1) : Int))))) ha (yW (op := (Op.binOp BinOp.neq 3 (Operand.tmp 70) (Operand.tmp 71) 3)) (d := some 72) (ty := 4)) (by kernel_rfl) (fun _ => by kernel_rfl)).as (by simp)) fun a ha => ?_
 refine jZ (jQ ?_)
 refine jG ha rfl rfl ?_
 refine wp_skip (jQ (wp_seq (jY [0, 1, 2, 3, 4, 5, 6, 7, 8] (qY 74 ha (hS.blk 8 rfl) fun a ha => ?_))))
 refine jU (qJ 75 (vs := [.agg #[.slice s0.A s0.n s0.c]]) ha (toProgram_sat hS (hr0.sat hS) hf) fun v34 w a hp35 ha => ?_)
 obtain ⟨s6, rfl, hS⟩ := hp35
 refine jU (qJ 76 (vs := [.agg #[.slice s6.A s6.n s6.c]]) ha (impl_WithoutRecovers_sat hS (hS.rdS 0 rfl) (toP_fits hf)) fun v36 w a hp37 ha => ?_)
 obtain ⟨s7, rfl, hS⟩ := hp37
 refine jK [(3, 73, .tuple #[.agg #[.slice s7.A s7.n s7.c], .bool ((withoP (toP l0)).2)]), (4, 77, .agg #[.slice s7.A s7.n s7.c]), (5, 78, .bool ((withoP (toP l0)).2))] ha fun a ha => ?_
 refine jU (qG 12 [.slice none 0 0] 28 (ptr · 0) ha hS fun b38 w a hb39 hS ha => ?_)
 refine jU (o_sa 0 ha (xW (t := 28) (x := 12) (y := 77)) hS fun w a hS ha => ?_)
 refine jK [(8, 13, .bool ((withoP (toP l0)).2))] ha fun a ha => ?_
 refine jZ (jQ (wp_seq (wp_seq (jY [0, 1, 2, 3, 4, 5, 6, 7, 8] (qY 79 ha (hS.blk 0 rfl) fun a ha => ?_)))))
 refine qY 80 ha (hS.blk 8 rfl) fun a ha => ?_
 refine jU (qJ 81 (vs := [.agg #[.slice s7.A s7.n s7.c], .agg #[.slice s2.A s2.n s2.c]]) ha (eqProgram_sat hS (hS.rdS 1 rfl) (hS.rdS 9 rfl) hfr) fun v40 w a hp41 ha => ?_)
 obtain ⟨rfl, hS⟩ := hp41
 refine jK [(3, 82, .bool false), (4, 83, .bool false), (5, 84, .bool ((withoP (toP l0)).2)), (6, 85, .bool ((withoP (toP l0)).2))] ha fun a ha => ?_
 refine qK (.bool false) ha ((jW (v := .bool (!(((withoP (toP l0)).2) == ((withoP (toP l0)).2)))) ha (AtG.here (gd := 83) ⟨(by kernel_rfl : ((jX Try.f4 25)[7]?).map spec = some ((Op.binOp BinOp.neq 4 (Operand.tmp 84) (Operand.tmp 85) 4), some 86, 4, some (4, false))), by kernel_rfl⟩ ha rfl) (by kernel_rfl) (fun _ => by kernel_rfl)).as (by simp)) fun a ha => ?_
 refine jK [(8, 87, .bool false)] ha fun a ha => ?_
 refine jZ ?_
 replace ha := ha.as [(2, .bool false), (7, ptr b18 0), (10, iv (1 + 3 * (tot ((withoP (toP l0)).1) : Int))), (11, iv (1 + 3 * (tot ((withoP (toP l0)).1) : Int))), (87, .bool false)] rfl
 refine jQ ?_
 refine jG ha rfl rfl ?_
 refine wp_skip (jQ (wp_seq (jY [0] (jK [(0, 11, iv 1)] ha fun a ha => ?_))))
 refine jZ (jQ (wp_seq (jY [0, 1, 2, 3] (qY 88 ha (hS.blk 6 rfl) fun a ha => ?_))))
 refine jK [(1, 89, iv 1)] ha fun a ha => ?_
 refine jU (qJ 90 (vs := [.agg #[.slice s4.A s4.n s4.c], iv 1]) ha (heldProgram_sat hS (hS.rdS 3 rfl) hfr) fun v42 w a hp43 ha => ?_)
 obtain ⟨rfl, hS⟩ := hp43
 refine jK [(3, 11, iv (1 + 3 * (tot ((withoP (toP l0)).1) : Int)))] ha fun a ha => ?_
 refine jZ (jQ (wp_seq (wp_seq (jY [0, 1] (jK [(0, 91, iv (1 + 3 * (tot ((withoP (toP l0)).1) : Int)))] ha fun a ha => ?_)))))
 refine qK (.bool false) ha ((jW (v := .bool (decide (1 + 3 * (tot ((withoP (toP l0)).1) : Int) < 0))) ha (yW (op := (Op.binOp BinOp.lss 3 (Operand.tmp 91) (Operand.const (Value.int IntKind.i64 0)) 3)) (d := some 92) (ty := 4)) (by kernel_rfl) (fun _ => by kernel_rfl)).as (by rw [decide_eq_false (by omega)])) fun a ha => ?_
 refine jZ (jQ ?_)
 refine jG ha rfl rfl ?_
 refine wp_skip (jQ (wp_seq (wp_seq (jY [0, 1, 2] (jK [(0, 93, iv (1 + 3 * (tot ((withoP (toP l0)).1) : Int))), (1, 94, iv (1 + 3 * (tot ((withoP (toP l0)).1) : Int)))] ha fun a ha => ?_)))))
 refine qK (.bool false) ha ((jW (v := .bool (!(decide (1 + 3 * (tot ((withoP (toP l0)).1) : Int) = 1 + 3 * (tot ((withoP (toP l0)).1) : Int))))) ha (yW (op := (Op.binOp BinOp.neq 3 (Operand.tmp 93) (Operand.tmp 94) 3)) (d := some 95) (ty := 4)) (by kernel_rfl) (fun _ => by kernel_rfl)).as (by simp)) fun a ha => ?_
 refine jZ (jQ ?_)
 refine jG ha rfl rfl ?_
 refine wp_skip (jQ (wp_seq (jY [0] (jK [(0, 2, .bool true)] ha fun a ha => ?_))))
 refine jZ (jQ (wp_ret (qV ha (by kernel_rfl) (xK (t := 2) ha rfl) ?_)))
 exact ⟨rfl, hS.below⟩
end Go.Proofs.Ytbgfiiehjaghiaa.G
