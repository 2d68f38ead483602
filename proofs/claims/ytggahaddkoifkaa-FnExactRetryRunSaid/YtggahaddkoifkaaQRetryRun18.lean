/- What the claim FnExactRetryRun rests on, part 18 of 20; the last part proves it: for every input the law answers true, and its arguments read behind the call as before it. No condition. -/
import Derived.Test.YtggahaddkoifkaaQRetryRun17
section
namespace Go.Proofs.Ytggahaddkoifkaa.G
open Go.RowKit Go.Proofs.Ytggahaddkoifkaa.SX Go.Proofs.YtggahaddkoifkaaW.PrintWords Go.Proofs.YtggahaddkoifkaaW.PrintLast Go.Proofs.YtggahaddkoifkaaW.PrintMore
set_option linter.unusedVariables false
set_option linter.unusedSimpArgs false
def mkE (n : Nat) : List (Int × Int × Int) := (List.range n).map fun (j : Nat) => (1 + 3 * (j : Int), 1 + 3 * (j : Int) + 1, 1 + 3 * (j : Int) + 1 + 1)
theorem mkE_len (n : Nat) : (mkE n).length = n := by simp [mkE]
theorem mkE_at {n j : Nat} {k : Int} (hk : k = 1 + 3 * (j : Int)) (h : j < n) : (mkE n)[j]? = some (k, k + 1, k + 1 + 1) := by
 unfold mkE; rw [List.getElem?_map, List.getElem?_range h, hk]; rfl
theorem mkE_next {l : List (Int × Int × Int)} {j : Nat} {k : Int} (hk : k = 1 + 3 * (j : Int)) (h : j < l.length) : (mkE j ++ l.drop j).set j (k, k + 1, k + 1 + 1) = mkE (j + 1) ++ l.drop (j + 1) := by
 rw [List.set_append_right _ _ (by rw [mkE_len]; exact Nat.le_refl _), mkE_len, Nat.sub_self, List.drop_eq_getElem_cons h, List.set_cons_zero, hk]
 unfold mkE
 rw [List.range_succ, List.map_append, List.append_assoc]
 rfl
theorem mkE_some {l : List (Int × Int × Int)} {j : Nat} (h : j < l.length) : ∃ z, (mkE j ++ l.drop j)[j]? = some z := ⟨_, List.getElem?_eq_getElem (by rw [List.length_append, mkE_len, List.length_drop]; omega)⟩
theorem code114 : Try.f114.body = some (Code.seq (cr Try.f114 0 false) (Code.seq (Code.seq (cr Try.f114 1 false) (Code.cond (Operand.tmp 9) (Code.seq (cr Try.f114 2 false) Code.ret) Code.skip)) (Code.seq (Code.seq (cr Try.f114 3 false) (Code.cond (Operand.tmp 14) (Code.seq (cr Try.f114 4 false) Code.ret) Code.skip)) (Code.seq (Code.seq (cr Try.f114 5 false) (Code.cond (Operand.tmp 19) (Code.seq (cr Try.f114 6 false) Code.ret) Code.skip)) (Code.seq (cr Try.f114 7 false) Code.ret))))) := by kernel_rfl
set_option maxRecDepth 20000 in
set_option maxHeartbeats 1000000 in
theorem eqEv_sat {w0 w : World} {Rs : List Asn} {x y z : Int} (hS : Sat w0 w (Rs)) :
  Calls Try.prog 114 #[.agg #[iv x, iv y, iv z], .agg #[iv x, iv y, iv z]] w (Ret fun r w' => r = .bool true ∧ Sat w0 w' (Rs)) := by
 refine enter (n := 20) Try.func114 code114 (by kernel_rfl) (Nat.le_of_ble_eq_true rfl) (fun a ha => ?_)
 replace ha : Has 20 [(0, .agg #[iv x, iv y, iv z]), (1, .agg #[iv x, iv y, iv z])] a := ha
 refine wp_seq (jZ [0, 1, 2] (jG (xQ 2 [iv x, iv y, iv z] 156 (ptr · 0) ha hS fun b1 w a hb2 hS ha => ?_)))
 refine jG (xQ 3 [iv x, iv y, iv z] 156 (ptr · 0) ha hS fun b3 w a hb4 hS ha => ?_)
 refine jY [(2, 4, .bool false)] ha fun a ha => ?_
 refine jK (jQ (wp_seq (wp_seq (jZ [0, 1, 2, 3, 4] (jY [(0, 5, ptr b1 0)] ha fun a ha => ?_)))))
 refine qZ (d := 6) (b := b1) (j := 0) ha (hS.blk 1 rfl) rfl fun a ha => ?_
 refine jY [(2, 7, ptr b3 0)] ha fun a ha => ?_
 refine qZ (d := 8) (b := b3) (j := 0) ha (hS.blk 0 rfl) rfl fun a ha => ?_
 refine yW (.bool false) ha ((qV (v := .bool (!(decide (x = x)))) ha (zK (op := (Op.binOp BinOp.neq 3 (Operand.tmp 6) (Operand.tmp 8) 3)) (d := some 9) (ty := 4)) (by kernel_rfl) (fun _ => by kernel_rfl)).as (by simp)) fun a ha => ?_
 refine jK (jQ ?_)
 refine jH ha rfl rfl ?_
 refine wp_skip (jQ (wp_seq (wp_seq (jZ [0, 1, 2, 3, 4] (jY [(0, 10, ptr b1 1)] ha fun a ha => ?_)))))
 refine qZ (d := 11) (b := b1) (j := 1) ha (hS.blk 1 rfl) rfl fun a ha => ?_
 refine jY [(2, 12, ptr b3 1)] ha fun a ha => ?_
 refine qZ (d := 13) (b := b3) (j := 1) ha (hS.blk 0 rfl) rfl fun a ha => ?_
 refine yW (.bool false) ha ((qV (v := .bool (!(decide (y = y)))) ha (zK (op := (Op.binOp BinOp.neq 3 (Operand.tmp 11) (Operand.tmp 13) 3)) (d := some 14) (ty := 4)) (by kernel_rfl) (fun _ => by kernel_rfl)).as (by simp)) fun a ha => ?_
 refine jK (jQ ?_)
 refine jH ha rfl rfl ?_
 refine wp_skip (jQ (wp_seq (wp_seq (jZ [0, 1, 2, 3, 4] (jY [(0, 15, ptr b1 2)] ha fun a ha => ?_)))))
 refine qZ (d := 16) (b := b1) (j := 2) ha (hS.blk 1 rfl) rfl fun a ha => ?_
 refine jY [(2, 17, ptr b3 2)] ha fun a ha => ?_
 refine qZ (d := 18) (b := b3) (j := 2) ha (hS.blk 0 rfl) rfl fun a ha => ?_
 refine yW (.bool false) ha ((qV (v := .bool (!(decide (z = z)))) ha (zK (op := (Op.binOp BinOp.neq 3 (Operand.tmp 16) (Operand.tmp 18) 3)) (d := some 19) (ty := 4)) (by kernel_rfl) (fun _ => by kernel_rfl)).as (by simp)) fun a ha => ?_
 refine jK (jQ ?_)
 refine jH ha rfl rfl ?_
 refine wp_skip (jQ (wp_seq (jZ [0] (jY [(0, 4, .bool true)] ha fun a ha => ?_))))
 refine jK ?_
 replace ha := ha.as [(4, .bool true)] rfl
 refine jQ (wp_ret (qH ha (by kernel_rfl) (xG (t := 4) ha rfl) ?_))
 replace hS : Sat w0 w (Rs) := hS.pickN 2 [] (by decide) rfl
 exact ⟨rfl, hS⟩
theorem code74 : Try.f74.body = some (Code.seq (cr Try.f74 0 false) (Code.seq (Code.seq (cr Try.f74 1 false) (Code.cond (Operand.tmp 10) (Code.seq (cr Try.f74 2 false) Code.ret) Code.skip)) (Code.seq (Code.seq (cr Try.f74 3 false) (Code.block 0 (Code.loop (Code.seq (Code.seq (cr Try.f74 4 false) (Code.cond (Operand.tmp 14) Code.skip (Code.exit 0))) (Code.seq (Code.block 1 (Code.seq (cr Try.f74 6 true) (Code.cond (Operand.tmp 26) (Code.seq (cr Try.f74 7 false) Code.ret) Code.skip))) (cr Try.f74 5 false)))))) (Code.seq (cr Try.f74 8 false) Code.ret)))) := by kernel_rfl
set_option maxRecDepth 20000 in
set_option maxHeartbeats 1000000 in
theorem eqE_sat {w0 w : World} {Rs : List Asn} {sa sb : Sl} {t : List (Int × Int × Int)} (hS : Sat w0 w (rE sa t :: rE sb t :: Rs)) (hl : t.length ≤ 1000000) :
  Calls Try.prog 74 #[.slice sa.A sa.n sa.c, .slice sb.A sb.n sb.c] w (Ret fun r w' => r = .bool true ∧ Sat w0 w' (rE sa t :: rE sb t :: Rs)) := by
 have hla : sa.n = t.length := hS.rowL (s := sa) (enc := cellsE) 0 zQ (by decide) rfl
 have hlb : sb.n = t.length := hS.rowL (s := sb) (enc := cellsE) 1 zQ (by decide) rfl
 refine enter (n := 27) Try.func74 code74 (by kernel_rfl) (Nat.le_of_ble_eq_true rfl) (fun a ha => ?_)
 replace ha : Has 27 [(0, .slice sa.A sa.n sa.c), (1, .slice sb.A sb.n sb.c)] a := ha
 refine wp_seq (jZ [0] (jY [(0, 4, .bool false)] ha fun a ha => ?_))
 refine jK (jQ (wp_seq (wp_seq (jZ [0, 1, 2, 3, 4] (jY [(0, 6, .slice sa.A sa.n sa.c), (1, 7, iv (sa.n : Int)), (2, 8, .slice sb.A sb.n sb.c), (3, 9, iv (sb.n : Int)), (4, 10, .bool (!(decide ((sa.n : Int) = (sb.n : Int)))))] ha fun a ha => ?_)))))
 refine jK (jQ ?_)
 by_cases c1 : (sa.n : Int) = (sb.n : Int)
 ·
  refine jH ha rfl (yV (decide_eq_true c1)) ?_
  refine wp_skip (jQ (wp_seq (wp_seq (jZ [0] (jY [(0, 5, iv 0)] ha fun a ha => ?_)))))
  refine jK (jQ (wp_block ?_))
  refine wp_loop_ghost (fun n_ a_ w_ => ∃ (i : Nat), n_ = t.length - i ∧ (i ≤ t.length) ∧ Has 27 [(0, .slice sa.A sa.n sa.c), (1, .slice sb.A sb.n sb.c), (5, iv (i : Int))] a_ ∧ Sat w0 w_ ((rE sa t) :: (rE sb t) :: Rs)) _ ⟨0, rfl, Nat.zero_le _, ha.keeps [0, 1, 5] _ rfl, hS⟩ ?_
  rintro n_ a w ⟨i, rfl, hi, ha, hS⟩
  refine wp_seq (wp_seq (jZ [0, 1, 2, 3] (jY [(0, 11, iv (i : Int)), (1, 12, .slice sa.A sa.n sa.c), (2, 13, iv (sa.n : Int)), (3, 14, .bool (decide ((i : Int) < (sa.n : Int))))] ha fun a ha => ?_)))
  refine jK (jQ ?_)
  by_cases c2 : (i : Int) < (sa.n : Int)
  ·
   obtain ⟨z, hz⟩ : ∃ z, t[i]? = some z := ⟨_, List.getElem?_eq_getElem (by omega)⟩
   refine qK ha rfl (decide_eq_true c2) ?_
   refine wp_skip (jQ (wp_seq (wp_block (wp_seq (yX 8 10 hS fun w hS => ?_)))))
   refine jV (k := 8) [(0, 17, .slice sa.A sa.n sa.c), (1, 18, iv (i : Int))] ha (.inr hS) (jJ (jW (jJ (jJ (jW (jJ (jX))))))) fun a ha => ?_
   refine zJ 2 (.pointer (some ⟨bk sa, i * 3, none⟩)) ha (zV (s := sa) (el := 156) (sz := 3) (j := i) ha (zZ (t := 60) (x := 17) (y := 18) (d := 19)) rfl rfl (by kernel_rfl) (by kernel_rfl) (hS.rowA (s := sa) 0 rfl (by have := (List.getElem?_eq_some_iff.1 hz).1; rw [encE_length]; omega)) (rfl) (by have h9 := hS.rowL (s := sa) (enc := cellsE) 0 zQ (by decide) rfl; have := (List.getElem?_eq_some_iff.1 hz).1; omega)) (.inr hS) (jJ (jW (jJ (jJ (jW (jJ (jX))))))) fun a ha => ?_
   refine kK 3 (.agg #[iv z.1, iv z.2.1, iv z.2.2]) ha (v_loadL ha (kX (t := 156) (x := 19) (d := 20) (ty := 156)) rfl (fun w' hw => run_loadVar_agg (vs := [iv z.1, iv z.2.1, iv z.2.2]) (by kernel_rfl) (fun i u hu => by match i, hu with | 0, hu => rw [add0]; rw [← Option.some.inj hu]; exact (((hw.rdC (s := sa) 0 rfl)).cells _ _ ((flat_get (enc := cellsE) (o := 0) zQ hz (by decide)).trans rfl)) | 1, hu => rw [add0]; rw [← Option.some.inj hu]; exact (((hw.rdC (s := sa) 0 rfl)).cells _ _ ((flat_get (enc := cellsE) (o := 1) zQ hz (by decide)).trans rfl)) | 2, hu => rw [add0]; rw [← Option.some.inj hu]; exact (((hw.rdC (s := sa) 0 rfl)).cells _ _ ((flat_get (enc := cellsE) (o := 2) zQ hz (by decide)).trans rfl)) | n + 3, hu => simp at hu))) hS (jJ (jW (jJ (jJ (jW (jJ (jX))))))) fun a ha => ?_
   refine jV (k := 4) [(4, 21, .slice sb.A sb.n sb.c), (5, 22, iv (i : Int))] ha (.inr hS) (jJ (jW (jJ (jJ (jW (jJ (jX))))))) fun a ha => ?_
   refine zJ 6 (.pointer (some ⟨bk sb, i * 3, none⟩)) ha (zV (s := sb) (el := 156) (sz := 3) (j := i) ha (zZ (t := 60) (x := 21) (y := 22) (d := 23)) rfl rfl (by kernel_rfl) (by kernel_rfl) (hS.rowA (s := sb) 1 rfl (by have := (List.getElem?_eq_some_iff.1 hz).1; rw [encE_length]; omega)) (rfl) (by have h9 := hS.rowL (s := sb) (enc := cellsE) 1 zQ (by decide) rfl; have := (List.getElem?_eq_some_iff.1 hz).1; omega)) (.inr hS) (jJ (jW (jJ (jJ (jW (jJ (jX))))))) fun a ha => ?_
   refine kK 7 (.agg #[iv z.1, iv z.2.1, iv z.2.2]) ha (v_loadL ha (kX (t := 156) (x := 23) (d := 24) (ty := 156)) rfl (fun w' hw => run_loadVar_agg (vs := [iv z.1, iv z.2.1, iv z.2.2]) (by kernel_rfl) (fun i u hu => by match i, hu with | 0, hu => rw [add0]; rw [← Option.some.inj hu]; exact (((hw.rdC (s := sb) 1 rfl)).cells _ _ ((flat_get (enc := cellsE) (o := 0) zQ hz (by decide)).trans rfl)) | 1, hu => rw [add0]; rw [← Option.some.inj hu]; exact (((hw.rdC (s := sb) 1 rfl)).cells _ _ ((flat_get (enc := cellsE) (o := 1) zQ hz (by decide)).trans rfl)) | 2, hu => rw [add0]; rw [← Option.some.inj hu]; exact (((hw.rdC (s := sb) 1 rfl)).cells _ _ ((flat_get (enc := cellsE) (o := 2) zQ hz (by decide)).trans rfl)) | n + 3, hu => simp at hu))) hS (jJ (jW (jJ (jJ (jW (jJ (jX))))))) fun a ha => ?_
   refine qX 8 (qG 25 (vs := [.agg #[iv z.1, iv z.2.1, iv z.2.2], .agg #[iv z.1, iv z.2.1, iv z.2.2]]) ha (eqEv_sat hS) fun v3 w a hp4 ha => ?_)
   obtain ⟨rfl, hS⟩ := hp4
   refine xZ (jV (k := 0) [(9, 26, .bool false)] ha (.inl (by kernel_rfl)) (jJ (jW (jJ (jJ (jW (jJ (jX))))))) fun a ha => ?_)
   refine xW (jQ ?_)
   refine jH ha rfl rfl ?_
   refine wp_skip (in_n (jQ (jZ [0, 1, 2] (jY [(0, 15, iv (i : Int))] ha fun a ha => ?_))))
   refine zH 16 ((i : Int) + 1) ha fun a ha => ?_
   refine jY [(2, 5, iv ((i : Int) + 1))] ha fun a ha => ?_
   refine jK (jQ ?_)
   replace hS : Sat w0 w ((rE sa t) :: (rE sb t) :: Rs) := hS
   exact ⟨_, by omega, i + 1, rfl, by omega, ha.keeps [0, 1, 5] _ rfl, hS⟩
  refine jH ha rfl (decide_eq_false c2) ?_
  refine wp_exit (yK (yK (in_x (jQ (wp_seq (jZ [0] (jY [(0, 4, .bool true)] ha fun a ha => ?_)))))))
  refine jK (jQ (wp_ret (qH ha (by kernel_rfl) (xG (t := 4) ha rfl) ?_)))
  exact ⟨rfl, hS⟩
 refine qK ha rfl (zG (decide_eq_false c1)) ?_
 refine wp_seq (jZ [0] (jY [(0, 4, .bool false)] ha fun a ha => ?_))
 refine jK (jQ (wp_ret (xU ?_)))
 exfalso; omega
theorem code76 : Try.f76.body = some (Code.seq (cr Try.f76 0 false) (Code.seq (Code.seq (cr Try.f76 1 false) (Code.block 0 (Code.loop (Code.seq (Code.seq (cr Try.f76 2 false) (Code.cond (Operand.tmp 9) Code.skip (Code.exit 0))) (Code.seq (Code.block 1 (Code.seq (Code.seq (cr Try.f76 4 false) (Code.cond (Operand.tmp 18) (Code.seq (cr Try.f76 5 false) Code.ret) Code.skip)) (Code.seq (cr Try.f76 6 false) (Code.seq (Code.seq (cr Try.f76 7 false) (Code.cond (Operand.tmp 27) (Code.seq (cr Try.f76 8 false) Code.ret) Code.skip)) (Code.seq (cr Try.f76 9 false) (Code.seq (Code.seq (cr Try.f76 10 false) (Code.cond (Operand.tmp 36) (Code.seq (cr Try.f76 11 false) Code.ret) Code.skip)) (cr Try.f76 12 false))))))) (cr Try.f76 3 false)))))) (Code.seq (cr Try.f76 13 false) Code.ret))) := by kernel_rfl
set_option maxRecDepth 20000 in
set_option maxHeartbeats 1000000 in
theorem heldE_sat {w0 w : World} {Rs : List Asn} {o : Sl} {n : Nat} (hS : Sat w0 w (rE o (mkE n) :: Rs)) (hl : n ≤ 1000000) :
  Calls Try.prog 76 #[.slice o.A o.n o.c, .int .i64 1] w (Ret fun r w' => r = .int .i64 (1 + 3 * (n : Int)) ∧ Sat w0 w' (rE o (mkE n) :: Rs)) := by
 have hlen : o.n = (mkE n).length := hS.rowL (s := o) (enc := cellsE) 0 zQ (by decide) rfl
 rw [mkE_len] at hlen
 refine enter (n := 40) Try.func76 code76 (by kernel_rfl) (Nat.le_of_ble_eq_true rfl) (fun a ha => ?_)
 replace ha : Has 40 [(0, .slice o.A o.n o.c), (1, iv 1)] a := ha
 refine wp_seq (jZ [0] (jY [(0, 4, iv 0)] ha fun a ha => ?_))
 refine jK (jQ (wp_seq (wp_seq (jZ [0] (jY [(0, 5, iv 0)] ha fun a ha => ?_)))))
 refine jK (jQ (wp_block ?_))
 refine wp_loop_ghost (fun n_ a_ w_ => ∃ (i : Nat) (k : Int), n_ = n - i ∧ (i ≤ n) ∧ (k = 1 + 3 * (i : Int)) ∧ Has 40 [(0, .slice o.A o.n o.c), (1, iv k), (5, iv (i : Int))] a_ ∧ Sat w0 w_ ((rE o (mkE n)) :: Rs)) _ ⟨0, 1, rfl, Nat.zero_le _, rfl, ha.keeps [0, 1, 5] _ rfl, hS⟩ ?_
 rintro n_ a w ⟨i, k, rfl, hi, hk, ha, hS⟩
 refine wp_seq (wp_seq (jZ [0, 1, 2, 3] (jY [(0, 6, iv (i : Int)), (1, 7, .slice o.A o.n o.c), (2, 8, iv (o.n : Int)), (3, 9, .bool (decide ((i : Int) < (o.n : Int))))] ha fun a ha => ?_)))
 refine jK (jQ ?_)
 by_cases c1 : (i : Int) < (o.n : Int)
 ·
  have hz := mkE_at (n := n) hk (by omega)
  refine qK ha rfl (decide_eq_true c1) ?_
  refine wp_skip (jQ (wp_seq (wp_block (wp_seq (wp_seq (jZ [0, 1, 2, 3, 4, 5, 6] (jY [(0, 12, .slice o.A o.n o.c), (1, 13, iv (i : Int))] ha fun a ha => ?_)))))))
  refine yW (.pointer (some ⟨bk o, i * 3, none⟩)) ha (zV (s := o) (el := 156) (sz := 3) (j := i) ha (zZ (t := 60) (x := 12) (y := 13) (d := 14)) rfl rfl (by kernel_rfl) (by kernel_rfl) (hS.rowA (s := o) 0 rfl (by have := (List.getElem?_eq_some_iff.1 hz).1; rw [encE_length]; omega)) (rfl) (by have h9 := hS.rowL (s := o) (enc := cellsE) 0 zQ (by decide) rfl; have := (List.getElem?_eq_some_iff.1 hz).1; omega)) fun a ha => ?_
  refine jY [(3, 15, .pointer (some ⟨bk o, i * 3, none⟩))] ha fun a ha => ?_
  refine yW (iv k) ha (kY ha (kX (t := 3) (x := 15) (d := 16) (ty := 3)) rfl (by kernel_rfl) (fun w' hw => by rw [hw]; exact (hS.rdC (s := o) 0 rfl).cells _ _ ((flat_get (enc := cellsE) (o := 0) zQ hz (by decide)).trans rfl))) fun a ha => ?_
  refine jY [(5, 17, iv k)] ha fun a ha => ?_
  refine yW (.bool false) ha ((qV (v := .bool (!(decide (k = k)))) ha (zK (op := (Op.binOp BinOp.neq 3 (Operand.tmp 16) (Operand.tmp 17) 3)) (d := some 18) (ty := 4)) (by kernel_rfl) (fun _ => by kernel_rfl)).as (by simp)) fun a ha => ?_
  refine jK (jQ ?_)
  refine jH ha rfl rfl ?_
  refine wp_skip (jQ (wp_seq (jZ [0, 1, 2] (jY [(0, 19, iv k)] ha fun a ha => ?_))))
  refine zH 20 (k + 1) ha fun a ha => ?_
  refine jY [(2, 1, iv (k + 1))] ha fun a ha => ?_
  refine jK (jQ (wp_seq (wp_seq (jZ [0, 1, 2, 3, 4, 5, 6] (jY [(0, 21, .slice o.A o.n o.c), (1, 22, iv (i : Int))] ha fun a ha => ?_)))))
  refine yW (.pointer (some ⟨bk o, i * 3, none⟩)) ha (zV (s := o) (el := 156) (sz := 3) (j := i) ha (zZ (t := 60) (x := 21) (y := 22) (d := 23)) rfl rfl (by kernel_rfl) (by kernel_rfl) (hS.rowA (s := o) 0 rfl (by have := (List.getElem?_eq_some_iff.1 hz).1; rw [encE_length]; omega)) (rfl) (by have h9 := hS.rowL (s := o) (enc := cellsE) 0 zQ (by decide) rfl; have := (List.getElem?_eq_some_iff.1 hz).1; omega)) fun a ha => ?_
  refine jY [(3, 24, .pointer (some ⟨bk o, i * 3 + 1, none⟩))] ha fun a ha => ?_
  refine yW (iv (k + 1)) ha (kY ha (kX (t := 3) (x := 24) (d := 25) (ty := 3)) rfl (by kernel_rfl) (fun w' hw => by rw [hw]; exact (hS.rdC (s := o) 0 rfl).cells _ _ ((flat_get (enc := cellsE) (o := 1) zQ hz (by decide)).trans rfl))) fun a ha => ?_
  refine jY [(5, 26, iv (k + 1))] ha fun a ha => ?_
  refine yW (.bool false) ha ((qV (v := .bool (!(decide (k + 1 = k + 1)))) ha (zK (op := (Op.binOp BinOp.neq 3 (Operand.tmp 25) (Operand.tmp 26) 3)) (d := some 27) (ty := 4)) (by kernel_rfl) (fun _ => by kernel_rfl)).as (by simp)) fun a ha => ?_
  refine jK (jQ ?_)
  refine jH ha rfl rfl ?_
  refine wp_skip (jQ (wp_seq (jZ [0, 1, 2] (jY [(0, 28, iv (k + 1))] ha fun a ha => ?_))))
  refine zH 29 ((k + 1) + 1) ha fun a ha => ?_
  refine jY [(2, 1, iv ((k + 1) + 1))] ha fun a ha => ?_
  refine jK (jQ (wp_seq (wp_seq (jZ [0, 1, 2, 3, 4, 5, 6] (jY [(0, 30, .slice o.A o.n o.c), (1, 31, iv (i : Int))] ha fun a ha => ?_)))))
  refine yW (.pointer (some ⟨bk o, i * 3, none⟩)) ha (zV (s := o) (el := 156) (sz := 3) (j := i) ha (zZ (t := 60) (x := 30) (y := 31) (d := 32)) rfl rfl (by kernel_rfl) (by kernel_rfl) (hS.rowA (s := o) 0 rfl (by have := (List.getElem?_eq_some_iff.1 hz).1; rw [encE_length]; omega)) (rfl) (by have h9 := hS.rowL (s := o) (enc := cellsE) 0 zQ (by decide) rfl; have := (List.getElem?_eq_some_iff.1 hz).1; omega)) fun a ha => ?_
  refine jY [(3, 33, .pointer (some ⟨bk o, i * 3 + 2, none⟩))] ha fun a ha => ?_
  refine yW (iv ((k + 1) + 1)) ha (kY ha (kX (t := 3) (x := 33) (d := 34) (ty := 3)) rfl (by kernel_rfl) (fun w' hw => by rw [hw]; exact (hS.rdC (s := o) 0 rfl).cells _ _ ((flat_get (enc := cellsE) (o := 2) zQ hz (by decide)).trans rfl))) fun a ha => ?_
  refine jY [(5, 35, iv ((k + 1) + 1))] ha fun a ha => ?_
  refine yW (.bool false) ha ((qV (v := .bool (!(decide ((k + 1) + 1 = (k + 1) + 1)))) ha (zK (op := (Op.binOp BinOp.neq 3 (Operand.tmp 34) (Operand.tmp 35) 3)) (d := some 36) (ty := 4)) (by kernel_rfl) (fun _ => by kernel_rfl)).as (by simp)) fun a ha => ?_
  refine jK (jQ ?_)
  refine jH ha rfl rfl ?_
  refine wp_skip (jQ (jZ [0, 1, 2] (jY [(0, 37, iv ((k + 1) + 1))] ha fun a ha => ?_)))
  refine zH 38 (((k + 1) + 1) + 1) ha fun a ha => ?_
  refine jY [(2, 1, iv (((k + 1) + 1) + 1))] ha fun a ha => ?_
  refine jK (in_n (jQ (jZ [0, 1, 2] (jY [(0, 10, iv (i : Int))] ha fun a ha => ?_))))
  refine zH 11 ((i : Int) + 1) ha fun a ha => ?_
  refine jY [(2, 5, iv ((i : Int) + 1))] ha fun a ha => ?_
  refine jK (jQ ?_)
  exact ⟨_, by omega, i + 1, ((k + 1) + 1) + 1, rfl, by omega, by omega, ha.keeps [0, 1, 5] _ rfl, hS⟩
 refine jH ha rfl (decide_eq_false c1) ?_
 refine wp_exit (yK (yK (in_x (jQ (wp_seq (jZ [0, 1] (jY [(0, 39, iv k), (1, 4, iv k)] ha fun a ha => ?_)))))))
 refine jK (jQ (wp_ret (qH ha (by kernel_rfl) (xG (t := 4) ha rfl) ?_)))
 obtain rfl : i = n := by omega
 exact ⟨by rw [hk], hS⟩
theorem code75 : Try.f75.body = some (Code.seq (cr Try.f75 0 false) (Code.seq (Code.seq (cr Try.f75 1 false) (Code.block 0 (Code.loop (Code.seq (Code.seq (cr Try.f75 2 false) (Code.cond (Operand.tmp 9) Code.skip (Code.exit 0))) (Code.seq (Code.block 1 (Code.seq (cr Try.f75 4 false) (Code.seq (cr Try.f75 5 false) (Code.seq (cr Try.f75 6 false) (Code.seq (cr Try.f75 7 false) (Code.seq (cr Try.f75 8 false) (cr Try.f75 9 false))))))) (cr Try.f75 3 false)))))) (Code.seq (cr Try.f75 10 false) Code.ret))) := by kernel_rfl
set_option maxRecDepth 20000 in
set_option maxHeartbeats 1000000 in
theorem markE_sat {w0 w : World} {Rs : List Asn} {o : Sl} {l : List (Int × Int × Int)} (hS : Sat w0 w (rE o l :: Rs)) (hl : l.length ≤ 1000000) :
  Calls Try.prog 75 #[.slice o.A o.n o.c, .int .i64 1] w (Ret fun r w' => r = .int .i64 (1 + 3 * (l.length : Int)) ∧ Sat w0 w' (rE o (mkE l.length) :: Rs)) := by
 have hlen : o.n = l.length := hS.rowL (s := o) (enc := cellsE) 0 zQ (by decide) rfl
 refine enter (n := 34) Try.func75 code75 (by kernel_rfl) (Nat.le_of_ble_eq_true rfl) (fun a ha => ?_)
 replace ha : Has 34 [(0, .slice o.A o.n o.c), (1, iv 1)] a := ha
 refine wp_seq (jZ [0] (jY [(0, 4, iv 0)] ha fun a ha => ?_))
 refine jK (jQ (wp_seq (wp_seq (jZ [0] (jY [(0, 5, iv 0)] ha fun a ha => ?_)))))
 refine jK (jQ (wp_block ?_))
 refine wp_loop_ghost (fun n_ a_ w_ => ∃ (i : Nat) (k : Int), n_ = l.length - i ∧ (i ≤ l.length) ∧ (k = 1 + 3 * (i : Int)) ∧ Has 34 [(0, .slice o.A o.n o.c), (1, iv k), (5, iv (i : Int))] a_ ∧ Sat w0 w_ ((rE o (mkE i ++ l.drop i)) :: Rs)) _ ⟨0, 1, rfl, Nat.zero_le _, rfl, ha.keeps [0, 1, 5] _ rfl, hS⟩ ?_
 rintro n_ a w ⟨i, k, rfl, hi, hk, ha, hS⟩
 refine wp_seq (wp_seq (jZ [0, 1, 2, 3] (jY [(0, 6, iv (i : Int)), (1, 7, .slice o.A o.n o.c), (2, 8, iv (o.n : Int)), (3, 9, .bool (decide ((i : Int) < (o.n : Int))))] ha fun a ha => ?_)))
 refine jK (jQ ?_)
 by_cases c1 : (i : Int) < (o.n : Int)
 ·
  obtain ⟨z, hz⟩ := mkE_some (l := l) (j := i) (by omega)
  refine qK ha rfl (decide_eq_true c1) ?_
  refine wp_skip (jQ (wp_seq (wp_block (wp_seq (jZ [0, 1, 2, 3, 4, 5] (jY [(0, 12, .slice o.A o.n o.c), (1, 13, iv (i : Int)), (2, 14, iv k)] ha fun a ha => ?_))))))
  refine yW (.pointer (some ⟨bk o, i * 3, none⟩)) ha (zV (s := o) (el := 156) (sz := 3) (j := i) ha (zZ (t := 60) (x := 12) (y := 13) (d := 15)) rfl rfl (by kernel_rfl) (by kernel_rfl) (hS.rowA (s := o) 0 rfl (by have := (List.getElem?_eq_some_iff.1 hz).1; rw [encE_length]; omega)) (rfl) (by have h9 := hS.rowL (s := o) (enc := cellsE) 0 zQ (by decide) rfl; have := (List.getElem?_eq_some_iff.1 hz).1; omega)) fun a ha => ?_
  refine jY [(4, 16, .pointer (some ⟨bk o, i * 3, none⟩))] ha fun a ha => ?_
  refine jG (kQ (s := o) (j := i * 3 + 0) (xs := encE (mkE i ++ l.drop i)) (xs' := encE ((mkE i ++ l.drop i).set i ((k, z.2.1, z.2.2) : Int × Int × Int))) 0 ha (xK (t := 3) (x := 16) (y := 14)) rfl rfl rfl (by kernel_rfl) hS rfl (by have := (List.getElem?_eq_some_iff.1 hz).1; rw [encE_length]; omega) ((flat_set (enc := cellsE) (x' := ((k, z.2.1, z.2.2) : Int × Int × Int)) zQ hz (by decide) rfl)) (fun w a (hS : Sat w0 w ((rE o ((mkE i ++ l.drop i).set i ((k, z.2.1, z.2.2) : Int × Int × Int))) :: Rs)) ha => ?_))
  refine jK (jQ (wp_seq (jZ [0, 1, 2] (jY [(0, 17, iv k)] ha fun a ha => ?_))))
  refine zH 18 (k + 1) ha fun a ha => ?_
  refine jY [(2, 1, iv (k + 1))] ha fun a ha => ?_
  refine jK (jQ (wp_seq (jZ [0, 1, 2, 3, 4, 5] (jY [(0, 19, .slice o.A o.n o.c), (1, 20, iv (i : Int)), (2, 21, iv (k + 1))] ha fun a ha => ?_))))
  refine yW (.pointer (some ⟨bk o, i * 3, none⟩)) ha (zV (s := o) (el := 156) (sz := 3) (j := i) ha (zZ (t := 60) (x := 19) (y := 20) (d := 22)) rfl rfl (by kernel_rfl) (by kernel_rfl) (hS.rowA (s := o) 0 rfl (by have := (List.getElem?_eq_some_iff.1 (set_get hz ((k, z.2.1, z.2.2) : Int × Int × Int))).1; rw [encE_length]; omega)) (rfl) (by have h9 := hS.rowL (s := o) (enc := cellsE) 0 zQ (by decide) rfl; have := (List.getElem?_eq_some_iff.1 (set_get hz ((k, z.2.1, z.2.2) : Int × Int × Int))).1; omega)) fun a ha => ?_
  refine jY [(4, 23, .pointer (some ⟨bk o, i * 3 + 1, none⟩))] ha fun a ha => ?_
  refine jG (kQ (s := o) (j := i * 3 + 1) (xs := encE ((mkE i ++ l.drop i).set i ((k, z.2.1, z.2.2) : Int × Int × Int))) (xs' := encE ((mkE i ++ l.drop i).set i ((k, k + 1, z.2.2) : Int × Int × Int))) 0 ha (xK (t := 3) (x := 23) (y := 21)) rfl rfl rfl (by kernel_rfl) hS rfl (by have := (List.getElem?_eq_some_iff.1 (set_get hz ((k, z.2.1, z.2.2) : Int × Int × Int))).1; rw [encE_length]; omega) ((flat_set (enc := cellsE) (x' := ((k, k + 1, z.2.2) : Int × Int × Int)) zQ (set_get hz ((k, z.2.1, z.2.2) : Int × Int × Int)) (by decide) rfl).trans (by rw [List.set_set]; rfl)) (fun w a (hS : Sat w0 w ((rE o ((mkE i ++ l.drop i).set i ((k, k + 1, z.2.2) : Int × Int × Int))) :: Rs)) ha => ?_))
  refine jK (jQ (wp_seq (jZ [0, 1, 2] (jY [(0, 24, iv (k + 1))] ha fun a ha => ?_))))
  refine zH 25 ((k + 1) + 1) ha fun a ha => ?_
  refine jY [(2, 1, iv ((k + 1) + 1))] ha fun a ha => ?_
  refine jK (jQ (wp_seq (jZ [0, 1, 2, 3, 4, 5] (jY [(0, 26, .slice o.A o.n o.c), (1, 27, iv (i : Int)), (2, 28, iv ((k + 1) + 1))] ha fun a ha => ?_))))
  refine yW (.pointer (some ⟨bk o, i * 3, none⟩)) ha (zV (s := o) (el := 156) (sz := 3) (j := i) ha (zZ (t := 60) (x := 26) (y := 27) (d := 29)) rfl rfl (by kernel_rfl) (by kernel_rfl) (hS.rowA (s := o) 0 rfl (by have := (List.getElem?_eq_some_iff.1 (set_get hz ((k, k + 1, z.2.2) : Int × Int × Int))).1; rw [encE_length]; omega)) (rfl) (by have h9 := hS.rowL (s := o) (enc := cellsE) 0 zQ (by decide) rfl; have := (List.getElem?_eq_some_iff.1 (set_get hz ((k, k + 1, z.2.2) : Int × Int × Int))).1; omega)) fun a ha => ?_
  refine jY [(4, 30, .pointer (some ⟨bk o, i * 3 + 2, none⟩))] ha fun a ha => ?_
  refine jG (kQ (s := o) (j := i * 3 + 2) (xs := encE ((mkE i ++ l.drop i).set i ((k, k + 1, z.2.2) : Int × Int × Int))) (xs' := encE ((mkE i ++ l.drop i).set i ((k, k + 1, (k + 1) + 1) : Int × Int × Int))) 0 ha (xK (t := 3) (x := 30) (y := 28)) rfl rfl rfl (by kernel_rfl) hS rfl (by have := (List.getElem?_eq_some_iff.1 (set_get hz ((k, k + 1, z.2.2) : Int × Int × Int))).1; rw [encE_length]; omega) ((flat_set (enc := cellsE) (x' := ((k, k + 1, (k + 1) + 1) : Int × Int × Int)) zQ (set_get hz ((k, k + 1, z.2.2) : Int × Int × Int)) (by decide) rfl).trans (by rw [List.set_set]; rfl)) (fun w a (hS : Sat w0 w ((rE o ((mkE i ++ l.drop i).set i ((k, k + 1, (k + 1) + 1) : Int × Int × Int))) :: Rs)) ha => ?_))
  refine jK (jQ (jZ [0, 1, 2] (jY [(0, 31, iv ((k + 1) + 1))] ha fun a ha => ?_)))
  refine zH 32 (((k + 1) + 1) + 1) ha fun a ha => ?_
  refine jY [(2, 1, iv (((k + 1) + 1) + 1))] ha fun a ha => ?_
  refine jK (in_n (jQ (jZ [0, 1, 2] (jY [(0, 10, iv (i : Int))] ha fun a ha => ?_))))
  refine zH 11 ((i : Int) + 1) ha fun a ha => ?_
  refine jY [(2, 5, iv ((i : Int) + 1))] ha fun a ha => ?_
  refine jK (jQ ?_)
  replace hS : Sat w0 w ((rE o (mkE (i + 1) ++ l.drop (i + 1))) :: Rs) := by rw [← mkE_next hk (by omega)]; exact hS
  exact ⟨_, by omega, i + 1, ((k + 1) + 1) + 1, rfl, by omega, by omega, ha.keeps [0, 1, 5] _ rfl, hS⟩
 refine jH ha rfl (decide_eq_false c1) ?_
 refine wp_exit (yK (yK (in_x (jQ (wp_seq (jZ [0, 1] (jY [(0, 33, iv k), (1, 4, iv k)] ha fun a ha => ?_)))))))
 refine jK (jQ (wp_ret (qH ha (by kernel_rfl) (xG (t := 4) ha rfl) ?_)))
 obtain rfl : i = l.length := by omega
 exact ⟨by rw [hk], by rw [List.drop_length, List.append_nil] at hS; exact hS⟩
theorem code39 : Try.f39.body = some (Code.seq (cr Try.f39 0 false) (Code.seq (Code.seq (cr Try.f39 1 false) (Code.cond (Operand.tmp 9) (Code.seq (cr Try.f39 2 false) Code.ret) Code.skip)) (Code.seq (Code.seq (cr Try.f39 3 false) (Code.cond (Operand.tmp 14) (Code.seq (cr Try.f39 4 false) Code.ret) Code.skip)) (Code.seq (Code.seq (cr Try.f39 5 false) (Code.cond (Operand.tmp 20) (Code.seq (cr Try.f39 6 false) Code.ret) Code.skip)) (Code.seq (Code.seq (cr Try.f39 7 false) (Code.cond (Operand.tmp 25) (Code.seq (cr Try.f39 8 false) Code.ret) Code.skip)) (Code.seq (cr Try.f39 9 false) Code.ret)))))) := by kernel_rfl
set_option maxRecDepth 20000 in
set_option maxHeartbeats 1000000 in
theorem eqO_sat {w0 w : World} {Rs : List Asn} {sa sb : Sl} {t : List (Int × Int × Int)} {ko vo so : Int} (hS : Sat w0 w ((rE sa t) :: (rE sb t) :: Rs)) (hl : t.length ≤ 1000000) :
  Calls Try.prog 39 #[(oG ko vo sa so), (oG ko vo sb so)] w (Ret fun r w' => r = .bool true ∧ Sat w0 w' ((rE sa t) :: (rE sb t) :: Rs)) := by
 refine enter (n := 26) Try.func39 code39 (by kernel_rfl) (Nat.le_of_ble_eq_true rfl) (fun a ha => ?_)
 replace ha : Has 26 [(0, (oG ko vo sa so)), (1, (oG ko vo sb so))] a := ha
 refine wp_seq (jZ [0, 1, 2] (jG (xQ 2 [iv ko, iv vo, .slice sa.A sa.n sa.c, iv so] 62 (ptr · 0) ha hS fun b1 w a hb2 hS ha => ?_)))
 refine jG (xQ 3 [iv ko, iv vo, .slice sb.A sb.n sb.c, iv so] 62 (ptr · 0) ha hS fun b3 w a hb4 hS ha => ?_)
 refine jY [(2, 4, .bool false)] ha fun a ha => ?_
 refine jK (jQ (wp_seq (wp_seq (jZ [0, 1, 2, 3, 4] (jY [(0, 5, ptr b1 0)] ha fun a ha => ?_)))))
 refine qZ (d := 6) (b := b1) (j := 0) ha (hS.blk 1 rfl) rfl fun a ha => ?_
 refine jY [(2, 7, ptr b3 0)] ha fun a ha => ?_
 refine qZ (d := 8) (b := b3) (j := 0) ha (hS.blk 0 rfl) rfl fun a ha => ?_
 refine yW (.bool false) ha ((qV (v := .bool (!(decide (ko = ko)))) ha (zK (op := (Op.binOp BinOp.neq 3 (Operand.tmp 6) (Operand.tmp 8) 3)) (d := some 9) (ty := 4)) (by kernel_rfl) (fun _ => by kernel_rfl)).as (by simp)) fun a ha => ?_
 refine jK (jQ ?_)
 refine jH ha rfl rfl ?_
 refine wp_skip (jQ (wp_seq (wp_seq (jZ [0, 1, 2, 3, 4] (jY [(0, 10, ptr b1 1)] ha fun a ha => ?_)))))
 refine qZ (d := 11) (b := b1) (j := 1) ha (hS.blk 1 rfl) rfl fun a ha => ?_
 refine jY [(2, 12, ptr b3 1)] ha fun a ha => ?_
 refine qZ (d := 13) (b := b3) (j := 1) ha (hS.blk 0 rfl) rfl fun a ha => ?_
 refine yW (.bool false) ha ((qV (v := .bool (!(decide (vo = vo)))) ha (zK (op := (Op.binOp BinOp.neq 3 (Operand.tmp 11) (Operand.tmp 13) 3)) (d := some 14) (ty := 4)) (by kernel_rfl) (fun _ => by kernel_rfl)).as (by simp)) fun a ha => ?_
 refine jK (jQ ?_)
 refine jH ha rfl rfl ?_
 refine wp_skip (jQ (wp_seq (wp_seq (jZ [0, 1, 2, 3, 4, 5] (jY [(0, 15, ptr b1 2)] ha fun a ha => ?_)))))
 refine qZ (d := 16) (b := b1) (j := 2) ha (hS.blk 1 rfl) rfl fun a ha => ?_
 refine jY [(2, 17, ptr b3 2)] ha fun a ha => ?_
 refine qZ (d := 18) (b := b3) (j := 2) ha (hS.blk 0 rfl) rfl fun a ha => ?_
 replace hS : Sat w0 w ((rE sa t) :: (rE sb t) :: (SX.blk b3 [iv ko, iv vo, .slice sb.A sb.n sb.c, iv so] 62) :: (SX.blk b1 [iv ko, iv vo, .slice sa.A sa.n sa.c, iv so] 62) :: Rs) := hS.pickN 4 [2, 3, 0, 1] (by decide) rfl
 refine jG (qG 19 (vs := [.slice sa.A sa.n sa.c, .slice sb.A sb.n sb.c]) ha (eqE_sat hS (by omega)) fun v5 w a hp6 ha => ?_)
 obtain ⟨rfl, hS⟩ := hp6
 refine jY [(5, 20, .bool false)] ha fun a ha => ?_
 refine jK (jQ ?_)
 refine jH ha rfl rfl ?_
 refine wp_skip (jQ (wp_seq (wp_seq (jZ [0, 1, 2, 3, 4] (jY [(0, 21, ptr b1 3)] ha fun a ha => ?_)))))
 refine qZ (d := 22) (b := b1) (j := 3) ha (hS.blk 3 rfl) rfl fun a ha => ?_
 refine jY [(2, 23, ptr b3 3)] ha fun a ha => ?_
 refine qZ (d := 24) (b := b3) (j := 3) ha (hS.blk 2 rfl) rfl fun a ha => ?_
 refine yW (.bool false) ha ((qV (v := .bool (!(decide (so = so)))) ha (zK (op := (Op.binOp BinOp.neq 3 (Operand.tmp 22) (Operand.tmp 24) 3)) (d := some 25) (ty := 4)) (by kernel_rfl) (fun _ => by kernel_rfl)).as (by simp)) fun a ha => ?_
 refine jK ?_
 replace ha := ha.as [(4, .bool false), (25, .bool false)] rfl
 refine jQ ?_
 refine jH ha rfl rfl ?_
 refine wp_skip (jQ (wp_seq (jZ [0] (jY [(0, 4, .bool true)] ha fun a ha => ?_))))
 refine jK (jQ (wp_ret (qH ha (by kernel_rfl) (xG (t := 4) ha rfl) ?_)))
 replace hS : Sat w0 w ((rE sa t) :: (rE sb t) :: Rs) := hS.pickN 4 [0, 1] (by decide) rfl
 exact ⟨rfl, hS⟩
theorem code40 : Try.f40.body = some (Code.seq (cr Try.f40 0 false) (Code.seq (cr Try.f40 1 false) (Code.seq (cr Try.f40 2 false) Code.ret))) := by kernel_rfl
set_option maxRecDepth 20000 in
set_option maxHeartbeats 1000000 in
theorem markO_sat {w0 w : World} {Rs : List Asn} {o : Sl} {ko vo so : Int} {l : List (Int × Int × Int)} (hS : Sat w0 w (rE o l :: Rs)) (hl : l.length ≤ 1000000) :
  Calls Try.prog 40 #[oG ko vo o so, .int .i64 1] w (Ret fun r w' => r = .int .i64 (1 + 3 * (l.length : Int)) ∧ Sat w0 w' (rE o (mkE l.length) :: Rs)) := by
 refine enter (n := 10) Try.func40 code40 (by kernel_rfl) (Nat.le_of_ble_eq_true rfl) (fun a ha => ?_)
 replace ha : Has 10 [(0, (oG ko vo o so)), (1, iv 1)] a := ha
 refine wp_seq (jZ [0, 1] (jG (xQ 2 [iv ko, iv vo, .slice o.A o.n o.c, iv so] 62 (ptr · 0) ha hS fun b1 w a hb2 hS ha => ?_)))
 refine jY [(1, 4, iv 0)] ha fun a ha => ?_
 refine jK (jQ (wp_seq (jZ [0, 1, 2, 3, 4] (jY [(0, 5, ptr b1 2)] ha fun a ha => ?_))))
 refine qZ (d := 6) (b := b1) (j := 2) ha (hS.blk 0 rfl) rfl fun a ha => ?_
 refine jY [(2, 7, iv 1)] ha fun a ha => ?_
 replace hS : Sat w0 w ((rE o l) :: (SX.blk b1 [iv ko, iv vo, .slice o.A o.n o.c, iv so] 62) :: Rs) := hS.pickN 2 [1, 0] (by decide) rfl
 refine jG (qG 8 (vs := [.slice o.A o.n o.c, iv 1]) ha (markE_sat hS (by omega)) fun v3 w a hp4 ha => ?_)
 obtain ⟨rfl, hS⟩ := hp4
 refine jY [(4, 1, iv (1 + 3 * (l.length : Int)))] ha fun a ha => ?_
 refine jK (jQ (wp_seq (jZ [0, 1] (jY [(0, 9, iv (1 + 3 * (l.length : Int))), (1, 4, iv (1 + 3 * (l.length : Int)))] ha fun a ha => ?_))))
 refine jK (jQ (wp_ret (qH ha (by kernel_rfl) (xG (t := 4) ha rfl) ?_)))
 replace hS : Sat w0 w ((rE o (mkE l.length)) :: Rs) := hS.pickN 2 [0] (by decide) rfl
 exact ⟨rfl, hS⟩
theorem code41 : Try.f41.body = some (Code.seq (cr Try.f41 0 false) (Code.seq (cr Try.f41 1 false) (Code.seq (Code.seq (cr Try.f41 2 false) (Code.cond (Operand.tmp 10) (Code.seq (cr Try.f41 3 false) Code.ret) Code.skip)) (Code.seq (cr Try.f41 4 false) Code.ret)))) := by kernel_rfl
set_option maxRecDepth 20000 in
set_option maxHeartbeats 1000000 in
theorem heldO_sat {w0 w : World} {Rs : List Asn} {o : Sl} {ko vo so : Int} {n : Nat} (hS : Sat w0 w (rE o (mkE n) :: Rs)) (hl : n ≤ 1000000) :
  Calls Try.prog 41 #[oG ko vo o so, .int .i64 1] w (Ret fun r w' => r = .int .i64 (1 + 3 * (n : Int)) ∧ Sat w0 w' (rE o (mkE n) :: Rs)) := by
 refine enter (n := 12) Try.func41 code41 (by kernel_rfl) (Nat.le_of_ble_eq_true rfl) (fun a ha => ?_)
 replace ha : Has 12 [(0, (oG ko vo o so)), (1, iv 1)] a := ha
 refine wp_seq (jZ [0, 1] (jG (xQ 2 [iv ko, iv vo, .slice o.A o.n o.c, iv so] 62 (ptr · 0) ha hS fun b1 w a hb2 hS ha => ?_)))
 refine jY [(1, 4, iv 0)] ha fun a ha => ?_
 refine jK (jQ (wp_seq (jZ [0, 1, 2, 3, 4] (jY [(0, 5, ptr b1 2)] ha fun a ha => ?_))))
 refine qZ (d := 6) (b := b1) (j := 2) ha (hS.blk 0 rfl) rfl fun a ha => ?_
 refine jY [(2, 7, iv 1)] ha fun a ha => ?_
 replace hS : Sat w0 w ((rE o (mkE n)) :: (SX.blk b1 [iv ko, iv vo, .slice o.A o.n o.c, iv so] 62) :: Rs) := hS.pickN 2 [1, 0] (by decide) rfl
 refine jG (qG 8 (vs := [.slice o.A o.n o.c, iv 1]) ha (heldE_sat hS (by omega)) fun v3 w a hp4 ha => ?_)
 obtain ⟨rfl, hS⟩ := hp4
 refine jY [(4, 1, iv (1 + 3 * (n : Int)))] ha fun a ha => ?_
 refine jK (jQ (wp_seq (wp_seq (jZ [0, 1] (jY [(0, 9, iv (1 + 3 * (n : Int)))] ha fun a ha => ?_)))))
 refine yW (.bool false) ha ((qV (v := .bool (decide (1 + 3 * (n : Int) < 0))) ha (zK (op := (Op.binOp BinOp.lss 3 (Operand.tmp 9) (Operand.const (Value.int IntKind.i64 0)) 3)) (d := some 10) (ty := 4)) (by kernel_rfl) (fun _ => by kernel_rfl)).as (by rw [decide_eq_false (by omega)])) fun a ha => ?_
 refine jK (jQ ?_)
 refine jH ha rfl rfl ?_
 refine wp_skip (jQ (wp_seq (jZ [0, 1] (jY [(0, 11, iv (1 + 3 * (n : Int))), (1, 4, iv (1 + 3 * (n : Int)))] ha fun a ha => ?_))))
 refine jK (jQ (wp_ret (qH ha (by kernel_rfl) (xG (t := 4) ha rfl) ?_)))
 replace hS : Sat w0 w ((rE o (mkE n)) :: Rs) := hS.pickN 2 [0] (by decide) rfl
 exact ⟨rfl, hS⟩
end Go.Proofs.Ytggahaddkoifkaa.G
end
section
namespace Go.Proofs.Ytggahaddkoifkaa.G
open Go.RowKit Go.Proofs.Ytggahaddkoifkaa.SX Go.Proofs.YtggahaddkoifkaaW.PrintWords Go.Proofs.YtggahaddkoifkaaW.PrintLast Go.Proofs.YtggahaddkoifkaaW.PrintMore
set_option linter.unusedVariables false
set_option linter.unusedSimpArgs false
theorem code8 : Try.f8.body = some (Code.seq (cr Try.f8 0 false) (Code.seq (cr Try.f8 1 false) (Code.seq (cr Try.f8 2 false) (Code.seq (Code.seq (cr Try.f8 3 false) (Code.cond (Operand.tmp 32) (Code.seq (cr Try.f8 4 false) Code.ret) Code.skip)) (Code.seq (cr Try.f8 5 true) (Code.seq (cr Try.f8 6 false) (Code.seq (cr Try.f8 7 true) (Code.seq (Code.seq (cr Try.f8 8 false) (Code.cond (Operand.tmp 78) (Code.seq (cr Try.f8 9 false) Code.ret) Code.skip)) (Code.seq (Code.seq (cr Try.f8 10 true) (Code.cond (Operand.tmp 83) (Code.seq (cr Try.f8 11 false) Code.ret) Code.skip)) (Code.seq (cr Try.f8 12 false) (Code.seq (cr Try.f8 13 false) (Code.seq (Code.seq (cr Try.f8 14 false) (Code.cond (Operand.tmp 109) (Code.seq (cr Try.f8 15 false) Code.ret) Code.skip)) (Code.seq (cr Try.f8 16 false) (Code.seq (cr Try.f8 17 false) (Code.seq (cr Try.f8 18 false) (Code.seq (cr Try.f8 19 false) (Code.seq (Code.seq (cr Try.f8 20 false) (Code.cond (Operand.tmp 117) (Code.seq (cr Try.f8 21 false) Code.ret) Code.skip)) (Code.seq (Code.seq (cr Try.f8 22 false) (Code.cond (Operand.tmp 120) (Code.seq (cr Try.f8 23 false) Code.ret) Code.skip)) (Code.seq (cr Try.f8 24 true) (Code.seq (Code.seq (cr Try.f8 25 false) (Code.cond (Operand.tmp 152) (Code.seq (cr Try.f8 26 false) Code.ret) Code.skip)) (Code.seq (cr Try.f8 27 false) (Code.seq (cr Try.f8 28 false) (Code.seq (Code.seq (cr Try.f8 29 false) (Code.cond (Operand.tmp 157) (Code.seq (cr Try.f8 30 false) Code.ret) Code.skip)) (Code.seq (Code.seq (cr Try.f8 31 false) (Code.cond (Operand.tmp 160) (Code.seq (cr Try.f8 32 false) Code.ret) Code.skip)) (Code.seq (cr Try.f8 33 false) Code.ret))))))))))))))))))))))))) := by kernel_rfl
set_option maxRecDepth 20000 in
set_option maxHeartbeats 1000000 in
theorem law8_walk (w0 : World) (s0 : Sl) (l0 : List (List LT)) (f : Int) (arg : Int) (fuel : Int) (tr wt fa mo : Int) (hr0 : RdA w0 s0 l0) :
  Calls Try.prog 8 #[.agg #[.slice s0.A s0.n s0.c], iv f, iv arg, iv fuel, .agg #[iv tr, iv wt, iv fa, iv mo]] w0 (Ret fun r w' => r = .bool true ∧ Below w0.heap.size w0 w') := by
 have hS : Sat w0 w0 [] := Sat.start w0
 refine enter (n := 161) Try.func8 code8 (by kernel_rfl) (Nat.le_of_ble_eq_true rfl) (fun a ha => ?_)
 replace ha : Has 161 [(0, .agg #[.slice s0.A s0.n s0.c]), (1, iv f), (2, iv arg), (3, iv fuel), (4, .agg #[iv tr, iv wt, iv fa, iv mo])] a := ha
 refine wp_seq (jZ [0, 1, 2] (jG (xQ 5 [.slice s0.A s0.n s0.c] 24 (ptr · 0) ha hS fun b1 w a hb2 hS ha => ?_)))
 refine jG (xQ 9 [iv tr, iv wt, iv fa, iv mo] 59 (ptr · 0) ha hS fun b3 w a hb4 hS ha => ?_)
 refine jY [(2, 10, .bool false)] ha fun a ha => ?_
 refine jK (jQ (wp_seq (jZ [0] (jY [(0, 11, iv 1048576)] ha fun a ha => ?_))))
 refine jK (jQ (wp_seq (jZ [0, 1, 2, 3] (zX 28 ha (hS.blk 1 rfl) fun a ha => ?_))))
 refine jY [(1, 29, iv 1048576)] ha fun a ha => ?_
 refine jG (qG 30 (vs := [.agg #[.slice s0.A s0.n s0.c], iv 1048576]) ha (szProgram_sat hS (hr0.sat hS) (by omega) (by omega)) fun v5 w a hp6 ha => ?_)
 obtain ⟨rfl, hS⟩ := hp6
 refine jY [(3, 11, iv (szP l0 1048576))] ha fun a ha => ?_
 refine jK (jQ (wp_seq (wp_seq (jZ [0, 1] (jY [(0, 31, iv (szP l0 1048576)), (1, 32, .bool (decide ((szP l0 1048576) < 0)))] ha fun a ha => ?_)))))
 refine jK (jQ ?_)
 by_cases c7 : (szP l0 1048576) < 0
 ·
  refine qK ha rfl (decide_eq_true c7) ?_
  refine wp_seq (jZ [0] (jY [(0, 10, .bool true)] ha fun a ha => ?_))
  refine jK (jQ (wp_ret (xU (qH ha (by kernel_rfl) (xG (t := 10) ha rfl) ?_))))
  exact ⟨rfl, hS.below⟩
 have hf0 : Fits l0 := by have h8 : 0 ≤ szP l0 1048576 := (by omega); have h9 := szP_ok l0 1048576 h8; exact ⟨by omega, by omega⟩
 have htp0 := (toP_fits hf0).tot
 have hz0 := szP_ok l0 1048576 (by omega)
 refine jH ha rfl (decide_eq_false c7) ?_
 refine wp_skip (jQ (hJ (J := fun a_ w_ => ∃ (g1_0 : Nat) (g1_1 : Sl) (g1_2 : Sl), Has 161 [(1, iv f), (2, iv arg), (3, iv fuel), (5, ptr b1 0), (9, ptr b3 0), (10, .bool false), (12, ptr g1_0 0), (13, iv ((retryP (toP l0) f arg fuel tr wt fa mo).2.2.2.2.1)), (14, iv ((retryP (toP l0) f arg fuel tr wt fa mo).2.2.2.2.2.1)), (15, .bool ((retryP (toP l0) f arg fuel tr wt fa mo).2.2.2.2.2.2))] a_ ∧ Sat w0 w_ ((SX.blk g1_0 [iv ((retryP (toP l0) f arg fuel tr wt fa mo).1), iv ((retryP (toP l0) f arg fuel tr wt fa mo).2.1), .slice g1_1.A g1_1.n g1_1.c, iv ((retryP (toP l0) f arg fuel tr wt fa mo).2.2.2.1)] 62) :: (SX.row (.slice g1_1.A g1_1.n g1_1.c) 156 3 (encE ((retryP (toP l0) f arg fuel tr wt fa mo).2.2.1))) :: (prg w0.heap.size g1_2 (toP l0)) :: (SX.blk b3 [iv tr, iv wt, iv fa, iv mo] 59) :: (SX.blk b1 [.slice s0.A s0.n s0.c] 24) :: [])) ?_ ?_))
 ·
  refine xV 14 18 (hS.pickN 2 [0, 1] (by decide) rfl) hS fun w hS => ?_
  refine yY 0 34 ha (hS.pickN 2 [0, 1] (by decide) rfl) (pk_join (jX)) (fun _ hw => hw.blk 1 rfl) fun a ha => ?_
  refine jV (k := 14) [(2, 36, iv f), (3, 37, iv arg), (4, 38, iv fuel)] ha (.inr (hS.pickN 2 [0, 1] (by decide) rfl)) (pk_join (jX)) fun a ha => ?_
  refine yY 5 39 ha (hS.pickN 2 [0, 1] (by decide) rfl) (pk_join (jX)) (fun _ hw => hw.blk 0 rfl) fun a ha => ?_
  refine d_all (rs := [1, 13]) (by kernel_rfl) (by simp) (forall_mem_2 ?_ ?_)
  ·
   refine id (qG 35 (vs := [.agg #[.slice s0.A s0.n s0.c]]) ha (toProgram_sat hS (hr0.sat hS) hf0) fun v8 w a hp9 ha => ?_)
   obtain ⟨sp2, rfl, hS⟩ := hp9
   refine ⟨.inr (hS.pickN 3 [1, 2] (by decide) rfl), ?_⟩
   refine d_all (rs := [6, 13]) (by kernel_rfl) (by simp) (forall_mem_2 ?_ ?_)
   ·
    refine id (qG 40 (vs := [.agg #[iv tr, iv wt, iv fa, iv mo]]) ha (toPolicy_sat hS) fun v10 w a hp11 ha => ?_)
    obtain ⟨rfl, hS⟩ := hp11
    refine ⟨.inr (hS.pickN 3 [1, 2] (by decide) rfl), ?_⟩
    refine d_all (rs := [7, 13]) (by kernel_rfl) (by simp) (forall_mem_2 ?_ ?_)
    ·
     refine id (qG 41 (vs := [.agg #[.slice sp2.A sp2.n sp2.c], iv f, iv arg, iv fuel, .agg #[iv tr, iv wt, iv fa, iv mo]]) ha (spec_RetryRun_sat hS (hS.rdS 0 rfl) (toP_fits hf0)) fun v12 w a hp13 ha => ?_)
     obtain ⟨o2, rfl, hS⟩ := hp13
     refine ⟨.inr (hS.pickN 4 [2, 3] (by decide) rfl), ?_⟩
     refine jV (k := 5) [(8, 33, .tuple #[.agg #[iv ((retryP (toP l0) f arg fuel tr wt fa mo).1), iv ((retryP (toP l0) f arg fuel tr wt fa mo).2.1), .slice o2.A o2.n o2.c, iv ((retryP (toP l0) f arg fuel tr wt fa mo).2.2.2.1)], iv ((retryP (toP l0) f arg fuel tr wt fa mo).2.2.2.2.1), iv ((retryP (toP l0) f arg fuel tr wt fa mo).2.2.2.2.2.1), .bool ((retryP (toP l0) f arg fuel tr wt fa mo).2.2.2.2.2.2)]), (9, 42, .agg #[iv ((retryP (toP l0) f arg fuel tr wt fa mo).1), iv ((retryP (toP l0) f arg fuel tr wt fa mo).2.1), .slice o2.A o2.n o2.c, iv ((retryP (toP l0) f arg fuel tr wt fa mo).2.2.2.1)]), (10, 43, iv ((retryP (toP l0) f arg fuel tr wt fa mo).2.2.2.2.1)), (11, 44, iv ((retryP (toP l0) f arg fuel tr wt fa mo).2.2.2.2.2.1)), (12, 45, .bool ((retryP (toP l0) f arg fuel tr wt fa mo).2.2.2.2.2.2))] ha (.inr (hS.pickN 4 [2, 3] (by decide) rfl)) (pk_join (jX)) fun a ha => ?_
     refine qX 13 (xQ 12 [iv 0, iv 0, .slice none 0 0, iv 0] 62 (ptr · 0) ha hS fun b14 w a hb15 hS ha => ?_)
     refine ⟨.inr (hS.pickN 5 [3, 4] (by decide) rfl), ?_⟩
     refine qX 14 (jU 0 ha (xK (t := 62) (x := 12) (y := 42)) rfl rfl rfl (by kernel_rfl) hS rfl (Nat.le_of_ble_eq_true rfl) rfl fun w a hS ha => ?_)
     refine xZ (jV (k := 0) [(15, 13, iv ((retryP (toP l0) f arg fuel tr wt fa mo).2.2.2.2.1)), (16, 14, iv ((retryP (toP l0) f arg fuel tr wt fa mo).2.2.2.2.2.1)), (17, 15, .bool ((retryP (toP l0) f arg fuel tr wt fa mo).2.2.2.2.2.2))] ha (.inl (by kernel_rfl)) (pk_join (jX)) fun a ha => ?_)
     refine xW ?_
     replace ha := ha.as [(1, iv f), (2, iv arg), (3, iv fuel), (5, ptr b1 0), (9, ptr b3 0), (10, .bool false), (12, ptr b14 0), (13, iv ((retryP (toP l0) f arg fuel tr wt fa mo).2.2.2.2.1)), (14, iv ((retryP (toP l0) f arg fuel tr wt fa mo).2.2.2.2.2.1)), (15, .bool ((retryP (toP l0) f arg fuel tr wt fa mo).2.2.2.2.2.2))] rfl
     replace hS : Sat w0 w ((SX.blk b14 [iv ((retryP (toP l0) f arg fuel tr wt fa mo).1), iv ((retryP (toP l0) f arg fuel tr wt fa mo).2.1), .slice o2.A o2.n o2.c, iv ((retryP (toP l0) f arg fuel tr wt fa mo).2.2.2.1)] 62) :: (SX.row (.slice o2.A o2.n o2.c) 156 3 (encE ((retryP (toP l0) f arg fuel tr wt fa mo).2.2.1))) :: (prg w0.heap.size sp2 (toP l0)) :: (SX.blk b3 [iv tr, iv wt, iv fa, iv mo] 59) :: (SX.blk b1 [.slice s0.A s0.n s0.c] 24) :: []) := hS
     exact jQ ⟨b14, o2, sp2, ha.keeps [1, 2, 3, 5, 9, 10, 12, 13, 14, 15] _ rfl, hS⟩
    refine id (xQ 12 [iv 0, iv 0, .slice none 0 0, iv 0] 62 (ptr · 0) ha hS fun b16 w a hb17 hS ha => ?_)
    refine ⟨.inr (hS.pickN 4 [2, 3] (by decide) rfl), ?_⟩
    refine qX 7 (qG 41 (vs := [.agg #[.slice sp2.A sp2.n sp2.c], iv f, iv arg, iv fuel, .agg #[iv tr, iv wt, iv fa, iv mo]]) ha (spec_RetryRun_sat hS (hS.rdS 1 rfl) (toP_fits hf0)) fun v18 w a hp19 ha => ?_)
    obtain ⟨o3, rfl, hS⟩ := hp19
    refine ⟨.inr (hS.pickN 5 [3, 4] (by decide) rfl), ?_⟩
    refine jV (k := 4) [(8, 33, .tuple #[.agg #[iv ((retryP (toP l0) f arg fuel tr wt fa mo).1), iv ((retryP (toP l0) f arg fuel tr wt fa mo).2.1), .slice o3.A o3.n o3.c, iv ((retryP (toP l0) f arg fuel tr wt fa mo).2.2.2.1)], iv ((retryP (toP l0) f arg fuel tr wt fa mo).2.2.2.2.1), iv ((retryP (toP l0) f arg fuel tr wt fa mo).2.2.2.2.2.1), .bool ((retryP (toP l0) f arg fuel tr wt fa mo).2.2.2.2.2.2)]), (9, 42, .agg #[iv ((retryP (toP l0) f arg fuel tr wt fa mo).1), iv ((retryP (toP l0) f arg fuel tr wt fa mo).2.1), .slice o3.A o3.n o3.c, iv ((retryP (toP l0) f arg fuel tr wt fa mo).2.2.2.1)]), (10, 43, iv ((retryP (toP l0) f arg fuel tr wt fa mo).2.2.2.2.1)), (11, 44, iv ((retryP (toP l0) f arg fuel tr wt fa mo).2.2.2.2.2.1)), (12, 45, .bool ((retryP (toP l0) f arg fuel tr wt fa mo).2.2.2.2.2.2))] ha (.inr (hS.pickN 5 [3, 4] (by decide) rfl)) (pk_join (jX)) fun a ha => ?_
    refine qX 14 (jU 1 ha (xK (t := 62) (x := 12) (y := 42)) rfl rfl rfl (by kernel_rfl) hS rfl (Nat.le_of_ble_eq_true rfl) rfl fun w a hS ha => ?_)
    refine xZ (jV (k := 0) [(15, 13, iv ((retryP (toP l0) f arg fuel tr wt fa mo).2.2.2.2.1)), (16, 14, iv ((retryP (toP l0) f arg fuel tr wt fa mo).2.2.2.2.2.1)), (17, 15, .bool ((retryP (toP l0) f arg fuel tr wt fa mo).2.2.2.2.2.2))] ha (.inl (by kernel_rfl)) (pk_join (jX)) fun a ha => ?_)
    refine xW ?_
    replace ha := ha.as [(1, iv f), (2, iv arg), (3, iv fuel), (5, ptr b1 0), (9, ptr b3 0), (10, .bool false), (12, ptr b16 0), (13, iv ((retryP (toP l0) f arg fuel tr wt fa mo).2.2.2.2.1)), (14, iv ((retryP (toP l0) f arg fuel tr wt fa mo).2.2.2.2.2.1)), (15, .bool ((retryP (toP l0) f arg fuel tr wt fa mo).2.2.2.2.2.2))] rfl
    replace hS : Sat w0 w ((SX.blk b16 [iv ((retryP (toP l0) f arg fuel tr wt fa mo).1), iv ((retryP (toP l0) f arg fuel tr wt fa mo).2.1), .slice o3.A o3.n o3.c, iv ((retryP (toP l0) f arg fuel tr wt fa mo).2.2.2.1)] 62) :: (SX.row (.slice o3.A o3.n o3.c) 156 3 (encE ((retryP (toP l0) f arg fuel tr wt fa mo).2.2.1))) :: (prg w0.heap.size sp2 (toP l0)) :: (SX.blk b3 [iv tr, iv wt, iv fa, iv mo] 59) :: (SX.blk b1 [.slice s0.A s0.n s0.c] 24) :: []) := hS.pickN 5 [1, 0, 2, 3, 4] (by decide) rfl
    exact jQ ⟨b16, o3, sp2, ha.keeps [1, 2, 3, 5, 9, 10, 12, 13, 14, 15] _ rfl, hS⟩
   refine id (xQ 12 [iv 0, iv 0, .slice none 0 0, iv 0] 62 (ptr · 0) ha hS fun b20 w a hb21 hS ha => ?_)
   refine ⟨.inr (hS.pickN 4 [2, 3] (by decide) rfl), ?_⟩
   refine qX 6 (qG 40 (vs := [.agg #[iv tr, iv wt, iv fa, iv mo]]) ha (toPolicy_sat hS) fun v22 w a hp23 ha => ?_)
   obtain ⟨rfl, hS⟩ := hp23
   refine ⟨.inr (hS.pickN 4 [2, 3] (by decide) rfl), ?_⟩
   refine qX 7 (qG 41 (vs := [.agg #[.slice sp2.A sp2.n sp2.c], iv f, iv arg, iv fuel, .agg #[iv tr, iv wt, iv fa, iv mo]]) ha (spec_RetryRun_sat hS (hS.rdS 1 rfl) (toP_fits hf0)) fun v24 w a hp25 ha => ?_)
   obtain ⟨o4, rfl, hS⟩ := hp25
   refine ⟨.inr (hS.pickN 5 [3, 4] (by decide) rfl), ?_⟩
   refine jV (k := 4) [(8, 33, .tuple #[.agg #[iv ((retryP (toP l0) f arg fuel tr wt fa mo).1), iv ((retryP (toP l0) f arg fuel tr wt fa mo).2.1), .slice o4.A o4.n o4.c, iv ((retryP (toP l0) f arg fuel tr wt fa mo).2.2.2.1)], iv ((retryP (toP l0) f arg fuel tr wt fa mo).2.2.2.2.1), iv ((retryP (toP l0) f arg fuel tr wt fa mo).2.2.2.2.2.1), .bool ((retryP (toP l0) f arg fuel tr wt fa mo).2.2.2.2.2.2)]), (9, 42, .agg #[iv ((retryP (toP l0) f arg fuel tr wt fa mo).1), iv ((retryP (toP l0) f arg fuel tr wt fa mo).2.1), .slice o4.A o4.n o4.c, iv ((retryP (toP l0) f arg fuel tr wt fa mo).2.2.2.1)]), (10, 43, iv ((retryP (toP l0) f arg fuel tr wt fa mo).2.2.2.2.1)), (11, 44, iv ((retryP (toP l0) f arg fuel tr wt fa mo).2.2.2.2.2.1)), (12, 45, .bool ((retryP (toP l0) f arg fuel tr wt fa mo).2.2.2.2.2.2))] ha (.inr (hS.pickN 5 [3, 4] (by decide) rfl)) (pk_join (jX)) fun a ha => ?_
   refine qX 14 (jU 1 ha (xK (t := 62) (x := 12) (y := 42)) rfl rfl rfl (by kernel_rfl) hS rfl (Nat.le_of_ble_eq_true rfl) rfl fun w a hS ha => ?_)
   refine xZ (jV (k := 0) [(15, 13, iv ((retryP (toP l0) f arg fuel tr wt fa mo).2.2.2.2.1)), (16, 14, iv ((retryP (toP l0) f arg fuel tr wt fa mo).2.2.2.2.2.1)), (17, 15, .bool ((retryP (toP l0) f arg fuel tr wt fa mo).2.2.2.2.2.2))] ha (.inl (by kernel_rfl)) (pk_join (jX)) fun a ha => ?_)
   refine xW ?_
   replace ha := ha.as [(1, iv f), (2, iv arg), (3, iv fuel), (5, ptr b1 0), (9, ptr b3 0), (10, .bool false), (12, ptr b20 0), (13, iv ((retryP (toP l0) f arg fuel tr wt fa mo).2.2.2.2.1)), (14, iv ((retryP (toP l0) f arg fuel tr wt fa mo).2.2.2.2.2.1)), (15, .bool ((retryP (toP l0) f arg fuel tr wt fa mo).2.2.2.2.2.2))] rfl
   replace hS : Sat w0 w ((SX.blk b20 [iv ((retryP (toP l0) f arg fuel tr wt fa mo).1), iv ((retryP (toP l0) f arg fuel tr wt fa mo).2.1), .slice o4.A o4.n o4.c, iv ((retryP (toP l0) f arg fuel tr wt fa mo).2.2.2.1)] 62) :: (SX.row (.slice o4.A o4.n o4.c) 156 3 (encE ((retryP (toP l0) f arg fuel tr wt fa mo).2.2.1))) :: (prg w0.heap.size sp2 (toP l0)) :: (SX.blk b3 [iv tr, iv wt, iv fa, iv mo] 59) :: (SX.blk b1 [.slice s0.A s0.n s0.c] 24) :: []) := hS.pickN 5 [1, 0, 2, 3, 4] (by decide) rfl
   exact jQ ⟨b20, o4, sp2, ha.keeps [1, 2, 3, 5, 9, 10, 12, 13, 14, 15] _ rfl, hS⟩
  refine id (xQ 12 [iv 0, iv 0, .slice none 0 0, iv 0] 62 (ptr · 0) ha hS fun b26 w a hb27 hS ha => ?_)
  refine ⟨.inr (hS.pickN 3 [1, 2] (by decide) rfl), ?_⟩
  refine qX 1 (qG 35 (vs := [.agg #[.slice s0.A s0.n s0.c]]) ha (toProgram_sat hS (hr0.sat hS) hf0) fun v28 w a hp29 ha => ?_)
  obtain ⟨sp3, rfl, hS⟩ := hp29
  refine ⟨.inr (hS.pickN 4 [2, 3] (by decide) rfl), ?_⟩
  refine qX 6 (qG 40 (vs := [.agg #[iv tr, iv wt, iv fa, iv mo]]) ha (toPolicy_sat hS) fun v30 w a hp31 ha => ?_)
  obtain ⟨rfl, hS⟩ := hp31
  refine ⟨.inr (hS.pickN 4 [2, 3] (by decide) rfl), ?_⟩
  refine qX 7 (qG 41 (vs := [.agg #[.slice sp3.A sp3.n sp3.c], iv f, iv arg, iv fuel, .agg #[iv tr, iv wt, iv fa, iv mo]]) ha (spec_RetryRun_sat hS (hS.rdS 0 rfl) (toP_fits hf0)) fun v32 w a hp33 ha => ?_)
  obtain ⟨o5, rfl, hS⟩ := hp33
  refine ⟨.inr (hS.pickN 5 [3, 4] (by decide) rfl), ?_⟩
  refine jV (k := 4) [(8, 33, .tuple #[.agg #[iv ((retryP (toP l0) f arg fuel tr wt fa mo).1), iv ((retryP (toP l0) f arg fuel tr wt fa mo).2.1), .slice o5.A o5.n o5.c, iv ((retryP (toP l0) f arg fuel tr wt fa mo).2.2.2.1)], iv ((retryP (toP l0) f arg fuel tr wt fa mo).2.2.2.2.1), iv ((retryP (toP l0) f arg fuel tr wt fa mo).2.2.2.2.2.1), .bool ((retryP (toP l0) f arg fuel tr wt fa mo).2.2.2.2.2.2)]), (9, 42, .agg #[iv ((retryP (toP l0) f arg fuel tr wt fa mo).1), iv ((retryP (toP l0) f arg fuel tr wt fa mo).2.1), .slice o5.A o5.n o5.c, iv ((retryP (toP l0) f arg fuel tr wt fa mo).2.2.2.1)]), (10, 43, iv ((retryP (toP l0) f arg fuel tr wt fa mo).2.2.2.2.1)), (11, 44, iv ((retryP (toP l0) f arg fuel tr wt fa mo).2.2.2.2.2.1)), (12, 45, .bool ((retryP (toP l0) f arg fuel tr wt fa mo).2.2.2.2.2.2))] ha (.inr (hS.pickN 5 [3, 4] (by decide) rfl)) (pk_join (jX)) fun a ha => ?_
  refine qX 14 (jU 2 ha (xK (t := 62) (x := 12) (y := 42)) rfl rfl rfl (by kernel_rfl) hS rfl (Nat.le_of_ble_eq_true rfl) rfl fun w a hS ha => ?_)
  refine xZ (jV (k := 0) [(15, 13, iv ((retryP (toP l0) f arg fuel tr wt fa mo).2.2.2.2.1)), (16, 14, iv ((retryP (toP l0) f arg fuel tr wt fa mo).2.2.2.2.2.1)), (17, 15, .bool ((retryP (toP l0) f arg fuel tr wt fa mo).2.2.2.2.2.2))] ha (.inl (by kernel_rfl)) (pk_join (jX)) fun a ha => ?_)
  refine xW ?_
  replace ha := ha.as [(1, iv f), (2, iv arg), (3, iv fuel), (5, ptr b1 0), (9, ptr b3 0), (10, .bool false), (12, ptr b26 0), (13, iv ((retryP (toP l0) f arg fuel tr wt fa mo).2.2.2.2.1)), (14, iv ((retryP (toP l0) f arg fuel tr wt fa mo).2.2.2.2.2.1)), (15, .bool ((retryP (toP l0) f arg fuel tr wt fa mo).2.2.2.2.2.2))] rfl
  replace hS : Sat w0 w ((SX.blk b26 [iv ((retryP (toP l0) f arg fuel tr wt fa mo).1), iv ((retryP (toP l0) f arg fuel tr wt fa mo).2.1), .slice o5.A o5.n o5.c, iv ((retryP (toP l0) f arg fuel tr wt fa mo).2.2.2.1)] 62) :: (SX.row (.slice o5.A o5.n o5.c) 156 3 (encE ((retryP (toP l0) f arg fuel tr wt fa mo).2.2.1))) :: (prg w0.heap.size sp3 (toP l0)) :: (SX.blk b3 [iv tr, iv wt, iv fa, iv mo] 59) :: (SX.blk b1 [.slice s0.A s0.n s0.c] 24) :: []) := hS.pickN 5 [2, 0, 1, 3, 4] (by decide) rfl
  exact jQ ⟨b26, o5, sp3, ha.keeps [1, 2, 3, 5, 9, 10, 12, 13, 14, 15] _ rfl, hS⟩
 rintro a w ⟨g1_0, g1_1, g1_2, ha, hS⟩
 refine wp_seq (jZ [0, 1, 2, 3] (zX 46 ha (hS.blk 4 rfl) fun a ha => ?_))
 refine jG (qG 47 (vs := [.agg #[.slice s0.A s0.n s0.c]]) ha (toProgram_sat hS (hr0.sat hS) hf0) fun v34 w a hp35 ha => ?_)
 obtain ⟨sp4, rfl, hS⟩ := hp35
 refine jG (xQ 16 [.slice none 0 0] 30 (ptr · 0) ha hS fun b36 w a hb37 hS ha => ?_)
 refine jG (jU 0 ha (xK (t := 30) (x := 16) (y := 47)) rfl rfl rfl (by kernel_rfl) hS rfl (Nat.le_of_ble_eq_true rfl) rfl fun w a hS ha => ?_)
 refine jK (jQ (hJ (J := fun a_ w_ => ∃ (g2_0 : Nat) (g2_1 : Sl), Has 161 [(1, iv f), (2, iv arg), (3, iv fuel), (5, ptr b1 0), (9, ptr b3 0), (10, .bool false), (12, ptr g1_0 0), (13, iv ((retryP (toP l0) f arg fuel tr wt fa mo).2.2.2.2.1)), (14, iv ((retryP (toP l0) f arg fuel tr wt fa mo).2.2.2.2.2.1)), (15, .bool ((retryP (toP l0) f arg fuel tr wt fa mo).2.2.2.2.2.2)), (16, ptr b36 0), (17, ptr g2_0 0), (18, iv ((retryP (toP l0) f arg fuel tr wt fa mo).2.2.2.2.1)), (19, iv ((retryP (toP l0) f arg fuel tr wt fa mo).2.2.2.2.2.1)), (20, .bool ((retryP (toP l0) f arg fuel tr wt fa mo).2.2.2.2.2.2))] a_ ∧ Sat w0 w_ ((SX.blk g2_0 [iv ((retryP (toP l0) f arg fuel tr wt fa mo).1), iv ((retryP (toP l0) f arg fuel tr wt fa mo).2.1), .slice g2_1.A g2_1.n g2_1.c, iv ((retryP (toP l0) f arg fuel tr wt fa mo).2.2.2.1)] 62) :: (SX.row (.slice g2_1.A g2_1.n g2_1.c) 156 3 (encE ((retryP (toP l0) f arg fuel tr wt fa mo).2.2.1))) :: (SX.blk b36 [.slice sp4.A sp4.n sp4.c] 30) :: (prg w0.heap.size sp4 (toP l0)) :: (SX.blk g1_0 [iv ((retryP (toP l0) f arg fuel tr wt fa mo).1), iv ((retryP (toP l0) f arg fuel tr wt fa mo).2.1), .slice g1_1.A g1_1.n g1_1.c, iv ((retryP (toP l0) f arg fuel tr wt fa mo).2.2.2.1)] 62) :: (SX.row (.slice g1_1.A g1_1.n g1_1.c) 156 3 (encE ((retryP (toP l0) f arg fuel tr wt fa mo).2.2.1))) :: (prg w0.heap.size g1_2 (toP l0)) :: (SX.blk b3 [iv tr, iv wt, iv fa, iv mo] 59) :: (SX.blk b1 [.slice s0.A s0.n s0.c] 24) :: [])) ?_ ?_))
 ·
  refine xV 13 17 (hS.pickN 7 [0, 2, 5, 6] (by decide) rfl) hS fun w hS => ?_
  refine yY 0 49 ha (hS.pickN 7 [0, 2, 5, 6] (by decide) rfl) (pk_join (jX)) (fun _ hw => hw.blk 0 rfl) fun a ha => ?_
  refine jV (k := 13) [(1, 50, iv f), (2, 51, iv arg), (3, 52, iv fuel)] ha (.inr (hS.pickN 7 [0, 2, 5, 6] (by decide) rfl)) (pk_join (jX)) fun a ha => ?_
  refine yY 4 53 ha (hS.pickN 7 [0, 2, 5, 6] (by decide) rfl) (pk_join (jX)) (fun _ hw => hw.blk 2 rfl) fun a ha => ?_
  refine d_all (rs := [5, 12]) (by kernel_rfl) (by simp) (forall_mem_2 ?_ ?_)
  ·
   refine id (qG 54 (vs := [.agg #[iv tr, iv wt, iv fa, iv mo]]) ha (toPolicy_sat hS) fun v38 w a hp39 ha => ?_)
   obtain ⟨rfl, hS⟩ := hp39
   refine ⟨.inr (hS.pickN 7 [0, 2, 5, 6] (by decide) rfl), ?_⟩
   refine d_all (rs := [6, 12]) (by kernel_rfl) (by simp) (forall_mem_2 ?_ ?_)
   ·
    refine id (qG 55 (vs := [.agg #[.slice sp4.A sp4.n sp4.c], iv f, iv arg, iv fuel, .agg #[iv tr, iv wt, iv fa, iv mo]]) ha (impl_RetryRun_sat hS (hS.rdS 1 rfl) (toP_fits hf0)) fun v40 w a hp41 ha => ?_)
    obtain ⟨o7, rfl, hS⟩ := hp41
    refine ⟨.inr (hS.pickN 8 [1, 3, 6, 7] (by decide) rfl), ?_⟩
    refine jV (k := 5) [(7, 48, .tuple #[.agg #[iv ((retryP (toP l0) f arg fuel tr wt fa mo).1), iv ((retryP (toP l0) f arg fuel tr wt fa mo).2.1), .slice o7.A o7.n o7.c, iv ((retryP (toP l0) f arg fuel tr wt fa mo).2.2.2.1)], iv ((retryP (toP l0) f arg fuel tr wt fa mo).2.2.2.2.1), iv ((retryP (toP l0) f arg fuel tr wt fa mo).2.2.2.2.2.1), .bool ((retryP (toP l0) f arg fuel tr wt fa mo).2.2.2.2.2.2)]), (8, 56, .agg #[iv ((retryP (toP l0) f arg fuel tr wt fa mo).1), iv ((retryP (toP l0) f arg fuel tr wt fa mo).2.1), .slice o7.A o7.n o7.c, iv ((retryP (toP l0) f arg fuel tr wt fa mo).2.2.2.1)]), (9, 57, iv ((retryP (toP l0) f arg fuel tr wt fa mo).2.2.2.2.1)), (10, 58, iv ((retryP (toP l0) f arg fuel tr wt fa mo).2.2.2.2.2.1)), (11, 59, .bool ((retryP (toP l0) f arg fuel tr wt fa mo).2.2.2.2.2.2))] ha (.inr (hS.pickN 8 [1, 3, 6, 7] (by decide) rfl)) (pk_join (jX)) fun a ha => ?_
    refine qX 12 (xQ 17 [iv 0, iv 0, .slice none 0 0, iv 0] 62 (ptr · 0) ha hS fun b42 w a hb43 hS ha => ?_)
    refine ⟨.inr (hS.pickN 9 [2, 4, 7, 8] (by decide) rfl), ?_⟩
    refine qX 13 (jU 0 ha (xK (t := 62) (x := 17) (y := 56)) rfl rfl rfl (by kernel_rfl) hS rfl (Nat.le_of_ble_eq_true rfl) rfl fun w a hS ha => ?_)
    refine xZ (jV (k := 0) [(14, 18, iv ((retryP (toP l0) f arg fuel tr wt fa mo).2.2.2.2.1)), (15, 19, iv ((retryP (toP l0) f arg fuel tr wt fa mo).2.2.2.2.2.1)), (16, 20, .bool ((retryP (toP l0) f arg fuel tr wt fa mo).2.2.2.2.2.2))] ha (.inl (by kernel_rfl)) (pk_join (jX)) fun a ha => ?_)
    refine xW ?_
    replace hS : Sat w0 w ((SX.blk b42 [iv ((retryP (toP l0) f arg fuel tr wt fa mo).1), iv ((retryP (toP l0) f arg fuel tr wt fa mo).2.1), .slice o7.A o7.n o7.c, iv ((retryP (toP l0) f arg fuel tr wt fa mo).2.2.2.1)] 62) :: (SX.row (.slice o7.A o7.n o7.c) 156 3 (encE ((retryP (toP l0) f arg fuel tr wt fa mo).2.2.1))) :: (SX.blk b36 [.slice sp4.A sp4.n sp4.c] 30) :: (prg w0.heap.size sp4 (toP l0)) :: (SX.blk g1_0 [iv ((retryP (toP l0) f arg fuel tr wt fa mo).1), iv ((retryP (toP l0) f arg fuel tr wt fa mo).2.1), .slice g1_1.A g1_1.n g1_1.c, iv ((retryP (toP l0) f arg fuel tr wt fa mo).2.2.2.1)] 62) :: (SX.row (.slice g1_1.A g1_1.n g1_1.c) 156 3 (encE ((retryP (toP l0) f arg fuel tr wt fa mo).2.2.1))) :: (prg w0.heap.size g1_2 (toP l0)) :: (SX.blk b3 [iv tr, iv wt, iv fa, iv mo] 59) :: (SX.blk b1 [.slice s0.A s0.n s0.c] 24) :: []) := hS
    exact jQ ⟨b42, o7, ha.keeps [1, 2, 3, 5, 9, 10, 12, 13, 14, 15, 16, 17, 18, 19, 20] _ rfl, hS⟩
   refine id (xQ 17 [iv 0, iv 0, .slice none 0 0, iv 0] 62 (ptr · 0) ha hS fun b44 w a hb45 hS ha => ?_)
   refine ⟨.inr (hS.pickN 8 [1, 3, 6, 7] (by decide) rfl), ?_⟩
   refine qX 6 (qG 55 (vs := [.agg #[.slice sp4.A sp4.n sp4.c], iv f, iv arg, iv fuel, .agg #[iv tr, iv wt, iv fa, iv mo]]) ha (impl_RetryRun_sat hS (hS.rdS 2 rfl) (toP_fits hf0)) fun v46 w a hp47 ha => ?_)
   obtain ⟨o8, rfl, hS⟩ := hp47
   refine ⟨.inr (hS.pickN 9 [2, 4, 7, 8] (by decide) rfl), ?_⟩
   refine jV (k := 4) [(7, 48, .tuple #[.agg #[iv ((retryP (toP l0) f arg fuel tr wt fa mo).1), iv ((retryP (toP l0) f arg fuel tr wt fa mo).2.1), .slice o8.A o8.n o8.c, iv ((retryP (toP l0) f arg fuel tr wt fa mo).2.2.2.1)], iv ((retryP (toP l0) f arg fuel tr wt fa mo).2.2.2.2.1), iv ((retryP (toP l0) f arg fuel tr wt fa mo).2.2.2.2.2.1), .bool ((retryP (toP l0) f arg fuel tr wt fa mo).2.2.2.2.2.2)]), (8, 56, .agg #[iv ((retryP (toP l0) f arg fuel tr wt fa mo).1), iv ((retryP (toP l0) f arg fuel tr wt fa mo).2.1), .slice o8.A o8.n o8.c, iv ((retryP (toP l0) f arg fuel tr wt fa mo).2.2.2.1)]), (9, 57, iv ((retryP (toP l0) f arg fuel tr wt fa mo).2.2.2.2.1)), (10, 58, iv ((retryP (toP l0) f arg fuel tr wt fa mo).2.2.2.2.2.1)), (11, 59, .bool ((retryP (toP l0) f arg fuel tr wt fa mo).2.2.2.2.2.2))] ha (.inr (hS.pickN 9 [2, 4, 7, 8] (by decide) rfl)) (pk_join (jX)) fun a ha => ?_
   refine qX 13 (jU 1 ha (xK (t := 62) (x := 17) (y := 56)) rfl rfl rfl (by kernel_rfl) hS rfl (Nat.le_of_ble_eq_true rfl) rfl fun w a hS ha => ?_)
   refine xZ (jV (k := 0) [(14, 18, iv ((retryP (toP l0) f arg fuel tr wt fa mo).2.2.2.2.1)), (15, 19, iv ((retryP (toP l0) f arg fuel tr wt fa mo).2.2.2.2.2.1)), (16, 20, .bool ((retryP (toP l0) f arg fuel tr wt fa mo).2.2.2.2.2.2))] ha (.inl (by kernel_rfl)) (pk_join (jX)) fun a ha => ?_)
   refine xW ?_
   replace hS : Sat w0 w ((SX.blk b44 [iv ((retryP (toP l0) f arg fuel tr wt fa mo).1), iv ((retryP (toP l0) f arg fuel tr wt fa mo).2.1), .slice o8.A o8.n o8.c, iv ((retryP (toP l0) f arg fuel tr wt fa mo).2.2.2.1)] 62) :: (SX.row (.slice o8.A o8.n o8.c) 156 3 (encE ((retryP (toP l0) f arg fuel tr wt fa mo).2.2.1))) :: (SX.blk b36 [.slice sp4.A sp4.n sp4.c] 30) :: (prg w0.heap.size sp4 (toP l0)) :: (SX.blk g1_0 [iv ((retryP (toP l0) f arg fuel tr wt fa mo).1), iv ((retryP (toP l0) f arg fuel tr wt fa mo).2.1), .slice g1_1.A g1_1.n g1_1.c, iv ((retryP (toP l0) f arg fuel tr wt fa mo).2.2.2.1)] 62) :: (SX.row (.slice g1_1.A g1_1.n g1_1.c) 156 3 (encE ((retryP (toP l0) f arg fuel tr wt fa mo).2.2.1))) :: (prg w0.heap.size g1_2 (toP l0)) :: (SX.blk b3 [iv tr, iv wt, iv fa, iv mo] 59) :: (SX.blk b1 [.slice s0.A s0.n s0.c] 24) :: []) := hS.pickN 9 [1, 0, 2, 3, 4, 5, 6, 7, 8] (by decide) rfl
   exact jQ ⟨b44, o8, ha.keeps [1, 2, 3, 5, 9, 10, 12, 13, 14, 15, 16, 17, 18, 19, 20] _ rfl, hS⟩
  refine id (xQ 17 [iv 0, iv 0, .slice none 0 0, iv 0] 62 (ptr · 0) ha hS fun b48 w a hb49 hS ha => ?_)
  refine ⟨.inr (hS.pickN 8 [1, 3, 6, 7] (by decide) rfl), ?_⟩
  refine qX 5 (qG 54 (vs := [.agg #[iv tr, iv wt, iv fa, iv mo]]) ha (toPolicy_sat hS) fun v50 w a hp51 ha => ?_)
  obtain ⟨rfl, hS⟩ := hp51
  refine ⟨.inr (hS.pickN 8 [1, 3, 6, 7] (by decide) rfl), ?_⟩
  refine qX 6 (qG 55 (vs := [.agg #[.slice sp4.A sp4.n sp4.c], iv f, iv arg, iv fuel, .agg #[iv tr, iv wt, iv fa, iv mo]]) ha (impl_RetryRun_sat hS (hS.rdS 2 rfl) (toP_fits hf0)) fun v52 w a hp53 ha => ?_)
  obtain ⟨o9, rfl, hS⟩ := hp53
  refine ⟨.inr (hS.pickN 9 [2, 4, 7, 8] (by decide) rfl), ?_⟩
  refine jV (k := 4) [(7, 48, .tuple #[.agg #[iv ((retryP (toP l0) f arg fuel tr wt fa mo).1), iv ((retryP (toP l0) f arg fuel tr wt fa mo).2.1), .slice o9.A o9.n o9.c, iv ((retryP (toP l0) f arg fuel tr wt fa mo).2.2.2.1)], iv ((retryP (toP l0) f arg fuel tr wt fa mo).2.2.2.2.1), iv ((retryP (toP l0) f arg fuel tr wt fa mo).2.2.2.2.2.1), .bool ((retryP (toP l0) f arg fuel tr wt fa mo).2.2.2.2.2.2)]), (8, 56, .agg #[iv ((retryP (toP l0) f arg fuel tr wt fa mo).1), iv ((retryP (toP l0) f arg fuel tr wt fa mo).2.1), .slice o9.A o9.n o9.c, iv ((retryP (toP l0) f arg fuel tr wt fa mo).2.2.2.1)]), (9, 57, iv ((retryP (toP l0) f arg fuel tr wt fa mo).2.2.2.2.1)), (10, 58, iv ((retryP (toP l0) f arg fuel tr wt fa mo).2.2.2.2.2.1)), (11, 59, .bool ((retryP (toP l0) f arg fuel tr wt fa mo).2.2.2.2.2.2))] ha (.inr (hS.pickN 9 [2, 4, 7, 8] (by decide) rfl)) (pk_join (jX)) fun a ha => ?_
  refine qX 13 (jU 1 ha (xK (t := 62) (x := 17) (y := 56)) rfl rfl rfl (by kernel_rfl) hS rfl (Nat.le_of_ble_eq_true rfl) rfl fun w a hS ha => ?_)
  refine xZ (jV (k := 0) [(14, 18, iv ((retryP (toP l0) f arg fuel tr wt fa mo).2.2.2.2.1)), (15, 19, iv ((retryP (toP l0) f arg fuel tr wt fa mo).2.2.2.2.2.1)), (16, 20, .bool ((retryP (toP l0) f arg fuel tr wt fa mo).2.2.2.2.2.2))] ha (.inl (by kernel_rfl)) (pk_join (jX)) fun a ha => ?_)
  refine xW ?_
  replace hS : Sat w0 w ((SX.blk b48 [iv ((retryP (toP l0) f arg fuel tr wt fa mo).1), iv ((retryP (toP l0) f arg fuel tr wt fa mo).2.1), .slice o9.A o9.n o9.c, iv ((retryP (toP l0) f arg fuel tr wt fa mo).2.2.2.1)] 62) :: (SX.row (.slice o9.A o9.n o9.c) 156 3 (encE ((retryP (toP l0) f arg fuel tr wt fa mo).2.2.1))) :: (SX.blk b36 [.slice sp4.A sp4.n sp4.c] 30) :: (prg w0.heap.size sp4 (toP l0)) :: (SX.blk g1_0 [iv ((retryP (toP l0) f arg fuel tr wt fa mo).1), iv ((retryP (toP l0) f arg fuel tr wt fa mo).2.1), .slice g1_1.A g1_1.n g1_1.c, iv ((retryP (toP l0) f arg fuel tr wt fa mo).2.2.2.1)] 62) :: (SX.row (.slice g1_1.A g1_1.n g1_1.c) 156 3 (encE ((retryP (toP l0) f arg fuel tr wt fa mo).2.2.1))) :: (prg w0.heap.size g1_2 (toP l0)) :: (SX.blk b3 [iv tr, iv wt, iv fa, iv mo] 59) :: (SX.blk b1 [.slice s0.A s0.n s0.c] 24) :: []) := hS.pickN 9 [1, 0, 2, 3, 4, 5, 6, 7, 8] (by decide) rfl
  exact jQ ⟨b48, o9, ha.keeps [1, 2, 3, 5, 9, 10, 12, 13, 14, 15, 16, 17, 18, 19, 20] _ rfl, hS⟩
 rintro a w ⟨g2_0, g2_1, ha, hS⟩
 refine wp_seq (wp_seq (jZ [0, 1, 2, 3, 4, 5, 6, 7, 8, 9, 10, 11, 12, 13, 14, 15, 16, 17, 18] (zX 60 ha (hS.blk 0 rfl) fun a ha => ?_)))
 refine zX 61 ha (hS.blk 4 rfl) fun a ha => ?_
 replace hS : Sat w0 w ((SX.row (.slice g2_1.A g2_1.n g2_1.c) 156 3 (encE ((retryP (toP l0) f arg fuel tr wt fa mo).2.2.1))) :: (SX.row (.slice g1_1.A g1_1.n g1_1.c) 156 3 (encE ((retryP (toP l0) f arg fuel tr wt fa mo).2.2.1))) :: (SX.blk g2_0 [iv ((retryP (toP l0) f arg fuel tr wt fa mo).1), iv ((retryP (toP l0) f arg fuel tr wt fa mo).2.1), .slice g2_1.A g2_1.n g2_1.c, iv ((retryP (toP l0) f arg fuel tr wt fa mo).2.2.2.1)] 62) :: (SX.blk b36 [.slice sp4.A sp4.n sp4.c] 30) :: (prg w0.heap.size sp4 (toP l0)) :: (SX.blk g1_0 [iv ((retryP (toP l0) f arg fuel tr wt fa mo).1), iv ((retryP (toP l0) f arg fuel tr wt fa mo).2.1), .slice g1_1.A g1_1.n g1_1.c, iv ((retryP (toP l0) f arg fuel tr wt fa mo).2.2.2.1)] 62) :: (prg w0.heap.size g1_2 (toP l0)) :: (SX.blk b3 [iv tr, iv wt, iv fa, iv mo] 59) :: (SX.blk b1 [.slice s0.A s0.n s0.c] 24) :: []) := hS.pickN 9 [1, 5, 0, 2, 3, 4, 6, 7, 8] (by decide) rfl
 refine jG (qG 62 (vs := [.agg #[iv ((retryP (toP l0) f arg fuel tr wt fa mo).1), iv ((retryP (toP l0) f arg fuel tr wt fa mo).2.1), .slice g2_1.A g2_1.n g2_1.c, iv ((retryP (toP l0) f arg fuel tr wt fa mo).2.2.2.1)], .agg #[iv ((retryP (toP l0) f arg fuel tr wt fa mo).1), iv ((retryP (toP l0) f arg fuel tr wt fa mo).2.1), .slice g1_1.A g1_1.n g1_1.c, iv ((retryP (toP l0) f arg fuel tr wt fa mo).2.2.2.1)]]) ha (eqO_sat hS (retryP_len ..)) fun v54 w a hp55 ha => ?_)
 obtain ⟨rfl, hS⟩ := hp55
 refine jY [(3, 63, .bool false), (4, 64, .bool false), (5, 65, iv ((retryP (toP l0) f arg fuel tr wt fa mo).2.2.2.2.1)), (6, 66, iv ((retryP (toP l0) f arg fuel tr wt fa mo).2.2.2.2.1))] ha fun a ha => ?_
 refine yW (.bool false) ha ((qV (v := .bool (!(decide ((retryP (toP l0) f arg fuel tr wt fa mo).2.2.2.2.1 = (retryP (toP l0) f arg fuel tr wt fa mo).2.2.2.2.1)))) ha (AtG.here (gd := 64) ⟨(by kernel_rfl : ((qW Try.f8 8)[7]?).map spec = some ((Op.binOp BinOp.neq 3 (Operand.tmp 65) (Operand.tmp 66) 3), some 67, 4, some (4, false))), by kernel_rfl⟩ ha rfl) (by kernel_rfl) (fun _ => by kernel_rfl)).as (by simp)) fun a ha => ?_
 refine jY [(8, 68, .bool false), (9, 69, .bool false), (10, 70, iv ((retryP (toP l0) f arg fuel tr wt fa mo).2.2.2.2.2.1)), (11, 71, iv ((retryP (toP l0) f arg fuel tr wt fa mo).2.2.2.2.2.1))] ha fun a ha => ?_
 refine yW (.bool false) ha ((qV (v := .bool (!(decide ((retryP (toP l0) f arg fuel tr wt fa mo).2.2.2.2.2.1 = (retryP (toP l0) f arg fuel tr wt fa mo).2.2.2.2.2.1)))) ha (AtG.here (gd := 69) ⟨(by kernel_rfl : ((qW Try.f8 8)[12]?).map spec = some ((Op.binOp BinOp.neq 3 (Operand.tmp 70) (Operand.tmp 71) 3), some 72, 4, some (9, false))), by kernel_rfl⟩ ha rfl) (by kernel_rfl) (fun _ => by kernel_rfl)).as (by simp)) fun a ha => ?_
 refine jY [(13, 73, .bool false), (14, 74, .bool false), (15, 75, .bool ((retryP (toP l0) f arg fuel tr wt fa mo).2.2.2.2.2.2)), (16, 76, .bool ((retryP (toP l0) f arg fuel tr wt fa mo).2.2.2.2.2.2))] ha fun a ha => ?_
 refine yW (.bool false) ha ((qV (v := .bool (!(((retryP (toP l0) f arg fuel tr wt fa mo).2.2.2.2.2.2) == ((retryP (toP l0) f arg fuel tr wt fa mo).2.2.2.2.2.2)))) ha (AtG.here (gd := 74) ⟨(by kernel_rfl : ((qW Try.f8 8)[17]?).map spec = some ((Op.binOp BinOp.neq 4 (Operand.tmp 75) (Operand.tmp 76) 4), some 77, 4, some (14, false))), by kernel_rfl⟩ ha rfl) (by kernel_rfl) (fun _ => by kernel_rfl)).as (by simp)) fun a ha => ?_
 refine jY [(18, 78, .bool false)] ha fun a ha => ?_
 refine jK (jQ ?_)
 refine jH ha rfl rfl ?_
 refine wp_skip (jQ (wp_seq (wp_seq (xV 5 5 (hS.pickN 9 [2, 3, 5, 7, 8] (by decide) rfl) hS fun w hS => ?_))))
 refine yY 0 79 ha (hS.pickN 9 [2, 3, 5, 7, 8] (by decide) rfl) (jJ (jJ (jX))) (fun _ hw => hw.blk 1 rfl) fun a ha => ?_
 refine yY 1 80 ha (hS.pickN 9 [2, 3, 5, 7, 8] (by decide) rfl) (jJ (jJ (jX))) (fun _ hw => hw.blk 4 rfl) fun a ha => ?_
 refine qX 2 (qG 81 (vs := [.agg #[.slice s0.A s0.n s0.c]]) ha (toProgram_sat hS (hr0.sat hS) hf0) fun v56 w a hp57 ha => ?_)
 obtain ⟨sp6, rfl, hS⟩ := hp57
 refine ⟨.inr (hS.pickN 10 [3, 4, 6, 8, 9] (by decide) rfl), ?_⟩
 refine qX 3 (qG 82 (vs := [.agg #[.slice sp4.A sp4.n sp4.c], .agg #[.slice sp6.A sp6.n sp6.c]]) ha (eqP_sat hS (hS.rdS 5 rfl) (hS.rdS 0 rfl) (toP_fits hf0)) fun v58 w a hp59 ha => ?_)
 obtain ⟨rfl, hS⟩ := hp59
 refine ⟨.inr (hS.pickN 10 [3, 4, 6, 8, 9] (by decide) rfl), ?_⟩
 refine jV (k := 0) [(4, 83, .bool false)] ha (.inr (hS.pickN 10 [3, 4, 6, 8, 9] (by decide) rfl)) (jJ (jJ (jX))) fun a ha => ?_
 refine xW (jQ ?_)
 refine jH ha rfl rfl ?_
 refine wp_skip (jQ (wp_seq (jZ [0] (jY [(0, 21, iv 1)] ha fun a ha => ?_))))
 refine jK (jQ (wp_seq (jZ [0, 1, 2, 3] (zX 84 ha (hS.blk 4 rfl) fun a ha => ?_))))
 refine jY [(1, 85, iv 1)] ha fun a ha => ?_
 replace hS : Sat w0 w ((prg w0.heap.size sp4 (toP l0)) :: (prg w0.heap.size sp6 (toP l0)) :: (SX.row (.slice g2_1.A g2_1.n g2_1.c) 156 3 (encE ((retryP (toP l0) f arg fuel tr wt fa mo).2.2.1))) :: (SX.row (.slice g1_1.A g1_1.n g1_1.c) 156 3 (encE ((retryP (toP l0) f arg fuel tr wt fa mo).2.2.1))) :: (SX.blk g2_0 [iv ((retryP (toP l0) f arg fuel tr wt fa mo).1), iv ((retryP (toP l0) f arg fuel tr wt fa mo).2.1), .slice g2_1.A g2_1.n g2_1.c, iv ((retryP (toP l0) f arg fuel tr wt fa mo).2.2.2.1)] 62) :: (SX.blk b36 [.slice sp4.A sp4.n sp4.c] 30) :: (SX.blk g1_0 [iv ((retryP (toP l0) f arg fuel tr wt fa mo).1), iv ((retryP (toP l0) f arg fuel tr wt fa mo).2.1), .slice g1_1.A g1_1.n g1_1.c, iv ((retryP (toP l0) f arg fuel tr wt fa mo).2.2.2.1)] 62) :: (prg w0.heap.size g1_2 (toP l0)) :: (SX.blk b3 [iv tr, iv wt, iv fa, iv mo] 59) :: (SX.blk b1 [.slice s0.A s0.n s0.c] 24) :: []) := hS.pickN 10 [5, 0, 1, 2, 3, 4, 6, 7, 8, 9] (by decide) rfl
 refine jG (qG 86 (vs := [.agg #[.slice sp4.A sp4.n sp4.c], iv 1]) ha (markProgram_sat hS (toP_fits hf0) (by omega) (by omega)) fun v60 w a hp61 ha => ?_)
 obtain ⟨rfl, hS⟩ := hp61
 refine jY [(3, 21, iv (1 + 3 * (tot (toP l0) : Int)))] ha fun a ha => ?_
 refine jK (jQ (wp_seq (wp_seq (jZ [0, 1, 2, 3, 4, 5, 6, 7, 8, 9, 10, 11, 12, 13, 14, 15, 16, 17, 18, 19, 20, 21, 22] (jY [(0, 87, iv (1 + 3 * (tot (toP l0) : Int)))] ha fun a ha => ?_)))))
 refine yW (.bool false) ha ((qV (v := .bool (decide (1 + 3 * (tot (toP l0) : Int) < 0))) ha (zK (op := (Op.binOp BinOp.lss 3 (Operand.tmp 87) (Operand.const (Value.int IntKind.i64 0)) 3)) (d := some 88) (ty := 4)) (by kernel_rfl) (fun _ => by kernel_rfl)).as (by rw [decide_eq_false (by omega)])) fun a ha => ?_
 refine jY [(2, 89, .bool false)] ha fun a ha => ?_
 refine zX 90 ha (hS.blk 4 rfl) fun a ha => ?_
 refine zX 91 ha (hS.blk 6 rfl) fun a ha => ?_
 replace hS : Sat w0 w ((SX.row (.slice g2_1.A g2_1.n g2_1.c) 156 3 (encE ((retryP (toP l0) f arg fuel tr wt fa mo).2.2.1))) :: (SX.row (.slice g1_1.A g1_1.n g1_1.c) 156 3 (encE ((retryP (toP l0) f arg fuel tr wt fa mo).2.2.1))) :: (prg w0.heap.size sp4 (mkSS 1 (toP l0))) :: (prg w0.heap.size sp6 (toP l0)) :: (SX.blk g2_0 [iv ((retryP (toP l0) f arg fuel tr wt fa mo).1), iv ((retryP (toP l0) f arg fuel tr wt fa mo).2.1), .slice g2_1.A g2_1.n g2_1.c, iv ((retryP (toP l0) f arg fuel tr wt fa mo).2.2.2.1)] 62) :: (SX.blk b36 [.slice sp4.A sp4.n sp4.c] 30) :: (SX.blk g1_0 [iv ((retryP (toP l0) f arg fuel tr wt fa mo).1), iv ((retryP (toP l0) f arg fuel tr wt fa mo).2.1), .slice g1_1.A g1_1.n g1_1.c, iv ((retryP (toP l0) f arg fuel tr wt fa mo).2.2.2.1)] 62) :: (prg w0.heap.size g1_2 (toP l0)) :: (SX.blk b3 [iv tr, iv wt, iv fa, iv mo] 59) :: (SX.blk b1 [.slice s0.A s0.n s0.c] 24) :: []) := hS.pickN 10 [2, 3, 0, 1, 4, 5, 6, 7, 8, 9] (by decide) rfl
 refine jG (qG 92 (vs := [.agg #[iv ((retryP (toP l0) f arg fuel tr wt fa mo).1), iv ((retryP (toP l0) f arg fuel tr wt fa mo).2.1), .slice g2_1.A g2_1.n g2_1.c, iv ((retryP (toP l0) f arg fuel tr wt fa mo).2.2.2.1)], .agg #[iv ((retryP (toP l0) f arg fuel tr wt fa mo).1), iv ((retryP (toP l0) f arg fuel tr wt fa mo).2.1), .slice g1_1.A g1_1.n g1_1.c, iv ((retryP (toP l0) f arg fuel tr wt fa mo).2.2.2.1)]]) ha (eqO_sat hS (retryP_len ..)) fun v62 w a hp63 ha => ?_)
 obtain ⟨rfl, hS⟩ := hp63
 refine jY [(6, 93, .bool false), (7, 94, .bool false), (8, 95, .bool false), (9, 96, iv ((retryP (toP l0) f arg fuel tr wt fa mo).2.2.2.2.1)), (10, 97, iv ((retryP (toP l0) f arg fuel tr wt fa mo).2.2.2.2.1))] ha fun a ha => ?_
 refine yW (.bool false) ha ((qV (v := .bool (!(decide ((retryP (toP l0) f arg fuel tr wt fa mo).2.2.2.2.1 = (retryP (toP l0) f arg fuel tr wt fa mo).2.2.2.2.1)))) ha (AtG.here (gd := 95) ⟨(by kernel_rfl : ((qW Try.f8 14)[11]?).map spec = some ((Op.binOp BinOp.neq 3 (Operand.tmp 96) (Operand.tmp 97) 3), some 98, 4, some (8, false))), by kernel_rfl⟩ ha rfl) (by kernel_rfl) (fun _ => by kernel_rfl)).as (by simp)) fun a ha => ?_
 refine jY [(12, 99, .bool false), (13, 100, .bool false), (14, 101, iv ((retryP (toP l0) f arg fuel tr wt fa mo).2.2.2.2.2.1)), (15, 102, iv ((retryP (toP l0) f arg fuel tr wt fa mo).2.2.2.2.2.1))] ha fun a ha => ?_
 refine yW (.bool false) ha ((qV (v := .bool (!(decide ((retryP (toP l0) f arg fuel tr wt fa mo).2.2.2.2.2.1 = (retryP (toP l0) f arg fuel tr wt fa mo).2.2.2.2.2.1)))) ha (AtG.here (gd := 100) ⟨(by kernel_rfl : ((qW Try.f8 14)[16]?).map spec = some ((Op.binOp BinOp.neq 3 (Operand.tmp 101) (Operand.tmp 102) 3), some 103, 4, some (13, false))), by kernel_rfl⟩ ha rfl) (by kernel_rfl) (fun _ => by kernel_rfl)).as (by simp)) fun a ha => ?_
 refine jY [(17, 104, .bool false), (18, 105, .bool false), (19, 106, .bool ((retryP (toP l0) f arg fuel tr wt fa mo).2.2.2.2.2.2)), (20, 107, .bool ((retryP (toP l0) f arg fuel tr wt fa mo).2.2.2.2.2.2))] ha fun a ha => ?_
 refine yW (.bool false) ha ((qV (v := .bool (!(((retryP (toP l0) f arg fuel tr wt fa mo).2.2.2.2.2.2) == ((retryP (toP l0) f arg fuel tr wt fa mo).2.2.2.2.2.2)))) ha (AtG.here (gd := 105) ⟨(by kernel_rfl : ((qW Try.f8 14)[21]?).map spec = some ((Op.binOp BinOp.neq 4 (Operand.tmp 106) (Operand.tmp 107) 4), some 108, 4, some (18, false))), by kernel_rfl⟩ ha rfl) (by kernel_rfl) (fun _ => by kernel_rfl)).as (by simp)) fun a ha => ?_
 refine jY [(22, 109, .bool false)] ha fun a ha => ?_
 refine jK ?_
 replace ha := ha.as [(1, iv f), (2, iv arg), (3, iv fuel), (5, ptr b1 0), (9, ptr b3 0), (10, .bool false), (12, ptr g1_0 0), (13, iv ((retryP (toP l0) f arg fuel tr wt fa mo).2.2.2.2.1)), (14, iv ((retryP (toP l0) f arg fuel tr wt fa mo).2.2.2.2.2.1)), (15, .bool ((retryP (toP l0) f arg fuel tr wt fa mo).2.2.2.2.2.2)), (17, ptr g2_0 0), (109, .bool false)] rfl
 refine jQ ?_
 refine jH ha rfl rfl ?_
 refine wp_skip (jQ (wp_seq (jZ [0] (jY [(0, 22, iv 1)] ha fun a ha => ?_))))
 refine jK (jQ (wp_seq (jZ [0, 1, 2, 3] (zX 110 ha (hS.blk 4 rfl) fun a ha => ?_))))
 refine jY [(1, 111, iv 1)] ha fun a ha => ?_
 replace hS : Sat w0 w ((SX.row (.slice g2_1.A g2_1.n g2_1.c) 156 3 (encE ((retryP (toP l0) f arg fuel tr wt fa mo).2.2.1))) :: (SX.row (.slice g1_1.A g1_1.n g1_1.c) 156 3 (encE ((retryP (toP l0) f arg fuel tr wt fa mo).2.2.1))) :: (prg w0.heap.size sp4 (mkSS 1 (toP l0))) :: (prg w0.heap.size sp6 (toP l0)) :: (SX.blk g2_0 [iv ((retryP (toP l0) f arg fuel tr wt fa mo).1), iv ((retryP (toP l0) f arg fuel tr wt fa mo).2.1), .slice g2_1.A g2_1.n g2_1.c, iv ((retryP (toP l0) f arg fuel tr wt fa mo).2.2.2.1)] 62) :: (SX.blk b36 [.slice sp4.A sp4.n sp4.c] 30) :: (SX.blk g1_0 [iv ((retryP (toP l0) f arg fuel tr wt fa mo).1), iv ((retryP (toP l0) f arg fuel tr wt fa mo).2.1), .slice g1_1.A g1_1.n g1_1.c, iv ((retryP (toP l0) f arg fuel tr wt fa mo).2.2.2.1)] 62) :: (prg w0.heap.size g1_2 (toP l0)) :: (SX.blk b3 [iv tr, iv wt, iv fa, iv mo] 59) :: (SX.blk b1 [.slice s0.A s0.n s0.c] 24) :: []) := hS
 refine jG (qG 112 (vs := [.agg #[iv ((retryP (toP l0) f arg fuel tr wt fa mo).1), iv ((retryP (toP l0) f arg fuel tr wt fa mo).2.1), .slice g2_1.A g2_1.n g2_1.c, iv ((retryP (toP l0) f arg fuel tr wt fa mo).2.2.2.1)], iv 1]) ha (markO_sat hS (retryP_len ..)) fun v64 w a hp65 ha => ?_)
 obtain ⟨rfl, hS⟩ := hp65
 refine jY [(3, 22, iv (1 + 3 * (((retryP (toP l0) f arg fuel tr wt fa mo).2.2.1).length : Int)))] ha fun a ha => ?_
 refine jK (jQ (wp_seq (jZ [0] (jY [(0, 23, iv 1)] ha fun a ha => ?_))))
 refine jK (jQ (wp_seq (jZ [0, 1, 2, 3] (zX 113 ha (hS.blk 4 rfl) fun a ha => ?_))))
 refine jY [(1, 114, iv 1)] ha fun a ha => ?_
 replace hS : Sat w0 w ((SX.row (.slice g2_1.A g2_1.n g2_1.c) 156 3 (encE (mkE ((retryP (toP l0) f arg fuel tr wt fa mo).2.2.1).length))) :: (SX.row (.slice g1_1.A g1_1.n g1_1.c) 156 3 (encE ((retryP (toP l0) f arg fuel tr wt fa mo).2.2.1))) :: (prg w0.heap.size sp4 (mkSS 1 (toP l0))) :: (prg w0.heap.size sp6 (toP l0)) :: (SX.blk g2_0 [iv ((retryP (toP l0) f arg fuel tr wt fa mo).1), iv ((retryP (toP l0) f arg fuel tr wt fa mo).2.1), .slice g2_1.A g2_1.n g2_1.c, iv ((retryP (toP l0) f arg fuel tr wt fa mo).2.2.2.1)] 62) :: (SX.blk b36 [.slice sp4.A sp4.n sp4.c] 30) :: (SX.blk g1_0 [iv ((retryP (toP l0) f arg fuel tr wt fa mo).1), iv ((retryP (toP l0) f arg fuel tr wt fa mo).2.1), .slice g1_1.A g1_1.n g1_1.c, iv ((retryP (toP l0) f arg fuel tr wt fa mo).2.2.2.1)] 62) :: (prg w0.heap.size g1_2 (toP l0)) :: (SX.blk b3 [iv tr, iv wt, iv fa, iv mo] 59) :: (SX.blk b1 [.slice s0.A s0.n s0.c] 24) :: []) := hS
 refine jG (qG 115 (vs := [.agg #[iv ((retryP (toP l0) f arg fuel tr wt fa mo).1), iv ((retryP (toP l0) f arg fuel tr wt fa mo).2.1), .slice g2_1.A g2_1.n g2_1.c, iv ((retryP (toP l0) f arg fuel tr wt fa mo).2.2.2.1)], iv 1]) ha (heldO_sat hS (retryP_len ..)) fun v66 w a hp67 ha => ?_)
 obtain ⟨rfl, hS⟩ := hp67
 refine jY [(3, 23, iv (1 + 3 * (((retryP (toP l0) f arg fuel tr wt fa mo).2.2.1).length : Int)))] ha fun a ha => ?_
 refine jK (jQ (wp_seq (wp_seq (jZ [0, 1] (jY [(0, 116, iv (1 + 3 * (((retryP (toP l0) f arg fuel tr wt fa mo).2.2.1).length : Int)))] ha fun a ha => ?_)))))
 refine yW (.bool false) ha ((qV (v := .bool (decide (1 + 3 * (((retryP (toP l0) f arg fuel tr wt fa mo).2.2.1).length : Int) < 0))) ha (zK (op := (Op.binOp BinOp.lss 3 (Operand.tmp 116) (Operand.const (Value.int IntKind.i64 0)) 3)) (d := some 117) (ty := 4)) (by kernel_rfl) (fun _ => by kernel_rfl)).as (by rw [decide_eq_false (by omega)])) fun a ha => ?_
 refine jK (jQ ?_)
 refine jH ha rfl rfl ?_
 refine wp_skip (jQ (wp_seq (wp_seq (jZ [0, 1, 2] (jY [(0, 118, iv (1 + 3 * (((retryP (toP l0) f arg fuel tr wt fa mo).2.2.1).length : Int))), (1, 119, iv (1 + 3 * (((retryP (toP l0) f arg fuel tr wt fa mo).2.2.1).length : Int)))] ha fun a ha => ?_)))))
 refine yW (.bool false) ha ((qV (v := .bool (!(decide (1 + 3 * (((retryP (toP l0) f arg fuel tr wt fa mo).2.2.1).length : Int) = 1 + 3 * (((retryP (toP l0) f arg fuel tr wt fa mo).2.2.1).length : Int))))) ha (zK (op := (Op.binOp BinOp.neq 3 (Operand.tmp 118) (Operand.tmp 119) 3)) (d := some 120) (ty := 4)) (by kernel_rfl) (fun _ => by kernel_rfl)).as (by simp)) fun a ha => ?_
 refine jK (jQ ?_)
 refine jH ha rfl rfl ?_
 refine wp_skip (jQ (hJ (J := fun a_ w_ => ∃ (g3_0 : Nat) (g3_1 : Sl) (g3_2 : Sl), Has 161 [(10, .bool false), (12, ptr g1_0 0), (13, iv ((retryP (toP l0) f arg fuel tr wt fa mo).2.2.2.2.1)), (14, iv ((retryP (toP l0) f arg fuel tr wt fa mo).2.2.2.2.2.1)), (15, .bool ((retryP (toP l0) f arg fuel tr wt fa mo).2.2.2.2.2.2)), (17, ptr g2_0 0), (22, iv (1 + 3 * (((retryP (toP l0) f arg fuel tr wt fa mo).2.2.1).length : Int))), (23, iv (1 + 3 * (((retryP (toP l0) f arg fuel tr wt fa mo).2.2.1).length : Int))), (24, ptr g3_0 0), (25, iv ((retryP (toP l0) f arg fuel tr wt fa mo).2.2.2.2.1)), (26, iv ((retryP (toP l0) f arg fuel tr wt fa mo).2.2.2.2.2.1)), (27, .bool ((retryP (toP l0) f arg fuel tr wt fa mo).2.2.2.2.2.2))] a_ ∧ Sat w0 w_ ((SX.blk g3_0 [iv ((retryP (toP l0) f arg fuel tr wt fa mo).1), iv ((retryP (toP l0) f arg fuel tr wt fa mo).2.1), .slice g3_1.A g3_1.n g3_1.c, iv ((retryP (toP l0) f arg fuel tr wt fa mo).2.2.2.1)] 62) :: (SX.row (.slice g3_1.A g3_1.n g3_1.c) 156 3 (encE ((retryP (toP l0) f arg fuel tr wt fa mo).2.2.1))) :: (prg w0.heap.size g3_2 (toP l0)) :: (SX.row (.slice g2_1.A g2_1.n g2_1.c) 156 3 (encE (mkE ((retryP (toP l0) f arg fuel tr wt fa mo).2.2.1).length))) :: (SX.row (.slice g1_1.A g1_1.n g1_1.c) 156 3 (encE ((retryP (toP l0) f arg fuel tr wt fa mo).2.2.1))) :: (prg w0.heap.size sp4 (mkSS 1 (toP l0))) :: (prg w0.heap.size sp6 (toP l0)) :: (SX.blk g2_0 [iv ((retryP (toP l0) f arg fuel tr wt fa mo).1), iv ((retryP (toP l0) f arg fuel tr wt fa mo).2.1), .slice g2_1.A g2_1.n g2_1.c, iv ((retryP (toP l0) f arg fuel tr wt fa mo).2.2.2.1)] 62) :: (SX.blk b36 [.slice sp4.A sp4.n sp4.c] 30) :: (SX.blk g1_0 [iv ((retryP (toP l0) f arg fuel tr wt fa mo).1), iv ((retryP (toP l0) f arg fuel tr wt fa mo).2.1), .slice g1_1.A g1_1.n g1_1.c, iv ((retryP (toP l0) f arg fuel tr wt fa mo).2.2.2.1)] 62) :: (prg w0.heap.size g1_2 (toP l0)) :: (SX.blk b3 [iv tr, iv wt, iv fa, iv mo] 59) :: (SX.blk b1 [.slice s0.A s0.n s0.c] 24) :: [])) ?_ ?_))
 ·
  refine xV 14 18 (hS.pickN 10 [4, 5, 6, 8, 9] (by decide) rfl) hS fun w hS => ?_
  refine yY 0 122 ha (hS.pickN 10 [4, 5, 6, 8, 9] (by decide) rfl) (pk_join (jX)) (fun _ hw => hw.blk 4 rfl) fun a ha => ?_
  refine jV (k := 14) [(2, 124, iv f), (3, 125, iv arg), (4, 126, iv fuel)] ha (.inr (hS.pickN 10 [4, 5, 6, 8, 9] (by decide) rfl)) (pk_join (jX)) fun a ha => ?_
  refine yY 5 127 ha (hS.pickN 10 [4, 5, 6, 8, 9] (by decide) rfl) (pk_join (jX)) (fun _ hw => hw.blk 3 rfl) fun a ha => ?_
  refine d_all (rs := [1, 13]) (by kernel_rfl) (by simp) (forall_mem_2 ?_ ?_)
  ·
   refine id (qG 123 (vs := [.agg #[.slice s0.A s0.n s0.c]]) ha (toProgram_sat hS (hr0.sat hS) hf0) fun v68 w a hp69 ha => ?_)
   obtain ⟨sp8, rfl, hS⟩ := hp69
   refine ⟨.inr (hS.pickN 11 [5, 6, 7, 9, 10] (by decide) rfl), ?_⟩
   refine d_all (rs := [6, 13]) (by kernel_rfl) (by simp) (forall_mem_2 ?_ ?_)
   ·
    refine id (qG 128 (vs := [.agg #[iv tr, iv wt, iv fa, iv mo]]) ha (toPolicy_sat hS) fun v70 w a hp71 ha => ?_)
    obtain ⟨rfl, hS⟩ := hp71
    refine ⟨.inr (hS.pickN 11 [5, 6, 7, 9, 10] (by decide) rfl), ?_⟩
    refine d_all (rs := [7, 13]) (by kernel_rfl) (by simp) (forall_mem_2 ?_ ?_)
    ·
     refine id (qG 129 (vs := [.agg #[.slice sp8.A sp8.n sp8.c], iv f, iv arg, iv fuel, .agg #[iv tr, iv wt, iv fa, iv mo]]) ha (impl_RetryRun_sat hS (hS.rdS 0 rfl) (toP_fits hf0)) fun v72 w a hp73 ha => ?_)
     obtain ⟨o11, rfl, hS⟩ := hp73
     refine ⟨.inr (hS.pickN 12 [6, 7, 8, 10, 11] (by decide) rfl), ?_⟩
     refine jV (k := 5) [(8, 121, .tuple #[.agg #[iv ((retryP (toP l0) f arg fuel tr wt fa mo).1), iv ((retryP (toP l0) f arg fuel tr wt fa mo).2.1), .slice o11.A o11.n o11.c, iv ((retryP (toP l0) f arg fuel tr wt fa mo).2.2.2.1)], iv ((retryP (toP l0) f arg fuel tr wt fa mo).2.2.2.2.1), iv ((retryP (toP l0) f arg fuel tr wt fa mo).2.2.2.2.2.1), .bool ((retryP (toP l0) f arg fuel tr wt fa mo).2.2.2.2.2.2)]), (9, 130, .agg #[iv ((retryP (toP l0) f arg fuel tr wt fa mo).1), iv ((retryP (toP l0) f arg fuel tr wt fa mo).2.1), .slice o11.A o11.n o11.c, iv ((retryP (toP l0) f arg fuel tr wt fa mo).2.2.2.1)]), (10, 131, iv ((retryP (toP l0) f arg fuel tr wt fa mo).2.2.2.2.1)), (11, 132, iv ((retryP (toP l0) f arg fuel tr wt fa mo).2.2.2.2.2.1)), (12, 133, .bool ((retryP (toP l0) f arg fuel tr wt fa mo).2.2.2.2.2.2))] ha (.inr (hS.pickN 12 [6, 7, 8, 10, 11] (by decide) rfl)) (pk_join (jX)) fun a ha => ?_
     refine qX 13 (xQ 24 [iv 0, iv 0, .slice none 0 0, iv 0] 62 (ptr · 0) ha hS fun b74 w a hb75 hS ha => ?_)
     refine ⟨.inr (hS.pickN 13 [7, 8, 9, 11, 12] (by decide) rfl), ?_⟩
     refine qX 14 (jU 0 ha (xK (t := 62) (x := 24) (y := 130)) rfl rfl rfl (by kernel_rfl) hS rfl (Nat.le_of_ble_eq_true rfl) rfl fun w a hS ha => ?_)
     refine xZ (jV (k := 0) [(15, 25, iv ((retryP (toP l0) f arg fuel tr wt fa mo).2.2.2.2.1)), (16, 26, iv ((retryP (toP l0) f arg fuel tr wt fa mo).2.2.2.2.2.1)), (17, 27, .bool ((retryP (toP l0) f arg fuel tr wt fa mo).2.2.2.2.2.2))] ha (.inl (by kernel_rfl)) (pk_join (jX)) fun a ha => ?_)
     refine xW ?_
     replace ha := ha.as [(10, .bool false), (12, ptr g1_0 0), (13, iv ((retryP (toP l0) f arg fuel tr wt fa mo).2.2.2.2.1)), (14, iv ((retryP (toP l0) f arg fuel tr wt fa mo).2.2.2.2.2.1)), (15, .bool ((retryP (toP l0) f arg fuel tr wt fa mo).2.2.2.2.2.2)), (17, ptr g2_0 0), (22, iv (1 + 3 * (((retryP (toP l0) f arg fuel tr wt fa mo).2.2.1).length : Int))), (23, iv (1 + 3 * (((retryP (toP l0) f arg fuel tr wt fa mo).2.2.1).length : Int))), (24, ptr b74 0), (25, iv ((retryP (toP l0) f arg fuel tr wt fa mo).2.2.2.2.1)), (26, iv ((retryP (toP l0) f arg fuel tr wt fa mo).2.2.2.2.2.1)), (27, .bool ((retryP (toP l0) f arg fuel tr wt fa mo).2.2.2.2.2.2))] rfl
     replace hS : Sat w0 w ((SX.blk b74 [iv ((retryP (toP l0) f arg fuel tr wt fa mo).1), iv ((retryP (toP l0) f arg fuel tr wt fa mo).2.1), .slice o11.A o11.n o11.c, iv ((retryP (toP l0) f arg fuel tr wt fa mo).2.2.2.1)] 62) :: (SX.row (.slice o11.A o11.n o11.c) 156 3 (encE ((retryP (toP l0) f arg fuel tr wt fa mo).2.2.1))) :: (prg w0.heap.size sp8 (toP l0)) :: (SX.row (.slice g2_1.A g2_1.n g2_1.c) 156 3 (encE (mkE ((retryP (toP l0) f arg fuel tr wt fa mo).2.2.1).length))) :: (SX.row (.slice g1_1.A g1_1.n g1_1.c) 156 3 (encE ((retryP (toP l0) f arg fuel tr wt fa mo).2.2.1))) :: (prg w0.heap.size sp4 (mkSS 1 (toP l0))) :: (prg w0.heap.size sp6 (toP l0)) :: (SX.blk g2_0 [iv ((retryP (toP l0) f arg fuel tr wt fa mo).1), iv ((retryP (toP l0) f arg fuel tr wt fa mo).2.1), .slice g2_1.A g2_1.n g2_1.c, iv ((retryP (toP l0) f arg fuel tr wt fa mo).2.2.2.1)] 62) :: (SX.blk b36 [.slice sp4.A sp4.n sp4.c] 30) :: (SX.blk g1_0 [iv ((retryP (toP l0) f arg fuel tr wt fa mo).1), iv ((retryP (toP l0) f arg fuel tr wt fa mo).2.1), .slice g1_1.A g1_1.n g1_1.c, iv ((retryP (toP l0) f arg fuel tr wt fa mo).2.2.2.1)] 62) :: (prg w0.heap.size g1_2 (toP l0)) :: (SX.blk b3 [iv tr, iv wt, iv fa, iv mo] 59) :: (SX.blk b1 [.slice s0.A s0.n s0.c] 24) :: []) := hS
     exact jQ ⟨b74, o11, sp8, ha.keeps [10, 12, 13, 14, 15, 17, 22, 23, 24, 25, 26, 27] _ rfl, hS⟩
    refine id (xQ 24 [iv 0, iv 0, .slice none 0 0, iv 0] 62 (ptr · 0) ha hS fun b76 w a hb77 hS ha => ?_)
    refine ⟨.inr (hS.pickN 12 [6, 7, 8, 10, 11] (by decide) rfl), ?_⟩
    refine qX 7 (qG 129 (vs := [.agg #[.slice sp8.A sp8.n sp8.c], iv f, iv arg, iv fuel, .agg #[iv tr, iv wt, iv fa, iv mo]]) ha (impl_RetryRun_sat hS (hS.rdS 1 rfl) (toP_fits hf0)) fun v78 w a hp79 ha => ?_)
    obtain ⟨o12, rfl, hS⟩ := hp79
    refine ⟨.inr (hS.pickN 13 [7, 8, 9, 11, 12] (by decide) rfl), ?_⟩
    refine jV (k := 4) [(8, 121, .tuple #[.agg #[iv ((retryP (toP l0) f arg fuel tr wt fa mo).1), iv ((retryP (toP l0) f arg fuel tr wt fa mo).2.1), .slice o12.A o12.n o12.c, iv ((retryP (toP l0) f arg fuel tr wt fa mo).2.2.2.1)], iv ((retryP (toP l0) f arg fuel tr wt fa mo).2.2.2.2.1), iv ((retryP (toP l0) f arg fuel tr wt fa mo).2.2.2.2.2.1), .bool ((retryP (toP l0) f arg fuel tr wt fa mo).2.2.2.2.2.2)]), (9, 130, .agg #[iv ((retryP (toP l0) f arg fuel tr wt fa mo).1), iv ((retryP (toP l0) f arg fuel tr wt fa mo).2.1), .slice o12.A o12.n o12.c, iv ((retryP (toP l0) f arg fuel tr wt fa mo).2.2.2.1)]), (10, 131, iv ((retryP (toP l0) f arg fuel tr wt fa mo).2.2.2.2.1)), (11, 132, iv ((retryP (toP l0) f arg fuel tr wt fa mo).2.2.2.2.2.1)), (12, 133, .bool ((retryP (toP l0) f arg fuel tr wt fa mo).2.2.2.2.2.2))] ha (.inr (hS.pickN 13 [7, 8, 9, 11, 12] (by decide) rfl)) (pk_join (jX)) fun a ha => ?_
    refine qX 14 (jU 1 ha (xK (t := 62) (x := 24) (y := 130)) rfl rfl rfl (by kernel_rfl) hS rfl (Nat.le_of_ble_eq_true rfl) rfl fun w a hS ha => ?_)
    refine xZ (jV (k := 0) [(15, 25, iv ((retryP (toP l0) f arg fuel tr wt fa mo).2.2.2.2.1)), (16, 26, iv ((retryP (toP l0) f arg fuel tr wt fa mo).2.2.2.2.2.1)), (17, 27, .bool ((retryP (toP l0) f arg fuel tr wt fa mo).2.2.2.2.2.2))] ha (.inl (by kernel_rfl)) (pk_join (jX)) fun a ha => ?_)
    refine xW ?_
    replace ha := ha.as [(10, .bool false), (12, ptr g1_0 0), (13, iv ((retryP (toP l0) f arg fuel tr wt fa mo).2.2.2.2.1)), (14, iv ((retryP (toP l0) f arg fuel tr wt fa mo).2.2.2.2.2.1)), (15, .bool ((retryP (toP l0) f arg fuel tr wt fa mo).2.2.2.2.2.2)), (17, ptr g2_0 0), (22, iv (1 + 3 * (((retryP (toP l0) f arg fuel tr wt fa mo).2.2.1).length : Int))), (23, iv (1 + 3 * (((retryP (toP l0) f arg fuel tr wt fa mo).2.2.1).length : Int))), (24, ptr b76 0), (25, iv ((retryP (toP l0) f arg fuel tr wt fa mo).2.2.2.2.1)), (26, iv ((retryP (toP l0) f arg fuel tr wt fa mo).2.2.2.2.2.1)), (27, .bool ((retryP (toP l0) f arg fuel tr wt fa mo).2.2.2.2.2.2))] rfl
    replace hS : Sat w0 w ((SX.blk b76 [iv ((retryP (toP l0) f arg fuel tr wt fa mo).1), iv ((retryP (toP l0) f arg fuel tr wt fa mo).2.1), .slice o12.A o12.n o12.c, iv ((retryP (toP l0) f arg fuel tr wt fa mo).2.2.2.1)] 62) :: (SX.row (.slice o12.A o12.n o12.c) 156 3 (encE ((retryP (toP l0) f arg fuel tr wt fa mo).2.2.1))) :: (prg w0.heap.size sp8 (toP l0)) :: (SX.row (.slice g2_1.A g2_1.n g2_1.c) 156 3 (encE (mkE ((retryP (toP l0) f arg fuel tr wt fa mo).2.2.1).length))) :: (SX.row (.slice g1_1.A g1_1.n g1_1.c) 156 3 (encE ((retryP (toP l0) f arg fuel tr wt fa mo).2.2.1))) :: (prg w0.heap.size sp4 (mkSS 1 (toP l0))) :: (prg w0.heap.size sp6 (toP l0)) :: (SX.blk g2_0 [iv ((retryP (toP l0) f arg fuel tr wt fa mo).1), iv ((retryP (toP l0) f arg fuel tr wt fa mo).2.1), .slice g2_1.A g2_1.n g2_1.c, iv ((retryP (toP l0) f arg fuel tr wt fa mo).2.2.2.1)] 62) :: (SX.blk b36 [.slice sp4.A sp4.n sp4.c] 30) :: (SX.blk g1_0 [iv ((retryP (toP l0) f arg fuel tr wt fa mo).1), iv ((retryP (toP l0) f arg fuel tr wt fa mo).2.1), .slice g1_1.A g1_1.n g1_1.c, iv ((retryP (toP l0) f arg fuel tr wt fa mo).2.2.2.1)] 62) :: (prg w0.heap.size g1_2 (toP l0)) :: (SX.blk b3 [iv tr, iv wt, iv fa, iv mo] 59) :: (SX.blk b1 [.slice s0.A s0.n s0.c] 24) :: []) := hS.pickN 13 [1, 0, 2, 3, 4, 5, 6, 7, 8, 9, 10, 11, 12] (by decide) rfl
    exact jQ ⟨b76, o12, sp8, ha.keeps [10, 12, 13, 14, 15, 17, 22, 23, 24, 25, 26, 27] _ rfl, hS⟩
   refine id (xQ 24 [iv 0, iv 0, .slice none 0 0, iv 0] 62 (ptr · 0) ha hS fun b80 w a hb81 hS ha => ?_)
   refine ⟨.inr (hS.pickN 12 [6, 7, 8, 10, 11] (by decide) rfl), ?_⟩
   refine qX 6 (qG 128 (vs := [.agg #[iv tr, iv wt, iv fa, iv mo]]) ha (toPolicy_sat hS) fun v82 w a hp83 ha => ?_)
   obtain ⟨rfl, hS⟩ := hp83
   refine ⟨.inr (hS.pickN 12 [6, 7, 8, 10, 11] (by decide) rfl), ?_⟩
   refine qX 7 (qG 129 (vs := [.agg #[.slice sp8.A sp8.n sp8.c], iv f, iv arg, iv fuel, .agg #[iv tr, iv wt, iv fa, iv mo]]) ha (impl_RetryRun_sat hS (hS.rdS 1 rfl) (toP_fits hf0)) fun v84 w a hp85 ha => ?_)
   obtain ⟨o13, rfl, hS⟩ := hp85
   refine ⟨.inr (hS.pickN 13 [7, 8, 9, 11, 12] (by decide) rfl), ?_⟩
   refine jV (k := 4) [(8, 121, .tuple #[.agg #[iv ((retryP (toP l0) f arg fuel tr wt fa mo).1), iv ((retryP (toP l0) f arg fuel tr wt fa mo).2.1), .slice o13.A o13.n o13.c, iv ((retryP (toP l0) f arg fuel tr wt fa mo).2.2.2.1)], iv ((retryP (toP l0) f arg fuel tr wt fa mo).2.2.2.2.1), iv ((retryP (toP l0) f arg fuel tr wt fa mo).2.2.2.2.2.1), .bool ((retryP (toP l0) f arg fuel tr wt fa mo).2.2.2.2.2.2)]), (9, 130, .agg #[iv ((retryP (toP l0) f arg fuel tr wt fa mo).1), iv ((retryP (toP l0) f arg fuel tr wt fa mo).2.1), .slice o13.A o13.n o13.c, iv ((retryP (toP l0) f arg fuel tr wt fa mo).2.2.2.1)]), (10, 131, iv ((retryP (toP l0) f arg fuel tr wt fa mo).2.2.2.2.1)), (11, 132, iv ((retryP (toP l0) f arg fuel tr wt fa mo).2.2.2.2.2.1)), (12, 133, .bool ((retryP (toP l0) f arg fuel tr wt fa mo).2.2.2.2.2.2))] ha (.inr (hS.pickN 13 [7, 8, 9, 11, 12] (by decide) rfl)) (pk_join (jX)) fun a ha => ?_
   refine qX 14 (jU 1 ha (xK (t := 62) (x := 24) (y := 130)) rfl rfl rfl (by kernel_rfl) hS rfl (Nat.le_of_ble_eq_true rfl) rfl fun w a hS ha => ?_)
   refine xZ (jV (k := 0) [(15, 25, iv ((retryP (toP l0) f arg fuel tr wt fa mo).2.2.2.2.1)), (16, 26, iv ((retryP (toP l0) f arg fuel tr wt fa mo).2.2.2.2.2.1)), (17, 27, .bool ((retryP (toP l0) f arg fuel tr wt fa mo).2.2.2.2.2.2))] ha (.inl (by kernel_rfl)) (pk_join (jX)) fun a ha => ?_)
   refine xW ?_
   replace ha := ha.as [(10, .bool false), (12, ptr g1_0 0), (13, iv ((retryP (toP l0) f arg fuel tr wt fa mo).2.2.2.2.1)), (14, iv ((retryP (toP l0) f arg fuel tr wt fa mo).2.2.2.2.2.1)), (15, .bool ((retryP (toP l0) f arg fuel tr wt fa mo).2.2.2.2.2.2)), (17, ptr g2_0 0), (22, iv (1 + 3 * (((retryP (toP l0) f arg fuel tr wt fa mo).2.2.1).length : Int))), (23, iv (1 + 3 * (((retryP (toP l0) f arg fuel tr wt fa mo).2.2.1).length : Int))), (24, ptr b80 0), (25, iv ((retryP (toP l0) f arg fuel tr wt fa mo).2.2.2.2.1)), (26, iv ((retryP (toP l0) f arg fuel tr wt fa mo).2.2.2.2.2.1)), (27, .bool ((retryP (toP l0) f arg fuel tr wt fa mo).2.2.2.2.2.2))] rfl
   replace hS : Sat w0 w ((SX.blk b80 [iv ((retryP (toP l0) f arg fuel tr wt fa mo).1), iv ((retryP (toP l0) f arg fuel tr wt fa mo).2.1), .slice o13.A o13.n o13.c, iv ((retryP (toP l0) f arg fuel tr wt fa mo).2.2.2.1)] 62) :: (SX.row (.slice o13.A o13.n o13.c) 156 3 (encE ((retryP (toP l0) f arg fuel tr wt fa mo).2.2.1))) :: (prg w0.heap.size sp8 (toP l0)) :: (SX.row (.slice g2_1.A g2_1.n g2_1.c) 156 3 (encE (mkE ((retryP (toP l0) f arg fuel tr wt fa mo).2.2.1).length))) :: (SX.row (.slice g1_1.A g1_1.n g1_1.c) 156 3 (encE ((retryP (toP l0) f arg fuel tr wt fa mo).2.2.1))) :: (prg w0.heap.size sp4 (mkSS 1 (toP l0))) :: (prg w0.heap.size sp6 (toP l0)) :: (SX.blk g2_0 [iv ((retryP (toP l0) f arg fuel tr wt fa mo).1), iv ((retryP (toP l0) f arg fuel tr wt fa mo).2.1), .slice g2_1.A g2_1.n g2_1.c, iv ((retryP (toP l0) f arg fuel tr wt fa mo).2.2.2.1)] 62) :: (SX.blk b36 [.slice sp4.A sp4.n sp4.c] 30) :: (SX.blk g1_0 [iv ((retryP (toP l0) f arg fuel tr wt fa mo).1), iv ((retryP (toP l0) f arg fuel tr wt fa mo).2.1), .slice g1_1.A g1_1.n g1_1.c, iv ((retryP (toP l0) f arg fuel tr wt fa mo).2.2.2.1)] 62) :: (prg w0.heap.size g1_2 (toP l0)) :: (SX.blk b3 [iv tr, iv wt, iv fa, iv mo] 59) :: (SX.blk b1 [.slice s0.A s0.n s0.c] 24) :: []) := hS.pickN 13 [1, 0, 2, 3, 4, 5, 6, 7, 8, 9, 10, 11, 12] (by decide) rfl
   exact jQ ⟨b80, o13, sp8, ha.keeps [10, 12, 13, 14, 15, 17, 22, 23, 24, 25, 26, 27] _ rfl, hS⟩
  refine id (xQ 24 [iv 0, iv 0, .slice none 0 0, iv 0] 62 (ptr · 0) ha hS fun b86 w a hb87 hS ha => ?_)
  refine ⟨.inr (hS.pickN 11 [5, 6, 7, 9, 10] (by decide) rfl), ?_⟩
  refine qX 1 (qG 123 (vs := [.agg #[.slice s0.A s0.n s0.c]]) ha (toProgram_sat hS (hr0.sat hS) hf0) fun v88 w a hp89 ha => ?_)
  obtain ⟨sp9, rfl, hS⟩ := hp89
  refine ⟨.inr (hS.pickN 12 [6, 7, 8, 10, 11] (by decide) rfl), ?_⟩
  refine qX 6 (qG 128 (vs := [.agg #[iv tr, iv wt, iv fa, iv mo]]) ha (toPolicy_sat hS) fun v90 w a hp91 ha => ?_)
  obtain ⟨rfl, hS⟩ := hp91
  refine ⟨.inr (hS.pickN 12 [6, 7, 8, 10, 11] (by decide) rfl), ?_⟩
  refine qX 7 (qG 129 (vs := [.agg #[.slice sp9.A sp9.n sp9.c], iv f, iv arg, iv fuel, .agg #[iv tr, iv wt, iv fa, iv mo]]) ha (impl_RetryRun_sat hS (hS.rdS 0 rfl) (toP_fits hf0)) fun v92 w a hp93 ha => ?_)
  obtain ⟨o14, rfl, hS⟩ := hp93
  refine ⟨.inr (hS.pickN 13 [7, 8, 9, 11, 12] (by decide) rfl), ?_⟩
  refine jV (k := 4) [(8, 121, .tuple #[.agg #[iv ((retryP (toP l0) f arg fuel tr wt fa mo).1), iv ((retryP (toP l0) f arg fuel tr wt fa mo).2.1), .slice o14.A o14.n o14.c, iv ((retryP (toP l0) f arg fuel tr wt fa mo).2.2.2.1)], iv ((retryP (toP l0) f arg fuel tr wt fa mo).2.2.2.2.1), iv ((retryP (toP l0) f arg fuel tr wt fa mo).2.2.2.2.2.1), .bool ((retryP (toP l0) f arg fuel tr wt fa mo).2.2.2.2.2.2)]), (9, 130, .agg #[iv ((retryP (toP l0) f arg fuel tr wt fa mo).1), iv ((retryP (toP l0) f arg fuel tr wt fa mo).2.1), .slice o14.A o14.n o14.c, iv ((retryP (toP l0) f arg fuel tr wt fa mo).2.2.2.1)]), (10, 131, iv ((retryP (toP l0) f arg fuel tr wt fa mo).2.2.2.2.1)), (11, 132, iv ((retryP (toP l0) f arg fuel tr wt fa mo).2.2.2.2.2.1)), (12, 133, .bool ((retryP (toP l0) f arg fuel tr wt fa mo).2.2.2.2.2.2))] ha (.inr (hS.pickN 13 [7, 8, 9, 11, 12] (by decide) rfl)) (pk_join (jX)) fun a ha => ?_
  refine qX 14 (jU 2 ha (xK (t := 62) (x := 24) (y := 130)) rfl rfl rfl (by kernel_rfl) hS rfl (Nat.le_of_ble_eq_true rfl) rfl fun w a hS ha => ?_)
  refine xZ (jV (k := 0) [(15, 25, iv ((retryP (toP l0) f arg fuel tr wt fa mo).2.2.2.2.1)), (16, 26, iv ((retryP (toP l0) f arg fuel tr wt fa mo).2.2.2.2.2.1)), (17, 27, .bool ((retryP (toP l0) f arg fuel tr wt fa mo).2.2.2.2.2.2))] ha (.inl (by kernel_rfl)) (pk_join (jX)) fun a ha => ?_)
  refine xW ?_
  replace ha := ha.as [(10, .bool false), (12, ptr g1_0 0), (13, iv ((retryP (toP l0) f arg fuel tr wt fa mo).2.2.2.2.1)), (14, iv ((retryP (toP l0) f arg fuel tr wt fa mo).2.2.2.2.2.1)), (15, .bool ((retryP (toP l0) f arg fuel tr wt fa mo).2.2.2.2.2.2)), (17, ptr g2_0 0), (22, iv (1 + 3 * (((retryP (toP l0) f arg fuel tr wt fa mo).2.2.1).length : Int))), (23, iv (1 + 3 * (((retryP (toP l0) f arg fuel tr wt fa mo).2.2.1).length : Int))), (24, ptr b86 0), (25, iv ((retryP (toP l0) f arg fuel tr wt fa mo).2.2.2.2.1)), (26, iv ((retryP (toP l0) f arg fuel tr wt fa mo).2.2.2.2.2.1)), (27, .bool ((retryP (toP l0) f arg fuel tr wt fa mo).2.2.2.2.2.2))] rfl
  replace hS : Sat w0 w ((SX.blk b86 [iv ((retryP (toP l0) f arg fuel tr wt fa mo).1), iv ((retryP (toP l0) f arg fuel tr wt fa mo).2.1), .slice o14.A o14.n o14.c, iv ((retryP (toP l0) f arg fuel tr wt fa mo).2.2.2.1)] 62) :: (SX.row (.slice o14.A o14.n o14.c) 156 3 (encE ((retryP (toP l0) f arg fuel tr wt fa mo).2.2.1))) :: (prg w0.heap.size sp9 (toP l0)) :: (SX.row (.slice g2_1.A g2_1.n g2_1.c) 156 3 (encE (mkE ((retryP (toP l0) f arg fuel tr wt fa mo).2.2.1).length))) :: (SX.row (.slice g1_1.A g1_1.n g1_1.c) 156 3 (encE ((retryP (toP l0) f arg fuel tr wt fa mo).2.2.1))) :: (prg w0.heap.size sp4 (mkSS 1 (toP l0))) :: (prg w0.heap.size sp6 (toP l0)) :: (SX.blk g2_0 [iv ((retryP (toP l0) f arg fuel tr wt fa mo).1), iv ((retryP (toP l0) f arg fuel tr wt fa mo).2.1), .slice g2_1.A g2_1.n g2_1.c, iv ((retryP (toP l0) f arg fuel tr wt fa mo).2.2.2.1)] 62) :: (SX.blk b36 [.slice sp4.A sp4.n sp4.c] 30) :: (SX.blk g1_0 [iv ((retryP (toP l0) f arg fuel tr wt fa mo).1), iv ((retryP (toP l0) f arg fuel tr wt fa mo).2.1), .slice g1_1.A g1_1.n g1_1.c, iv ((retryP (toP l0) f arg fuel tr wt fa mo).2.2.2.1)] 62) :: (prg w0.heap.size g1_2 (toP l0)) :: (SX.blk b3 [iv tr, iv wt, iv fa, iv mo] 59) :: (SX.blk b1 [.slice s0.A s0.n s0.c] 24) :: []) := hS.pickN 13 [2, 0, 1, 3, 4, 5, 6, 7, 8, 9, 10, 11, 12] (by decide) rfl
  exact jQ ⟨b86, o14, sp9, ha.keeps [10, 12, 13, 14, 15, 17, 22, 23, 24, 25, 26, 27] _ rfl, hS⟩
 rintro a w ⟨g3_0, g3_1, g3_2, ha, hS⟩
 refine wp_seq (wp_seq (jZ [0, 1, 2, 3, 4, 5, 6, 7, 8, 9, 10, 11, 12, 13, 14, 15, 16, 17, 18] (zX 134 ha (hS.blk 0 rfl) fun a ha => ?_)))
 refine zX 135 ha (hS.blk 9 rfl) fun a ha => ?_
 replace hS : Sat w0 w ((SX.row (.slice g3_1.A g3_1.n g3_1.c) 156 3 (encE ((retryP (toP l0) f arg fuel tr wt fa mo).2.2.1))) :: (SX.row (.slice g1_1.A g1_1.n g1_1.c) 156 3 (encE ((retryP (toP l0) f arg fuel tr wt fa mo).2.2.1))) :: (SX.blk g3_0 [iv ((retryP (toP l0) f arg fuel tr wt fa mo).1), iv ((retryP (toP l0) f arg fuel tr wt fa mo).2.1), .slice g3_1.A g3_1.n g3_1.c, iv ((retryP (toP l0) f arg fuel tr wt fa mo).2.2.2.1)] 62) :: (prg w0.heap.size g3_2 (toP l0)) :: (SX.row (.slice g2_1.A g2_1.n g2_1.c) 156 3 (encE (mkE ((retryP (toP l0) f arg fuel tr wt fa mo).2.2.1).length))) :: (prg w0.heap.size sp4 (mkSS 1 (toP l0))) :: (prg w0.heap.size sp6 (toP l0)) :: (SX.blk g2_0 [iv ((retryP (toP l0) f arg fuel tr wt fa mo).1), iv ((retryP (toP l0) f arg fuel tr wt fa mo).2.1), .slice g2_1.A g2_1.n g2_1.c, iv ((retryP (toP l0) f arg fuel tr wt fa mo).2.2.2.1)] 62) :: (SX.blk b36 [.slice sp4.A sp4.n sp4.c] 30) :: (SX.blk g1_0 [iv ((retryP (toP l0) f arg fuel tr wt fa mo).1), iv ((retryP (toP l0) f arg fuel tr wt fa mo).2.1), .slice g1_1.A g1_1.n g1_1.c, iv ((retryP (toP l0) f arg fuel tr wt fa mo).2.2.2.1)] 62) :: (prg w0.heap.size g1_2 (toP l0)) :: (SX.blk b3 [iv tr, iv wt, iv fa, iv mo] 59) :: (SX.blk b1 [.slice s0.A s0.n s0.c] 24) :: []) := hS.pickN 13 [1, 4, 0, 2, 3, 5, 6, 7, 8, 9, 10, 11, 12] (by decide) rfl
 refine jG (qG 136 (vs := [.agg #[iv ((retryP (toP l0) f arg fuel tr wt fa mo).1), iv ((retryP (toP l0) f arg fuel tr wt fa mo).2.1), .slice g3_1.A g3_1.n g3_1.c, iv ((retryP (toP l0) f arg fuel tr wt fa mo).2.2.2.1)], .agg #[iv ((retryP (toP l0) f arg fuel tr wt fa mo).1), iv ((retryP (toP l0) f arg fuel tr wt fa mo).2.1), .slice g1_1.A g1_1.n g1_1.c, iv ((retryP (toP l0) f arg fuel tr wt fa mo).2.2.2.1)]]) ha (eqO_sat hS (retryP_len ..)) fun v94 w a hp95 ha => ?_)
 obtain ⟨rfl, hS⟩ := hp95
 refine jY [(3, 137, .bool false), (4, 138, .bool false), (5, 139, iv ((retryP (toP l0) f arg fuel tr wt fa mo).2.2.2.2.1)), (6, 140, iv ((retryP (toP l0) f arg fuel tr wt fa mo).2.2.2.2.1))] ha fun a ha => ?_
 refine yW (.bool false) ha ((qV (v := .bool (!(decide ((retryP (toP l0) f arg fuel tr wt fa mo).2.2.2.2.1 = (retryP (toP l0) f arg fuel tr wt fa mo).2.2.2.2.1)))) ha (AtG.here (gd := 138) ⟨(by kernel_rfl : ((qW Try.f8 25)[7]?).map spec = some ((Op.binOp BinOp.neq 3 (Operand.tmp 139) (Operand.tmp 140) 3), some 141, 4, some (4, false))), by kernel_rfl⟩ ha rfl) (by kernel_rfl) (fun _ => by kernel_rfl)).as (by simp)) fun a ha => ?_
 refine jY [(8, 142, .bool false), (9, 143, .bool false), (10, 144, iv ((retryP (toP l0) f arg fuel tr wt fa mo).2.2.2.2.2.1)), (11, 145, iv ((retryP (toP l0) f arg fuel tr wt fa mo).2.2.2.2.2.1))] ha fun a ha => ?_
 refine yW (.bool false) ha ((qV (v := .bool (!(decide ((retryP (toP l0) f arg fuel tr wt fa mo).2.2.2.2.2.1 = (retryP (toP l0) f arg fuel tr wt fa mo).2.2.2.2.2.1)))) ha (AtG.here (gd := 143) ⟨(by kernel_rfl : ((qW Try.f8 25)[12]?).map spec = some ((Op.binOp BinOp.neq 3 (Operand.tmp 144) (Operand.tmp 145) 3), some 146, 4, some (9, false))), by kernel_rfl⟩ ha rfl) (by kernel_rfl) (fun _ => by kernel_rfl)).as (by simp)) fun a ha => ?_
 refine jY [(13, 147, .bool false), (14, 148, .bool false), (15, 149, .bool ((retryP (toP l0) f arg fuel tr wt fa mo).2.2.2.2.2.2)), (16, 150, .bool ((retryP (toP l0) f arg fuel tr wt fa mo).2.2.2.2.2.2))] ha fun a ha => ?_
 refine yW (.bool false) ha ((qV (v := .bool (!(((retryP (toP l0) f arg fuel tr wt fa mo).2.2.2.2.2.2) == ((retryP (toP l0) f arg fuel tr wt fa mo).2.2.2.2.2.2)))) ha (AtG.here (gd := 148) ⟨(by kernel_rfl : ((qW Try.f8 25)[17]?).map spec = some ((Op.binOp BinOp.neq 4 (Operand.tmp 149) (Operand.tmp 150) 4), some 151, 4, some (14, false))), by kernel_rfl⟩ ha rfl) (by kernel_rfl) (fun _ => by kernel_rfl)).as (by simp)) fun a ha => ?_
 refine jY [(18, 152, .bool false)] ha fun a ha => ?_
 refine jK (jQ ?_)
 refine jH ha rfl rfl ?_
 refine wp_skip (jQ (wp_seq (jZ [0] (jY [(0, 23, iv 1)] ha fun a ha => ?_))))
 refine jK (jQ (wp_seq (jZ [0, 1, 2, 3] (zX 153 ha (hS.blk 7 rfl) fun a ha => ?_))))
 refine jY [(1, 154, iv 1)] ha fun a ha => ?_
 replace hS : Sat w0 w ((SX.row (.slice g2_1.A g2_1.n g2_1.c) 156 3 (encE (mkE ((retryP (toP l0) f arg fuel tr wt fa mo).2.2.1).length))) :: (SX.row (.slice g3_1.A g3_1.n g3_1.c) 156 3 (encE ((retryP (toP l0) f arg fuel tr wt fa mo).2.2.1))) :: (SX.row (.slice g1_1.A g1_1.n g1_1.c) 156 3 (encE ((retryP (toP l0) f arg fuel tr wt fa mo).2.2.1))) :: (SX.blk g3_0 [iv ((retryP (toP l0) f arg fuel tr wt fa mo).1), iv ((retryP (toP l0) f arg fuel tr wt fa mo).2.1), .slice g3_1.A g3_1.n g3_1.c, iv ((retryP (toP l0) f arg fuel tr wt fa mo).2.2.2.1)] 62) :: (prg w0.heap.size g3_2 (toP l0)) :: (prg w0.heap.size sp4 (mkSS 1 (toP l0))) :: (prg w0.heap.size sp6 (toP l0)) :: (SX.blk g2_0 [iv ((retryP (toP l0) f arg fuel tr wt fa mo).1), iv ((retryP (toP l0) f arg fuel tr wt fa mo).2.1), .slice g2_1.A g2_1.n g2_1.c, iv ((retryP (toP l0) f arg fuel tr wt fa mo).2.2.2.1)] 62) :: (SX.blk b36 [.slice sp4.A sp4.n sp4.c] 30) :: (SX.blk g1_0 [iv ((retryP (toP l0) f arg fuel tr wt fa mo).1), iv ((retryP (toP l0) f arg fuel tr wt fa mo).2.1), .slice g1_1.A g1_1.n g1_1.c, iv ((retryP (toP l0) f arg fuel tr wt fa mo).2.2.2.1)] 62) :: (prg w0.heap.size g1_2 (toP l0)) :: (SX.blk b3 [iv tr, iv wt, iv fa, iv mo] 59) :: (SX.blk b1 [.slice s0.A s0.n s0.c] 24) :: []) := hS.pickN 13 [4, 0, 1, 2, 3, 5, 6, 7, 8, 9, 10, 11, 12] (by decide) rfl
 refine jG (qG 155 (vs := [.agg #[iv ((retryP (toP l0) f arg fuel tr wt fa mo).1), iv ((retryP (toP l0) f arg fuel tr wt fa mo).2.1), .slice g2_1.A g2_1.n g2_1.c, iv ((retryP (toP l0) f arg fuel tr wt fa mo).2.2.2.1)], iv 1]) ha (heldO_sat hS (retryP_len ..)) fun v96 w a hp97 ha => ?_)
 obtain ⟨rfl, hS⟩ := hp97
 refine jY [(3, 23, iv (1 + 3 * (((retryP (toP l0) f arg fuel tr wt fa mo).2.2.1).length : Int)))] ha fun a ha => ?_
 refine jK ?_
 replace ha := ha.as [(10, .bool false), (22, iv (1 + 3 * (((retryP (toP l0) f arg fuel tr wt fa mo).2.2.1).length : Int))), (23, iv (1 + 3 * (((retryP (toP l0) f arg fuel tr wt fa mo).2.2.1).length : Int)))] rfl
 refine jQ (wp_seq (wp_seq (jZ [0, 1] (jY [(0, 156, iv (1 + 3 * (((retryP (toP l0) f arg fuel tr wt fa mo).2.2.1).length : Int)))] ha fun a ha => ?_))))
 refine yW (.bool false) ha ((qV (v := .bool (decide (1 + 3 * (((retryP (toP l0) f arg fuel tr wt fa mo).2.2.1).length : Int) < 0))) ha (zK (op := (Op.binOp BinOp.lss 3 (Operand.tmp 156) (Operand.const (Value.int IntKind.i64 0)) 3)) (d := some 157) (ty := 4)) (by kernel_rfl) (fun _ => by kernel_rfl)).as (by rw [decide_eq_false (by omega)])) fun a ha => ?_
 refine jK (jQ ?_)
 refine jH ha rfl rfl ?_
 refine wp_skip (jQ (wp_seq (wp_seq (jZ [0, 1, 2] (jY [(0, 158, iv (1 + 3 * (((retryP (toP l0) f arg fuel tr wt fa mo).2.2.1).length : Int))), (1, 159, iv (1 + 3 * (((retryP (toP l0) f arg fuel tr wt fa mo).2.2.1).length : Int)))] ha fun a ha => ?_)))))
 refine yW (.bool false) ha ((qV (v := .bool (!(decide (1 + 3 * (((retryP (toP l0) f arg fuel tr wt fa mo).2.2.1).length : Int) = 1 + 3 * (((retryP (toP l0) f arg fuel tr wt fa mo).2.2.1).length : Int))))) ha (zK (op := (Op.binOp BinOp.neq 3 (Operand.tmp 158) (Operand.tmp 159) 3)) (d := some 160) (ty := 4)) (by kernel_rfl) (fun _ => by kernel_rfl)).as (by simp)) fun a ha => ?_
 refine jK (jQ ?_)
 refine jH ha rfl rfl ?_
 refine wp_skip (jQ (wp_seq (jZ [0] (jY [(0, 10, .bool true)] ha fun a ha => ?_))))
 refine jK (jQ (wp_ret (qH ha (by kernel_rfl) (xG (t := 10) ha rfl) ?_)))
 exact ⟨rfl, hS.below⟩
end Go.Proofs.Ytggahaddkoifkaa.G
end
