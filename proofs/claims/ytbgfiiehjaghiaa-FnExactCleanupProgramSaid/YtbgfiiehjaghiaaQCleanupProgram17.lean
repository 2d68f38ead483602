/- What the claim FnExactCleanupProgram rests on, part 17 of 18; the last part proves it: for every input the law answers true, and its arguments read behind the call as before it. No condition. -/
import Derived.Test.YtbgfiiehjaghiaaQCleanupProgram7
import Derived.Test.YtbgfiiehjaghiaaQCleanupProgram8
import Derived.Test.YtbgfiiehjaghiaaQCleanupProgram13
import Derived.Test.YtbgfiiehjaghiaaQCleanupProgram14
import Derived.Test.YtbgfiiehjaghiaaQCleanupProgram16
set_option linter.unusedSimpArgs false
set_option linter.unusedVariables false
set_option maxRecDepth 20000
set_option maxHeartbeats 1000000
namespace Go.Proofs.Ytbgfiiehjaghiaa
namespace SX
open Go.RowKit Go.Proofs.Ytbgfiiehjaghiaa.G Go.Proofs.YtbgfiiehjaghiaaW.PrintWords Go.Proofs.YtbgfiiehjaghiaaW.PrintLast Go.Proofs.YtbgfiiehjaghiaaW.PrintMore
section
variable {w0 w : World} {Rs : List Asn}
theorem drawn_sat (hS : Sat w0 w Rs) {w' : World} (h : Drawn0 w w') : Sat w0 w' Rs := by
 obtain ⟨q, rfl⟩ := h.out
 exact hS.grows ⟨rfl, rfl, rfl, Nat.le_refl _, fun _ _ => rfl⟩
def inB (x lo hi : Int) : Bool := decide (lo ≤ x) && decide (x ≤ hi)
theorem in_sat (hS : Sat w0 w Rs) (x lo hi : Int) : Calls Try.prog 69 #[.int .i64 x, .int .i64 lo, .int .i64 hi] w (Ret fun r w' => r = .bool (inB x lo hi) ∧ Sat w0 w' Rs) := by
 refine (impl_in.calls x lo hi _ w (in_eq x lo hi)).mono ?_
 rintro e w' ⟨rfl, hd⟩
 exact ⟨rfl, drawn_sat hS hd⟩
end
end SX
end Go.Proofs.Ytbgfiiehjaghiaa
namespace Go.Proofs.Ytbgfiiehjaghiaa.G
open Go.RowKit Go.Proofs.Ytbgfiiehjaghiaa.SX Go.Proofs.YtbgfiiehjaghiaaW.PrintWords Go.Proofs.YtbgfiiehjaghiaaW.PrintLast Go.Proofs.YtbgfiiehjaghiaaW.PrintMore
theorem q_in {w0 w : World} {Rs : List Asn} (hS : Sat w0 w Rs) (x lo hi : Int) : Calls Try.prog 66 #[.int .i64 x, .int .i64 lo, .int .i64 hi] w (Ret fun r w' => r = .bool (decide (lo ≤ x) && decide (x ≤ hi)) ∧ Sat w0 w' Rs) := by
 refine (spec_l1In.calls x lo hi (decide (lo ≤ x) && decide (x ≤ hi)) w (by unfold spec_l1In.f; by_cases h : lo ≤ x <;> simp [h])).mono ?_
 rintro e w' ⟨rfl, hd⟩
 obtain ⟨q, rfl⟩ := hd.out
 exact ⟨rfl, hS.grows ⟨rfl, rfl, rfl, Nat.le_refl _, fun _ _ => rfl⟩⟩
theorem nil_fits {α : Type} : Fits ([] : List (List α)) := ⟨by simp, by simp [tot]⟩
theorem blkRow {w0 w : World} {Rs : List Asn} (h : Sat w0 w Rs) {b : Nat} {cs : List Value} {T : TypeId} (sz n i : Nat) (hi : Rs[i]? = some (SX.blk b cs T)) (hl : cs.length = n * sz) (hn : n ≤ 1000000) : Sat w0 w (Rs.set i (SX.row (.slice (some ⟨b, 0, none⟩) n n) T sz cs)) := by
 refine h.turn hi _ fun F hF => ⟨fun k => ?_, n, hl, .inr ⟨b, n, cs.toArray, rfl, Nat.zero_le _, hF.2, Nat.le_refl _, by simp only [maxLen]; omega, by simpa using hl, by simp [← hl]⟩⟩
 rw [hF.1 k]
 simp [Value.ownBlock, eq_comm]
theorem prg2 {w0 w : World} {Rs : List Asn} {s z1 z2 : Sl} {l1 l2 : List ST} (h : Sat w0 w (SX.row z1.v 68 3 (encS3 l1) :: SX.row z2.v 68 3 (encS3 l2) :: SX.row s.v 69 1 [z1.v, z2.v] :: Rs)) : Sat w0 w (prg w0.heap.size s [l1, l2] :: Rs) := by
  have h1 := ofRow h
  have h2 := ofRow (h1.perm (List.Perm.swap _ _ _))
  refine Sat.shutS [(z1.v, l1), (z2.v, l2)] rfl (fun x hx => ?_) ?_
  · simp only [List.mem_cons, List.not_mem_nil, or_false] at hx
    rcases hx with rfl | rfl
    · exact ⟨z1, rfl⟩
    · exact ⟨z2, rfl⟩
  · have h3 : Sat w0 w ([kdP w0.heap.size k68 68 z1.v l1, kdP w0.heap.size k68 68 z2.v l2] ++ (SX.row s.v 69 1 [z1.v, z2.v] :: Rs)) := h2.perm (List.Perm.swap _ _ _)
    exact Sat.perm (l1 := jK [kdP w0.heap.size k68 68 z1.v l1, kdP w0.heap.size k68 68 z2.v l2] :: SX.row s.v 69 1 [z1.v, z2.v] :: Rs) h3.merge (List.Perm.swap _ _ _)
def cp4 (n : Int) : List ST := [⟨1, 2, n⟩, ⟨3, 2, 0⟩, ⟨1, 3, -n⟩, ⟨5, 1, 3⟩]
def cpOk (a b : Int) : Bool := inB a 1 32767 && inB b 1 32767
def cleanP (a b : Int) : List (List ST) × Bool := if cpOk a b = true then ([cp4 a ++ cp4 b, [⟨3, 0, 0⟩]], true) else ([], false)
def cpN (a b : Int) (i : Nat) : List ST := if i = 0 then [] else if i = 1 then cp4 a else cp4 a ++ cp4 b
theorem cleanP_yes {a b : Int} (h : cpOk a b = true) : cleanP a b = ([cp4 a ++ cp4 b, [⟨3, 0, 0⟩]], true) := if_pos h
theorem cleanP_no {a b : Int} (h : cpOk a b = false) : cleanP a b = ([], false) := by unfold cleanP; rw [h]; rfl
theorem cpOk_no {a b : Int} (h : inB a 1 32767 = false ∨ inB b 1 32767 = false) : cpOk a b = false := by unfold cpOk; rcases h with h | h <;> rw [h] <;> simp
theorem cpOk_yes {a b : Int} (h : inB a 1 32767 = true) (k : inB b 1 32767 = true) : cpOk a b = true := by unfold cpOk; rw [h, k]; rfl
theorem in_le {x lo hi : Int} (h : inB x lo hi = true) : lo ≤ x ∧ x ≤ hi := by simpa only [inB, Bool.and_eq_true, decide_eq_true_eq] using h
theorem encS3_two (l : List ST) (x y : ST) : encS3 l ++ [.int .i64 x.f0, .int .i64 x.f1, .int .i64 x.f2, .int .i64 y.f0, .int .i64 y.f1, .int .i64 y.f2] = encS3 (l ++ [x, y]) := by simp [encS3, cT]
theorem ix2' {j : Nat} (h : (j : Int) < 2) : j = 0 ∨ j = 1 := by omega
theorem cleanP_fits (a b : Int) : Fits (cleanP a b).1 := by
 unfold cleanP
 split
 · exact ⟨by simp, by simp [tot, cp4]⟩
 · exact nil_fits
theorem code46 : Try.f46.body = some (Code.seq (cr Try.f46 0 false) (Code.seq (Code.seq (cr Try.f46 1 false) (Code.cond (Operand.tmp 13) (Code.seq (cr Try.f46 2 false) Code.ret) Code.skip)) (Code.seq (cr Try.f46 3 false) Code.ret))) := by kernel_rfl
theorem impl_CleanupProgram_sat0 {w0 : World} {xa xb : Int} :
  Calls Try.prog 46 #[.int .i64 xa, .int .i64 xb] w0 (Ret fun r w' => ∃ s : Sl, r = .tuple #[.agg #[s.v], .bool (cleanP xa xb).2] ∧ Sat w0 w' [prg w0.heap.size s (cleanP xa xb).1]) := by
 have hS : Sat w0 w0 [] := Sat.start w0
 refine enter (n := 34) Try.func46 code46 (by kernel_rfl) (Nat.le_of_ble_eq_true rfl) (fun a ha => ?_)
 replace ha : Has 34 [(0, iv xa), (1, iv xb)] a := ha
 refine wp_seq (jY [0, 1] (jU (jH 4 [.slice none 0 0] 28 (ptr · 0) ha hS fun b1 w a hb2 hS ha => ?_)))
 refine jX [(1, 5, .bool false)] ha fun a ha => ?_
 refine jZ (jQ (wp_seq (wp_seq (jY [0, 1, 2, 3, 4, 5, 6, 7] (jX [(0, 6, iv xa)] ha fun a ha => ?_)))))
 refine jU (qQ 7 (vs := [iv xa, iv 1, iv 32767]) ha (in_sat hS _ _ _) fun v3 w a hp4 ha => ?_)
 obtain ⟨rfl, hS⟩ := hp4
 refine jX [(2, 8, .bool (!((inB xa 1 32767)))), (3, 9, .bool (!((inB xa 1 32767))))] ha fun a ha => ?_
 rcases Bool.eq_false_or_eq_true (inB xa 1 32767) with c5 | c5
 ·
  replace ha := ha.turn 7 (.bool true) rfl (congrArg Value.bool c5)
  replace ha := ha.turn 8 (.bool false) rfl (congrArg Value.bool (qZ c5))
  replace ha := ha.turn 9 (.bool false) rfl (congrArg Value.bool (qZ c5))
  have hla := in_le c5
  refine jX [(4, 10, iv xb)] ha fun a ha => ?_
  refine jU (qQ 11 (vs := [iv xb, iv 1, iv 32767]) ha (in_sat hS _ _ _) fun v6 w a hp7 ha => ?_)
  obtain ⟨rfl, hS⟩ := hp7
  refine jX [(6, 12, .bool (!((inB xb 1 32767)))), (7, 13, .bool (!((inB xb 1 32767))))] ha fun a ha => ?_
  refine jZ (jQ ?_)
  rcases Bool.eq_false_or_eq_true (inB xb 1 32767) with c8 | c8
  ·
   have hlb := in_le c8;refine jG ha rfl (qZ c8) ?_;refine wp_skip (jQ (wp_seq (jY [0, 1, 2, 3, 4, 5, 6, 7, 8, 9, 10, 11, 12, 13, 14, 15, 16, 17, 18, 19, 20] (jX [(0, 15, iv xa), (1, 16, .agg #[iv 1, iv 2, iv xa]), (2, 17, .agg #[iv 3, iv 2, iv 0]), (3, 18, iv xa)] ha fun a ha => ?_))));refine qY (iv (-xa)) ha ((jV (v := .int .i64 (IntKind.i64.wrap (0 - xa))) ha (qW (op := (Op.unOp UnOp.neg 3 (Operand.tmp 18))) (d := some 19) (ty := 3)) (by kernel_rfl) (fun _ => by kernel_rfl)).as (by rw [wrap_i64 (by omega) (by omega)]; exact congrArg _ (by omega))) fun a ha => ?_;refine jX [(5, 20, .agg #[iv 1, iv 3, iv (-xa)]), (6, 21, .agg #[iv 5, iv 1, iv 3]), (7, 22, iv xb), (8, 23, .agg #[iv 1, iv 2, iv xb]), (9, 24, .agg #[iv 3, iv 2, iv 0]), (10, 25, iv xb)] ha fun a ha => ?_;refine qY (iv (-xb)) ha ((jV (v := .int .i64 (IntKind.i64.wrap (0 - xb))) ha (qW (op := (Op.unOp UnOp.neg 3 (Operand.tmp 25))) (d := some 26) (ty := 3)) (by kernel_rfl) (fun _ => by kernel_rfl)).as (by rw [wrap_i64 (by omega) (by omega)]; exact congrArg _ (by omega))) fun a ha => ?_;refine jX [(12, 27, .agg #[iv 1, iv 3, iv (-xb)]), (13, 28, .agg #[iv 5, iv 1, iv 3])] ha fun a ha => ?_;refine jU (jH 29 [iv 1, iv 2, iv xa, iv 3, iv 2, iv 0, iv 1, iv 3, iv (-xa), iv 5, iv 1, iv 3, iv 1, iv 2, iv xb, iv 3, iv 2, iv 0, iv 1, iv 3, iv (-xb), iv 5, iv 1, iv 3] 68 (fun b => .slice (some ⟨b, 0, none⟩) 8 8) ha hS fun b9 w a hb10 hS ha => ?_);refine jX [(15, 30, .agg #[iv 3, iv 0, iv 0])] ha fun a ha => ?_;refine jU (jH 31 [iv 3, iv 0, iv 0] 68 (fun b => .slice (some ⟨b, 0, none⟩) 1 1) ha hS fun b11 w a hb12 hS ha => ?_);refine jU (jH 32 [.slice (some ⟨b9, 0, none⟩) 8 8, .slice (some ⟨b11, 0, none⟩) 1 1] 69 (fun b => .slice (some ⟨b, 0, none⟩) 2 2) ha hS fun b13 w a hb14 hS ha => ?_);refine jX [(18, 33, .agg #[.slice (some ⟨b13, 0, none⟩) 2 2])] ha fun a ha => ?_;refine jU (o_sa 3 ha (xJ (t := 28) (x := 4) (y := 33)) hS fun w a hS ha => ?_);refine jX [(20, 5, .bool true)] ha fun a ha => ?_;refine jZ ?_;replace ha := ha.as [(4, ptr b1 0), (5, .bool true)] rfl;refine jQ (wp_ret (qJ ha (by kernel_rfl) (xX (t := 4) (ty := 28) (i := 3) ha rfl hS rfl (by kernel_rfl)) (qV (t := 5) ha rfl) ?_));rw [cleanP_yes (cpOk_yes c5 c8)];replace hS := hS.pickN 4 [2, 1, 0];have hA := blkRow hS 3 8 0 rfl rfl (by decide);have hB := blkRow hA 3 1 1 rfl rfl (by decide);have hC := blkRow hB 1 2 2 rfl rfl (by decide);exact ⟨⟨some ⟨b13, 0, none⟩, 2, 2⟩, rfl, prg2 (z1 := ⟨some ⟨b9, 0, none⟩, 8, 8⟩) (z2 := ⟨some ⟨b11, 0, none⟩, 1, 1⟩) (l1 := cp4 xa ++ cp4 xb) (l2 := [⟨3, 0, 0⟩]) hC⟩
  refine qX ha rfl (qK c8) ?_
  refine wp_seq (jY [0, 1, 2] (jX [(0, 14, .agg #[.slice none 0 0])] ha fun a ha => ?_))
  refine jU (o_sa 0 ha (xJ (t := 28) (x := 4) (y := 14)) hS fun w a hS ha => ?_)
  refine jX [(2, 5, .bool false)] ha fun a ha => ?_
  refine jZ (jQ (wp_ret (qG (qJ ha (by kernel_rfl) (xX (t := 4) (ty := 28) (i := 0) ha rfl hS rfl (by kernel_rfl)) (qV (t := 5) ha rfl) ?_))))
  rw [cleanP_no (cpOk_no (.inr c8))]
  exact ⟨⟨none, 0, 0⟩, rfl, nilPrg (Sat.rest [_] hS)⟩
 replace ha := ha.turn 7 (.bool false) rfl (congrArg Value.bool c5)
 replace ha := ha.turn 8 (.bool true) rfl (congrArg Value.bool (qK c5))
 replace ha := ha.turn 9 (.bool true) rfl (congrArg Value.bool (qK c5))
 refine jX [(4, 10, undef), (5, 11, undef), (6, 12, undef), (7, 13, .bool true)] ha fun a ha => ?_
 refine jZ (jQ ?_)
 refine qX ha rfl rfl ?_
 refine wp_seq (jY [0, 1, 2] (jX [(0, 14, .agg #[.slice none 0 0])] ha fun a ha => ?_))
 refine jU (o_sa 0 ha (xJ (t := 28) (x := 4) (y := 14)) hS fun w a hS ha => ?_)
 refine jX [(2, 5, .bool false)] ha fun a ha => ?_
 refine jZ (jQ (wp_ret (qG (qJ ha (by kernel_rfl) (xX (t := 4) (ty := 28) (i := 0) ha rfl hS rfl (by kernel_rfl)) (qV (t := 5) ha rfl) ?_))))
 rw [cleanP_no (cpOk_no (.inl c5))]
 exact ⟨⟨none, 0, 0⟩, rfl, nilPrg (Sat.rest [_] hS)⟩
theorem impl_CleanupProgram_sat {w0 w : World} {Rs : List Asn} {xa xb : Int} (hS : Sat w0 w Rs) :
  Calls Try.prog 46 #[.int .i64 xa, .int .i64 xb] w (Ret fun r w' => ∃ s : Sl, r = .tuple #[.agg #[s.v], .bool (cleanP xa xb).2] ∧ Sat w0 w' (prg w0.heap.size s (cleanP xa xb).1 :: Rs)) := liftPB hS impl_CleanupProgram_sat0
theorem code45 : Try.f45.body = some (Code.seq (cr Try.f45 0 false) (Code.seq (Code.seq (cr Try.f45 1 false) (Code.cond (Operand.tmp 16) (Code.seq (cr Try.f45 2 false) Code.ret) Code.skip)) (Code.seq (cr Try.f45 3 false) (Code.seq (Code.seq (cr Try.f45 4 false) (Code.block 0 (Code.loop (Code.seq (Code.seq (cr Try.f45 5 false) (Code.cond (Operand.tmp 20) Code.skip (Code.exit 0))) (Code.seq (Code.block 1 (Code.seq (cr Try.f45 7 false) (Code.seq (cr Try.f45 8 false) (cr Try.f45 9 false)))) (cr Try.f45 6 false)))))) (Code.seq (cr Try.f45 10 false) Code.ret))))) := by kernel_rfl
theorem spec_CleanupProgram_sat0 {w0 : World} {xa xb : Int} :
  Calls Try.prog 45 #[.int .i64 xa, .int .i64 xb] w0 (Ret fun r w' => ∃ s : Sl, r = .tuple #[.agg #[s.v], .bool (cleanP xa xb).2] ∧ Sat w0 w' [prg w0.heap.size s (cleanP xa xb).1]) := by
 have hS : Sat w0 w0 [] := Sat.start w0
 refine enter (n := 46) Try.func45 code45 (by kernel_rfl) (Nat.le_of_ble_eq_true rfl) (fun a ha => ?_)
 replace ha : Has 46 [(0, iv xa), (1, iv xb)] a := ha
 refine wp_seq (jY [0, 1] (jU (jH 4 [.slice none 0 0] 28 (ptr · 0) ha hS fun b1 w a hb2 hS ha => ?_)))
 refine jX [(1, 5, .bool false)] ha fun a ha => ?_
 refine jZ (jQ (wp_seq (wp_seq (jY [0, 1, 2, 3, 4, 5, 6, 7] (jX [(0, 9, iv xa)] ha fun a ha => ?_)))))
 refine jU (qQ 10 (vs := [iv xa, iv 1, iv 32767]) ha (q_in hS _ _ _) fun v3 w a hp4 ha => ?_)
 obtain ⟨rfl, hS⟩ := hp4
 refine jX [(2, 11, .bool (!((inB xa 1 32767)))), (3, 12, .bool (!((inB xa 1 32767))))] ha fun a ha => ?_
 rcases Bool.eq_false_or_eq_true (inB xa 1 32767) with c5 | c5
 ·
  replace ha := ha.turn 10 (.bool true) rfl (congrArg Value.bool c5)
  replace ha := ha.turn 11 (.bool false) rfl (congrArg Value.bool (qZ c5))
  replace ha := ha.turn 12 (.bool false) rfl (congrArg Value.bool (qZ c5))
  have hla := in_le c5
  refine jX [(4, 13, iv xb)] ha fun a ha => ?_
  refine jU (qQ 14 (vs := [iv xb, iv 1, iv 32767]) ha (q_in hS _ _ _) fun v6 w a hp7 ha => ?_)
  obtain ⟨rfl, hS⟩ := hp7
  refine jX [(6, 15, .bool (!((inB xb 1 32767)))), (7, 16, .bool (!((inB xb 1 32767))))] ha fun a ha => ?_
  refine jZ (jQ ?_)
  rcases Bool.eq_false_or_eq_true (inB xb 1 32767) with c8 | c8
  ·
   have hlb := in_le c8;refine jG ha rfl (qZ c8) ?_;refine wp_skip (jQ (wp_seq (jY [0, 1] (jU (jH 18 [] 68 (fun b => .slice (some ⟨b, 0, none⟩) 0 0) ha hS fun b9 w a hb10 hS ha => ?_)))));refine jX [(1, 6, .slice (some ⟨b9, 0, none⟩) 0 0)] ha fun a ha => ?_;refine jZ (jQ (wp_seq (wp_seq (jY [0] (jX [(0, 7, iv 0)] ha fun a ha => ?_)))));refine jZ (jQ (wp_block ?_));replace hS := hS.blk0 3 0 rfl;replace hS := hS.pickN 2 [1, 0];replace hS : Sat w0 w ((SX.blk b1 [.slice none 0 0] 28) :: (SX.row (.slice ((⟨some ⟨b9, 0, none⟩, 0, 0⟩ : Sl).A) ((⟨some ⟨b9, 0, none⟩, 0, 0⟩ : Sl).n) ((⟨some ⟨b9, 0, none⟩, 0, 0⟩ : Sl).c)) 68 3 (encS3 (cpN xa xb 0))) :: []) := hS;refine wp_loop_ghost (fun n_ a_ w_ => ∃ (j : Nat) (o : Sl), n_ = 2 - j ∧ (j ≤ 2) ∧ Has 46 [(0, iv xa), (1, iv xb), (4, ptr b1 0), (5, .bool false), (6, .slice o.A o.n o.c), (7, iv (j : Int))] a_ ∧ Sat w0 w_ ((SX.blk b1 [.slice none 0 0] 28) :: (SX.row (.slice o.A o.n o.c) 68 3 (encS3 (cpN xa xb j))) :: [])) _ ⟨0, ⟨some ⟨b9, 0, none⟩, 0, 0⟩, rfl, Nat.zero_le _, ha.keeps [0, 1, 4, 5, 6, 7] _ rfl, hS⟩ ?_
   rintro n_ a w ⟨j, o, rfl, hj, ha, hS⟩
   refine wp_seq (wp_seq (jY [0, 1] (jX [(0, 19, iv (j : Int)), (1, 20, .bool (decide ((j : Int) < 2)))] ha fun a ha => ?_)));refine jZ (jQ ?_)
   by_cases c11 : (j : Int) < 2
   ·
    rcases ix2' c11 with rfl | rfl
    ·
     replace ha := ha.turn 7 (iv 0) rfl rfl;refine qX ha rfl (decide_eq_true c11) ?_;refine wp_skip (jQ (wp_seq (wp_block (wp_seq (jY [0, 1, 2, 3, 4, 5] (jX [(0, 23, iv xa), (1, 24, iv xb), (2, 25, .agg #[iv xa, iv xb]), (3, 26, iv 0), (4, 27, iv xa), (5, 8, iv xa)] ha fun a ha => ?_))))));refine jZ (jQ (wp_seq (jY [0, 1, 2, 3, 4, 5, 6] (jX [(0, 28, .slice o.A o.n o.c), (1, 29, iv xa), (2, 30, .agg #[iv 1, iv 2, iv xa]), (3, 31, .agg #[iv 3, iv 2, iv 0])] ha fun a ha => ?_))));refine jU (jH 32 [iv 1, iv 2, iv xa, iv 3, iv 2, iv 0] 68 (fun b => .slice (some ⟨b, 0, none⟩) 2 2) ha hS fun b12 w a hb13 hS ha => ?_);refine jU (xQ (news := [iv 1, iv 2, iv xa, iv 3, iv 2, iv 0]) (z := .agg #[iv 0, iv 0, iv 0]) (sz := 3) (bytes := 24) (T2 := 68) (xs' := encS3 ((cpN xa xb 0) ++ [(⟨1, 2, xa⟩ : ST), (⟨3, 2, 0⟩ : ST)])) 2 0 ha (by decide) (qW (op := (Op.call { callee := (Callee.builtin Builtin.append), args := #[(Operand.tmp 28), (Operand.tmp 32)], argTypes := #[69, 69] })) (d := some 33) (ty := 69)) rfl rfl (by kernel_rfl) (by kernel_rfl) rfl (by decide) hS rfl rfl (by simp) rfl (by rw [encS3_length]; simp [cpN, cp4]) (by decide) (encS3_two _ (⟨1, 2, xa⟩ : ST) (⟨3, 2, 0⟩ : ST)) fun s17 w a hS hn18 ha => ?_);refine jX [(6, 6, .slice s17.A s17.n s17.c)] ha fun a ha => ?_;refine jZ (jQ (jY [0, 1, 2, 3, 4, 5, 6, 7] (jX [(0, 34, .slice s17.A s17.n s17.c), (1, 35, iv xa)] ha fun a ha => ?_)));refine qY (iv (-xa)) ha ((jV (v := .int .i64 (IntKind.i64.wrap (0 - xa))) ha (qW (op := (Op.unOp UnOp.neg 3 (Operand.tmp 35))) (d := some 36) (ty := 3)) (by kernel_rfl) (fun _ => by kernel_rfl)).as (by rw [wrap_i64 (by omega) (by omega)]; exact congrArg _ (by omega))) fun a ha => ?_;refine jX [(3, 37, .agg #[iv 1, iv 3, iv (-xa)]), (4, 38, .agg #[iv 5, iv 1, iv 3])] ha fun a ha => ?_;refine jU (jH 39 [iv 1, iv 3, iv (-xa), iv 5, iv 1, iv 3] 68 (fun b => .slice (some ⟨b, 0, none⟩) 2 2) ha hS fun b19 w a hb20 hS ha => ?_);refine jU (xQ (news := [iv 1, iv 3, iv (-xa), iv 5, iv 1, iv 3]) (z := .agg #[iv 0, iv 0, iv 0]) (sz := 3) (bytes := 24) (T2 := 68) (xs' := encS3 (((cpN xa xb 0) ++ [(⟨1, 2, xa⟩ : ST), (⟨3, 2, 0⟩ : ST)]) ++ [(⟨1, 3, -xa⟩ : ST), (⟨5, 1, 3⟩ : ST)])) 3 0 ha (by decide) (qW (op := (Op.call { callee := (Callee.builtin Builtin.append), args := #[(Operand.tmp 34), (Operand.tmp 39)], argTypes := #[69, 69] })) (d := some 40) (ty := 69)) rfl rfl (by kernel_rfl) (by kernel_rfl) rfl (by decide) hS rfl rfl (by simp) rfl (by rw [encS3_length]; simp [cpN, cp4]) (by decide) (encS3_two _ (⟨1, 3, -xa⟩ : ST) (⟨5, 1, 3⟩ : ST)) fun s24 w a hS hn25 ha => ?_);refine jX [(7, 6, .slice s24.A s24.n s24.c)] ha fun a ha => ?_;refine jZ (in_n (jQ (jY [0, 1, 2] (jX [(0, 21, iv 0), (1, 22, iv 1), (2, 7, iv 1)] ha fun a ha => ?_))));refine jZ (jQ ?_);replace hS := hS.pickN 4 [2, 3];replace hS : Sat w0 w ((SX.blk b1 [.slice none 0 0] 28) :: (SX.row (.slice s24.A s24.n s24.c) 68 3 (encS3 (cpN xa xb (0 + 1)))) :: []) := hS;exact ⟨_, by omega, 0 + 1, s24, rfl, by omega, ha.keeps [0, 1, 4, 5, 6, 7] _ rfl, hS⟩
    replace ha := ha.turn 7 (iv 1) rfl rfl;refine qX ha rfl (decide_eq_true c11) ?_;refine wp_skip (jQ (wp_seq (wp_block (wp_seq (jY [0, 1, 2, 3, 4, 5] (jX [(0, 23, iv xa), (1, 24, iv xb), (2, 25, .agg #[iv xa, iv xb]), (3, 26, iv 1), (4, 27, iv xb), (5, 8, iv xb)] ha fun a ha => ?_))))));refine jZ (jQ (wp_seq (jY [0, 1, 2, 3, 4, 5, 6] (jX [(0, 28, .slice o.A o.n o.c), (1, 29, iv xb), (2, 30, .agg #[iv 1, iv 2, iv xb]), (3, 31, .agg #[iv 3, iv 2, iv 0])] ha fun a ha => ?_))));refine jU (jH 32 [iv 1, iv 2, iv xb, iv 3, iv 2, iv 0] 68 (fun b => .slice (some ⟨b, 0, none⟩) 2 2) ha hS fun b26 w a hb27 hS ha => ?_);refine jU (xQ (news := [iv 1, iv 2, iv xb, iv 3, iv 2, iv 0]) (z := .agg #[iv 0, iv 0, iv 0]) (sz := 3) (bytes := 24) (T2 := 68) (xs' := encS3 ((cpN xa xb 1) ++ [(⟨1, 2, xb⟩ : ST), (⟨3, 2, 0⟩ : ST)])) 2 0 ha (by decide) (qW (op := (Op.call { callee := (Callee.builtin Builtin.append), args := #[(Operand.tmp 28), (Operand.tmp 32)], argTypes := #[69, 69] })) (d := some 33) (ty := 69)) rfl rfl (by kernel_rfl) (by kernel_rfl) rfl (by decide) hS rfl rfl (by simp) rfl (by rw [encS3_length]; simp [cpN, cp4]) (by decide) (encS3_two _ (⟨1, 2, xb⟩ : ST) (⟨3, 2, 0⟩ : ST)) fun s31 w a hS hn32 ha => ?_);refine jX [(6, 6, .slice s31.A s31.n s31.c)] ha fun a ha => ?_;refine jZ (jQ (jY [0, 1, 2, 3, 4, 5, 6, 7] (jX [(0, 34, .slice s31.A s31.n s31.c), (1, 35, iv xb)] ha fun a ha => ?_)));refine qY (iv (-xb)) ha ((jV (v := .int .i64 (IntKind.i64.wrap (0 - xb))) ha (qW (op := (Op.unOp UnOp.neg 3 (Operand.tmp 35))) (d := some 36) (ty := 3)) (by kernel_rfl) (fun _ => by kernel_rfl)).as (by rw [wrap_i64 (by omega) (by omega)]; exact congrArg _ (by omega))) fun a ha => ?_;refine jX [(3, 37, .agg #[iv 1, iv 3, iv (-xb)]), (4, 38, .agg #[iv 5, iv 1, iv 3])] ha fun a ha => ?_;refine jU (jH 39 [iv 1, iv 3, iv (-xb), iv 5, iv 1, iv 3] 68 (fun b => .slice (some ⟨b, 0, none⟩) 2 2) ha hS fun b33 w a hb34 hS ha => ?_);refine jU (xQ (news := [iv 1, iv 3, iv (-xb), iv 5, iv 1, iv 3]) (z := .agg #[iv 0, iv 0, iv 0]) (sz := 3) (bytes := 24) (T2 := 68) (xs' := encS3 (((cpN xa xb 1) ++ [(⟨1, 2, xb⟩ : ST), (⟨3, 2, 0⟩ : ST)]) ++ [(⟨1, 3, -xb⟩ : ST), (⟨5, 1, 3⟩ : ST)])) 3 0 ha (by decide) (qW (op := (Op.call { callee := (Callee.builtin Builtin.append), args := #[(Operand.tmp 34), (Operand.tmp 39)], argTypes := #[69, 69] })) (d := some 40) (ty := 69)) rfl rfl (by kernel_rfl) (by kernel_rfl) rfl (by decide) hS rfl rfl (by simp) rfl (by rw [encS3_length]; simp [cpN, cp4]) (by decide) (encS3_two _ (⟨1, 3, -xb⟩ : ST) (⟨5, 1, 3⟩ : ST)) fun s38 w a hS hn39 ha => ?_);refine jX [(7, 6, .slice s38.A s38.n s38.c)] ha fun a ha => ?_;refine jZ (in_n (jQ (jY [0, 1, 2] (jX [(0, 21, iv 1), (1, 22, iv 2), (2, 7, iv 2)] ha fun a ha => ?_))));refine jZ (jQ ?_);replace hS := hS.pickN 4 [2, 3];replace hS : Sat w0 w ((SX.blk b1 [.slice none 0 0] 28) :: (SX.row (.slice s38.A s38.n s38.c) 68 3 (encS3 (cpN xa xb (1 + 1)))) :: []) := hS;exact ⟨_, by omega, 1 + 1, s38, rfl, by omega, ha.keeps [0, 1, 4, 5, 6, 7] _ rfl, hS⟩
   obtain rfl : j = 2 := by omega
   refine jG ha rfl (decide_eq_false c11) ?_;refine wp_exit (qH (qH (in_x (jQ (wp_seq (jY [0, 1, 2, 3, 4, 5, 6] (jX [(0, 41, .slice o.A o.n o.c), (1, 42, .agg #[iv 3, iv 0, iv 0])] ha fun a ha => ?_)))))));refine jU (jH 43 [iv 3, iv 0, iv 0] 68 (fun b => .slice (some ⟨b, 0, none⟩) 1 1) ha hS fun b40 w a hb41 hS ha => ?_);refine jU (jH 44 [.slice o.A o.n o.c, .slice (some ⟨b40, 0, none⟩) 1 1] 69 (fun b => .slice (some ⟨b, 0, none⟩) 2 2) ha hS fun b42 w a hb43 hS ha => ?_);refine jX [(4, 45, .agg #[.slice (some ⟨b42, 0, none⟩) 2 2])] ha fun a ha => ?_;refine jU (o_sa 2 ha (xJ (t := 28) (x := 4) (y := 45)) hS fun w a hS ha => ?_);refine jX [(6, 5, .bool true)] ha fun a ha => ?_;refine jZ ?_;replace ha := ha.as [(4, ptr b1 0), (5, .bool true)] rfl;refine jQ (wp_ret (qJ ha (by kernel_rfl) (xX (t := 4) (ty := 28) (i := 2) ha rfl hS rfl (by kernel_rfl)) (qV (t := 5) ha rfl) ?_));rw [cleanP_yes (cpOk_yes c5 c8)];replace hS := hS.pickN 4 [3, 1, 0];have hB := blkRow hS 3 1 1 rfl rfl (by decide);have hC := blkRow hB 1 2 2 rfl rfl (by decide);exact ⟨⟨some ⟨b42, 0, none⟩, 2, 2⟩, rfl, prg2 (z1 := o) (z2 := ⟨some ⟨b40, 0, none⟩, 1, 1⟩) (l1 := cp4 xa ++ cp4 xb) (l2 := [⟨3, 0, 0⟩]) hC⟩
  refine qX ha rfl (qK c8) ?_
  refine wp_seq (jY [0, 1, 2] (jX [(0, 17, .agg #[.slice none 0 0])] ha fun a ha => ?_))
  refine jU (o_sa 0 ha (xJ (t := 28) (x := 4) (y := 17)) hS fun w a hS ha => ?_)
  refine jX [(2, 5, .bool false)] ha fun a ha => ?_
  refine jZ (jQ (wp_ret (qG (qJ ha (by kernel_rfl) (xX (t := 4) (ty := 28) (i := 0) ha rfl hS rfl (by kernel_rfl)) (qV (t := 5) ha rfl) ?_))))
  rw [cleanP_no (cpOk_no (.inr c8))]
  exact ⟨⟨none, 0, 0⟩, rfl, nilPrg (Sat.rest [_] hS)⟩
 replace ha := ha.turn 10 (.bool false) rfl (congrArg Value.bool c5)
 replace ha := ha.turn 11 (.bool true) rfl (congrArg Value.bool (qK c5))
 replace ha := ha.turn 12 (.bool true) rfl (congrArg Value.bool (qK c5))
 refine jX [(4, 13, undef), (5, 14, undef), (6, 15, undef), (7, 16, .bool true)] ha fun a ha => ?_
 refine jZ (jQ ?_)
 refine qX ha rfl rfl ?_
 refine wp_seq (jY [0, 1, 2] (jX [(0, 17, .agg #[.slice none 0 0])] ha fun a ha => ?_))
 refine jU (o_sa 0 ha (xJ (t := 28) (x := 4) (y := 17)) hS fun w a hS ha => ?_)
 refine jX [(2, 5, .bool false)] ha fun a ha => ?_
 refine jZ (jQ (wp_ret (qG (qJ ha (by kernel_rfl) (xX (t := 4) (ty := 28) (i := 0) ha rfl hS rfl (by kernel_rfl)) (qV (t := 5) ha rfl) ?_))))
 rw [cleanP_no (cpOk_no (.inl c5))]
 exact ⟨⟨none, 0, 0⟩, rfl, nilPrg (Sat.rest [_] hS)⟩
theorem spec_CleanupProgram_sat {w0 w : World} {Rs : List Asn} {xa xb : Int} (hS : Sat w0 w Rs) :
  Calls Try.prog 45 #[.int .i64 xa, .int .i64 xb] w (Ret fun r w' => ∃ s : Sl, r = .tuple #[.agg #[s.v], .bool (cleanP xa xb).2] ∧ Sat w0 w' (prg w0.heap.size s (cleanP xa xb).1 :: Rs)) := liftPB hS spec_CleanupProgram_sat0
theorem code12 : Try.f12.body = some (Code.seq (cr Try.f12 0 false) (Code.seq (cr Try.f12 1 false) (Code.seq (cr Try.f12 2 false) (Code.seq (Code.seq (cr Try.f12 3 false) (Code.cond (Operand.tmp 33) (Code.seq (cr Try.f12 4 false) Code.ret) Code.skip)) (Code.seq (cr Try.f12 5 false) (Code.seq (cr Try.f12 6 false) (Code.seq (cr Try.f12 7 false) (Code.seq (cr Try.f12 8 false) (Code.seq (Code.seq (cr Try.f12 9 false) (Code.cond (Operand.tmp 41) (Code.seq (cr Try.f12 10 false) Code.ret) Code.skip)) (Code.seq (Code.seq (cr Try.f12 11 false) (Code.cond (Operand.tmp 44) (Code.seq (cr Try.f12 12 false) Code.ret) Code.skip)) (Code.seq (cr Try.f12 13 false) (Code.seq (Code.seq (cr Try.f12 14 false) (Code.cond (Operand.tmp 59) (Code.seq (cr Try.f12 15 false) Code.ret) Code.skip)) (Code.seq (cr Try.f12 16 false) (Code.seq (cr Try.f12 17 false) (Code.seq (Code.seq (cr Try.f12 18 false) (Code.cond (Operand.tmp 64) (Code.seq (cr Try.f12 19 false) Code.ret) Code.skip)) (Code.seq (Code.seq (cr Try.f12 20 false) (Code.cond (Operand.tmp 67) (Code.seq (cr Try.f12 21 false) Code.ret) Code.skip)) (Code.seq (cr Try.f12 22 false) Code.ret))))))))))))))))) := by kernel_rfl
theorem law12_walk (w0 : World) (xa xb : Int) :
  Calls Try.prog 12 #[iv xa, iv xb] w0 (Ret fun r w' => r = .bool true ∧ Below w0.heap.size w0 w') := by
 have hS : Sat w0 w0 [] := Sat.start w0
 have hfr : Fits (cleanP xa xb).1 := cleanP_fits xa xb
 refine enter (n := 68) Try.func12 code12 (by kernel_rfl) (Nat.le_of_ble_eq_true rfl) (fun a ha => ?_)
 replace ha : Has 68 [(0, iv xa), (1, iv xb)] a := ha
 refine wp_seq (jY [0] (jX [(0, 4, .bool false)] ha fun a ha => ?_))
 refine jZ (jQ (wp_seq (jY [0, 1, 2, 3, 4, 5, 6, 7, 8] (jX [(0, 14, iv xa), (1, 15, iv xb)] ha fun a ha => ?_))))
 refine jU (qQ 16 (vs := [iv xa, iv xb]) ha (spec_CleanupProgram_sat hS) fun v1 w a hp2 ha => ?_)
 obtain ⟨s1, rfl, hS⟩ := hp2
 refine jX [(3, 13, .tuple #[.agg #[.slice s1.A s1.n s1.c], .bool ((cleanP xa xb).2)]), (4, 17, .agg #[.slice s1.A s1.n s1.c]), (5, 18, .bool ((cleanP xa xb).2))] ha fun a ha => ?_
 refine jU (jH 5 [.slice none 0 0] 28 (ptr · 0) ha hS fun b3 w a hb4 hS ha => ?_)
 refine jU (o_sa 0 ha (xJ (t := 28) (x := 5) (y := 17)) hS fun w a hS ha => ?_)
 refine jX [(8, 6, .bool ((cleanP xa xb).2))] ha fun a ha => ?_
 refine jZ (jQ (wp_seq (jY [0, 1, 2, 3, 4, 5, 6, 7, 8] (jX [(0, 20, iv xa), (1, 21, iv xb)] ha fun a ha => ?_))))
 refine jU (qQ 22 (vs := [iv xa, iv xb]) ha (impl_CleanupProgram_sat hS) fun v5 w a hp6 ha => ?_)
 obtain ⟨s2, rfl, hS⟩ := hp6
 refine jX [(3, 19, .tuple #[.agg #[.slice s2.A s2.n s2.c], .bool ((cleanP xa xb).2)]), (4, 23, .agg #[.slice s2.A s2.n s2.c]), (5, 24, .bool ((cleanP xa xb).2))] ha fun a ha => ?_
 refine jU (jH 7 [.slice none 0 0] 28 (ptr · 0) ha hS fun b7 w a hb8 hS ha => ?_)
 refine jU (o_sa 0 ha (xJ (t := 28) (x := 7) (y := 23)) hS fun w a hS ha => ?_)
 refine jX [(8, 8, .bool ((cleanP xa xb).2))] ha fun a ha => ?_
 refine jZ (jQ (wp_seq (wp_seq (jY [0, 1, 2, 3, 4, 5, 6, 7, 8] (qU 25 ha (hS.blk 0 rfl) fun a ha => ?_)))))
 refine qU 26 ha (hS.blk 2 rfl) fun a ha => ?_
 refine jU (qQ 27 (vs := [.agg #[.slice s2.A s2.n s2.c], .agg #[.slice s1.A s1.n s1.c]]) ha (eqProgram_sat hS (hS.rdS 1 rfl) (hS.rdS 3 rfl) hfr) fun v9 w a hp10 ha => ?_)
 obtain ⟨rfl, hS⟩ := hp10
 refine jX [(3, 28, .bool false), (4, 29, .bool false), (5, 30, .bool ((cleanP xa xb).2)), (6, 31, .bool ((cleanP xa xb).2))] ha fun a ha => ?_
 refine qY (.bool false) ha ((jV (v := .bool (!(((cleanP xa xb).2) == ((cleanP xa xb).2)))) ha (AtG.here (gd := 29) ⟨(by kernel_rfl : ((jW Try.f12 3)[7]?).map spec = some ((Op.binOp BinOp.neq 4 (Operand.tmp 30) (Operand.tmp 31) 4), some 32, 4, some (4, false))), by kernel_rfl⟩ ha rfl) (by kernel_rfl) (fun _ => by kernel_rfl)).as (by simp)) fun a ha => ?_
 refine jX [(8, 33, .bool false)] ha fun a ha => ?_
 refine jZ ?_
 replace ha := ha.as [(0, iv xa), (1, iv xb), (4, .bool false), (5, ptr b3 0), (6, .bool ((cleanP xa xb).2)), (7, ptr b7 0), (33, .bool false)] rfl
 refine jQ ?_
 refine jG ha rfl rfl ?_
 refine wp_skip (jQ (wp_seq (jY [0] (jX [(0, 9, iv 1)] ha fun a ha => ?_))))
 refine jZ (jQ (wp_seq (jY [0, 1, 2, 3] (qU 34 ha (hS.blk 0 rfl) fun a ha => ?_))))
 refine jX [(1, 35, iv 1)] ha fun a ha => ?_
 replace hS := hS.pickN 4 [1, 0, 2, 3]
 refine jU (qQ 36 (vs := [.agg #[.slice s2.A s2.n s2.c], iv 1]) ha (markProgram_sat hS hfr (by omega) (by omega)) fun v11 w a hp12 ha => ?_)
 obtain ⟨rfl, hS⟩ := hp12
 refine jX [(3, 9, iv (1 + 3 * (tot ((cleanP xa xb).1) : Int)))] ha fun a ha => ?_
 refine jZ (jQ (wp_seq (jY [0] (jX [(0, 10, iv 1)] ha fun a ha => ?_))))
 refine jZ (jQ (wp_seq (jY [0, 1, 2, 3] (qU 37 ha (hS.blk 1 rfl) fun a ha => ?_))))
 refine jX [(1, 38, iv 1)] ha fun a ha => ?_
 refine jU (qQ 39 (vs := [.agg #[.slice s2.A s2.n s2.c], iv 1]) ha (heldProgram_sat hS (hS.rdS 0 rfl) hfr) fun v13 w a hp14 ha => ?_)
 obtain ⟨rfl, hS⟩ := hp14
 refine jX [(3, 10, iv (1 + 3 * (tot ((cleanP xa xb).1) : Int)))] ha fun a ha => ?_
 refine jZ (jQ (wp_seq (wp_seq (jY [0, 1] (jX [(0, 40, iv (1 + 3 * (tot ((cleanP xa xb).1) : Int)))] ha fun a ha => ?_)))))
 refine qY (.bool false) ha ((jV (v := .bool (decide (1 + 3 * (tot ((cleanP xa xb).1) : Int) < 0))) ha (qW (op := (Op.binOp BinOp.lss 3 (Operand.tmp 40) (Operand.const (Value.int IntKind.i64 0)) 3)) (d := some 41) (ty := 4)) (by kernel_rfl) (fun _ => by kernel_rfl)).as (by rw [decide_eq_false (by omega)])) fun a ha => ?_
 refine jZ (jQ ?_)
 refine jG ha rfl rfl ?_
 refine wp_skip (jQ (wp_seq (wp_seq (jY [0, 1, 2] (jX [(0, 42, iv (1 + 3 * (tot ((cleanP xa xb).1) : Int))), (1, 43, iv (1 + 3 * (tot ((cleanP xa xb).1) : Int)))] ha fun a ha => ?_)))))
 refine qY (.bool false) ha ((jV (v := .bool (!(decide (1 + 3 * (tot ((cleanP xa xb).1) : Int) = 1 + 3 * (tot ((cleanP xa xb).1) : Int))))) ha (qW (op := (Op.binOp BinOp.neq 3 (Operand.tmp 42) (Operand.tmp 43) 3)) (d := some 44) (ty := 4)) (by kernel_rfl) (fun _ => by kernel_rfl)).as (by simp)) fun a ha => ?_
 refine jZ (jQ ?_)
 refine jG ha rfl rfl ?_
 refine wp_skip (jQ (wp_seq (jY [0, 1, 2, 3, 4, 5, 6, 7, 8] (jX [(0, 46, iv xa), (1, 47, iv xb)] ha fun a ha => ?_))))
 refine jU (qQ 48 (vs := [iv xa, iv xb]) ha (impl_CleanupProgram_sat hS) fun v15 w a hp16 ha => ?_)
 obtain ⟨s3, rfl, hS⟩ := hp16
 refine jX [(3, 45, .tuple #[.agg #[.slice s3.A s3.n s3.c], .bool ((cleanP xa xb).2)]), (4, 49, .agg #[.slice s3.A s3.n s3.c]), (5, 50, .bool ((cleanP xa xb).2))] ha fun a ha => ?_
 refine jU (jH 11 [.slice none 0 0] 28 (ptr · 0) ha hS fun b17 w a hb18 hS ha => ?_)
 refine jU (o_sa 0 ha (xJ (t := 28) (x := 11) (y := 49)) hS fun w a hS ha => ?_)
 refine jX [(8, 12, .bool ((cleanP xa xb).2))] ha fun a ha => ?_
 refine jZ ?_
 replace ha := ha.as [(4, .bool false), (5, ptr b3 0), (6, .bool ((cleanP xa xb).2)), (7, ptr b7 0), (9, iv (1 + 3 * (tot ((cleanP xa xb).1) : Int))), (10, iv (1 + 3 * (tot ((cleanP xa xb).1) : Int))), (11, ptr b17 0), (12, .bool ((cleanP xa xb).2))] rfl
 refine jQ (wp_seq (wp_seq (jY [0, 1, 2, 3, 4, 5, 6, 7, 8] (qU 51 ha (hS.blk 0 rfl) fun a ha => ?_))))
 refine qU 52 ha (hS.blk 4 rfl) fun a ha => ?_
 refine jU (qQ 53 (vs := [.agg #[.slice s3.A s3.n s3.c], .agg #[.slice s1.A s1.n s1.c]]) ha (eqProgram_sat hS (hS.rdS 1 rfl) (hS.rdS 5 rfl) hfr) fun v19 w a hp20 ha => ?_)
 obtain ⟨rfl, hS⟩ := hp20
 refine jX [(3, 54, .bool false), (4, 55, .bool false), (5, 56, .bool ((cleanP xa xb).2)), (6, 57, .bool ((cleanP xa xb).2))] ha fun a ha => ?_
 refine qY (.bool false) ha ((jV (v := .bool (!(((cleanP xa xb).2) == ((cleanP xa xb).2)))) ha (AtG.here (gd := 55) ⟨(by kernel_rfl : ((jW Try.f12 14)[7]?).map spec = some ((Op.binOp BinOp.neq 4 (Operand.tmp 56) (Operand.tmp 57) 4), some 58, 4, some (4, false))), by kernel_rfl⟩ ha rfl) (by kernel_rfl) (fun _ => by kernel_rfl)).as (by simp)) fun a ha => ?_
 refine jX [(8, 59, .bool false)] ha fun a ha => ?_
 refine jZ (jQ ?_)
 refine jG ha rfl rfl ?_
 refine wp_skip (jQ (wp_seq (jY [0] (jX [(0, 10, iv 1)] ha fun a ha => ?_))))
 refine jZ (jQ (wp_seq (jY [0, 1, 2, 3] (qU 60 ha (hS.blk 3 rfl) fun a ha => ?_))))
 refine jX [(1, 61, iv 1)] ha fun a ha => ?_
 refine jU (qQ 62 (vs := [.agg #[.slice s2.A s2.n s2.c], iv 1]) ha (heldProgram_sat hS (hS.rdS 2 rfl) hfr) fun v21 w a hp22 ha => ?_)
 obtain ⟨rfl, hS⟩ := hp22
 refine jX [(3, 10, iv (1 + 3 * (tot ((cleanP xa xb).1) : Int)))] ha fun a ha => ?_
 refine jZ ?_
 replace ha := ha.as [(4, .bool false), (9, iv (1 + 3 * (tot ((cleanP xa xb).1) : Int))), (10, iv (1 + 3 * (tot ((cleanP xa xb).1) : Int)))] rfl
 refine jQ (wp_seq (wp_seq (jY [0, 1] (jX [(0, 63, iv (1 + 3 * (tot ((cleanP xa xb).1) : Int)))] ha fun a ha => ?_))))
 refine qY (.bool false) ha ((jV (v := .bool (decide (1 + 3 * (tot ((cleanP xa xb).1) : Int) < 0))) ha (qW (op := (Op.binOp BinOp.lss 3 (Operand.tmp 63) (Operand.const (Value.int IntKind.i64 0)) 3)) (d := some 64) (ty := 4)) (by kernel_rfl) (fun _ => by kernel_rfl)).as (by rw [decide_eq_false (by omega)])) fun a ha => ?_
 refine jZ (jQ ?_)
 refine jG ha rfl rfl ?_
 refine wp_skip (jQ (wp_seq (wp_seq (jY [0, 1, 2] (jX [(0, 65, iv (1 + 3 * (tot ((cleanP xa xb).1) : Int))), (1, 66, iv (1 + 3 * (tot ((cleanP xa xb).1) : Int)))] ha fun a ha => ?_)))))
 refine qY (.bool false) ha ((jV (v := .bool (!(decide (1 + 3 * (tot ((cleanP xa xb).1) : Int) = 1 + 3 * (tot ((cleanP xa xb).1) : Int))))) ha (qW (op := (Op.binOp BinOp.neq 3 (Operand.tmp 65) (Operand.tmp 66) 3)) (d := some 67) (ty := 4)) (by kernel_rfl) (fun _ => by kernel_rfl)).as (by simp)) fun a ha => ?_
 refine jZ (jQ ?_)
 refine jG ha rfl rfl ?_
 refine wp_skip (jQ (wp_seq (jY [0] (jX [(0, 4, .bool true)] ha fun a ha => ?_))))
 refine jZ (jQ (wp_ret (xY ha (by kernel_rfl) (qV (t := 4) ha rfl) ?_)))
 exact ⟨rfl, hS.below⟩
end Go.Proofs.Ytbgfiiehjaghiaa.G
