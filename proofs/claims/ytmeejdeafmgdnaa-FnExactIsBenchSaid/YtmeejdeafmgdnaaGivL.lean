/- The laws' own functions over programs: weighed, copied, compared, marked, held. -/
import Derived.Test.YtmeejdeafmgdnaaGivM
import Derived.Test.YtmeejdeafmgdnaaSXe
namespace Go.Proofs.Ytmeejdeafmgdnaa.G
open Go.RowKit Go.Proofs.Ytmeejdeafmgdnaa.SX Go.Proofs.YtmeejdeafmgdnaaW.PrintWords Go.Proofs.YtmeejdeafmgdnaaW.PrintLast Go.Proofs.YtmeejdeafmgdnaaW.PrintMore
set_option linter.unusedVariables false
set_option linter.unusedSimpArgs false
abbrev RdP (w : World) (s : Sl) (l : List (List ST)) : Prop := RdS k76 76 w s l
abbrev RdA (w : World) (s : Sl) (l : List (List LT)) : Prop := RdS k126 126 w s l
/-- A program of the call's own, its functions apart. -/
abbrev prg (B : Nat) (s : Sl) (l : List (List ST)) : Asn := kdS B k76 76 74 s l
/-- A program whose size can be reckoned with. -/
structure Fits {α : Type} (l : List (List α)) : Prop where
  len : l.length ≤ 1048576
  tot : tot l ≤ 1048576
theorem Fits.each {α : Type} {l : List (List α)} (h : Fits l) : ∀ b ∈ l, b.length ≤ 1048576 := fun b hb => Nat.le_trans (tot_mem hb) h.tot
def toP (l : List (List LT)) : List (List ST) := l.map (·.map toS)
theorem toP_fits {l : List (List LT)} (h : Fits l) : Fits (toP l) := ⟨by rw [toP, List.length_map]; exact h.len, by rw [toP, tot_map]; exact h.tot⟩
theorem kdS_lower {α : Type} {B B' : Nat} {d : Kd α} {e e' : Nat} {s : Sl} {l : List (List α)} (hB : B' ≤ B) (w : World) (F : Nat → Prop) (h : (kdS B d e e' s l).says w F) : (kdS B' d e e' s l).says w F := by
  obtain ⟨us, G, g1, g2, g3⟩ := h
  refine ⟨us, G, g1, g2, fun i R hi => ?_⟩
  match i with
  | 0 => exact g3 0 R hi
  | 1 =>
    simp at hi
    subst hi
    obtain ⟨H, h1, h2, h3⟩ := g3 1 _ rfl
    refine ⟨H, by simpa using h1, by simpa using h2, fun j R hj => ?_⟩
    rw [List.getElem?_map] at hj
    obtain ⟨x, hx, rfl⟩ := Option.map_eq_some_iff.1 hj
    obtain ⟨q1, q2⟩ := h3 j (kdP B d e x.1 x.2) (by rw [List.getElem?_map, hx]; rfl)
    exact ⟨q1, Kd.R_lower q2 hB⟩
  | n + 2 => simp at hi
section
variable {w0 w : World} {Rs : List Asn}
theorem toStepSS_sat {s0 : Sl} {l0 : List (List LT)} (hS : Sat w0 w Rs) (hr : RdA w s0 l0) (hf : Fits l0) :
    Calls Try.prog 61 #[.slice s0.A s0.n s0.c] w (Ret fun r w' => ∃ s : Sl, r = s.v ∧ Sat w0 w' (prg w0.heap.size s (toP l0) :: Rs)) := by
  refine (toss_sat w s0 l0 hr.len hr.le hr.rd hf.len hf.each).mono ?_
  intro e w' h
  cases e with
  | returned v =>
    obtain ⟨s, us, rfl, h1, h2, h3⟩ := h
    refine ⟨s, rfl, ?_⟩
    have h4 : Sat w w' (prg w.heap.size s (toP l0) :: []) := Sat.shutS us h1 h2 h3
    have h5 : Sat w0 w' (prg w.heap.size s (toP l0) :: Rs) := hS.comp h4
    exact h5.turn (i := 0) rfl (prg w0.heap.size s (toP l0)) (kdS_lower hS.below.size w')
  | _ => exact h.elim
theorem szProgram_sat {s0 : Sl} {l0 : List (List LT)} {left : Int} (hS : Sat w0 w Rs) (hr : RdA w s0 l0) (h0 : 0 ≤ left) (h1 : left ≤ 1048576) :
    Calls Try.prog 20 #[.agg #[.slice s0.A s0.n s0.c], .int .i64 left] w (Ret fun r w' => r = .int .i64 (szP l0 left) ∧ Sat w0 w' Rs) := by
  have hb : ∀ b ∈ l0, b.length ≤ 9223372036854775807 := by
    intro b hb
    obtain ⟨j, hj⟩ := List.getElem?_of_mem hb
    obtain ⟨_, A', c', _, _, hC⟩ := rows_cells hr.rd j b hj
    exact hC.2.1
  have := laws_szProgram.calls 1048577 s0.A s0.c l0 left _ w hr.rd hr.le (szProgram_f l0 hb hr.rd.2.1 left h0 h1 _ (by omega))
  rw [← hr.len] at this
  refine this.mono ?_
  rintro e w' ⟨rfl, hb⟩
  exact ⟨rfl, hS.comp (Ps := []) ⟨hb, fun _ _ => False, fun i R h => by simp at h, fun _ _ _ h => h.elim, fun _ _ h => h.elim⟩⟩
theorem Sat.skip {w' : World} (hS : Sat w0 w Rs) (hb : Below w.heap.size w w') : Sat w0 w' Rs := hS.comp (Ps := []) ⟨hb, fun _ _ => False, fun i R h => by simp at h, fun _ _ _ h => h.elim, fun _ _ h => h.elim⟩
theorem eqProgram_sat {s t : Sl} {l : List (List ST)} (hS : Sat w0 w Rs) (hr : RdP w s l) (ht : RdP w t l) (hf : Fits l) :
    Calls Try.prog 24 #[.agg #[.slice s.A s.n s.c], .agg #[.slice t.A t.n t.c]] w (Ret fun r w' => r = .bool true ∧ Sat w0 w' Rs) := by
  have := laws_eqProgram.calls 2097154 s.A s.c l t.A t.c l true w hr.rd hr.le ht.rd ht.le (eqProgram_f l hf.each hf.len _ (by omega))
  rw [← hr.len] at this
  rw [show (Value.slice t.A s.n t.c) = .slice t.A t.n t.c by rw [hr.len, ht.len]] at this
  refine this.mono ?_
  rintro e w' ⟨rfl, hb⟩
  exact ⟨rfl, Sat.skip hS hb⟩
theorem heldProgram_sat {s : Sl} {l : List (List ST)} (hS : Sat w0 w Rs) (hr : RdP w s (mkSS 1 l)) (hf : Fits l) :
    Calls Try.prog 26 #[.agg #[.slice s.A s.n s.c], .int .i64 1] w (Ret fun r w' => r = .int .i64 (1 + 3 * (tot l : Int)) ∧ Sat w0 w' Rs) := by
  have := laws_heldProgram.calls 8388609 s.A s.c (mkSS 1 l) 1 _ w hr.rd hr.le (heldProgram_f l (by have := hf.len; omega) (by have := hf.tot; omega) _ (by omega))
  rw [← hr.len] at this
  refine this.mono ?_
  rintro e w' ⟨rfl, hb⟩
  exact ⟨rfl, Sat.skip hS hb⟩
end
theorem code22 : Try.f22.body = some (Code.seq (Code.region 0 (regOf Try.f22 0) false) (Code.seq (Code.region 1 (regOf Try.f22 1) false) (Code.seq (Code.region 2 (regOf Try.f22 2) false) (Code.seq (Code.region 3 (regOf Try.f22 3) false) Code.ret)))) := by kernel_rfl
set_option maxRecDepth 20000 in
set_option maxHeartbeats 1000000 in
theorem toProgram_sat0 {w0 : World} {s0 : Sl} {l0 : List (List LT)} (hr : RdA w0 s0 l0) (hf : Fits l0) :
    Calls Try.prog 22 #[.agg #[.slice s0.A s0.n s0.c]] w0 (Ret fun r w' => ∃ s : Sl, r = .agg #[s.v] ∧ Sat w0 w' [prg w0.heap.size s (toP l0)]) := by
  have Rs : List Asn := []
  have hS : Sat w0 w0 [] := Sat.start w0
  refine enter (n := 9) Try.func22 code22 (by kernel_rfl) (Nat.le_of_ble_eq_true rfl) (fun a ha => ?_)
  replace ha : Has 9 [(0, .agg #[.slice s0.A s0.n s0.c])] a := ha
  refine wp_seq ?_
  refine p_begin ?_
  refine p_op (o_new (cs := [.slice s0.A s0.n s0.c]) (T := 24) (fun b => .pointer (some ⟨b, 0, none⟩)) ha (by decide) (At.here (by kernel_rfl : ((regOf Try.f22 0)[0]?).map spec = some ((Op.box 24 (Operand.tmp 0)), some 1, 0, none))) (by kernel_rfl) hS (fun _ => by kernel_rfl) (fun b5 w3 a1 hb6 (hS4 : Sat w0 w3 ((SX.blk b5 [.slice s0.A s0.n s0.c] 24) :: [])) ha2 => ?_))
  refine p_op (o_new (cs := [.slice none 0 0]) (T := 31) (fun b => .pointer (some ⟨b, 0, none⟩)) ha2 (by decide) (At.here (by kernel_rfl : ((regOf Try.f22 0)[1]?).map spec = some ((Op.alloc 31), some 2, 0, none))) (by kernel_rfl) hS4 (fun _ => by kernel_rfl) (fun b11 w9 a7 hb12 (hS10 : Sat w0 w9 ((SX.blk b11 [.slice none 0 0] 31) :: (SX.blk b5 [.slice s0.A s0.n s0.c] 24) :: [])) ha8 => ?_))
  refine p_end ?_
  have ha13 := ha8.keeps [1, 2] [(1, .pointer (some ⟨b5, 0, none⟩)), (2, .pointer (some ⟨b11, 0, none⟩))] rfl
  clear ha8 hS4 ha2 a1 hS ha a
  refine then_n ?_
  refine wp_seq ?_
  refine p_begin ?_
  refine p_op (o_new (cs := [.slice none 0 0]) (T := 31) (fun b => .pointer (some ⟨b, 0, none⟩)) ha13 (by decide) (At.here (by kernel_rfl : ((regOf Try.f22 1)[0]?).map spec = some ((Op.alloc 31), some 3, 0, none))) (by kernel_rfl) hS10 (fun _ => by kernel_rfl) (fun b18 w16 a14 hb19 (hS17 : Sat w0 w16 ((SX.blk b18 [.slice none 0 0] 31) :: (SX.blk b11 [.slice none 0 0] 31) :: (SX.blk b5 [.slice s0.A s0.n s0.c] 24) :: [])) ha15 => ?_))
  refine p_end ?_
  have ha20 := ha15.keeps [1, 2, 3] [(1, .pointer (some ⟨b5, 0, none⟩)), (2, .pointer (some ⟨b11, 0, none⟩)), (3, .pointer (some ⟨b18, 0, none⟩))] rfl
  clear ha15 hS10 ha13 a7
  refine then_n ?_
  refine wp_seq ?_
  refine p_begin ?_
  refine p_val (v := .pointer (some ⟨b5, 0, none⟩)) ha20 (by decide) (v_pure ha20 (At.here (by kernel_rfl : ((regOf Try.f22 2)[0]?).map spec = some ((Op.fieldAddr 24 (Operand.tmp 1) 0), some 4, 0, none))) (by kernel_rfl) (fun _ => by kernel_rfl)) (fun a21 ha22 => ?_)
  refine p_val (v := .slice s0.A s0.n s0.c) ha22 (by decide) (v_load (cs := [.slice s0.A s0.n s0.c]) (T := 24) ha22 (At.here (by kernel_rfl : ((regOf Try.f22 2)[1]?).map spec = some ((Op.load 22 (Operand.tmp 4)), some 5, 22, none))) rfl (by kernel_rfl) (fun _ hw => by rw [hw]; exact hS17.blk 2 rfl) rfl) (fun a23 ha24 => ?_)
  refine p_op (o_ret (Post := fun r w' => ∃ s1 : Sl, r = s1.v ∧ Sat w0 w' ((prg w0.heap.size s1 (toP l0)) :: (SX.blk b18 [.slice none 0 0] 31) :: (SX.blk b11 [.slice none 0 0] 31) :: (SX.blk b5 [.slice s0.A s0.n s0.c] 24) :: [])) ha24 (by decide) (At.here (by kernel_rfl : ((regOf Try.f22 2)[2]?).map spec = some ((Op.call { callee := (Callee.value (Operand.func 61)), args := #[(Operand.tmp 5)], argTypes := #[22] }), some 6, 29, none))) rfl Try.func61 (by kernel_rfl) (toStepSS_sat hS17 (hr.sat hS17) hf) (fun v29 w27 a25 hp30 ha26 => ?_))
  obtain ⟨s1, rfl, hS28⟩ := hp30
  have ha31 : Has 9 [(1, .pointer (some ⟨b5, 0, none⟩)), (2, .pointer (some ⟨b11, 0, none⟩)), (3, .pointer (some ⟨b18, 0, none⟩)), (4, .pointer (some ⟨b5, 0, none⟩)), (5, .slice s0.A s0.n s0.c), (6, .slice s1.A s1.n s1.c)] a25 := ha26.keeps [1, 2, 3, 4, 5, 6] _ rfl
  refine p_val (v := .pointer (some ⟨b18, 0, none⟩)) ha31 (by decide) (v_pure ha31 (At.here (by kernel_rfl : ((regOf Try.f22 2)[3]?).map spec = some ((Op.fieldAddr 31 (Operand.tmp 3) 0), some 7, 0, none))) (by kernel_rfl) (fun _ => by kernel_rfl)) (fun a32 ha33 => ?_)
  refine p_op (o_store (cs := [.slice none 0 0]) (cs' := [.slice s1.A s1.n s1.c]) 1 ha33 (At.here (by kernel_rfl : ((regOf Try.f22 2)[4]?).map spec = some ((Op.store 29 (Operand.tmp 7) (Operand.tmp 6)), none, 0, none))) rfl rfl rfl (by kernel_rfl) hS28 rfl (by simp) rfl (fun w36 a34 (hS37 : Sat w0 w36 ((prg w0.heap.size s1 (toP l0)) :: (SX.blk b18 [.slice s1.A s1.n s1.c] 31) :: (SX.blk b11 [.slice none 0 0] 31) :: (SX.blk b5 [.slice s0.A s0.n s0.c] 24) :: [])) ha35 => ?_))
  refine p_end ?_
  have ha38 := ha35.keeps [2, 3] [(2, .pointer (some ⟨b11, 0, none⟩)), (3, .pointer (some ⟨b18, 0, none⟩))] rfl
  clear ha35 hS28 ha33 a32 ha31 a25 ha26 hS17 ha24 a23 ha22 a21 ha20 a14
  refine then_n ?_
  refine wp_seq ?_
  refine p_begin ?_
  refine p_val (v := .agg #[.slice s1.A s1.n s1.c]) ha38 (by decide) (v_loadAgg (vs := [.slice s1.A s1.n s1.c]) (cs := [.slice s1.A s1.n s1.c]) (T := 31) ha38 (At.here (by kernel_rfl : ((regOf Try.f22 3)[0]?).map spec = some ((Op.load 31 (Operand.tmp 3)), some 8, 31, none))) rfl (by kernel_rfl) (fun _ hw => by rw [hw]; exact hS37.blk 1 rfl) rfl) (fun a39 ha40 => ?_)
  refine p_op (o_storeAgg (vs := [.slice s1.A s1.n s1.c]) (cs := [.slice none 0 0]) (cs' := [.slice s1.A s1.n s1.c]) 2 ha40 (At.here (by kernel_rfl : ((regOf Try.f22 3)[1]?).map spec = some ((Op.store 31 (Operand.tmp 2) (Operand.tmp 8)), none, 0, none))) rfl rfl rfl (by kernel_rfl) hS37 rfl (by simp) rfl (fun w43 a41 (hS44 : Sat w0 w43 ((prg w0.heap.size s1 (toP l0)) :: (SX.blk b18 [.slice s1.A s1.n s1.c] 31) :: (SX.blk b11 [.slice s1.A s1.n s1.c] 31) :: (SX.blk b5 [.slice s0.A s0.n s0.c] 24) :: [])) ha42 => ?_))
  refine p_end ?_
  have ha45 := ha42.keeps [2] [(2, .pointer (some ⟨b11, 0, none⟩))] rfl
  clear ha42 hS37 ha40 a39 ha38 a34
  refine then_n ?_
  refine wp_ret ?_
  refine end_res1 ha45 (by kernel_rfl) (resC (t := 2) (ty := 31) (i := 2) (cs := [.slice s1.A s1.n s1.c]) ha45 rfl hS44 rfl (by kernel_rfl)) ?_
  have hS46 : Sat w0 w43 ((prg w0.heap.size s1 (toP l0)) :: []) := hS44.pickR (l := [prg w0.heap.size s1 (toP l0), SX.blk b18 [.slice s1.A s1.n s1.c] 31, SX.blk b11 [.slice s1.A s1.n s1.c] 31, SX.blk b5 [.slice s0.A s0.n s0.c] 24]) [0] (by decide) [prg w0.heap.size s1 (toP l0)] rfl
  exact ⟨s1, rfl, hS46⟩

theorem code25 : Try.f25.body = some (Code.seq (Code.region 0 (regOf Try.f25 0) false) (Code.seq (Code.region 1 (regOf Try.f25 1) false) (Code.seq (Code.region 2 (regOf Try.f25 2) false) Code.ret))) := by kernel_rfl
set_option maxRecDepth 20000 in
set_option maxHeartbeats 1000000 in
theorem markProgram_sat {w0 w : World} {Rs : List Asn} {s : Sl} {l : List (List ST)} {x0 : Int} (hS : Sat w0 w (prg w0.heap.size s l :: Rs)) (hf : Fits l) (h0 : 0 ≤ x0) (h1 : x0 ≤ 1048576) :
    Calls Try.prog 25 #[.agg #[.slice s.A s.n s.c], .int .i64 x0] w (Ret fun r w' => r = .int .i64 (x0 + 3 * (tot l : Int)) ∧ Sat w0 w' (prg w0.heap.size s (mkSS x0 l) :: Rs)) := by
  refine enter (n := 10) Try.func25 code25 (by kernel_rfl) (Nat.le_of_ble_eq_true rfl) (fun a ha => ?_)
  replace ha : Has 10 [(0, .agg #[.slice s.A s.n s.c]), (1, .int .i64 x0)] a := ha
  refine wp_seq ?_
  refine p_begin ?_
  refine p_op (o_new (cs := [.slice s.A s.n s.c]) (T := 31) (fun b => .pointer (some ⟨b, 0, none⟩)) ha (by decide) (At.here (by kernel_rfl : ((regOf Try.f25 0)[0]?).map spec = some ((Op.box 31 (Operand.tmp 0)), some 2, 0, none))) (by kernel_rfl) hS (fun _ => by kernel_rfl) (fun b5 w3 a1 hb6 (hS4 : Sat w0 w3 ((SX.blk b5 [.slice s.A s.n s.c] 31) :: (prg w0.heap.size s l) :: Rs)) ha2 => ?_))
  refine p_val (v := .int .i64 0) ha2 (by decide) (v_pure ha2 (At.here (by kernel_rfl : ((regOf Try.f25 0)[1]?).map spec = some ((Op.assign (Operand.const (Value.int IntKind.i64 0))), some 4, 3, none))) (by kernel_rfl) (fun _ => by kernel_rfl)) (fun a7 ha8 => ?_)
  refine p_end ?_
  have ha9 := ha8.keeps [1, 2, 4] [(1, .int .i64 x0), (2, .pointer (some ⟨b5, 0, none⟩)), (4, .int .i64 0)] rfl
  clear ha8 ha2 a1 hS ha a
  refine then_n ?_
  refine wp_seq ?_
  refine p_begin ?_
  refine p_val (v := .pointer (some ⟨b5, 0, none⟩)) ha9 (by decide) (v_pure ha9 (At.here (by kernel_rfl : ((regOf Try.f25 1)[0]?).map spec = some ((Op.fieldAddr 31 (Operand.tmp 2) 0), some 5, 0, none))) (by kernel_rfl) (fun _ => by kernel_rfl)) (fun a10 ha11 => ?_)
  refine p_val (v := .slice s.A s.n s.c) ha11 (by decide) (v_load (cs := [.slice s.A s.n s.c]) (T := 31) ha11 (At.here (by kernel_rfl : ((regOf Try.f25 1)[1]?).map spec = some ((Op.load 29 (Operand.tmp 5)), some 6, 29, none))) rfl (by kernel_rfl) (fun _ hw => by rw [hw]; exact hS4.blk 0 rfl) rfl) (fun a12 ha13 => ?_)
  refine p_val (v := .int .i64 x0) ha13 (by decide) (v_pure ha13 (At.here (by kernel_rfl : ((regOf Try.f25 1)[2]?).map spec = some ((Op.move (Operand.tmp 1)), some 7, 3, none))) (by kernel_rfl) (fun _ => by kernel_rfl)) (fun a14 ha15 => ?_)
  have hS20 : Sat w0 w3 ((prg w0.heap.size s l) :: (SX.blk b5 [.slice s.A s.n s.c] 31) :: Rs) := hS4.pickR (l := [SX.blk b5 [.slice s.A s.n s.c] 31, prg w0.heap.size s l]) [1, 0] (by decide) [prg w0.heap.size s l, SX.blk b5 [.slice s.A s.n s.c] 31] rfl
  refine p_op (o_ret (Post := fun r w' => r = .int .i64 (x0 + 3 * (tot l : Int)) ∧ Sat w0 w' ((prg w0.heap.size s (mkSS x0 l)) :: (SX.blk b5 [.slice s.A s.n s.c] 31) :: Rs)) ha15 (by decide) (At.here (by kernel_rfl : ((regOf Try.f25 1)[3]?).map spec = some ((Op.call { callee := (Callee.value (Operand.func 65)), args := #[(Operand.tmp 6), (Operand.tmp 7)], argTypes := #[29, 3] }), some 8, 3, none))) rfl Try.func65 (by kernel_rfl) (markStepSS_sat w0 _ _ s l x0 hS20 h0 (by have := hf.len; omega) (by have := hf.tot; omega) h1) (fun v21 w18 a16 hp22 ha17 => ?_))
  obtain ⟨rfl, hS19⟩ := hp22
  have ha23 : Has 10 [(1, .int .i64 x0), (2, .pointer (some ⟨b5, 0, none⟩)), (4, .int .i64 0), (5, .pointer (some ⟨b5, 0, none⟩)), (6, .slice s.A s.n s.c), (7, .int .i64 x0), (8, .int .i64 (x0 + 3 * (tot l : Int)))] a16 := ha17.keeps [1, 2, 4, 5, 6, 7, 8] _ rfl
  refine p_val (v := .int .i64 (x0 + 3 * (tot l : Int))) ha23 (by decide) (v_pure ha23 (At.here (by kernel_rfl : ((regOf Try.f25 1)[4]?).map spec = some ((Op.assign (Operand.tmp 8)), some 1, 3, none))) (by kernel_rfl) (fun _ => by kernel_rfl)) (fun a24 ha25 => ?_)
  refine p_end ?_
  have ha26 := ha25.keeps [4, 1] [(4, .int .i64 0), (1, .int .i64 (x0 + 3 * (tot l : Int)))] rfl
  clear ha25 ha23 a16 ha17 hS20 ha15 a14 hS4 ha13 a12 ha11 a10 ha9 a7
  refine then_n ?_
  refine wp_seq ?_
  refine p_begin ?_
  refine p_val (v := .int .i64 (x0 + 3 * (tot l : Int))) ha26 (by decide) (v_pure ha26 (At.here (by kernel_rfl : ((regOf Try.f25 2)[0]?).map spec = some ((Op.move (Operand.tmp 1)), some 9, 3, none))) (by kernel_rfl) (fun _ => by kernel_rfl)) (fun a27 ha28 => ?_)
  refine p_val (v := .int .i64 (x0 + 3 * (tot l : Int))) ha28 (by decide) (v_pure ha28 (At.here (by kernel_rfl : ((regOf Try.f25 2)[1]?).map spec = some ((Op.assign (Operand.tmp 9)), some 4, 3, none))) (by kernel_rfl) (fun _ => by kernel_rfl)) (fun a29 ha30 => ?_)
  refine p_end ?_
  have ha31 := ha30.keeps [4] [(4, .int .i64 (x0 + 3 * (tot l : Int)))] rfl
  clear ha30 ha28 a27 ha26 a24
  refine then_n ?_
  refine wp_ret ?_
  refine end_res1 ha31 (by kernel_rfl) (resT (t := 4) ha31 rfl) ?_
  have hS32 : Sat w0 w18 ((prg w0.heap.size s (mkSS x0 l)) :: Rs) := hS19.pickR (l := [prg w0.heap.size s (mkSS x0 l), SX.blk b5 [.slice s.A s.n s.c] 31]) [0] (by decide) [prg w0.heap.size s (mkSS x0 l)] rfl
  exact ⟨rfl, hS32⟩
theorem toProgram_sat {w0 w : World} {Rs : List Asn} {s0 : Sl} {l0 : List (List LT)} (hS : Sat w0 w Rs) (hr : RdA w s0 l0) (hf : Fits l0) :
    Calls Try.prog 22 #[.agg #[.slice s0.A s0.n s0.c]] w (Ret fun r w' => ∃ s : Sl, r = .agg #[s.v] ∧ Sat w0 w' (prg w0.heap.size s (toP l0) :: Rs)) := by
  refine (toProgram_sat0 hr hf).mono ?_
  intro e w' h
  cases e with
  | returned v =>
    obtain ⟨s, rfl, h4⟩ := h
    have h5 : Sat w0 w' (prg w.heap.size s (toP l0) :: Rs) := hS.comp h4
    exact ⟨s, rfl, h5.turn (i := 0) rfl (prg w0.heap.size s (toP l0)) (kdS_lower hS.below.size w')⟩
  | _ => exact h.elim
end Go.Proofs.Ytmeejdeafmgdnaa.G
