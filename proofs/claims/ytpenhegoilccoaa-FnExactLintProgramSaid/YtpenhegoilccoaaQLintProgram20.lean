/- What the claim FnExactLintProgram rests on, part 20 of 29; the last part proves it: for every input the law answers true, and its arguments read behind the call as before it. No condition. -/
import Derived.Test.YtpenhegoilccoaaQLintProgram10
import Derived.Test.YtpenhegoilccoaaQLintProgram11
import Derived.Test.YtpenhegoilccoaaQLintProgram14
import Derived.Test.YtpenhegoilccoaaQLintProgram16
import Derived.Test.YtpenhegoilccoaaQLintProgram17
import Derived.Test.YtpenhegoilccoaaQLintProgram19
set_option linter.unusedSimpArgs false
set_option linter.unusedVariables false
set_option maxRecDepth 20000
set_option maxHeartbeats 1000000
namespace Go.Proofs.Ytpenhegoilccoaa
namespace SX
open Go.RowKit Go.Proofs.Ytpenhegoilccoaa.G Go.Proofs.YtpenhegoilccoaaW.PrintWords Go.Proofs.YtpenhegoilccoaaW.PrintLast Go.Proofs.YtpenhegoilccoaaW.PrintMore
abbrev GS := S72
def toStp (x : GS) : Stp := ⟨x.f0, x.f1, x.f2⟩
def PL (l : List (List GS)) : List (List Stp) := l.map (·.map toStp)
theorem PL_length (l : List (List GS)) : (PL l).length = l.length := by simp [PL]
theorem stepB_ok {n : Nat} {k a b : Int} (h : stepB n k a b = true) : StpOk n ⟨k, a, b⟩ := by
  simp only [stepB, Bool.and_eq_true, decide_eq_true_eq] at h
  obtain ⟨⟨⟨h1, h2⟩, h3⟩, h4⟩ := h
  refine ⟨h1, h2, fun n4 n5 n10 n11 => ?_, fun hk => ?_, fun hk => ?_, fun hk => ?_, fun hk => ?_⟩
  · dsimp only at n4 n5 n10 n11 ⊢
    rw [if_neg (by omega), if_neg n11, if_neg n10] at h3;simp only [regB, Bool.and_eq_true, decide_eq_true_eq] at h3;exact h3
  · dsimp only at hk ⊢
    rw [if_neg (by omega), if_pos hk] at h4;simp only [regB, Bool.and_eq_true, decide_eq_true_eq] at h4;exact h4
  · dsimp only at hk ⊢
    rw [if_pos hk] at h3;simp only [Bool.and_eq_true, decide_eq_true_eq] at h3
    omega
  · dsimp only at hk ⊢
    rw [if_neg (by omega), if_pos hk] at h3;simp only [Bool.and_eq_true, decide_eq_true_eq] at h3;exact h3
  · dsimp only at hk ⊢
    rw [if_pos hk] at h4;simp only [numB, Bool.and_eq_true, decide_eq_true_eq] at h4;exact h4
theorem progOk_of {l : List (List GS)} (h : programB l = true) : ProgOk (PL l) := by
  simp only [programB, bodyB, Bool.and_eq_true, decide_eq_true_eq, List.all_eq_true] at h
  obtain ⟨⟨h1, h2⟩, h3⟩ := h
  refine ⟨by rw [PL_length]; exact h1, by rw [PL_length]; exact h2, fun b hb => ?_, fun b hb s hs => ?_⟩
  · obtain ⟨b', hb', rfl⟩ := List.mem_map.1 hb
    rw [List.length_map];exact (h3 b' hb').1
  · obtain ⟨b', hb', rfl⟩ := List.mem_map.1 hb
    obtain ⟨s', hs', rfl⟩ := List.mem_map.1 hs;rw [PL_length];exact stepB_ok ((h3 b' hb').2 s' hs')
theorem cell_lt {w : World} {p : Addr} {v : Value} (h : w.cell? p = some v) : p.block < w.heap.size := by
 unfold World.cell? at h
 split at h
 · rename_i h'; exact (Array.getElem?_eq_some_iff.1 h').1
 · cases h
theorem cell_below {w w' : World} {p : Addr} {v : Value} (h : w.cell? p = some v) (hb : Below w.heap.size w w') : w'.cell? p = some v := by
 rw [← h]
 unfold World.cell?
 rw [hb.block _ (cell_lt h)]
theorem RdBody.below {w w' : World} {s : Sl} {b : List Stp} (h : RdBody w s b) (hb : Below w.heap.size w w') : RdBody w' s b := ⟨h.len, h.A, fun j x hx => cell_below (h.k j x hx) hb, fun j x hx => cell_below (h.a j x hx) hb, fun j x hx => cell_below (h.b j x hx) hb⟩
theorem RdProg.below {w w' : World} {pv : Sl} {sbs : List Sl} {P : List (List Stp)} (h : RdProg w pv sbs P) (hb : Below w.heap.size w w') : RdProg w' pv sbs P :=
 ⟨h.len, h.A, fun i b hi => let ⟨s, h1, h2, h3⟩ := h.rows i b hi; ⟨s, h1, cell_below h2 hb, h3.below hb⟩⟩
theorem RdProg.keeps {w : World} {pv : Sl} {sbs : List Sl} {P : List (List Stp)} (h : RdProg w pv sbs P) (Rs : List Asn) : Keeps w Rs (fun w => RdProg w pv sbs P) := fun w' hS => h.below hS.below
theorem rdBody_of {w : World} {A : Option Addr} {c : Nat} {l : List GS} (hr : Kd.C k72 w A l.length l) : RdBody w ⟨A, l.length, c⟩ (l.map toStp) := by
  obtain ⟨_, _, h3⟩ := hr
  have key : ∀ (j : Nat) (x : GS), l[j]? = some x → A = some ⟨bk ⟨A, l.length, c⟩, of_ ⟨A, l.length, c⟩, none⟩ ∧ ∀ i u, (encT x)[i]? = some u → w.cell? ⟨bk ⟨A, l.length, c⟩, of_ ⟨A, l.length, c⟩ + j * 3 + i, none⟩ = some u := by
    intro j x hj;have hjl : j < l.length := (List.getElem?_eq_some_iff.1 hj).1;obtain ⟨ad, hA, hcells⟩ := h3 (by omega)
    have key : ∀ (j : Nat) (x : GS), l[j]? = some x → ∀ i u, (encT x)[i]? = some u → w.cell? (ad.add (j * 3 + i)) = some u := fun j x hj i u hu => by
      obtain ⟨cs, _, hk, hu'⟩ := hcells j x hj;rw [k72_open hk] at hu';exact hu' i u hu
    have h0 := key 0 _ (List.getElem?_eq_getElem (by omega)) 0 _ rfl;have hspot := spot_of_cell h0;obtain ⟨b, off, sp⟩ := ad;subst hspot;subst hA;refine ⟨rfl, fun i u hu => ?_⟩;have := key j x hj i u hu;rw [add0, ← Nat.add_assoc] at this;exact this
  have get : ∀ (j : Nat) (x : Stp), (l.map toStp)[j]? = some x → ∃ y : GS, l[j]? = some y ∧ toStp y = x := fun j x hx => by
    rw [List.getElem?_map] at hx;exact Option.map_eq_some_iff.1 hx
  refine ⟨by simp, fun hp => ?_, fun j x hx => ?_, fun j x hx => ?_, fun j x hx => ?_⟩
  · rw [List.length_map] at hp
    exact (key 0 _ (List.getElem?_eq_getElem hp)).1
  · obtain ⟨y, hy, rfl⟩ := get j x hx
    exact (key j y hy).2 0 _ rfl
  · obtain ⟨y, hy, rfl⟩ := get j x hx
    exact (key j y hy).2 1 _ rfl
  · obtain ⟨y, hy, rfl⟩ := get j x hx
    exact (key j y hy).2 2 _ rfl
theorem rdProg_of {w : World} {A : Option Addr} {c : Nat} {l : List (List GS)} (hr : Kd.C (Kd.slice 72 k72) w A l.length l) : ∃ sbs, RdProg w ⟨A, l.length, c⟩ sbs (PL l) := by
  have hb := bodies_cells (s := ⟨A, l.length, c⟩) hr
  have hs : ∀ j : Nat, ∃ s : Sl, ∀ b, l[j]? = some b → w.cell? ⟨bk ⟨A, l.length, c⟩, of_ ⟨A, l.length, c⟩ + j, none⟩ = some s.v ∧ RdBody w s (b.map toStp) := by
    intro j;cases hj : l[j]? with
    | none => exact ⟨⟨none, 0, 0⟩, fun b h => by cases h⟩
    | some b =>
      obtain ⟨_, A', c', h1, h2, h3⟩ := hb j b hj;exact ⟨⟨A', b.length, c'⟩, fun b' h => by cases h; exact ⟨h1, rdBody_of h3⟩⟩
  have hs2 : ∃ f : Nat → Sl, ∀ j b, l[j]? = some b → w.cell? ⟨bk ⟨A, l.length, c⟩, of_ ⟨A, l.length, c⟩ + j, none⟩ = some (f j).v ∧ RdBody w (f j) (b.map toStp) := ⟨fun j => (hs j).choose, fun j => (hs j).choose_spec⟩
  obtain ⟨f, hf⟩ := hs2
  refine ⟨(List.range l.length).map f, (PL_length l).symm, fun hp => ?_, fun i b hi => ?_⟩
  · rw [PL_length] at hp
    exact (hb 0 _ (List.getElem?_eq_getElem hp)).1
  · rw [PL, List.getElem?_map] at hi
    obtain ⟨y, hy, rfl⟩ := Option.map_eq_some_iff.1 hi;have hlt := (List.getElem?_eq_some_iff.1 hy).1;exact ⟨f i, by rw [List.getElem?_map, List.getElem?_range hlt]; rfl, hf i y hy⟩
section
variable {w0 w : World} {Rs : List Asn}
theorem drawn_sat (hS : Sat w0 w Rs) {w' : World} (h : Drawn0 w w') : Sat w0 w' Rs := by
 obtain ⟨q, rfl⟩ := h.out
 exact hS.grows ⟨rfl, rfl, rfl, Nat.le_refl _, fun _ _ => rfl⟩
end
end SX
end Go.Proofs.Ytpenhegoilccoaa
namespace Go.Proofs.Ytpenhegoilccoaa.G
open Go.RowKit Go.Proofs.Ytpenhegoilccoaa.SX Go.Proofs.YtpenhegoilccoaaW.PrintWords Go.Proofs.YtpenhegoilccoaaW.PrintLast Go.Proofs.YtpenhegoilccoaaW.PrintMore
theorem code159 : Try.f159.body = some (Code.seq (cr Try.f159 0 false) (Code.seq (Code.seq (cr Try.f159 1 false) (Code.cond (Operand.tmp 9) (Code.seq (cr Try.f159 2 false) Code.ret) Code.skip)) (Code.seq (Code.seq (cr Try.f159 3 false) (Code.cond (Operand.tmp 14) (Code.seq (cr Try.f159 4 false) Code.ret) Code.skip)) (Code.seq (Code.seq (cr Try.f159 5 false) (Code.cond (Operand.tmp 19) (Code.seq (cr Try.f159 6 false) Code.ret) Code.skip)) (Code.seq (cr Try.f159 7 false) Code.ret))))) := by kernel_rfl
theorem eq_step {w0 w : World} {Rs : List Asn} {k xa xb : Int} (hS : Sat w0 w Rs)  :
  Calls Try.prog 159 #[.agg #[iv k, iv xa, iv xb], .agg #[iv k, iv xa, iv xb]] w (Ret fun r w' => r = .bool true ∧ Sat w0 w' Rs) := by
 refine enter (n := 20) Try.func159 code159 (by kernel_rfl) (Nat.le_of_ble_eq_true rfl) (fun a ha => ?_)
 replace ha : Has 20 [(0, .agg #[iv k, iv xa, iv xb]), (1, .agg #[iv k, iv xa, iv xb])] a := ha
 refine wp_seq (jX [0, 1, 2] (jW (qY 2 [iv k, iv xa, iv xb] 72 (ptr · 0) ha hS fun b1 w a hb2 hS ha => ?_)))
 refine jW (qY 3 [iv k, iv xa, iv xb] 72 (ptr · 0) ha hS fun b3 w a hb4 hS ha => ?_)
 refine jQ [(2, 4, .bool false)] ha fun a ha => ?_
 refine jY (jJ (wp_seq (wp_seq (jX [0, 1, 2, 3, 4] (jQ [(0, 5, ptr b1 0)] ha fun a ha => ?_)))))
 refine qZ (d := 6) (b := b1) (j := 0) ha (hS.blk 1 rfl) rfl fun a ha => ?_
 refine jQ [(2, 7, ptr b3 0)] ha fun a ha => ?_
 refine qZ (d := 8) (b := b3) (j := 0) ha (hS.blk 0 rfl) rfl fun a ha => ?_
 refine qX (.bool false) ha ((jH (v := .bool (!decide (k = k))) ha (xV (op := (Op.binOp BinOp.neq 3 (Operand.tmp 6) (Operand.tmp 8) 3)) (d := some 9) (ty := 4)) (by kernel_rfl) (fun _ => by kernel_rfl)).as (by simp)) fun a ha => ?_
 refine jY (jJ ?_)
 refine jK ha rfl rfl ?_
 refine wp_skip (jJ (wp_seq (wp_seq (jX [0, 1, 2, 3, 4] (jQ [(0, 10, ptr b1 1)] ha fun a ha => ?_)))))
 refine qZ (d := 11) (b := b1) (j := 1) ha (hS.blk 1 rfl) rfl fun a ha => ?_
 refine jQ [(2, 12, ptr b3 1)] ha fun a ha => ?_
 refine qZ (d := 13) (b := b3) (j := 1) ha (hS.blk 0 rfl) rfl fun a ha => ?_
 refine qX (.bool false) ha ((jH (v := .bool (!decide (xa = xa))) ha (xV (op := (Op.binOp BinOp.neq 3 (Operand.tmp 11) (Operand.tmp 13) 3)) (d := some 14) (ty := 4)) (by kernel_rfl) (fun _ => by kernel_rfl)).as (by simp)) fun a ha => ?_
 refine jY (jJ ?_)
 refine jK ha rfl rfl ?_
 refine wp_skip (jJ (wp_seq (wp_seq (jX [0, 1, 2, 3, 4] (jQ [(0, 15, ptr b1 2)] ha fun a ha => ?_)))))
 refine qZ (d := 16) (b := b1) (j := 2) ha (hS.blk 1 rfl) rfl fun a ha => ?_
 refine jQ [(2, 17, ptr b3 2)] ha fun a ha => ?_
 refine qZ (d := 18) (b := b3) (j := 2) ha (hS.blk 0 rfl) rfl fun a ha => ?_
 refine qX (.bool false) ha ((jH (v := .bool (!decide (xb = xb))) ha (xV (op := (Op.binOp BinOp.neq 3 (Operand.tmp 16) (Operand.tmp 18) 3)) (d := some 19) (ty := 4)) (by kernel_rfl) (fun _ => by kernel_rfl)).as (by simp)) fun a ha => ?_
 refine jY (jJ ?_)
 refine jK ha rfl rfl ?_
 refine wp_skip (jJ (wp_seq (jX [0] (jQ [(0, 4, .bool true)] ha fun a ha => ?_))))
 refine jY ?_
 replace ha := ha.as [(4, .bool true)] rfl
 refine jJ (wp_ret (jG ha (by kernel_rfl) (qK (t := 4) ha rfl) ?_))
 exact ⟨rfl, Sat.rest [_, _] hS⟩
theorem code125 : Try.f125.body = some (Code.seq (cr Try.f125 0 false) (Code.seq (Code.seq (cr Try.f125 1 false) (Code.cond (Operand.tmp 10) (Code.seq (cr Try.f125 2 false) Code.ret) Code.skip)) (Code.seq (Code.seq (cr Try.f125 3 false) (Code.block 0 (Code.loop (Code.seq (Code.seq (cr Try.f125 4 false) (Code.cond (Operand.tmp 14) Code.skip (Code.exit 0))) (Code.seq (Code.block 1 (Code.seq (cr Try.f125 6 true) (Code.cond (Operand.tmp 26) (Code.seq (cr Try.f125 7 false) Code.ret) Code.skip))) (cr Try.f125 5 false)))))) (Code.seq (cr Try.f125 8 false) Code.ret)))) := by kernel_rfl
theorem eq_steps {w0 w : World} {Rs : List Asn} {b : List Stp} {s1 s2 : Sl} (hS : Sat w0 w Rs) (h1 : Keeps w0 Rs (fun w => RdBody w s1 b)) (h2 : Keeps w0 Rs (fun w => RdBody w s2 b)) (hlb : b.length ≤ 2000000) :
  Calls Try.prog 125 #[.slice s1.A s1.n s1.c, .slice s2.A s2.n s2.c] w (Ret fun r w' => r = .bool true ∧ Sat w0 w' Rs) := by
 have hn1 := (h1 w hS).len
 have hn2 := (h2 w hS).len
 have hA1 := (h1 w hS).A
 have hA2 := (h2 w hS).A
 refine enter (n := 27) Try.func125 code125 (by kernel_rfl) (Nat.le_of_ble_eq_true rfl) (fun a ha => ?_)
 replace ha : Has 27 [(0, .slice s1.A s1.n s1.c), (1, .slice s2.A s2.n s2.c)] a := ha
 refine wp_seq (jX [0] (jQ [(0, 4, .bool false)] ha fun a ha => ?_))
 refine jY (jJ (wp_seq (wp_seq (jX [0, 1, 2, 3, 4] (jQ [(0, 6, .slice s1.A s1.n s1.c), (1, 7, iv (s1.n : Int)), (2, 8, .slice s2.A s2.n s2.c), (3, 9, iv (s2.n : Int)), (4, 10, .bool (!(decide ((s1.n : Int) = (s2.n : Int)))))] ha fun a ha => ?_)))))
 refine jY (jJ ?_)
 by_cases c1 : (s1.n : Int) = (s2.n : Int)
 ·
  refine jK ha rfl (xU (decide_eq_true c1)) ?_
  refine wp_skip (jJ (wp_seq (wp_seq (jX [0] (jQ [(0, 5, iv 0)] ha fun a ha => ?_)))))
  refine jY (jJ (wp_block ?_))
  refine wp_loop_ghost (fun n_ a_ w_ => ∃ (i : Nat), n_ = b.length - i ∧ (i ≤ b.length) ∧ Has 27 [(0, .slice s1.A s1.n s1.c), (1, .slice s2.A s2.n s2.c), (5, iv (i : Int))] a_ ∧ Sat w0 w_ (Rs)) _ ⟨0, rfl, Nat.zero_le _, ha.keeps [0, 1, 5] _ rfl, hS⟩ ?_
  rintro n_ a w ⟨i, rfl, hi, ha, hS⟩
  refine wp_seq (wp_seq (jX [0, 1, 2, 3] (jQ [(0, 11, iv (i : Int)), (1, 12, .slice s1.A s1.n s1.c), (2, 13, iv (s1.n : Int)), (3, 14, .bool (decide ((i : Int) < (s1.n : Int))))] ha fun a ha => ?_)))
  refine jY (jJ ?_)
  by_cases c2 : (i : Int) < (s1.n : Int)
  ·
   have hlt : i < b.length := by have := c2; omega
   obtain ⟨z, hz⟩ : ∃ z, b[i]? = some z := ⟨_, List.getElem?_eq_getElem hlt⟩;refine jU ha rfl (decide_eq_true c2) ?_;refine wp_skip (jJ (wp_seq (wp_block (wp_seq (yV 8 10 hS fun w hS => ?_)))));refine qH (k := 8) [(0, 17, .slice s1.A s1.n s1.c), (1, 18, iv (i : Int))] ha (.inr hS) fun a ha => ?_;refine yY 2 (.pointer (some ⟨bk s1, of_ s1 + i * 3, none⟩)) ha (xW (s := s1) (el := 72) (sz := 3) (j := i) ha (xY (t := 70) (x := 17) (y := 18) (d := 19)) rfl rfl (by kernel_rfl) (by kernel_rfl) (hA1 (by omega)) (by omega)) (.inr hS) fun a ha => ?_;refine yU 3 (.agg #[iv z.k, iv z.a, iv z.b]) ha (v_loadL ha (xK (t := 72) (x := 19) (d := 20) (ty := 72)) rfl (fun w' hw => (h1 w' hw).load hz)) hS fun a ha => ?_;refine qH (k := 4) [(4, 21, .slice s2.A s2.n s2.c), (5, 22, iv (i : Int))] ha (.inr hS) fun a ha => ?_;refine yY 6 (.pointer (some ⟨bk s2, of_ s2 + i * 3, none⟩)) ha (xW (s := s2) (el := 72) (sz := 3) (j := i) ha (xY (t := 70) (x := 21) (y := 22) (d := 23)) rfl rfl (by kernel_rfl) (by kernel_rfl) (hA2 (by omega)) (by omega)) (.inr hS) fun a ha => ?_;refine yU 7 (.agg #[iv z.k, iv z.a, iv z.b]) ha (v_loadL ha (xK (t := 72) (x := 23) (d := 24) (ty := 72)) rfl (fun w' hw => (h2 w' hw).load hz)) hS fun a ha => ?_;refine xX 8 (qQ 25 (vs := [.agg #[iv z.k, iv z.a, iv z.b], .agg #[iv z.k, iv z.a, iv z.b]]) ha (eq_step hS) fun v3 w a hp4 ha => ?_);obtain ⟨rfl, hS⟩ := hp4;refine zY (qH (k := 0) [(9, 26, .bool false)] ha (.inl (by kernel_rfl)) fun a ha => ?_);refine yQ (jJ ?_);refine jK ha rfl rfl ?_;refine wp_skip (in_n (jJ (jX [0, 1, 2] (jQ [(0, 15, iv (i : Int))] ha fun a ha => ?_))));refine xJ 16 ((i : Int) + 1) ha fun a ha => ?_;refine jQ [(2, 5, iv ((i : Int) + 1))] ha fun a ha => ?_;refine jY (jJ ?_);exact ⟨_, by omega, i + 1, rfl, by omega, ha.keeps [0, 1, 5] _ rfl, hS⟩
  refine jK ha rfl (decide_eq_false c2) ?_
  refine wp_exit (qJ (qJ (in_x (jJ (wp_seq (jX [0] (jQ [(0, 4, .bool true)] ha fun a ha => ?_)))))))
  refine jY (jJ (wp_ret (jG ha (by kernel_rfl) (qK (t := 4) ha rfl) ?_)))
  exact ⟨rfl, hS⟩
 exact absurd (by rw [hn1, hn2]) c1
theorem code65 : Try.f65.body = some (Code.seq (cr Try.f65 0 false) (Code.seq (Code.seq (cr Try.f65 1 false) (Code.cond (Operand.tmp 10) (Code.seq (cr Try.f65 2 false) Code.ret) Code.skip)) (Code.seq (Code.seq (cr Try.f65 3 false) (Code.block 0 (Code.loop (Code.seq (Code.seq (cr Try.f65 4 false) (Code.cond (Operand.tmp 14) Code.skip (Code.exit 0))) (Code.seq (Code.block 1 (Code.seq (cr Try.f65 6 true) (Code.cond (Operand.tmp 26) (Code.seq (cr Try.f65 7 false) Code.ret) Code.skip))) (cr Try.f65 5 false)))))) (Code.seq (cr Try.f65 8 false) Code.ret)))) := by kernel_rfl
theorem eq_rows {w0 w : World} {Rs : List Asn} {b : List (List Stp)} {s1 s2 : Sl} {sbs1 sbs2 : List Sl} (hS : Sat w0 w Rs) (h1 : Keeps w0 Rs (fun w => RdProg w s1 sbs1 b)) (h2 : Keeps w0 Rs (fun w => RdProg w s2 sbs2 b)) (hlb : b.length ≤ 2000000) (hlen : ∀ z ∈ b, z.length ≤ 2000000) :
  Calls Try.prog 65 #[.slice s1.A s1.n s1.c, .slice s2.A s2.n s2.c] w (Ret fun r w' => r = .bool true ∧ Sat w0 w' Rs) := by
 have hn1 := (h1 w hS).len
 have hn2 := (h2 w hS).len
 have hA1 := (h1 w hS).A
 have hA2 := (h2 w hS).A
 refine enter (n := 27) Try.func65 code65 (by kernel_rfl) (Nat.le_of_ble_eq_true rfl) (fun a ha => ?_)
 replace ha : Has 27 [(0, .slice s1.A s1.n s1.c), (1, .slice s2.A s2.n s2.c)] a := ha
 refine wp_seq (jX [0] (jQ [(0, 4, .bool false)] ha fun a ha => ?_))
 refine jY (jJ (wp_seq (wp_seq (jX [0, 1, 2, 3, 4] (jQ [(0, 6, .slice s1.A s1.n s1.c), (1, 7, iv (s1.n : Int)), (2, 8, .slice s2.A s2.n s2.c), (3, 9, iv (s2.n : Int)), (4, 10, .bool (!(decide ((s1.n : Int) = (s2.n : Int)))))] ha fun a ha => ?_)))))
 refine jY (jJ ?_)
 by_cases c1 : (s1.n : Int) = (s2.n : Int)
 ·
  refine jK ha rfl (xU (decide_eq_true c1)) ?_
  refine wp_skip (jJ (wp_seq (wp_seq (jX [0] (jQ [(0, 5, iv 0)] ha fun a ha => ?_)))))
  refine jY (jJ (wp_block ?_))
  refine wp_loop_ghost (fun n_ a_ w_ => ∃ (i : Nat), n_ = b.length - i ∧ (i ≤ b.length) ∧ Has 27 [(0, .slice s1.A s1.n s1.c), (1, .slice s2.A s2.n s2.c), (5, iv (i : Int))] a_ ∧ Sat w0 w_ (Rs)) _ ⟨0, rfl, Nat.zero_le _, ha.keeps [0, 1, 5] _ rfl, hS⟩ ?_
  rintro n_ a w ⟨i, rfl, hi, ha, hS⟩
  refine wp_seq (wp_seq (jX [0, 1, 2, 3] (jQ [(0, 11, iv (i : Int)), (1, 12, .slice s1.A s1.n s1.c), (2, 13, iv (s1.n : Int)), (3, 14, .bool (decide ((i : Int) < (s1.n : Int))))] ha fun a ha => ?_)))
  refine jY (jJ ?_)
  by_cases c2 : (i : Int) < (s1.n : Int)
  ·
   have hlt : i < b.length := by have := c2; omega
   obtain ⟨z, hz⟩ : ∃ z, b[i]? = some z := ⟨_, List.getElem?_eq_getElem hlt⟩;obtain ⟨sb1, _, _, hsb1⟩ := RdProg.body h1 hS hz;obtain ⟨sb2, _, _, hsb2⟩ := RdProg.body h2 hS hz;refine jU ha rfl (decide_eq_true c2) ?_;refine wp_skip (jJ (wp_seq (wp_block (wp_seq (yV 8 10 hS fun w hS => ?_)))));refine qH (k := 8) [(0, 17, .slice s1.A s1.n s1.c), (1, 18, iv (i : Int))] ha (.inr hS) fun a ha => ?_;refine yY 2 (.pointer (some ⟨bk s1, of_ s1 + i * 1, none⟩)) ha (xW (s := s1) (el := 70) (sz := 1) (j := i) ha (xY (t := 28) (x := 17) (y := 18) (d := 19)) rfl rfl (by kernel_rfl) (by kernel_rfl) (hA1 (by omega)) (by omega)) (.inr hS) fun a ha => ?_;refine yU 3 (.slice sb1.A sb1.n sb1.c) ha (qV ha (xK (t := 70) (x := 19) (d := 20) (ty := 70)) rfl (by kernel_rfl) (fun w' hw => by rw [Nat.mul_one]; exact (hsb1 w' hw).1)) hS fun a ha => ?_;refine qH (k := 4) [(4, 21, .slice s2.A s2.n s2.c), (5, 22, iv (i : Int))] ha (.inr hS) fun a ha => ?_;refine yY 6 (.pointer (some ⟨bk s2, of_ s2 + i * 1, none⟩)) ha (xW (s := s2) (el := 70) (sz := 1) (j := i) ha (xY (t := 28) (x := 21) (y := 22) (d := 23)) rfl rfl (by kernel_rfl) (by kernel_rfl) (hA2 (by omega)) (by omega)) (.inr hS) fun a ha => ?_;refine yU 7 (.slice sb2.A sb2.n sb2.c) ha (qV ha (xK (t := 70) (x := 23) (d := 24) (ty := 70)) rfl (by kernel_rfl) (fun w' hw => by rw [Nat.mul_one]; exact (hsb2 w' hw).1)) hS fun a ha => ?_;refine xX 8 (qQ 25 (vs := [.slice sb1.A sb1.n sb1.c, .slice sb2.A sb2.n sb2.c]) ha (eq_steps hS (fun w h => (hsb1 w h).2) (fun w h => (hsb2 w h).2) (hlen z (List.mem_of_getElem? hz))) fun v3 w a hp4 ha => ?_);obtain ⟨rfl, hS⟩ := hp4;refine zY (qH (k := 0) [(9, 26, .bool false)] ha (.inl (by kernel_rfl)) fun a ha => ?_);refine yQ (jJ ?_);refine jK ha rfl rfl ?_;refine wp_skip (in_n (jJ (jX [0, 1, 2] (jQ [(0, 15, iv (i : Int))] ha fun a ha => ?_))));refine xJ 16 ((i : Int) + 1) ha fun a ha => ?_;refine jQ [(2, 5, iv ((i : Int) + 1))] ha fun a ha => ?_;refine jY (jJ ?_);exact ⟨_, by omega, i + 1, rfl, by omega, ha.keeps [0, 1, 5] _ rfl, hS⟩
  refine jK ha rfl (decide_eq_false c2) ?_
  refine wp_exit (qJ (qJ (in_x (jJ (wp_seq (jX [0] (jQ [(0, 4, .bool true)] ha fun a ha => ?_)))))))
  refine jY (jJ (wp_ret (jG ha (by kernel_rfl) (qK (t := 4) ha rfl) ?_)))
  exact ⟨rfl, hS⟩
 exact absurd (by rw [hn1, hn2]) c1
theorem code19 : Try.f19.body = some (Code.seq (cr Try.f19 0 false) (Code.seq (Code.seq (cr Try.f19 1 false) (Code.cond (Operand.tmp 10) (Code.seq (cr Try.f19 2 false) Code.ret) Code.skip)) (Code.seq (cr Try.f19 3 false) Code.ret))) := by kernel_rfl
theorem eq_prog {w0 w : World} {Rs : List Asn} {b : List (List Stp)} {s1 s2 : Sl} {sbs1 sbs2 : List Sl} (hS : Sat w0 w Rs) (h1 : Keeps w0 Rs (fun w => RdProg w s1 sbs1 b)) (h2 : Keeps w0 Rs (fun w => RdProg w s2 sbs2 b)) (hlb : b.length ≤ 2000000) (hlen : ∀ z ∈ b, z.length ≤ 2000000) :
  Calls Try.prog 19 #[.agg #[.slice s1.A s1.n s1.c], .agg #[.slice s2.A s2.n s2.c]] w (Ret fun r w' => r = .bool true ∧ Sat w0 w' Rs) := by
 refine enter (n := 11) Try.func19 code19 (by kernel_rfl) (Nat.le_of_ble_eq_true rfl) (fun a ha => ?_)
 replace ha : Has 11 [(0, .agg #[.slice s1.A s1.n s1.c]), (1, .agg #[.slice s2.A s2.n s2.c])] a := ha
 refine wp_seq (jX [0, 1, 2] (jW (qY 2 [.slice s1.A s1.n s1.c] 30 (ptr · 0) ha hS fun b1 w a hb2 hS ha => ?_)))
 refine jW (qY 3 [.slice s2.A s2.n s2.c] 30 (ptr · 0) ha hS fun b3 w a hb4 hS ha => ?_)
 refine jQ [(2, 4, .bool false)] ha fun a ha => ?_
 refine jY (jJ (wp_seq (wp_seq (jX [0, 1, 2, 3, 4, 5] (jQ [(0, 5, ptr b1 0)] ha fun a ha => ?_)))))
 refine qZ (d := 6) (b := b1) (j := 0) ha (hS.blk 1 rfl) rfl fun a ha => ?_
 refine jQ [(2, 7, ptr b3 0)] ha fun a ha => ?_
 refine qZ (d := 8) (b := b3) (j := 0) ha (hS.blk 0 rfl) rfl fun a ha => ?_
 refine jW (qQ 9 (vs := [.slice s1.A s1.n s1.c, .slice s2.A s2.n s2.c]) ha (eq_rows hS (h1.more [_, _]) (h2.more [_, _]) hlb hlen) fun v5 w a hp6 ha => ?_)
 obtain ⟨rfl, hS⟩ := hp6
 refine jQ [(5, 10, .bool false)] ha fun a ha => ?_
 refine jY (jJ ?_)
 refine jK ha rfl rfl ?_
 refine wp_skip (jJ (wp_seq (jX [0] (jQ [(0, 4, .bool true)] ha fun a ha => ?_))))
 refine jY (jJ (wp_ret (jG ha (by kernel_rfl) (qK (t := 4) ha rfl) ?_)))
 exact ⟨rfl, Sat.rest [_, _] hS⟩
section
variable {w0 w : World} {Rs : List Asn} {s : Sl} {l : List (List ST)} {f arg fuel shared : Int}
theorem lift0 {F : Nat} {args : Array Value} {φ : Value → Prop} (hS : Sat w0 w Rs) (h : Calls Try.prog F args w (Ret fun r w' => φ r ∧ Sat w w' [])) : Calls Try.prog F args w (Ret fun r w' => φ r ∧ Sat w0 w' Rs) := by
 refine h.mono fun e w' h => ?_
 cases e with
 | returned r => exact ⟨h.1, hS.comp (Ps := []) h.2⟩
 | _ => exact h.elim
theorem eqP_sat {t : Sl} (hS : Sat w0 w Rs) (hr : RdP w s l) (ht : RdP w t l) (hf : Fits l) :
    Calls Try.prog 19 #[.agg #[.slice s.A s.n s.c], .agg #[.slice t.A t.n t.c]] w (Ret fun r w' => r = .bool true ∧ Sat w0 w' Rs) := by
  obtain ⟨sbs1, h1⟩ := rdProg_of (c := s.c) hr.rd
  obtain ⟨sbs2, h2⟩ := rdProg_of (c := t.c) ht.rd
  rw [← hr.len] at h1
  rw [← ht.len] at h2
  refine (eq_prog (Sat.start w) (h1.keeps []) (h2.keeps []) (by rw [PL_length]; have := hf.len; omega) (fun z hz => ?_)).mono fun e w' h => ?_
  · obtain ⟨b, hb, rfl⟩ := List.mem_map.1 hz
    rw [List.length_map];have := hf.each b hb
    omega
  · cases e with
    | returned r => exact ⟨h.1, hS.comp (Ps := []) h.2⟩
    | _ => exact h.elim
end
end Go.Proofs.Ytpenhegoilccoaa.G
namespace Go.Proofs.Ytpenhegoilccoaa
namespace SX
open Go.RowKit Go.Proofs.YtpenhegoilccoaaW.PrintWords
structure RdE {α : Type} (enc : α → List Value) (sz : Nat) (w : World) (s : Sl) (l : List α) : Prop where
 len : s.n = l.length
 le : l.length ≤ s.c
 big : l.length ≤ 9223372036854775807
 at_ : ∀ (j : Nat) (x : α), l[j]? = some x → s.A = some ⟨bk s, of_ s, none⟩ ∧ ∀ (o : Nat) (u : Value), (enc x)[o]? = some u → w.cell? ⟨bk s, of_ s + j * sz + o, none⟩ = some u
section
variable {α : Type} {enc : α → List Value} {sz : Nat} {w0 w w' : World} {Rs : List Asn} {s : Sl} {l : List α}
theorem RdE.below (h : RdE enc sz w s l) (hb : Below w.heap.size w w') : RdE enc sz w' s l := ⟨h.len, h.le, h.big, fun j x hx => ⟨(h.at_ j x hx).1, fun o u hu => pw_cell_below hb ((h.at_ j x hx).2 o u hu)⟩⟩
theorem RdE.sat (h : RdE enc sz w0 s l) (hS : Sat w0 w Rs) : RdE enc sz w s l := h.below hS.below
theorem Sat.rowC {T : TypeId} {vs : List Value} (h : Sat w0 w Rs) (i : Nat) (hi : Rs[i]? = some (SX.row s.v T sz vs)) : s.n ≤ s.c ∧ s.n ≤ 9223372036854775807 := by
  obtain ⟨n, h1, h2⟩ := h.row i hi
  obtain ⟨A, sn, sc⟩ := s
  have hml : maxLen ≤ 9223372036854775807 := by decide
  rcases h2 with ⟨e, h0⟩ | ⟨g, cap, cur, e, _, hg, h3, h4, h5, h6⟩
  · simp only [Sl.v, Value.slice.injEq] at e
    obtain ⟨rfl, rfl, rfl⟩ := e;exact ⟨Nat.le_refl _, by simp⟩
  · simp only [Sl.v, Value.slice.injEq] at e
    obtain ⟨rfl, rfl, rfl⟩ := e
    dsimp only
    exact ⟨by omega, by omega⟩
end
section
variable {P : Program} {R : Array Oper} {n : Nat} {e : Env} {a : Act} {w : World}
theorem v_loadE {S : World → Prop} {i d : Nat} {t : TypeId} {x : Operand} {ty : TypeId} {b f : Nat} {vs : List Value} (h : Has n e a) (ho : AtW R i (.load t x) (some d) ty a) (hx : ev e x = some (.pointer (some ⟨b, f, none⟩)))
  (ht : aggSize P t = some vs.length) (hb : ∀ w, S w → ∀ (o : Nat) (u : Value), vs[o]? = some u → w.cell? ⟨b, f + o, none⟩ = some u) : Val P R i a S d (.agg vs.toArray) :=
 v_loadL h ho hx fun w hw => run_loadVar_agg ht fun i u hu => by rw [add0]; exact hb w hw i u hu
end
end SX
end Go.Proofs.Ytpenhegoilccoaa
namespace Go.Proofs.Ytpenhegoilccoaa.G
open Go.RowKit Go.Proofs.Ytpenhegoilccoaa.SX Go.Proofs.YtpenhegoilccoaaW.PrintWords Go.Proofs.YtpenhegoilccoaaW.PrintLast Go.Proofs.YtpenhegoilccoaaW.PrintMore
def cellsJ (x : Int) : List Value := [.int .i64 x]
def encJ (l : List Int) : List Value := l.flatMap cellsJ
theorem cellsJ_len (x : Int) : (cellsJ x).length = 1 := rfl
theorem encJ_length (l : List Int) : (encJ l).length = l.length * 1 := flat_length cellsJ_len l
theorem encJ_I (l : List Int) : encI l = encJ l := by
 induction l with
 | nil => rfl
 | cons x l ih => show Value.int .i64 x :: encI l = Value.int .i64 x :: encJ l; rw [ih]
section
variable {w0 w : World} {Rs : List Asn} {s : Sl} {l : List (List ST)} {f at_ : Int}
theorem l2Program_sat (hS : Sat w0 w Rs) (hr : RdP w s l) (hf : Fits l) :
  Calls Try.prog 66 #[.agg #[.slice s.A s.n s.c]] w (Ret fun r w' => r = .bool (programB l) ∧ Sat w0 w' Rs) := by
 have := spec_l2Program.calls 1048580 s.A s.c l (programB l) w hr.rd hr.le (l2Program_f l hf.len 1048580 (by omega))
 rw [← hr.len] at this
 refine this.mono ?_
 rintro e w' ⟨rfl, hb⟩
 exact ⟨rfl, Sat.skip hS hb⟩
theorem isProgram_sat (hS : Sat w0 w Rs) (hr : RdP w s l) (hf : Fits l) :
  Calls Try.prog 79 #[.agg #[.slice s.A s.n s.c]] w (Ret fun r w' => r = .bool (programB l) ∧ Sat w0 w' Rs) := by
 have := impl_IsProgram.calls s.A s.c l (programB l) w hr.rd hr.le rfl
 rw [← hr.len] at this
 refine this.mono ?_
 rintro e w' ⟨rfl, hb⟩
 exact ⟨rfl, Sat.skip hS hb⟩
end
theorem RdE.ofSteps {w : World} {s : Sl} {b : List ST} (hn : s.n = b.length) (hl : b.length ≤ s.c) (h : Kd.C k72 w s.A b.length b) : RdE cT 3 w s b := by
 obtain ⟨_, hb, h3⟩ := h
 refine ⟨hn, hl, hb, fun j x hx => ?_⟩
 have hj := (List.getElem?_eq_some_iff.1 hx).1
 obtain ⟨ad, hA, hc⟩ := h3 (by omega)
 have hcell : ∀ (j : Nat) (x : ST), b[j]? = some x → ∀ (o : Nat) (u : Value), (cT x)[o]? = some u → w.cell? (ad.add (j * 3 + o)) = some u := fun j x hx o u hu => by
  obtain ⟨cs, _, hk, hu2⟩ := hc j x hx
  obtain rfl := k72_open hk
  exact hu2 o u hu
 have hspot := spot_of_cell (v := .int .i64 (b[0]'(by omega)).f0) (w := w) (ad := ad) (by have := hcell 0 _ (List.getElem?_eq_getElem (by omega)) 0 _ rfl; simpa using this)
 obtain ⟨bb, off, sp⟩ := ad
 subst hspot
 refine ⟨by simp [bk, of_, hA], fun o u hu => ?_⟩
 have := hcell j x hx o u hu
 rw [add0] at this
 simpa [bk, of_, hA, Nat.add_assoc] using this
theorem body_rd {w : World} {s : Sl} {l : List (List ST)} (hr : RdP w s l) {j : Nat} {b : List ST} (hb : l[j]? = some b) : s.A = some ⟨bk s, of_ s, none⟩ ∧ ∃ t : Sl, w.cell? ⟨bk s, of_ s + j, none⟩ = some (.slice t.A t.n t.c) ∧ RdE cT 3 w t b := by
 obtain ⟨h1, A', c', h2, h3, h4⟩ := rows_cells hr.rd j b hb
 exact ⟨h1, ⟨A', b.length, c'⟩, h2, RdE.ofSteps rfl h3 h4⟩
end Go.Proofs.Ytpenhegoilccoaa.G
namespace Go.Proofs.Ytpenhegoilccoaa.SX
open Go.RowKit Go.Proofs.Ytpenhegoilccoaa.G Go.Proofs.YtpenhegoilccoaaW.PrintWords Go.Proofs.YtpenhegoilccoaaW.PrintLast Go.Proofs.YtpenhegoilccoaaW.PrintMore
def R3.m : R3 → MS
 | .spent m => m
 | .done m _ _ => m
def RB.m : RB → MS
 | .spent m => m
 | .go m _ _ _ => m
end Go.Proofs.Ytpenhegoilccoaa.SX
namespace Go.Proofs.Ytpenhegoilccoaa
namespace SX
open Go.RowKit
section
variable {P : Program} {R : Array Oper} {Q : Exit → Act → World → Prop} {n : Nat} {e : Env} {a : Act} {w w0 : World} {Rs : List Asn}
theorem o_appI {i d : Nat} {s x : Operand} {t el ty : TypeId} {v : Value} {bytes : Nat} {s2 : Sl} {xs ys : List Int} {z : Value} {T2 : TypeId} {K : Act → World → Prop} (p q : Nat) (h : Has n e a) (hd : d < n)
    (ho : AtW R i (.call { callee := .builtin .append, args := #[s, x], argTypes := #[t, t] }) (some d) ty a) (hs : ev e s = some v) (hx : ev e x = some (.slice s2.A s2.n s2.c))
    (ht : P.underlying t = some (.slice el)) (hinfo : (P.info? el).map (fun i => (i.zero, i.size, i.bytes)) = some (some z, 1, bytes)) (hz : z.cells.size = 1)
    (hS : Sat w0 w Rs) (hp : Rs[p]? = some (SX.row v el 1 (encI xs))) (hq : Rs[q]? = some (SX.row (.slice s2.A s2.n s2.c) T2 1 (encI ys))) (hlen : xs.length + ys.length ≤ 1000000000) (hby : bytes ≤ 100000)
    (k : ∀ (z : Sl) w' a', Sat w0 w' (Rs.set p (SX.row (.slice z.A z.n z.c) el 1 (encI (xs ++ ys)))) → Has n ((d, .slice z.A z.n z.c) :: e) a' → K a' w') : wpOp P R Q i K a w := by
  obtain ⟨i0, hi, hzz⟩ := Option.map_eq_some_iff.1 hinfo
  simp only [Prod.mk.injEq] at hzz
  obtain ⟨hz0, hz1, hz2⟩ := hzz
  have hpl : p < Rs.length := (List.getElem?_eq_some_iff.1 hp).1
  obtain ⟨nx, hown⟩ := hS.row p hp
  have hl := hown.1
  rw [encI_length] at hl
  have hr := hS.rdRow (s := s2) q hq
  have hn2 := hr.len
  have happ : encI xs ++ encI ys = encI (xs ++ ys) := by simp [encI]
  have key : ∀ ad : Addr, s2.A = some ad → (∀ j u, (encI ys)[j]? = some u → w.cell? (ad.add j) = some u) → wpOp P R Q i K a w := by
    intro ad hA hcells;have h1 : ∀ u ∈ encI ys, u.oneCell' = true := fun u hu => by obtain ⟨y, _, rfl⟩ := List.mem_map.1 hu; rfl
    have hbytes : (nx + s2.n) * bytes ≤ 140737488355328 := by
      have h2 : (nx + s2.n) * bytes ≤ (nx + s2.n) * 100000 := Nat.mul_le_mul_left _ hby
      omega
    obtain ⟨v', w', hrn, h2, h3, h4, h5⟩ := run_append_own_at (P := P) w 0 t ty el i0 z 1 bytes ht hi hz0 hz1 hz2 hz (by decide) v nx (encI xs) hown ad s2.n s2.c (encI ys) (by rw [encI_length, hn2]; omega) hcells h1 (by simp only [maxLen]; omega) hbytes (Nat.zero_le _)
    have hrun : (execOp (evD e) (opr (.call { callee := .builtin .append, args := #[s, x], argTypes := #[t, t] }) ty)).run P w = .ok (.value v') w' := by
      rw [hA] at hx
      simp [execOp, opr, resolve, invoke, builtin, evD, hs, hx, hrn]
    have hS' : Sat w0 w' (Rs.set p (SX.row v' el 1 (encI xs ++ encI ys))) := by
      refine hS.upd hp _ h3.os h3.tape h3.output h3.size fun F hF => ⟨fun k => v'.ownBlock = some k, ⟨fun _ => Iff.rfl, _, h2⟩, fun k hk => ?_, fun k hk hF' => h3.block k hk fun e => hF' ((hF.1 k).2 e.symm)⟩
      rcases h5 with h5 | h5
      · exact .inl ((hF.1 k).2 (by rw [← h5]; exact hk))
      · rw [h5] at hk
        injection hk with hk
        exact .inr (by omega)
    rw [happ] at hS'
    obtain ⟨A, nn, cc, rfl, hnn⟩ : ∃ A nn cc, v' = .slice A nn cc ∧ nn = nx + s2.n := by
      rcases h2.2 with ⟨rfl, hn0⟩ | ⟨g, cap, cur, rfl, _⟩
      · exact ⟨none, 0, 0, rfl, hn0.symm⟩
      · exact ⟨_, _, cap, rfl, rfl⟩
    exact o_val h hd ho (by simp [covers, Op.operands, Call.operands, hs, hx, notSelect]) hrun fun a' ha => k ⟨A, nn, cc⟩ w' a' hS' ha
  cases hA : s2.A with
  | some ad =>
    refine key ad hA fun j u hu => ?_;have hj : j < ys.length := by have := (List.getElem?_eq_some_iff.1 hu).1; rwa [encI_length] at this
    obtain ⟨e1, e2⟩ := hr.at_ hj;rw [hA] at e1
    injection e1 with e1
    subst e1
    have hu2 : u = .int .i64 (ys.getD j 0) := by
      have h9 : (encI ys)[j]? = some (.int .i64 (ys.getD j 0)) := by simp [encI, List.getElem?_map, List.getElem?_eq_getElem hj, List.getD_eq_getElem?_getD]
      exact (Option.some.inj (hu.symm.trans h9))
    rw [hu2, add0];exact e2
  | none =>
    have hy0 : ys = [] := by
      by_cases h0 : 0 < ys.length
      · have := (hr.at_ h0).1; rw [hA] at this; cases this
      · exact List.eq_nil_of_length_eq_zero (by omega)
    subst hy0
    obtain ⟨h9, h8⟩ : s2.n = 0 ∧ s2.c = 0 := by
      obtain ⟨n9, hown9⟩ := hS.row q hq
      rcases hown9.2 with ⟨e9, _⟩ | ⟨g, cap, cur, e9, _⟩
      · simp only [Value.slice.injEq] at e9; exact ⟨e9.2.1, e9.2.2⟩
      · simp only [Value.slice.injEq] at e9; rw [hA] at e9; cases e9.1
    rw [hA, h9, h8] at hx;have hrn := run_append_owned_none (P := P) (w := w) 0 t ty el i0 1 ht hi _ _ _ hown
    have hrun : (execOp (evD e) (opr (.call { callee := .builtin .append, args := #[s, x], argTypes := #[t, t] }) ty)).run P w = .ok (.value v) w := by
      simp [execOp, opr, resolve, invoke, builtin, evD, hs, hx, hrn]
    obtain ⟨A, nn, cc, rfl⟩ : ∃ A nn cc, v = .slice A nn cc := by
      rcases hown.2 with ⟨rfl, hn0⟩ | ⟨g, cap, cur, rfl, _⟩
      · exact ⟨none, 0, 0, rfl⟩
      · exact ⟨_, _, cap, rfl⟩
    refine o_val h hd ho (by simp [covers, Op.operands, Call.operands, hs, hx, notSelect]) hrun fun a' ha => k ⟨A, nn, cc⟩ w a' ?_ ha;rw [List.append_nil]
    have h7 : Rs.set p (SX.row (.slice A nn cc) el 1 (encI xs)) = Rs := by
      refine List.ext_getElem? fun j => ?_
      by_cases hj : p = j
      · subst hj; rw [List.getElem?_set_self hpl, hp]
      · rw [List.getElem?_set_ne hj]
    show Sat w0 w (Rs.set p (SX.row (.slice A nn cc) el 1 (encI xs)))
    rw [h7]; exact hS
end
end SX
end Go.Proofs.Ytpenhegoilccoaa
namespace Go.Proofs.Ytpenhegoilccoaa.G
open Go.RowKit Go.Proofs.Ytpenhegoilccoaa.SX Go.Proofs.YtpenhegoilccoaaW.PrintWords Go.Proofs.YtpenhegoilccoaaW.PrintLast Go.Proofs.YtpenhegoilccoaaW.PrintMore
abbrev rF (s : Sl) (l : List (Int × Int × Int)) : Asn := SX.row (.slice s.A s.n s.c) 88 3 (encE l)
def mkE (n : Nat) : List (Int × Int × Int) := (List.range n).map fun (j : Nat) => (1 + 3 * (j : Int), 1 + 3 * (j : Int) + 1, 1 + 3 * (j : Int) + 1 + 1)
theorem mkE_len (n : Nat) : (mkE n).length = n := by simp [mkE]
theorem mkE_at {n j : Nat} {k : Int} (hk : k = 1 + 3 * (j : Int)) (h : j < n) : (mkE n)[j]? = some (k, k + 1, k + 1 + 1) := by
 unfold mkE; rw [List.getElem?_map, List.getElem?_range h, hk]; rfl
theorem mkE_next {l : List (Int × Int × Int)} {j : Nat} {k : Int} (hk : k = 1 + 3 * (j : Int)) (h : j < l.length) : (mkE j ++ l.drop j).set j (k, k + 1, k + 1 + 1) = mkE (j + 1) ++ l.drop (j + 1) := by
 rw [List.set_append_right _ _ (by rw [mkE_len]; exact Nat.le_refl _), mkE_len, Nat.sub_self, List.drop_eq_getElem_cons h, List.set_cons_zero, hk]
 unfold mkE
 rw [List.range_succ, List.map_append, List.append_assoc]
 rfl
theorem mkE_some {l : List (Int × Int × Int)} {j : Nat} (h : j < l.length) : ∃ z, (mkE j ++ l.drop j)[j]? = some z := ⟨_, List.getElem?_eq_getElem (by rw [List.length_append, mkE_len, List.length_drop]; omega)⟩
theorem code87 : Try.f87.body = some (Code.seq (cr Try.f87 0 false) (Code.seq (Code.seq (cr Try.f87 1 false) (Code.cond (Operand.tmp 9) (Code.seq (cr Try.f87 2 false) Code.ret) Code.skip)) (Code.seq (Code.seq (cr Try.f87 3 false) (Code.cond (Operand.tmp 14) (Code.seq (cr Try.f87 4 false) Code.ret) Code.skip)) (Code.seq (Code.seq (cr Try.f87 5 false) (Code.cond (Operand.tmp 19) (Code.seq (cr Try.f87 6 false) Code.ret) Code.skip)) (Code.seq (cr Try.f87 7 false) Code.ret))))) := by kernel_rfl
theorem eqEv_sat {w0 w : World} {Rs : List Asn} {x y z : Int} (hS : Sat w0 w (Rs)) :
  Calls Try.prog 87 #[.agg #[iv x, iv y, iv z], .agg #[iv x, iv y, iv z]] w (Ret fun r w' => r = .bool true ∧ Sat w0 w' (Rs)) := by
 refine enter (n := 20) Try.func87 code87 (by kernel_rfl) (Nat.le_of_ble_eq_true rfl) (fun a ha => ?_)
 replace ha : Has 20 [(0, .agg #[iv x, iv y, iv z]), (1, .agg #[iv x, iv y, iv z])] a := ha
 refine wp_seq (jX [0, 1, 2] (jW (qY 2 [iv x, iv y, iv z] 88 (ptr · 0) ha hS fun b1 w a hb2 hS ha => ?_)))
 refine jW (qY 3 [iv x, iv y, iv z] 88 (ptr · 0) ha hS fun b3 w a hb4 hS ha => ?_)
 refine jQ [(2, 4, .bool false)] ha fun a ha => ?_
 refine jY (jJ (wp_seq (wp_seq (jX [0, 1, 2, 3, 4] (jQ [(0, 5, ptr b1 0)] ha fun a ha => ?_)))))
 refine qZ (d := 6) (b := b1) (j := 0) ha (hS.blk 1 rfl) rfl fun a ha => ?_
 refine jQ [(2, 7, ptr b3 0)] ha fun a ha => ?_
 refine qZ (d := 8) (b := b3) (j := 0) ha (hS.blk 0 rfl) rfl fun a ha => ?_
 refine qX (.bool false) ha ((jH (v := .bool (!(decide (x = x)))) ha (xV (op := (Op.binOp BinOp.neq 3 (Operand.tmp 6) (Operand.tmp 8) 3)) (d := some 9) (ty := 4)) (by kernel_rfl) (fun _ => by kernel_rfl)).as (by simp)) fun a ha => ?_
 refine jY (jJ ?_)
 refine jK ha rfl rfl ?_
 refine wp_skip (jJ (wp_seq (wp_seq (jX [0, 1, 2, 3, 4] (jQ [(0, 10, ptr b1 1)] ha fun a ha => ?_)))))
 refine qZ (d := 11) (b := b1) (j := 1) ha (hS.blk 1 rfl) rfl fun a ha => ?_
 refine jQ [(2, 12, ptr b3 1)] ha fun a ha => ?_
 refine qZ (d := 13) (b := b3) (j := 1) ha (hS.blk 0 rfl) rfl fun a ha => ?_
 refine qX (.bool false) ha ((jH (v := .bool (!(decide (y = y)))) ha (xV (op := (Op.binOp BinOp.neq 3 (Operand.tmp 11) (Operand.tmp 13) 3)) (d := some 14) (ty := 4)) (by kernel_rfl) (fun _ => by kernel_rfl)).as (by simp)) fun a ha => ?_
 refine jY (jJ ?_)
 refine jK ha rfl rfl ?_
 refine wp_skip (jJ (wp_seq (wp_seq (jX [0, 1, 2, 3, 4] (jQ [(0, 15, ptr b1 2)] ha fun a ha => ?_)))))
 refine qZ (d := 16) (b := b1) (j := 2) ha (hS.blk 1 rfl) rfl fun a ha => ?_
 refine jQ [(2, 17, ptr b3 2)] ha fun a ha => ?_
 refine qZ (d := 18) (b := b3) (j := 2) ha (hS.blk 0 rfl) rfl fun a ha => ?_
 refine qX (.bool false) ha ((jH (v := .bool (!(decide (z = z)))) ha (xV (op := (Op.binOp BinOp.neq 3 (Operand.tmp 16) (Operand.tmp 18) 3)) (d := some 19) (ty := 4)) (by kernel_rfl) (fun _ => by kernel_rfl)).as (by simp)) fun a ha => ?_
 refine jY (jJ ?_)
 refine jK ha rfl rfl ?_
 refine wp_skip (jJ (wp_seq (jX [0] (jQ [(0, 4, .bool true)] ha fun a ha => ?_))))
 refine jY ?_
 replace ha := ha.as [(4, .bool true)] rfl
 refine jJ (wp_ret (jG ha (by kernel_rfl) (qK (t := 4) ha rfl) ?_))
 replace hS := hS.pickN 2 []
 exact ⟨rfl, hS⟩
theorem code26 : Try.f26.body = some (Code.seq (cr Try.f26 0 false) (Code.seq (Code.seq (cr Try.f26 1 false) (Code.cond (Operand.tmp 10) (Code.seq (cr Try.f26 2 false) Code.ret) Code.skip)) (Code.seq (Code.seq (cr Try.f26 3 false) (Code.block 0 (Code.loop (Code.seq (Code.seq (cr Try.f26 4 false) (Code.cond (Operand.tmp 14) Code.skip (Code.exit 0))) (Code.seq (Code.block 1 (Code.seq (cr Try.f26 6 true) (Code.cond (Operand.tmp 26) (Code.seq (cr Try.f26 7 false) Code.ret) Code.skip))) (cr Try.f26 5 false)))))) (Code.seq (cr Try.f26 8 false) Code.ret)))) := by kernel_rfl
theorem eqE_sat {w0 w : World} {Rs : List Asn} {sa sb : Sl} {t : List (Int × Int × Int)} (hS : Sat w0 w (rF sa t :: rF sb t :: Rs)) (hl : t.length ≤ 1000000) :
  Calls Try.prog 26 #[.slice sa.A sa.n sa.c, .slice sb.A sb.n sb.c] w (Ret fun r w' => r = .bool true ∧ Sat w0 w' (rF sa t :: rF sb t :: Rs)) := by
 have hla : sa.n = t.length := hS.rowL (s := sa) (enc := cellsE) 0 qU (by decide) rfl
 have hlb : sb.n = t.length := hS.rowL (s := sb) (enc := cellsE) 1 qU (by decide) rfl
 refine enter (n := 27) Try.func26 code26 (by kernel_rfl) (Nat.le_of_ble_eq_true rfl) (fun a ha => ?_)
 replace ha : Has 27 [(0, .slice sa.A sa.n sa.c), (1, .slice sb.A sb.n sb.c)] a := ha
 refine wp_seq (jX [0] (jQ [(0, 4, .bool false)] ha fun a ha => ?_))
 refine jY (jJ (wp_seq (wp_seq (jX [0, 1, 2, 3, 4] (jQ [(0, 6, .slice sa.A sa.n sa.c), (1, 7, iv (sa.n : Int)), (2, 8, .slice sb.A sb.n sb.c), (3, 9, iv (sb.n : Int)), (4, 10, .bool (!(decide ((sa.n : Int) = (sb.n : Int)))))] ha fun a ha => ?_)))))
 refine jY (jJ ?_)
 by_cases c1 : (sa.n : Int) = (sb.n : Int)
 ·
  refine jK ha rfl (xU (decide_eq_true c1)) ?_
  refine wp_skip (jJ (wp_seq (wp_seq (jX [0] (jQ [(0, 5, iv 0)] ha fun a ha => ?_)))))
  refine jY (jJ (wp_block ?_))
  refine wp_loop_ghost (fun n_ a_ w_ => ∃ (i : Nat), n_ = t.length - i ∧ (i ≤ t.length) ∧ Has 27 [(0, .slice sa.A sa.n sa.c), (1, .slice sb.A sb.n sb.c), (5, iv (i : Int))] a_ ∧ Sat w0 w_ ((rF sa t) :: (rF sb t) :: Rs)) _ ⟨0, rfl, Nat.zero_le _, ha.keeps [0, 1, 5] _ rfl, hS⟩ ?_
  rintro n_ a w ⟨i, rfl, hi, ha, hS⟩
  refine wp_seq (wp_seq (jX [0, 1, 2, 3] (jQ [(0, 11, iv (i : Int)), (1, 12, .slice sa.A sa.n sa.c), (2, 13, iv (sa.n : Int)), (3, 14, .bool (decide ((i : Int) < (sa.n : Int))))] ha fun a ha => ?_)))
  refine jY (jJ ?_)
  by_cases c2 : (i : Int) < (sa.n : Int)
  ·
   obtain ⟨z, hz⟩ : ∃ z, t[i]? = some z := ⟨_, List.getElem?_eq_getElem (by omega)⟩;refine jU ha rfl (decide_eq_true c2) ?_;refine wp_skip (jJ (wp_seq (wp_block (wp_seq (yV 8 10 hS fun w hS => ?_)))));refine qH (k := 8) [(0, 17, .slice sa.A sa.n sa.c), (1, 18, iv (i : Int))] ha (.inr hS) fun a ha => ?_;refine yY 2 (.pointer (some ⟨bk sa, i * 3, none⟩)) ha (xQ (s := sa) (el := 88) (sz := 3) (j := i) ha (xY (t := 38) (x := 17) (y := 18) (d := 19)) rfl rfl (by kernel_rfl) (by kernel_rfl) (hS.rowA (s := sa) 0 rfl (by have := (List.getElem?_eq_some_iff.1 hz).1; rw [encE_length]; omega)) (rfl) (by have h9 := hS.rowL (s := sa) (enc := cellsE) 0 qU (by decide) rfl; have := (List.getElem?_eq_some_iff.1 hz).1; omega)) (.inr hS) fun a ha => ?_;refine yU 3 (.agg #[iv z.1, iv z.2.1, iv z.2.2]) ha (v_loadL ha (xK (t := 88) (x := 19) (d := 20) (ty := 88)) rfl (fun w' hw => run_loadVar_agg (vs := [iv z.1, iv z.2.1, iv z.2.2]) (by kernel_rfl) (fun i u hu => by match i, hu with | 0, hu => rw [add0]; rw [← Option.some.inj hu]; exact (((hw.rdC (s := sa) 0 rfl)).cells _ _ ((flat_get (enc := cellsE) (o := 0) qU hz (by decide)).trans rfl)) | 1, hu => rw [add0]; rw [← Option.some.inj hu]; exact (((hw.rdC (s := sa) 0 rfl)).cells _ _ ((flat_get (enc := cellsE) (o := 1) qU hz (by decide)).trans rfl)) | 2, hu => rw [add0]; rw [← Option.some.inj hu]; exact (((hw.rdC (s := sa) 0 rfl)).cells _ _ ((flat_get (enc := cellsE) (o := 2) qU hz (by decide)).trans rfl)) | n + 3, hu => simp at hu))) hS fun a ha => ?_;refine qH (k := 4) [(4, 21, .slice sb.A sb.n sb.c), (5, 22, iv (i : Int))] ha (.inr hS) fun a ha => ?_;refine yY 6 (.pointer (some ⟨bk sb, i * 3, none⟩)) ha (xQ (s := sb) (el := 88) (sz := 3) (j := i) ha (xY (t := 38) (x := 21) (y := 22) (d := 23)) rfl rfl (by kernel_rfl) (by kernel_rfl) (hS.rowA (s := sb) 1 rfl (by have := (List.getElem?_eq_some_iff.1 hz).1; rw [encE_length]; omega)) (rfl) (by have h9 := hS.rowL (s := sb) (enc := cellsE) 1 qU (by decide) rfl; have := (List.getElem?_eq_some_iff.1 hz).1; omega)) (.inr hS) fun a ha => ?_;refine yU 7 (.agg #[iv z.1, iv z.2.1, iv z.2.2]) ha (v_loadL ha (xK (t := 88) (x := 23) (d := 24) (ty := 88)) rfl (fun w' hw => run_loadVar_agg (vs := [iv z.1, iv z.2.1, iv z.2.2]) (by kernel_rfl) (fun i u hu => by match i, hu with | 0, hu => rw [add0]; rw [← Option.some.inj hu]; exact (((hw.rdC (s := sb) 1 rfl)).cells _ _ ((flat_get (enc := cellsE) (o := 0) qU hz (by decide)).trans rfl)) | 1, hu => rw [add0]; rw [← Option.some.inj hu]; exact (((hw.rdC (s := sb) 1 rfl)).cells _ _ ((flat_get (enc := cellsE) (o := 1) qU hz (by decide)).trans rfl)) | 2, hu => rw [add0]; rw [← Option.some.inj hu]; exact (((hw.rdC (s := sb) 1 rfl)).cells _ _ ((flat_get (enc := cellsE) (o := 2) qU hz (by decide)).trans rfl)) | n + 3, hu => simp at hu))) hS fun a ha => ?_;refine xX 8 (qQ 25 (vs := [.agg #[iv z.1, iv z.2.1, iv z.2.2], .agg #[iv z.1, iv z.2.1, iv z.2.2]]) ha (eqEv_sat hS) fun v3 w a hp4 ha => ?_);obtain ⟨rfl, hS⟩ := hp4;refine zY (qH (k := 0) [(9, 26, .bool false)] ha (.inl (by kernel_rfl)) fun a ha => ?_)
   refine yQ (jJ ?_);refine jK ha rfl rfl ?_;refine wp_skip (in_n (jJ (jX [0, 1, 2] (jQ [(0, 15, iv (i : Int))] ha fun a ha => ?_))));refine xJ 16 ((i : Int) + 1) ha fun a ha => ?_;refine jQ [(2, 5, iv ((i : Int) + 1))] ha fun a ha => ?_;refine jY (jJ ?_);replace hS : Sat w0 w ((rF sa t) :: (rF sb t) :: Rs) := hS;exact ⟨_, by omega, i + 1, rfl, by omega, ha.keeps [0, 1, 5] _ rfl, hS⟩
  refine jK ha rfl (decide_eq_false c2) ?_
  refine wp_exit (qJ (qJ (in_x (jJ (wp_seq (jX [0] (jQ [(0, 4, .bool true)] ha fun a ha => ?_)))))))
  refine jY (jJ (wp_ret (jG ha (by kernel_rfl) (qK (t := 4) ha rfl) ?_)))
  exact ⟨rfl, hS⟩
 refine jU ha rfl (xG (decide_eq_false c1)) ?_
 refine wp_seq (jX [0] (jQ [(0, 4, .bool false)] ha fun a ha => ?_))
 refine jY (jJ (wp_ret (qG ?_)))
 exfalso; omega
theorem code28 : Try.f28.body = some (Code.seq (cr Try.f28 0 false) (Code.seq (Code.seq (cr Try.f28 1 false) (Code.block 0 (Code.loop (Code.seq (Code.seq (cr Try.f28 2 false) (Code.cond (Operand.tmp 9) Code.skip (Code.exit 0))) (Code.seq (Code.block 1 (Code.seq (Code.seq (cr Try.f28 4 false) (Code.cond (Operand.tmp 18) (Code.seq (cr Try.f28 5 false) Code.ret) Code.skip)) (Code.seq (cr Try.f28 6 false) (Code.seq (Code.seq (cr Try.f28 7 false) (Code.cond (Operand.tmp 27) (Code.seq (cr Try.f28 8 false) Code.ret) Code.skip)) (Code.seq (cr Try.f28 9 false) (Code.seq (Code.seq (cr Try.f28 10 false) (Code.cond (Operand.tmp 36) (Code.seq (cr Try.f28 11 false) Code.ret) Code.skip)) (cr Try.f28 12 false))))))) (cr Try.f28 3 false)))))) (Code.seq (cr Try.f28 13 false) Code.ret))) := by kernel_rfl
theorem heldE_sat {w0 w : World} {Rs : List Asn} {o : Sl} {n : Nat} (hS : Sat w0 w (rF o (mkE n) :: Rs)) (hl : n ≤ 1000000) :
  Calls Try.prog 28 #[.slice o.A o.n o.c, .int .i64 1] w (Ret fun r w' => r = .int .i64 (1 + 3 * (n : Int)) ∧ Sat w0 w' (rF o (mkE n) :: Rs)) := by
 have hlen : o.n = (mkE n).length := hS.rowL (s := o) (enc := cellsE) 0 qU (by decide) rfl
 rw [mkE_len] at hlen
 refine enter (n := 40) Try.func28 code28 (by kernel_rfl) (Nat.le_of_ble_eq_true rfl) (fun a ha => ?_)
 replace ha : Has 40 [(0, .slice o.A o.n o.c), (1, iv 1)] a := ha
 refine wp_seq (jX [0] (jQ [(0, 4, iv 0)] ha fun a ha => ?_))
 refine jY (jJ (wp_seq (wp_seq (jX [0] (jQ [(0, 5, iv 0)] ha fun a ha => ?_)))))
 refine jY (jJ (wp_block ?_))
 refine wp_loop_ghost (fun n_ a_ w_ => ∃ (i : Nat) (k : Int), n_ = n - i ∧ (i ≤ n) ∧ (k = 1 + 3 * (i : Int)) ∧ Has 40 [(0, .slice o.A o.n o.c), (1, iv k), (5, iv (i : Int))] a_ ∧ Sat w0 w_ ((rF o (mkE n)) :: Rs)) _ ⟨0, 1, rfl, Nat.zero_le _, rfl, ha.keeps [0, 1, 5] _ rfl, hS⟩ ?_
 rintro n_ a w ⟨i, k, rfl, hi, hk, ha, hS⟩
 refine wp_seq (wp_seq (jX [0, 1, 2, 3] (jQ [(0, 6, iv (i : Int)), (1, 7, .slice o.A o.n o.c), (2, 8, iv (o.n : Int)), (3, 9, .bool (decide ((i : Int) < (o.n : Int))))] ha fun a ha => ?_)))
 refine jY (jJ ?_)
 by_cases c1 : (i : Int) < (o.n : Int)
 ·
  have hz := mkE_at (n := n) hk (by omega)
  refine jU ha rfl (decide_eq_true c1) ?_
  refine wp_skip (jJ (wp_seq (wp_block (wp_seq (wp_seq (jX [0, 1, 2, 3, 4, 5, 6] (jQ [(0, 12, .slice o.A o.n o.c), (1, 13, iv (i : Int))] ha fun a ha => ?_)))))))
  refine qX (.pointer (some ⟨bk o, i * 3, none⟩)) ha (xQ (s := o) (el := 88) (sz := 3) (j := i) ha (xY (t := 38) (x := 12) (y := 13) (d := 14)) rfl rfl (by kernel_rfl) (by kernel_rfl) (hS.rowA (s := o) 0 rfl (by have := (List.getElem?_eq_some_iff.1 hz).1; rw [encE_length]; omega)) (rfl) (by have h9 := hS.rowL (s := o) (enc := cellsE) 0 qU (by decide) rfl; have := (List.getElem?_eq_some_iff.1 hz).1; omega)) fun a ha => ?_
  refine jQ [(3, 15, .pointer (some ⟨bk o, i * 3, none⟩))] ha fun a ha => ?_
  refine qX (iv k) ha (qV ha (xK (t := 3) (x := 15) (d := 16) (ty := 3)) rfl (by kernel_rfl) (fun w' hw => by rw [hw]; exact (hS.rdC (s := o) 0 rfl).cells _ _ ((flat_get (enc := cellsE) (o := 0) qU hz (by decide)).trans rfl))) fun a ha => ?_
  refine jQ [(5, 17, iv k)] ha fun a ha => ?_
  refine qX (.bool false) ha ((jH (v := .bool (!(decide (k = k)))) ha (xV (op := (Op.binOp BinOp.neq 3 (Operand.tmp 16) (Operand.tmp 17) 3)) (d := some 18) (ty := 4)) (by kernel_rfl) (fun _ => by kernel_rfl)).as (by simp)) fun a ha => ?_
  refine jY (jJ ?_)
  refine jK ha rfl rfl ?_
  refine wp_skip (jJ (wp_seq (jX [0, 1, 2] (jQ [(0, 19, iv k)] ha fun a ha => ?_))))
  refine xJ 20 (k + 1) ha fun a ha => ?_
  refine jQ [(2, 1, iv (k + 1))] ha fun a ha => ?_
  refine jY (jJ (wp_seq (wp_seq (jX [0, 1, 2, 3, 4, 5, 6] (jQ [(0, 21, .slice o.A o.n o.c), (1, 22, iv (i : Int))] ha fun a ha => ?_)))))
  refine qX (.pointer (some ⟨bk o, i * 3, none⟩)) ha (xQ (s := o) (el := 88) (sz := 3) (j := i) ha (xY (t := 38) (x := 21) (y := 22) (d := 23)) rfl rfl (by kernel_rfl) (by kernel_rfl) (hS.rowA (s := o) 0 rfl (by have := (List.getElem?_eq_some_iff.1 hz).1; rw [encE_length]; omega)) (rfl) (by have h9 := hS.rowL (s := o) (enc := cellsE) 0 qU (by decide) rfl; have := (List.getElem?_eq_some_iff.1 hz).1; omega)) fun a ha => ?_
  refine jQ [(3, 24, .pointer (some ⟨bk o, i * 3 + 1, none⟩))] ha fun a ha => ?_
  refine qX (iv (k + 1)) ha (qV ha (xK (t := 3) (x := 24) (d := 25) (ty := 3)) rfl (by kernel_rfl) (fun w' hw => by rw [hw]; exact (hS.rdC (s := o) 0 rfl).cells _ _ ((flat_get (enc := cellsE) (o := 1) qU hz (by decide)).trans rfl))) fun a ha => ?_
  refine jQ [(5, 26, iv (k + 1))] ha fun a ha => ?_
  refine qX (.bool false) ha ((jH (v := .bool (!(decide (k + 1 = k + 1)))) ha (xV (op := (Op.binOp BinOp.neq 3 (Operand.tmp 25) (Operand.tmp 26) 3)) (d := some 27) (ty := 4)) (by kernel_rfl) (fun _ => by kernel_rfl)).as (by simp)) fun a ha => ?_
  refine jY (jJ ?_)
  refine jK ha rfl rfl ?_
  refine wp_skip (jJ (wp_seq (jX [0, 1, 2] (jQ [(0, 28, iv (k + 1))] ha fun a ha => ?_))))
  refine xJ 29 ((k + 1) + 1) ha fun a ha => ?_
  refine jQ [(2, 1, iv ((k + 1) + 1))] ha fun a ha => ?_
  refine jY (jJ (wp_seq (wp_seq (jX [0, 1, 2, 3, 4, 5, 6] (jQ [(0, 30, .slice o.A o.n o.c), (1, 31, iv (i : Int))] ha fun a ha => ?_)))))
  refine qX (.pointer (some ⟨bk o, i * 3, none⟩)) ha (xQ (s := o) (el := 88) (sz := 3) (j := i) ha (xY (t := 38) (x := 30) (y := 31) (d := 32)) rfl rfl (by kernel_rfl) (by kernel_rfl) (hS.rowA (s := o) 0 rfl (by have := (List.getElem?_eq_some_iff.1 hz).1; rw [encE_length]; omega)) (rfl) (by have h9 := hS.rowL (s := o) (enc := cellsE) 0 qU (by decide) rfl; have := (List.getElem?_eq_some_iff.1 hz).1; omega)) fun a ha => ?_
  refine jQ [(3, 33, .pointer (some ⟨bk o, i * 3 + 2, none⟩))] ha fun a ha => ?_
  refine qX (iv ((k + 1) + 1)) ha (qV ha (xK (t := 3) (x := 33) (d := 34) (ty := 3)) rfl (by kernel_rfl) (fun w' hw => by rw [hw]; exact (hS.rdC (s := o) 0 rfl).cells _ _ ((flat_get (enc := cellsE) (o := 2) qU hz (by decide)).trans rfl))) fun a ha => ?_
  refine jQ [(5, 35, iv ((k + 1) + 1))] ha fun a ha => ?_
  refine qX (.bool false) ha ((jH (v := .bool (!(decide ((k + 1) + 1 = (k + 1) + 1)))) ha (xV (op := (Op.binOp BinOp.neq 3 (Operand.tmp 34) (Operand.tmp 35) 3)) (d := some 36) (ty := 4)) (by kernel_rfl) (fun _ => by kernel_rfl)).as (by simp)) fun a ha => ?_
  refine jY (jJ ?_)
  refine jK ha rfl rfl ?_
  refine wp_skip (jJ (jX [0, 1, 2] (jQ [(0, 37, iv ((k + 1) + 1))] ha fun a ha => ?_)))
  refine xJ 38 (((k + 1) + 1) + 1) ha fun a ha => ?_
  refine jQ [(2, 1, iv (((k + 1) + 1) + 1))] ha fun a ha => ?_
  refine jY (in_n (jJ (jX [0, 1, 2] (jQ [(0, 10, iv (i : Int))] ha fun a ha => ?_))))
  refine xJ 11 ((i : Int) + 1) ha fun a ha => ?_
  refine jQ [(2, 5, iv ((i : Int) + 1))] ha fun a ha => ?_
  refine jY (jJ ?_)
  exact ⟨_, by omega, i + 1, ((k + 1) + 1) + 1, rfl, by omega, by omega, ha.keeps [0, 1, 5] _ rfl, hS⟩
 refine jK ha rfl (decide_eq_false c1) ?_
 refine wp_exit (qJ (qJ (in_x (jJ (wp_seq (jX [0, 1] (jQ [(0, 39, iv k), (1, 4, iv k)] ha fun a ha => ?_)))))))
 refine jY (jJ (wp_ret (jG ha (by kernel_rfl) (qK (t := 4) ha rfl) ?_)))
 obtain rfl : i = n := by omega
 exact ⟨by rw [hk], hS⟩
theorem code27 : Try.f27.body = some (Code.seq (cr Try.f27 0 false) (Code.seq (Code.seq (cr Try.f27 1 false) (Code.block 0 (Code.loop (Code.seq (Code.seq (cr Try.f27 2 false) (Code.cond (Operand.tmp 9) Code.skip (Code.exit 0))) (Code.seq (Code.block 1 (Code.seq (cr Try.f27 4 false) (Code.seq (cr Try.f27 5 false) (Code.seq (cr Try.f27 6 false) (Code.seq (cr Try.f27 7 false) (Code.seq (cr Try.f27 8 false) (cr Try.f27 9 false))))))) (cr Try.f27 3 false)))))) (Code.seq (cr Try.f27 10 false) Code.ret))) := by kernel_rfl
theorem markE_sat {w0 w : World} {Rs : List Asn} {o : Sl} {l : List (Int × Int × Int)} (hS : Sat w0 w (rF o l :: Rs)) (hl : l.length ≤ 1000000) :
  Calls Try.prog 27 #[.slice o.A o.n o.c, .int .i64 1] w (Ret fun r w' => r = .int .i64 (1 + 3 * (l.length : Int)) ∧ Sat w0 w' (rF o (mkE l.length) :: Rs)) := by
 have hlen : o.n = l.length := hS.rowL (s := o) (enc := cellsE) 0 qU (by decide) rfl
 refine enter (n := 34) Try.func27 code27 (by kernel_rfl) (Nat.le_of_ble_eq_true rfl) (fun a ha => ?_)
 replace ha : Has 34 [(0, .slice o.A o.n o.c), (1, iv 1)] a := ha
 refine wp_seq (jX [0] (jQ [(0, 4, iv 0)] ha fun a ha => ?_))
 refine jY (jJ (wp_seq (wp_seq (jX [0] (jQ [(0, 5, iv 0)] ha fun a ha => ?_)))))
 refine jY (jJ (wp_block ?_))
 refine wp_loop_ghost (fun n_ a_ w_ => ∃ (i : Nat) (k : Int), n_ = l.length - i ∧ (i ≤ l.length) ∧ (k = 1 + 3 * (i : Int)) ∧ Has 34 [(0, .slice o.A o.n o.c), (1, iv k), (5, iv (i : Int))] a_ ∧ Sat w0 w_ ((rF o (mkE i ++ l.drop i)) :: Rs)) _ ⟨0, 1, rfl, Nat.zero_le _, rfl, ha.keeps [0, 1, 5] _ rfl, hS⟩ ?_
 rintro n_ a w ⟨i, k, rfl, hi, hk, ha, hS⟩
 refine wp_seq (wp_seq (jX [0, 1, 2, 3] (jQ [(0, 6, iv (i : Int)), (1, 7, .slice o.A o.n o.c), (2, 8, iv (o.n : Int)), (3, 9, .bool (decide ((i : Int) < (o.n : Int))))] ha fun a ha => ?_)))
 refine jY (jJ ?_)
 by_cases c1 : (i : Int) < (o.n : Int)
 ·
  obtain ⟨z, hz⟩ := mkE_some (l := l) (j := i) (by omega)
  refine jU ha rfl (decide_eq_true c1) ?_
  refine wp_skip (jJ (wp_seq (wp_block (wp_seq (jX [0, 1, 2, 3, 4, 5] (jQ [(0, 12, .slice o.A o.n o.c), (1, 13, iv (i : Int)), (2, 14, iv k)] ha fun a ha => ?_))))))
  refine qX (.pointer (some ⟨bk o, i * 3, none⟩)) ha (xQ (s := o) (el := 88) (sz := 3) (j := i) ha (xY (t := 38) (x := 12) (y := 13) (d := 15)) rfl rfl (by kernel_rfl) (by kernel_rfl) (hS.rowA (s := o) 0 rfl (by have := (List.getElem?_eq_some_iff.1 hz).1; rw [encE_length]; omega)) (rfl) (by have h9 := hS.rowL (s := o) (enc := cellsE) 0 qU (by decide) rfl; have := (List.getElem?_eq_some_iff.1 hz).1; omega)) fun a ha => ?_
  refine jQ [(4, 16, .pointer (some ⟨bk o, i * 3, none⟩))] ha fun a ha => ?_
  refine jW (yH (s := o) (j := i * 3 + 0) (xs := encE (mkE i ++ l.drop i)) (xs' := encE ((mkE i ++ l.drop i).set i ((k, z.2.1, z.2.2) : Int × Int × Int))) 0 ha (zJ (t := 3) (x := 16) (y := 14)) rfl rfl rfl (by kernel_rfl) hS rfl (by have := (List.getElem?_eq_some_iff.1 hz).1; rw [encE_length]; omega) ((flat_set (enc := cellsE) (x' := ((k, z.2.1, z.2.2) : Int × Int × Int)) qU hz (by decide) rfl)) (fun w a (hS : Sat w0 w ((rF o ((mkE i ++ l.drop i).set i ((k, z.2.1, z.2.2) : Int × Int × Int))) :: Rs)) ha => ?_))
  refine jY (jJ (wp_seq (jX [0, 1, 2] (jQ [(0, 17, iv k)] ha fun a ha => ?_))))
  refine xJ 18 (k + 1) ha fun a ha => ?_
  refine jQ [(2, 1, iv (k + 1))] ha fun a ha => ?_
  refine jY (jJ (wp_seq (jX [0, 1, 2, 3, 4, 5] (jQ [(0, 19, .slice o.A o.n o.c), (1, 20, iv (i : Int)), (2, 21, iv (k + 1))] ha fun a ha => ?_))))
  refine qX (.pointer (some ⟨bk o, i * 3, none⟩)) ha (xQ (s := o) (el := 88) (sz := 3) (j := i) ha (xY (t := 38) (x := 19) (y := 20) (d := 22)) rfl rfl (by kernel_rfl) (by kernel_rfl) (hS.rowA (s := o) 0 rfl (by have := (List.getElem?_eq_some_iff.1 (set_get hz ((k, z.2.1, z.2.2) : Int × Int × Int))).1; rw [encE_length]; omega)) (rfl) (by have h9 := hS.rowL (s := o) (enc := cellsE) 0 qU (by decide) rfl; have := (List.getElem?_eq_some_iff.1 (set_get hz ((k, z.2.1, z.2.2) : Int × Int × Int))).1; omega)) fun a ha => ?_
  refine jQ [(4, 23, .pointer (some ⟨bk o, i * 3 + 1, none⟩))] ha fun a ha => ?_
  refine jW (yH (s := o) (j := i * 3 + 1) (xs := encE ((mkE i ++ l.drop i).set i ((k, z.2.1, z.2.2) : Int × Int × Int))) (xs' := encE ((mkE i ++ l.drop i).set i ((k, k + 1, z.2.2) : Int × Int × Int))) 0 ha (zJ (t := 3) (x := 23) (y := 21)) rfl rfl rfl (by kernel_rfl) hS rfl (by have := (List.getElem?_eq_some_iff.1 (set_get hz ((k, z.2.1, z.2.2) : Int × Int × Int))).1; rw [encE_length]; omega) ((flat_set (enc := cellsE) (x' := ((k, k + 1, z.2.2) : Int × Int × Int)) qU (set_get hz ((k, z.2.1, z.2.2) : Int × Int × Int)) (by decide) rfl).trans (by rw [List.set_set]; rfl)) (fun w a (hS : Sat w0 w ((rF o ((mkE i ++ l.drop i).set i ((k, k + 1, z.2.2) : Int × Int × Int))) :: Rs)) ha => ?_))
  refine jY (jJ (wp_seq (jX [0, 1, 2] (jQ [(0, 24, iv (k + 1))] ha fun a ha => ?_))))
  refine xJ 25 ((k + 1) + 1) ha fun a ha => ?_
  refine jQ [(2, 1, iv ((k + 1) + 1))] ha fun a ha => ?_
  refine jY (jJ (wp_seq (jX [0, 1, 2, 3, 4, 5] (jQ [(0, 26, .slice o.A o.n o.c), (1, 27, iv (i : Int)), (2, 28, iv ((k + 1) + 1))] ha fun a ha => ?_))))
  refine qX (.pointer (some ⟨bk o, i * 3, none⟩)) ha (xQ (s := o) (el := 88) (sz := 3) (j := i) ha (xY (t := 38) (x := 26) (y := 27) (d := 29)) rfl rfl (by kernel_rfl) (by kernel_rfl) (hS.rowA (s := o) 0 rfl (by have := (List.getElem?_eq_some_iff.1 (set_get hz ((k, k + 1, z.2.2) : Int × Int × Int))).1; rw [encE_length]; omega)) (rfl) (by have h9 := hS.rowL (s := o) (enc := cellsE) 0 qU (by decide) rfl; have := (List.getElem?_eq_some_iff.1 (set_get hz ((k, k + 1, z.2.2) : Int × Int × Int))).1; omega)) fun a ha => ?_
  refine jQ [(4, 30, .pointer (some ⟨bk o, i * 3 + 2, none⟩))] ha fun a ha => ?_
  refine jW (yH (s := o) (j := i * 3 + 2) (xs := encE ((mkE i ++ l.drop i).set i ((k, k + 1, z.2.2) : Int × Int × Int))) (xs' := encE ((mkE i ++ l.drop i).set i ((k, k + 1, (k + 1) + 1) : Int × Int × Int))) 0 ha (zJ (t := 3) (x := 30) (y := 28)) rfl rfl rfl (by kernel_rfl) hS rfl (by have := (List.getElem?_eq_some_iff.1 (set_get hz ((k, k + 1, z.2.2) : Int × Int × Int))).1; rw [encE_length]; omega) ((flat_set (enc := cellsE) (x' := ((k, k + 1, (k + 1) + 1) : Int × Int × Int)) qU (set_get hz ((k, k + 1, z.2.2) : Int × Int × Int)) (by decide) rfl).trans (by rw [List.set_set]; rfl)) (fun w a (hS : Sat w0 w ((rF o ((mkE i ++ l.drop i).set i ((k, k + 1, (k + 1) + 1) : Int × Int × Int))) :: Rs)) ha => ?_))
  refine jY (jJ (jX [0, 1, 2] (jQ [(0, 31, iv ((k + 1) + 1))] ha fun a ha => ?_)))
  refine xJ 32 (((k + 1) + 1) + 1) ha fun a ha => ?_
  refine jQ [(2, 1, iv (((k + 1) + 1) + 1))] ha fun a ha => ?_
  refine jY (in_n (jJ (jX [0, 1, 2] (jQ [(0, 10, iv (i : Int))] ha fun a ha => ?_))))
  refine xJ 11 ((i : Int) + 1) ha fun a ha => ?_
  refine jQ [(2, 5, iv ((i : Int) + 1))] ha fun a ha => ?_
  refine jY (jJ ?_)
  replace hS : Sat w0 w ((rF o (mkE (i + 1) ++ l.drop (i + 1))) :: Rs) := by rw [← mkE_next hk (by omega)]; exact hS
  exact ⟨_, by omega, i + 1, ((k + 1) + 1) + 1, rfl, by omega, by omega, ha.keeps [0, 1, 5] _ rfl, hS⟩
 refine jK ha rfl (decide_eq_false c1) ?_
 refine wp_exit (qJ (qJ (in_x (jJ (wp_seq (jX [0, 1] (jQ [(0, 33, iv k), (1, 4, iv k)] ha fun a ha => ?_)))))))
 refine jY (jJ (wp_ret (jG ha (by kernel_rfl) (qK (t := 4) ha rfl) ?_)))
 obtain rfl : i = l.length := by omega
 exact ⟨by rw [hk], by rw [List.drop_length, List.append_nil] at hS; exact hS⟩
end Go.Proofs.Ytpenhegoilccoaa.G
