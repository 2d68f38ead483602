/- What the claim FnExactKeepReached rests on, part 19 of 27; the last part proves it: for every input the law answers true, and its arguments read behind the call as before it. No condition. -/
import Derived.Test.YtpenhegoilccoaaQKeepReached9
import Derived.Test.YtpenhegoilccoaaQKeepReached10
import Derived.Test.YtpenhegoilccoaaQKeepReached13
import Derived.Test.YtpenhegoilccoaaQKeepReached15
import Derived.Test.YtpenhegoilccoaaQKeepReached16
import Derived.Test.YtpenhegoilccoaaQKeepReached18
set_option linter.unusedSimpArgs false
set_option linter.unusedVariables false
set_option maxRecDepth 20000
set_option maxHeartbeats 1000000
namespace Go.Proofs.Ytpenhegoilccoaa
namespace SX
open Go.RowKit Go.Proofs.Ytpenhegoilccoaa.G Go.Proofs.YtpenhegoilccoaaW.PrintWords Go.Proofs.YtpenhegoilccoaaW.PrintLast Go.Proofs.YtpenhegoilccoaaW.PrintMore
abbrev GS := S72
def toStp (x : GS) : Stp := ⟨x.f0, x.f1, x.f2⟩
def PL (l : List (List GS)) : List (List Stp) := l.map (·.map toStp)
theorem PL_length (l : List (List GS)) : (PL l).length = l.length := by simp [PL]
theorem stepB_ok {n : Nat} {k a b : Int} (h : stepB n k a b = true) : StpOk n ⟨k, a, b⟩ := by
  simp only [stepB, Bool.and_eq_true, decide_eq_true_eq] at h
  obtain ⟨⟨⟨h1, h2⟩, h3⟩, h4⟩ := h
  refine ⟨h1, h2, fun n4 n5 n10 n11 => ?_, fun hk => ?_, fun hk => ?_, fun hk => ?_, fun hk => ?_⟩
  · dsimp only at n4 n5 n10 n11 ⊢
    rw [if_neg (by omega), if_neg n11, if_neg n10] at h3;simp only [regB, Bool.and_eq_true, decide_eq_true_eq] at h3;exact h3
  · dsimp only at hk ⊢
    rw [if_neg (by omega), if_pos hk] at h4;simp only [regB, Bool.and_eq_true, decide_eq_true_eq] at h4;exact h4
  · dsimp only at hk ⊢
    rw [if_pos hk] at h3;simp only [Bool.and_eq_true, decide_eq_true_eq] at h3
    omega
  · dsimp only at hk ⊢
    rw [if_neg (by omega), if_pos hk] at h3;simp only [Bool.and_eq_true, decide_eq_true_eq] at h3;exact h3
  · dsimp only at hk ⊢
    rw [if_pos hk] at h4;simp only [numB, Bool.and_eq_true, decide_eq_true_eq] at h4;exact h4
theorem progOk_of {l : List (List GS)} (h : programB l = true) : ProgOk (PL l) := by
  simp only [programB, bodyB, Bool.and_eq_true, decide_eq_true_eq, List.all_eq_true] at h
  obtain ⟨⟨h1, h2⟩, h3⟩ := h
  refine ⟨by rw [PL_length]; exact h1, by rw [PL_length]; exact h2, fun b hb => ?_, fun b hb s hs => ?_⟩
  · obtain ⟨b', hb', rfl⟩ := List.mem_map.1 hb
    rw [List.length_map];exact (h3 b' hb').1
  · obtain ⟨b', hb', rfl⟩ := List.mem_map.1 hb
    obtain ⟨s', hs', rfl⟩ := List.mem_map.1 hs;rw [PL_length];exact stepB_ok ((h3 b' hb').2 s' hs')
theorem cell_lt {w : World} {p : Addr} {v : Value} (h : w.cell? p = some v) : p.block < w.heap.size := by
 unfold World.cell? at h
 split at h
 · rename_i h'; exact (Array.getElem?_eq_some_iff.1 h').1
 · cases h
theorem cell_below {w w' : World} {p : Addr} {v : Value} (h : w.cell? p = some v) (hb : Below w.heap.size w w') : w'.cell? p = some v := by
 rw [← h]
 unfold World.cell?
 rw [hb.block _ (cell_lt h)]
theorem RdBody.below {w w' : World} {s : Sl} {b : List Stp} (h : RdBody w s b) (hb : Below w.heap.size w w') : RdBody w' s b := ⟨h.len, h.A, fun j x hx => cell_below (h.k j x hx) hb, fun j x hx => cell_below (h.a j x hx) hb, fun j x hx => cell_below (h.b j x hx) hb⟩
theorem RdProg.below {w w' : World} {pv : Sl} {sbs : List Sl} {P : List (List Stp)} (h : RdProg w pv sbs P) (hb : Below w.heap.size w w') : RdProg w' pv sbs P :=
 ⟨h.len, h.A, fun i b hi => let ⟨s, h1, h2, h3⟩ := h.rows i b hi; ⟨s, h1, cell_below h2 hb, h3.below hb⟩⟩
theorem RdProg.keeps {w : World} {pv : Sl} {sbs : List Sl} {P : List (List Stp)} (h : RdProg w pv sbs P) (Rs : List Asn) : Keeps w Rs (fun w => RdProg w pv sbs P) := fun w' hS => h.below hS.below
theorem rdBody_of {w : World} {A : Option Addr} {c : Nat} {l : List GS} (hr : Kd.C k72 w A l.length l) : RdBody w ⟨A, l.length, c⟩ (l.map toStp) := by
  obtain ⟨_, _, h3⟩ := hr
  have key : ∀ (j : Nat) (x : GS), l[j]? = some x → A = some ⟨bk ⟨A, l.length, c⟩, of_ ⟨A, l.length, c⟩, none⟩ ∧ ∀ i u, (encT x)[i]? = some u → w.cell? ⟨bk ⟨A, l.length, c⟩, of_ ⟨A, l.length, c⟩ + j * 3 + i, none⟩ = some u := by
    intro j x hj;have hjl : j < l.length := (List.getElem?_eq_some_iff.1 hj).1;obtain ⟨ad, hA, hcells⟩ := h3 (by omega)
    have key : ∀ (j : Nat) (x : GS), l[j]? = some x → ∀ i u, (encT x)[i]? = some u → w.cell? (ad.add (j * 3 + i)) = some u := fun j x hj i u hu => by
      obtain ⟨cs, _, hk, hu'⟩ := hcells j x hj;rw [k72_open hk] at hu';exact hu' i u hu
    have h0 := key 0 _ (List.getElem?_eq_getElem (by omega)) 0 _ rfl;have hspot := spot_of_cell h0;obtain ⟨b, off, sp⟩ := ad;subst hspot;subst hA;refine ⟨rfl, fun i u hu => ?_⟩;have := key j x hj i u hu;rw [add0, ← Nat.add_assoc] at this;exact this
  have get : ∀ (j : Nat) (x : Stp), (l.map toStp)[j]? = some x → ∃ y : GS, l[j]? = some y ∧ toStp y = x := fun j x hx => by
    rw [List.getElem?_map] at hx;exact Option.map_eq_some_iff.1 hx
  refine ⟨by simp, fun hp => ?_, fun j x hx => ?_, fun j x hx => ?_, fun j x hx => ?_⟩
  · rw [List.length_map] at hp
    exact (key 0 _ (List.getElem?_eq_getElem hp)).1
  · obtain ⟨y, hy, rfl⟩ := get j x hx
    exact (key j y hy).2 0 _ rfl
  · obtain ⟨y, hy, rfl⟩ := get j x hx
    exact (key j y hy).2 1 _ rfl
  · obtain ⟨y, hy, rfl⟩ := get j x hx
    exact (key j y hy).2 2 _ rfl
theorem rdProg_of {w : World} {A : Option Addr} {c : Nat} {l : List (List GS)} (hr : Kd.C (Kd.slice 72 k72) w A l.length l) : ∃ sbs, RdProg w ⟨A, l.length, c⟩ sbs (PL l) := by
  have hb := bodies_cells (s := ⟨A, l.length, c⟩) hr
  have hs : ∀ j : Nat, ∃ s : Sl, ∀ b, l[j]? = some b → w.cell? ⟨bk ⟨A, l.length, c⟩, of_ ⟨A, l.length, c⟩ + j, none⟩ = some s.v ∧ RdBody w s (b.map toStp) := by
    intro j;cases hj : l[j]? with
    | none => exact ⟨⟨none, 0, 0⟩, fun b h => by cases h⟩
    | some b =>
      obtain ⟨_, A', c', h1, h2, h3⟩ := hb j b hj;exact ⟨⟨A', b.length, c'⟩, fun b' h => by cases h; exact ⟨h1, rdBody_of h3⟩⟩
  have hs2 : ∃ f : Nat → Sl, ∀ j b, l[j]? = some b → w.cell? ⟨bk ⟨A, l.length, c⟩, of_ ⟨A, l.length, c⟩ + j, none⟩ = some (f j).v ∧ RdBody w (f j) (b.map toStp) := ⟨fun j => (hs j).choose, fun j => (hs j).choose_spec⟩
  obtain ⟨f, hf⟩ := hs2
  refine ⟨(List.range l.length).map f, (PL_length l).symm, fun hp => ?_, fun i b hi => ?_⟩
  · rw [PL_length] at hp
    exact (hb 0 _ (List.getElem?_eq_getElem hp)).1
  · rw [PL, List.getElem?_map] at hi
    obtain ⟨y, hy, rfl⟩ := Option.map_eq_some_iff.1 hi;have hlt := (List.getElem?_eq_some_iff.1 hy).1;exact ⟨f i, by rw [List.getElem?_map, List.getElem?_range hlt]; rfl, hf i y hy⟩
end SX
end Go.Proofs.Ytpenhegoilccoaa
namespace Go.Proofs.Ytpenhegoilccoaa.G
open Go.RowKit Go.Proofs.Ytpenhegoilccoaa.SX Go.Proofs.YtpenhegoilccoaaW.PrintWords Go.Proofs.YtpenhegoilccoaaW.PrintLast Go.Proofs.YtpenhegoilccoaaW.PrintMore
theorem code159 : Try.f159.body = some (Code.seq (cr Try.f159 0 false) (Code.seq (Code.seq (cr Try.f159 1 false) (Code.cond (Operand.tmp 9) (Code.seq (cr Try.f159 2 false) Code.ret) Code.skip)) (Code.seq (Code.seq (cr Try.f159 3 false) (Code.cond (Operand.tmp 14) (Code.seq (cr Try.f159 4 false) Code.ret) Code.skip)) (Code.seq (Code.seq (cr Try.f159 5 false) (Code.cond (Operand.tmp 19) (Code.seq (cr Try.f159 6 false) Code.ret) Code.skip)) (Code.seq (cr Try.f159 7 false) Code.ret))))) := by kernel_rfl
theorem eq_step {w0 w : World} {Rs : List Asn} {k xa xb : Int} (hS : Sat w0 w Rs)  :
  Calls Try.prog 159 #[.agg #[iv k, iv xa, iv xb], .agg #[iv k, iv xa, iv xb]] w (Ret fun r w' => r = .bool true ∧ Sat w0 w' Rs) := by
 refine enter (n := 20) Try.func159 code159 (by kernel_rfl) (Nat.le_of_ble_eq_true rfl) (fun a ha => ?_)
 replace ha : Has 20 [(0, .agg #[iv k, iv xa, iv xb]), (1, .agg #[iv k, iv xa, iv xb])] a := ha
 refine wp_seq (jX [0, 1, 2] (jV (qZ 2 [iv k, iv xa, iv xb] 72 (ptr · 0) ha hS fun b1 w a hb2 hS ha => ?_)))
 refine jV (qZ 3 [iv k, iv xa, iv xb] 72 (ptr · 0) ha hS fun b3 w a hb4 hS ha => ?_)
 refine jY [(2, 4, .bool false)] ha fun a ha => ?_
 refine jZ (jJ (wp_seq (wp_seq (jX [0, 1, 2, 3, 4] (jY [(0, 5, ptr b1 0)] ha fun a ha => ?_)))))
 refine qG (d := 6) (b := b1) (j := 0) ha (hS.blk 1 rfl) rfl fun a ha => ?_
 refine jY [(2, 7, ptr b3 0)] ha fun a ha => ?_
 refine qG (d := 8) (b := b3) (j := 0) ha (hS.blk 0 rfl) rfl fun a ha => ?_
 refine qX (.bool false) ha ((jW (v := .bool (!decide (k = k))) ha (xU (op := (Op.binOp BinOp.neq 3 (Operand.tmp 6) (Operand.tmp 8) 3)) (d := some 9) (ty := 4)) (by kernel_rfl) (fun _ => by kernel_rfl)).as (by simp)) fun a ha => ?_
 refine jZ (jJ ?_)
 refine jU ha rfl rfl ?_
 refine wp_skip (jJ (wp_seq (wp_seq (jX [0, 1, 2, 3, 4] (jY [(0, 10, ptr b1 1)] ha fun a ha => ?_)))))
 refine qG (d := 11) (b := b1) (j := 1) ha (hS.blk 1 rfl) rfl fun a ha => ?_
 refine jY [(2, 12, ptr b3 1)] ha fun a ha => ?_
 refine qG (d := 13) (b := b3) (j := 1) ha (hS.blk 0 rfl) rfl fun a ha => ?_
 refine qX (.bool false) ha ((jW (v := .bool (!decide (xa = xa))) ha (xU (op := (Op.binOp BinOp.neq 3 (Operand.tmp 11) (Operand.tmp 13) 3)) (d := some 14) (ty := 4)) (by kernel_rfl) (fun _ => by kernel_rfl)).as (by simp)) fun a ha => ?_
 refine jZ (jJ ?_)
 refine jU ha rfl rfl ?_
 refine wp_skip (jJ (wp_seq (wp_seq (jX [0, 1, 2, 3, 4] (jY [(0, 15, ptr b1 2)] ha fun a ha => ?_)))))
 refine qG (d := 16) (b := b1) (j := 2) ha (hS.blk 1 rfl) rfl fun a ha => ?_
 refine jY [(2, 17, ptr b3 2)] ha fun a ha => ?_
 refine qG (d := 18) (b := b3) (j := 2) ha (hS.blk 0 rfl) rfl fun a ha => ?_
 refine qX (.bool false) ha ((jW (v := .bool (!decide (xb = xb))) ha (xU (op := (Op.binOp BinOp.neq 3 (Operand.tmp 16) (Operand.tmp 18) 3)) (d := some 19) (ty := 4)) (by kernel_rfl) (fun _ => by kernel_rfl)).as (by simp)) fun a ha => ?_
 refine jZ (jJ ?_)
 refine jU ha rfl rfl ?_
 refine wp_skip (jJ (wp_seq (jX [0] (jY [(0, 4, .bool true)] ha fun a ha => ?_))))
 refine jZ ?_
 replace ha := ha.as [(4, .bool true)] rfl
 refine jJ (wp_ret (qQ ha (by kernel_rfl) (qU (t := 4) ha rfl) ?_))
 exact ⟨rfl, Sat.rest [_, _] hS⟩
theorem code125 : Try.f125.body = some (Code.seq (cr Try.f125 0 false) (Code.seq (Code.seq (cr Try.f125 1 false) (Code.cond (Operand.tmp 10) (Code.seq (cr Try.f125 2 false) Code.ret) Code.skip)) (Code.seq (Code.seq (cr Try.f125 3 false) (Code.block 0 (Code.loop (Code.seq (Code.seq (cr Try.f125 4 false) (Code.cond (Operand.tmp 14) Code.skip (Code.exit 0))) (Code.seq (Code.block 1 (Code.seq (cr Try.f125 6 true) (Code.cond (Operand.tmp 26) (Code.seq (cr Try.f125 7 false) Code.ret) Code.skip))) (cr Try.f125 5 false)))))) (Code.seq (cr Try.f125 8 false) Code.ret)))) := by kernel_rfl
theorem eq_steps {w0 w : World} {Rs : List Asn} {b : List Stp} {s1 s2 : Sl} (hS : Sat w0 w Rs) (h1 : Keeps w0 Rs (fun w => RdBody w s1 b)) (h2 : Keeps w0 Rs (fun w => RdBody w s2 b)) (hlb : b.length ≤ 2000000) :
  Calls Try.prog 125 #[.slice s1.A s1.n s1.c, .slice s2.A s2.n s2.c] w (Ret fun r w' => r = .bool true ∧ Sat w0 w' Rs) := by
 have hn1 := (h1 w hS).len
 have hn2 := (h2 w hS).len
 have hA1 := (h1 w hS).A
 have hA2 := (h2 w hS).A
 refine enter (n := 27) Try.func125 code125 (by kernel_rfl) (Nat.le_of_ble_eq_true rfl) (fun a ha => ?_)
 replace ha : Has 27 [(0, .slice s1.A s1.n s1.c), (1, .slice s2.A s2.n s2.c)] a := ha
 refine wp_seq (jX [0] (jY [(0, 4, .bool false)] ha fun a ha => ?_))
 refine jZ (jJ (wp_seq (wp_seq (jX [0, 1, 2, 3, 4] (jY [(0, 6, .slice s1.A s1.n s1.c), (1, 7, iv (s1.n : Int)), (2, 8, .slice s2.A s2.n s2.c), (3, 9, iv (s2.n : Int)), (4, 10, .bool (!(decide ((s1.n : Int) = (s2.n : Int)))))] ha fun a ha => ?_)))))
 refine jZ (jJ ?_)
 by_cases c1 : (s1.n : Int) = (s2.n : Int)
 ·
  refine jU ha rfl (yY (decide_eq_true c1)) ?_
  refine wp_skip (jJ (wp_seq (wp_seq (jX [0] (jY [(0, 5, iv 0)] ha fun a ha => ?_)))))
  refine jZ (jJ (wp_block ?_))
  refine wp_loop_ghost (fun n_ a_ w_ => ∃ (i : Nat), n_ = b.length - i ∧ (i ≤ b.length) ∧ Has 27 [(0, .slice s1.A s1.n s1.c), (1, .slice s2.A s2.n s2.c), (5, iv (i : Int))] a_ ∧ Sat w0 w_ (Rs)) _ ⟨0, rfl, Nat.zero_le _, ha.keeps [0, 1, 5] _ rfl, hS⟩ ?_
  rintro n_ a w ⟨i, rfl, hi, ha, hS⟩
  refine wp_seq (wp_seq (jX [0, 1, 2, 3] (jY [(0, 11, iv (i : Int)), (1, 12, .slice s1.A s1.n s1.c), (2, 13, iv (s1.n : Int)), (3, 14, .bool (decide ((i : Int) < (s1.n : Int))))] ha fun a ha => ?_)))
  refine jZ (jJ ?_)
  by_cases c2 : (i : Int) < (s1.n : Int)
  ·
   have hlt : i < b.length := by have := c2; omega
   obtain ⟨z, hz⟩ : ∃ z, b[i]? = some z := ⟨_, List.getElem?_eq_getElem hlt⟩;refine jH ha rfl (decide_eq_true c2) ?_;refine wp_skip (jJ (wp_seq (wp_block (wp_seq (yV 8 10 hS fun w hS => ?_)))));refine qY (k := 8) [(0, 17, .slice s1.A s1.n s1.c), (1, 18, iv (i : Int))] ha (.inr hS) fun a ha => ?_;refine yJ 2 (.pointer (some ⟨bk s1, of_ s1 + i * 3, none⟩)) ha (xX (s := s1) (el := 72) (sz := 3) (j := i) ha (xK (t := 70) (x := 17) (y := 18) (d := 19)) rfl rfl (by kernel_rfl) (by kernel_rfl) (hA1 (by omega)) (by omega)) (.inr hS) fun a ha => ?_;refine yG 3 (.agg #[iv z.k, iv z.a, iv z.b]) ha (v_loadL ha (xW (t := 72) (x := 19) (d := 20) (ty := 72)) rfl (fun w' hw => (h1 w' hw).load hz)) hS fun a ha => ?_;refine qY (k := 4) [(4, 21, .slice s2.A s2.n s2.c), (5, 22, iv (i : Int))] ha (.inr hS) fun a ha => ?_;refine yJ 6 (.pointer (some ⟨bk s2, of_ s2 + i * 3, none⟩)) ha (xX (s := s2) (el := 72) (sz := 3) (j := i) ha (xK (t := 70) (x := 21) (y := 22) (d := 23)) rfl rfl (by kernel_rfl) (by kernel_rfl) (hA2 (by omega)) (by omega)) (.inr hS) fun a ha => ?_;refine yG 7 (.agg #[iv z.k, iv z.a, iv z.b]) ha (v_loadL ha (xW (t := 72) (x := 23) (d := 24) (ty := 72)) rfl (fun w' hw => (h2 w' hw).load hz)) hS fun a ha => ?_;refine qV 8 (qK 25 (vs := [.agg #[iv z.k, iv z.a, iv z.b], .agg #[iv z.k, iv z.a, iv z.b]]) ha (eq_step hS) fun v3 w a hp4 ha => ?_);obtain ⟨rfl, hS⟩ := hp4;refine zX (qY (k := 0) [(9, 26, .bool false)] ha (.inl (by kernel_rfl)) fun a ha => ?_);refine xH (jJ ?_);refine jU ha rfl rfl ?_;refine wp_skip (in_n (jJ (jX [0, 1, 2] (jY [(0, 15, iv (i : Int))] ha fun a ha => ?_))));refine qH 16 ((i : Int) + 1) ha fun a ha => ?_;refine jY [(2, 5, iv ((i : Int) + 1))] ha fun a ha => ?_;refine jZ (jJ ?_);exact ⟨_, by omega, i + 1, rfl, by omega, ha.keeps [0, 1, 5] _ rfl, hS⟩
  refine jU ha rfl (decide_eq_false c2) ?_
  refine wp_exit (qJ (qJ (in_x (jJ (wp_seq (jX [0] (jY [(0, 4, .bool true)] ha fun a ha => ?_)))))))
  refine jZ (jJ (wp_ret (qQ ha (by kernel_rfl) (qU (t := 4) ha rfl) ?_)))
  exact ⟨rfl, hS⟩
 exact absurd (by rw [hn1, hn2]) c1
theorem code65 : Try.f65.body = some (Code.seq (cr Try.f65 0 false) (Code.seq (Code.seq (cr Try.f65 1 false) (Code.cond (Operand.tmp 10) (Code.seq (cr Try.f65 2 false) Code.ret) Code.skip)) (Code.seq (Code.seq (cr Try.f65 3 false) (Code.block 0 (Code.loop (Code.seq (Code.seq (cr Try.f65 4 false) (Code.cond (Operand.tmp 14) Code.skip (Code.exit 0))) (Code.seq (Code.block 1 (Code.seq (cr Try.f65 6 true) (Code.cond (Operand.tmp 26) (Code.seq (cr Try.f65 7 false) Code.ret) Code.skip))) (cr Try.f65 5 false)))))) (Code.seq (cr Try.f65 8 false) Code.ret)))) := by kernel_rfl
theorem eq_rows {w0 w : World} {Rs : List Asn} {b : List (List Stp)} {s1 s2 : Sl} {sbs1 sbs2 : List Sl} (hS : Sat w0 w Rs) (h1 : Keeps w0 Rs (fun w => RdProg w s1 sbs1 b)) (h2 : Keeps w0 Rs (fun w => RdProg w s2 sbs2 b)) (hlb : b.length ≤ 2000000) (hlen : ∀ z ∈ b, z.length ≤ 2000000) :
  Calls Try.prog 65 #[.slice s1.A s1.n s1.c, .slice s2.A s2.n s2.c] w (Ret fun r w' => r = .bool true ∧ Sat w0 w' Rs) := by
 have hn1 := (h1 w hS).len
 have hn2 := (h2 w hS).len
 have hA1 := (h1 w hS).A
 have hA2 := (h2 w hS).A
 refine enter (n := 27) Try.func65 code65 (by kernel_rfl) (Nat.le_of_ble_eq_true rfl) (fun a ha => ?_)
 replace ha : Has 27 [(0, .slice s1.A s1.n s1.c), (1, .slice s2.A s2.n s2.c)] a := ha
 refine wp_seq (jX [0] (jY [(0, 4, .bool false)] ha fun a ha => ?_))
 refine jZ (jJ (wp_seq (wp_seq (jX [0, 1, 2, 3, 4] (jY [(0, 6, .slice s1.A s1.n s1.c), (1, 7, iv (s1.n : Int)), (2, 8, .slice s2.A s2.n s2.c), (3, 9, iv (s2.n : Int)), (4, 10, .bool (!(decide ((s1.n : Int) = (s2.n : Int)))))] ha fun a ha => ?_)))))
 refine jZ (jJ ?_)
 by_cases c1 : (s1.n : Int) = (s2.n : Int)
 ·
  refine jU ha rfl (yY (decide_eq_true c1)) ?_
  refine wp_skip (jJ (wp_seq (wp_seq (jX [0] (jY [(0, 5, iv 0)] ha fun a ha => ?_)))))
  refine jZ (jJ (wp_block ?_))
  refine wp_loop_ghost (fun n_ a_ w_ => ∃ (i : Nat), n_ = b.length - i ∧ (i ≤ b.length) ∧ Has 27 [(0, .slice s1.A s1.n s1.c), (1, .slice s2.A s2.n s2.c), (5, iv (i : Int))] a_ ∧ Sat w0 w_ (Rs)) _ ⟨0, rfl, Nat.zero_le _, ha.keeps [0, 1, 5] _ rfl, hS⟩ ?_
  rintro n_ a w ⟨i, rfl, hi, ha, hS⟩
  refine wp_seq (wp_seq (jX [0, 1, 2, 3] (jY [(0, 11, iv (i : Int)), (1, 12, .slice s1.A s1.n s1.c), (2, 13, iv (s1.n : Int)), (3, 14, .bool (decide ((i : Int) < (s1.n : Int))))] ha fun a ha => ?_)))
  refine jZ (jJ ?_)
  by_cases c2 : (i : Int) < (s1.n : Int)
  ·
   have hlt : i < b.length := by have := c2; omega
   obtain ⟨z, hz⟩ : ∃ z, b[i]? = some z := ⟨_, List.getElem?_eq_getElem hlt⟩;obtain ⟨sb1, _, _, hsb1⟩ := RdProg.body h1 hS hz;obtain ⟨sb2, _, _, hsb2⟩ := RdProg.body h2 hS hz;refine jH ha rfl (decide_eq_true c2) ?_;refine wp_skip (jJ (wp_seq (wp_block (wp_seq (yV 8 10 hS fun w hS => ?_)))));refine qY (k := 8) [(0, 17, .slice s1.A s1.n s1.c), (1, 18, iv (i : Int))] ha (.inr hS) fun a ha => ?_;refine yJ 2 (.pointer (some ⟨bk s1, of_ s1 + i * 1, none⟩)) ha (xX (s := s1) (el := 70) (sz := 1) (j := i) ha (xK (t := 28) (x := 17) (y := 18) (d := 19)) rfl rfl (by kernel_rfl) (by kernel_rfl) (hA1 (by omega)) (by omega)) (.inr hS) fun a ha => ?_;refine yG 3 (.slice sb1.A sb1.n sb1.c) ha (qW ha (xW (t := 70) (x := 19) (d := 20) (ty := 70)) rfl (by kernel_rfl) (fun w' hw => by rw [Nat.mul_one]; exact (hsb1 w' hw).1)) hS fun a ha => ?_;refine qY (k := 4) [(4, 21, .slice s2.A s2.n s2.c), (5, 22, iv (i : Int))] ha (.inr hS) fun a ha => ?_;refine yJ 6 (.pointer (some ⟨bk s2, of_ s2 + i * 1, none⟩)) ha (xX (s := s2) (el := 70) (sz := 1) (j := i) ha (xK (t := 28) (x := 21) (y := 22) (d := 23)) rfl rfl (by kernel_rfl) (by kernel_rfl) (hA2 (by omega)) (by omega)) (.inr hS) fun a ha => ?_;refine yG 7 (.slice sb2.A sb2.n sb2.c) ha (qW ha (xW (t := 70) (x := 23) (d := 24) (ty := 70)) rfl (by kernel_rfl) (fun w' hw => by rw [Nat.mul_one]; exact (hsb2 w' hw).1)) hS fun a ha => ?_;refine qV 8 (qK 25 (vs := [.slice sb1.A sb1.n sb1.c, .slice sb2.A sb2.n sb2.c]) ha (eq_steps hS (fun w h => (hsb1 w h).2) (fun w h => (hsb2 w h).2) (hlen z (List.mem_of_getElem? hz))) fun v3 w a hp4 ha => ?_);obtain ⟨rfl, hS⟩ := hp4;refine zX (qY (k := 0) [(9, 26, .bool false)] ha (.inl (by kernel_rfl)) fun a ha => ?_);refine xH (jJ ?_);refine jU ha rfl rfl ?_;refine wp_skip (in_n (jJ (jX [0, 1, 2] (jY [(0, 15, iv (i : Int))] ha fun a ha => ?_))));refine qH 16 ((i : Int) + 1) ha fun a ha => ?_;refine jY [(2, 5, iv ((i : Int) + 1))] ha fun a ha => ?_;refine jZ (jJ ?_);exact ⟨_, by omega, i + 1, rfl, by omega, ha.keeps [0, 1, 5] _ rfl, hS⟩
  refine jU ha rfl (decide_eq_false c2) ?_
  refine wp_exit (qJ (qJ (in_x (jJ (wp_seq (jX [0] (jY [(0, 4, .bool true)] ha fun a ha => ?_)))))))
  refine jZ (jJ (wp_ret (qQ ha (by kernel_rfl) (qU (t := 4) ha rfl) ?_)))
  exact ⟨rfl, hS⟩
 exact absurd (by rw [hn1, hn2]) c1
theorem code19 : Try.f19.body = some (Code.seq (cr Try.f19 0 false) (Code.seq (Code.seq (cr Try.f19 1 false) (Code.cond (Operand.tmp 10) (Code.seq (cr Try.f19 2 false) Code.ret) Code.skip)) (Code.seq (cr Try.f19 3 false) Code.ret))) := by kernel_rfl
theorem eq_prog {w0 w : World} {Rs : List Asn} {b : List (List Stp)} {s1 s2 : Sl} {sbs1 sbs2 : List Sl} (hS : Sat w0 w Rs) (h1 : Keeps w0 Rs (fun w => RdProg w s1 sbs1 b)) (h2 : Keeps w0 Rs (fun w => RdProg w s2 sbs2 b)) (hlb : b.length ≤ 2000000) (hlen : ∀ z ∈ b, z.length ≤ 2000000) :
  Calls Try.prog 19 #[.agg #[.slice s1.A s1.n s1.c], .agg #[.slice s2.A s2.n s2.c]] w (Ret fun r w' => r = .bool true ∧ Sat w0 w' Rs) := by
 refine enter (n := 11) Try.func19 code19 (by kernel_rfl) (Nat.le_of_ble_eq_true rfl) (fun a ha => ?_)
 replace ha : Has 11 [(0, .agg #[.slice s1.A s1.n s1.c]), (1, .agg #[.slice s2.A s2.n s2.c])] a := ha
 refine wp_seq (jX [0, 1, 2] (jV (qZ 2 [.slice s1.A s1.n s1.c] 30 (ptr · 0) ha hS fun b1 w a hb2 hS ha => ?_)))
 refine jV (qZ 3 [.slice s2.A s2.n s2.c] 30 (ptr · 0) ha hS fun b3 w a hb4 hS ha => ?_)
 refine jY [(2, 4, .bool false)] ha fun a ha => ?_
 refine jZ (jJ (wp_seq (wp_seq (jX [0, 1, 2, 3, 4, 5] (jY [(0, 5, ptr b1 0)] ha fun a ha => ?_)))))
 refine qG (d := 6) (b := b1) (j := 0) ha (hS.blk 1 rfl) rfl fun a ha => ?_
 refine jY [(2, 7, ptr b3 0)] ha fun a ha => ?_
 refine qG (d := 8) (b := b3) (j := 0) ha (hS.blk 0 rfl) rfl fun a ha => ?_
 refine jV (qK 9 (vs := [.slice s1.A s1.n s1.c, .slice s2.A s2.n s2.c]) ha (eq_rows hS (h1.more [_, _]) (h2.more [_, _]) hlb hlen) fun v5 w a hp6 ha => ?_)
 obtain ⟨rfl, hS⟩ := hp6
 refine jY [(5, 10, .bool false)] ha fun a ha => ?_
 refine jZ (jJ ?_)
 refine jU ha rfl rfl ?_
 refine wp_skip (jJ (wp_seq (jX [0] (jY [(0, 4, .bool true)] ha fun a ha => ?_))))
 refine jZ (jJ (wp_ret (qQ ha (by kernel_rfl) (qU (t := 4) ha rfl) ?_)))
 exact ⟨rfl, Sat.rest [_, _] hS⟩
section
variable {w0 w : World} {Rs : List Asn} {s : Sl} {l : List (List ST)} {f arg fuel shared : Int}
theorem lift0 {F : Nat} {args : Array Value} {φ : Value → Prop} (hS : Sat w0 w Rs) (h : Calls Try.prog F args w (Ret fun r w' => φ r ∧ Sat w w' [])) : Calls Try.prog F args w (Ret fun r w' => φ r ∧ Sat w0 w' Rs) := by
 refine h.mono fun e w' h => ?_
 cases e with
 | returned r => exact ⟨h.1, hS.comp (Ps := []) h.2⟩
 | _ => exact h.elim
theorem eqP_sat {t : Sl} (hS : Sat w0 w Rs) (hr : RdP w s l) (ht : RdP w t l) (hf : Fits l) :
    Calls Try.prog 19 #[.agg #[.slice s.A s.n s.c], .agg #[.slice t.A t.n t.c]] w (Ret fun r w' => r = .bool true ∧ Sat w0 w' Rs) := by
  obtain ⟨sbs1, h1⟩ := rdProg_of (c := s.c) hr.rd
  obtain ⟨sbs2, h2⟩ := rdProg_of (c := t.c) ht.rd
  rw [← hr.len] at h1
  rw [← ht.len] at h2
  refine (eq_prog (Sat.start w) (h1.keeps []) (h2.keeps []) (by rw [PL_length]; have := hf.len; omega) (fun z hz => ?_)).mono fun e w' h => ?_
  · obtain ⟨b, hb, rfl⟩ := List.mem_map.1 hz
    rw [List.length_map];have := hf.each b hb
    omega
  · cases e with
    | returned r => exact ⟨h.1, hS.comp (Ps := []) h.2⟩
    | _ => exact h.elim
end
end Go.Proofs.Ytpenhegoilccoaa.G
namespace Go.Proofs.Ytpenhegoilccoaa
namespace SX
open Go.RowKit Go.Proofs.YtpenhegoilccoaaW.PrintWords
structure RdE {α : Type} (enc : α → List Value) (sz : Nat) (w : World) (s : Sl) (l : List α) : Prop where
 len : s.n = l.length
 le : l.length ≤ s.c
 big : l.length ≤ 9223372036854775807
 at_ : ∀ (j : Nat) (x : α), l[j]? = some x → s.A = some ⟨bk s, of_ s, none⟩ ∧ ∀ (o : Nat) (u : Value), (enc x)[o]? = some u → w.cell? ⟨bk s, of_ s + j * sz + o, none⟩ = some u
section
variable {α : Type} {enc : α → List Value} {sz : Nat} {w0 w w' : World} {Rs : List Asn} {s : Sl} {l : List α}
theorem RdE.below (h : RdE enc sz w s l) (hb : Below w.heap.size w w') : RdE enc sz w' s l := ⟨h.len, h.le, h.big, fun j x hx => ⟨(h.at_ j x hx).1, fun o u hu => pw_cell_below hb ((h.at_ j x hx).2 o u hu)⟩⟩
theorem RdE.sat (h : RdE enc sz w0 s l) (hS : Sat w0 w Rs) : RdE enc sz w s l := h.below hS.below
theorem Sat.rowC {T : TypeId} {vs : List Value} (h : Sat w0 w Rs) (i : Nat) (hi : Rs[i]? = some (SX.row s.v T sz vs)) : s.n ≤ s.c ∧ s.n ≤ 9223372036854775807 := by
  obtain ⟨n, h1, h2⟩ := h.row i hi
  obtain ⟨A, sn, sc⟩ := s
  have hml : maxLen ≤ 9223372036854775807 := by decide
  rcases h2 with ⟨e, h0⟩ | ⟨g, cap, cur, e, _, hg, h3, h4, h5, h6⟩
  · simp only [Sl.v, Value.slice.injEq] at e
    obtain ⟨rfl, rfl, rfl⟩ := e;exact ⟨Nat.le_refl _, by simp⟩
  · simp only [Sl.v, Value.slice.injEq] at e
    obtain ⟨rfl, rfl, rfl⟩ := e
    dsimp only
    exact ⟨by omega, by omega⟩
end
section
variable {P : Program} {R : Array Oper} {n : Nat} {e : Env} {a : Act} {w : World}
theorem v_loadE {S : World → Prop} {i d : Nat} {t : TypeId} {x : Operand} {ty : TypeId} {b f : Nat} {vs : List Value} (h : Has n e a) (ho : AtW R i (.load t x) (some d) ty a) (hx : ev e x = some (.pointer (some ⟨b, f, none⟩)))
  (ht : aggSize P t = some vs.length) (hb : ∀ w, S w → ∀ (o : Nat) (u : Value), vs[o]? = some u → w.cell? ⟨b, f + o, none⟩ = some u) : Val P R i a S d (.agg vs.toArray) :=
 v_loadL h ho hx fun w hw => run_loadVar_agg ht fun i u hu => by rw [add0]; exact hb w hw i u hu
end
section
variable {P : Program} {R : Array Oper} {Q : Exit → Act → World → Prop} {n : Nat} {e : Env} {a : Act} {w w0 : World} {Rs : List Asn}
theorem made_flat {α : Type} {enc : α → List Value} {x0 : α} {z : Value} {sz : Nat} (hz : z.cells.toList = enc x0) (hsz : ∀ x, (enc x).length = sz) (h0 : 0 < sz) (m : Nat) : madeCells z.cells (m * sz) = ((List.replicate m x0).flatMap enc).toArray := by
  have hzs : z.cells.size = sz := by rw [← Array.length_toList, hz, hsz]
  refine Array.toList_inj.1 (List.ext_getElem? fun i => ?_)
  show (madeCells z.cells (m * sz)).toList[i]? = ((List.replicate m x0).flatMap enc)[i]?
  by_cases hi : i < m * sz
  · have hj : i / sz < m := (Nat.div_lt_iff_lt_mul h0).2 hi
    have ho : i % sz < sz := Nat.mod_lt _ h0;have e1 := flat_get (enc := enc) (o := i % sz) (x := x0) (j := i / sz) (l := List.replicate m x0) hsz (by rw [List.getElem?_replicate, if_pos hj]) ho;rw [show i / sz * sz + i % sz = i by rw [Nat.mul_comm]; exact Nat.div_add_mod i sz] at e1;have ho2 : i % sz < z.cells.size := by rw [hzs]; exact ho
    rw [e1, ← hz];simp only [madeCells, Array.getElem?_toList, Array.getElem?_map, Array.getElem?_range, hzs, hi, if_true, Option.map_some, getElem!_pos z.cells (i % sz) ho2, Array.getElem?_eq_getElem ho2]
  · rw [List.getElem?_eq_none (by rw [Array.length_toList, size_madeCells]; omega), List.getElem?_eq_none (by rw [flat_length hsz, List.length_replicate]; omega)]
theorem o_makeR {α : Type} {enc : α → List Value} {x0 : α} {i d : Nat} {x y : Operand} {t el ty : TypeId} {m bytes sz : Nat} {z : Value} {K : Act → World → Prop} (h : Has n e a) (hd : d < n) (ho : AtW R i (.makeSlice t x y) (some d) ty a) (hx : ev e x = some (.int .i64 (m : Int))) (hy : ev e y = some (.int .i64 (m : Int)))
    (ht : P.underlying t = some (.slice el)) (hinfo : (P.info? el).map (fun i => (i.zero, i.size, i.bytes)) = some (some z, sz, bytes)) (hz : z.cells.toList = enc x0) (hsz : ∀ x, (enc x).length = sz) (h0 : 0 < sz) (hb0 : 0 < bytes) (hn : m * bytes ≤ 281474976710656) (hS : Sat w0 w Rs)
    (k : ∀ (s : Sl) w' a', s.n = m → Sat w0 w' (SX.row s.v el sz ((List.replicate m x0).flatMap enc) :: Rs) → Has n ((d, .slice s.A s.n s.c) :: e) a' → K a' w') : wpOp P R Q i K a w := by
  have hm : m ≤ 281474976710656 := Nat.le_trans (Nat.le_mul_of_pos_right _ hb0) hn
  refine o_new (cs := (List.replicate m x0).flatMap enc) (T := el) (fun b => .slice (some ⟨b, 0, none⟩) m m) h hd ho (by simp [covers, Op.operands, hx, hy, notSelect]) hS (fun w => ?_) (fun b w' a' hb hS' ha' => ?_)
  · obtain ⟨ti, hti, he⟩ := Option.map_eq_some_iff.1 hinfo
    simp only [Prod.mk.injEq] at he;obtain ⟨e1, e2, e3⟩ := he;have hr := run_make (P := P) w t el ti z ht hti e1 .i64 .i64 (m : Int) (m : Int) (by omega) (Int.le_refl _) (by rw [e3, ← Int.natCast_mul, Nat.mul_comm]; omega) (by omega);rw [Int.toNat_natCast, e2, made_flat hz hsz h0] at hr
    simp [execOp, opr, evD, hx, hy, hr]
  · have hS2 : Sat w0 w' (SX.blk b ((List.replicate m x0).flatMap enc ++ []) el :: Rs) := by rw [List.append_nil]; exact hS'
    exact k ⟨some ⟨b, 0, none⟩, m, m⟩ w' a' rfl (Sat.shutRow (g := b) (n := m) (cap := m) (sz := sz) (xs := (List.replicate m x0).flatMap enc) (cur := []) hS2 0 rfl (by rw [flat_length hsz, List.length_replicate]) (Nat.le_refl _) (by simp only [maxLen]; omega) (by rw [List.append_nil, flat_length hsz, List.length_replicate])) ha'
end
end SX
end Go.Proofs.Ytpenhegoilccoaa
namespace Go.Proofs.Ytpenhegoilccoaa.G
open Go.RowKit Go.Proofs.Ytpenhegoilccoaa.SX Go.Proofs.YtpenhegoilccoaaW.PrintWords Go.Proofs.YtpenhegoilccoaaW.PrintLast Go.Proofs.YtpenhegoilccoaaW.PrintMore
theorem getD_at {l : List Int} {n : Nat} {x : Int} (h : l[n]? = some x) : l.getD n 0 = x := by rw [List.getD_eq_getElem?_getD, h]; rfl
def cellsJ (x : Int) : List Value := [.int .i64 x]
def encJ (l : List Int) : List Value := l.flatMap cellsJ
theorem cellsJ_len (x : Int) : (cellsJ x).length = 1 := rfl
theorem encJ_length (l : List Int) : (encJ l).length = l.length * 1 := flat_length cellsJ_len l
theorem encJ_I (l : List Int) : encI l = encJ l := by
 induction l with
 | nil => rfl
 | cons x l ih => show Value.int .i64 x :: encI l = Value.int .i64 x :: encJ l; rw [ih]
theorem nil_fits {α : Type} : Fits ([] : List (List α)) := ⟨by simp, by simp [tot]⟩
section
variable {w0 w : World} {Rs : List Asn} {s : Sl} {l : List (List ST)} {f at_ : Int}
theorem l2Program_sat (hS : Sat w0 w Rs) (hr : RdP w s l) (hf : Fits l) :
  Calls Try.prog 66 #[.agg #[.slice s.A s.n s.c]] w (Ret fun r w' => r = .bool (programB l) ∧ Sat w0 w' Rs) := by
 have := spec_l2Program.calls 1048580 s.A s.c l (programB l) w hr.rd hr.le (l2Program_f l hf.len 1048580 (by omega))
 rw [← hr.len] at this
 refine this.mono ?_
 rintro e w' ⟨rfl, hb⟩
 exact ⟨rfl, Sat.skip hS hb⟩
end
theorem RdE.ofSteps {w : World} {s : Sl} {b : List ST} (hn : s.n = b.length) (hl : b.length ≤ s.c) (h : Kd.C k72 w s.A b.length b) : RdE cT 3 w s b := by
 obtain ⟨_, hb, h3⟩ := h
 refine ⟨hn, hl, hb, fun j x hx => ?_⟩
 have hj := (List.getElem?_eq_some_iff.1 hx).1
 obtain ⟨ad, hA, hc⟩ := h3 (by omega)
 have hcell : ∀ (j : Nat) (x : ST), b[j]? = some x → ∀ (o : Nat) (u : Value), (cT x)[o]? = some u → w.cell? (ad.add (j * 3 + o)) = some u := fun j x hx o u hu => by
  obtain ⟨cs, _, hk, hu2⟩ := hc j x hx
  obtain rfl := k72_open hk
  exact hu2 o u hu
 have hspot := spot_of_cell (v := .int .i64 (b[0]'(by omega)).f0) (w := w) (ad := ad) (by have := hcell 0 _ (List.getElem?_eq_getElem (by omega)) 0 _ rfl; simpa using this)
 obtain ⟨bb, off, sp⟩ := ad
 subst hspot
 refine ⟨by simp [bk, of_, hA], fun o u hu => ?_⟩
 have := hcell j x hx o u hu
 rw [add0] at this
 simpa [bk, of_, hA, Nat.add_assoc] using this
theorem body_rd {w : World} {s : Sl} {l : List (List ST)} (hr : RdP w s l) {j : Nat} {b : List ST} (hb : l[j]? = some b) : s.A = some ⟨bk s, of_ s, none⟩ ∧ ∃ t : Sl, w.cell? ⟨bk s, of_ s + j, none⟩ = some (.slice t.A t.n t.c) ∧ RdE cT 3 w t b := by
 obtain ⟨h1, A', c', h2, h3, h4⟩ := rows_cells hr.rd j b hb
 exact ⟨h1, ⟨A', b.length, c'⟩, h2, RdE.ofSteps rfl h3 h4⟩
end Go.Proofs.Ytpenhegoilccoaa.G
namespace Go.Proofs.Ytpenhegoilccoaa.SX
open Go.RowKit Go.Proofs.Ytpenhegoilccoaa.G Go.Proofs.YtpenhegoilccoaaW.PrintWords Go.Proofs.YtpenhegoilccoaaW.PrintLast Go.Proofs.YtpenhegoilccoaaW.PrintMore
def R3.m : R3 → MS
 | .spent m => m
 | .done m _ _ => m
def RB.m : RB → MS
 | .spent m => m
 | .go m _ _ _ => m
end Go.Proofs.Ytpenhegoilccoaa.SX
