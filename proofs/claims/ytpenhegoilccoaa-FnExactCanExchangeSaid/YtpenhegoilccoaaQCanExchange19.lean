/- What the claim FnExactCanExchange rests on, part 19 of 27; the last part proves it: for every input the law answers true, and its arguments read behind the call as before it. No condition. -/
import Derived.Test.YtpenhegoilccoaaQCanExchange9
import Derived.Test.YtpenhegoilccoaaQCanExchange10
import Derived.Test.YtpenhegoilccoaaQCanExchange13
import Derived.Test.YtpenhegoilccoaaQCanExchange15
import Derived.Test.YtpenhegoilccoaaQCanExchange16
import Derived.Test.YtpenhegoilccoaaQCanExchange18
set_option linter.unusedSimpArgs false
set_option linter.unusedVariables false
set_option maxRecDepth 20000
set_option maxHeartbeats 1000000
namespace Go.Proofs.Ytpenhegoilccoaa
namespace SX
open Go.RowKit Go.Proofs.Ytpenhegoilccoaa.G Go.Proofs.YtpenhegoilccoaaW.PrintWords Go.Proofs.YtpenhegoilccoaaW.PrintLast Go.Proofs.YtpenhegoilccoaaW.PrintMore
abbrev GS := S72
def toStp (x : GS) : Stp := ⟨x.f0, x.f1, x.f2⟩
def PL (l : List (List GS)) : List (List Stp) := l.map (·.map toStp)
theorem PL_length (l : List (List GS)) : (PL l).length = l.length := by simp [PL]
theorem cell_lt {w : World} {p : Addr} {v : Value} (h : w.cell? p = some v) : p.block < w.heap.size := by
 unfold World.cell? at h
 split at h
 · rename_i h'; exact (Array.getElem?_eq_some_iff.1 h').1
 · cases h
theorem cell_below {w w' : World} {p : Addr} {v : Value} (h : w.cell? p = some v) (hb : Below w.heap.size w w') : w'.cell? p = some v := by
 rw [← h]
 unfold World.cell?
 rw [hb.block _ (cell_lt h)]
theorem RdBody.below {w w' : World} {s : Sl} {b : List Stp} (h : RdBody w s b) (hb : Below w.heap.size w w') : RdBody w' s b := ⟨h.len, h.A, fun j x hx => cell_below (h.k j x hx) hb, fun j x hx => cell_below (h.a j x hx) hb, fun j x hx => cell_below (h.b j x hx) hb⟩
theorem RdProg.below {w w' : World} {pv : Sl} {sbs : List Sl} {P : List (List Stp)} (h : RdProg w pv sbs P) (hb : Below w.heap.size w w') : RdProg w' pv sbs P :=
 ⟨h.len, h.A, fun i b hi => let ⟨s, h1, h2, h3⟩ := h.rows i b hi; ⟨s, h1, cell_below h2 hb, h3.below hb⟩⟩
theorem RdProg.keeps {w : World} {pv : Sl} {sbs : List Sl} {P : List (List Stp)} (h : RdProg w pv sbs P) (Rs : List Asn) : Keeps w Rs (fun w => RdProg w pv sbs P) := fun w' hS => h.below hS.below
theorem rdBody_of {w : World} {A : Option Addr} {c : Nat} {l : List GS} (hr : Kd.C k72 w A l.length l) : RdBody w ⟨A, l.length, c⟩ (l.map toStp) := by
  obtain ⟨_, _, h3⟩ := hr
  have key : ∀ (j : Nat) (x : GS), l[j]? = some x → A = some ⟨bk ⟨A, l.length, c⟩, of_ ⟨A, l.length, c⟩, none⟩ ∧ ∀ i u, (encT x)[i]? = some u → w.cell? ⟨bk ⟨A, l.length, c⟩, of_ ⟨A, l.length, c⟩ + j * 3 + i, none⟩ = some u := by
    intro j x hj;have hjl : j < l.length := (List.getElem?_eq_some_iff.1 hj).1;obtain ⟨ad, hA, hcells⟩ := h3 (by omega)
    have key : ∀ (j : Nat) (x : GS), l[j]? = some x → ∀ i u, (encT x)[i]? = some u → w.cell? (ad.add (j * 3 + i)) = some u := fun j x hj i u hu => by
      obtain ⟨cs, _, hk, hu'⟩ := hcells j x hj;rw [k72_open hk] at hu';exact hu' i u hu
    have h0 := key 0 _ (List.getElem?_eq_getElem (by omega)) 0 _ rfl;have hspot := spot_of_cell h0;obtain ⟨b, off, sp⟩ := ad;subst hspot;subst hA;refine ⟨rfl, fun i u hu => ?_⟩;have := key j x hj i u hu;rw [add0, ← Nat.add_assoc] at this;exact this
  have get : ∀ (j : Nat) (x : Stp), (l.map toStp)[j]? = some x → ∃ y : GS, l[j]? = some y ∧ toStp y = x := fun j x hx => by
    rw [List.getElem?_map] at hx;exact Option.map_eq_some_iff.1 hx
  refine ⟨by simp, fun hp => ?_, fun j x hx => ?_, fun j x hx => ?_, fun j x hx => ?_⟩
  · rw [List.length_map] at hp
    exact (key 0 _ (List.getElem?_eq_getElem hp)).1
  · obtain ⟨y, hy, rfl⟩ := get j x hx
    exact (key j y hy).2 0 _ rfl
  · obtain ⟨y, hy, rfl⟩ := get j x hx
    exact (key j y hy).2 1 _ rfl
  · obtain ⟨y, hy, rfl⟩ := get j x hx
    exact (key j y hy).2 2 _ rfl
theorem rdProg_of {w : World} {A : Option Addr} {c : Nat} {l : List (List GS)} (hr : Kd.C (Kd.slice 72 k72) w A l.length l) : ∃ sbs, RdProg w ⟨A, l.length, c⟩ sbs (PL l) := by
  have hb := bodies_cells (s := ⟨A, l.length, c⟩) hr
  have hs : ∀ j : Nat, ∃ s : Sl, ∀ b, l[j]? = some b → w.cell? ⟨bk ⟨A, l.length, c⟩, of_ ⟨A, l.length, c⟩ + j, none⟩ = some s.v ∧ RdBody w s (b.map toStp) := by
    intro j;cases hj : l[j]? with
    | none => exact ⟨⟨none, 0, 0⟩, fun b h => by cases h⟩
    | some b =>
      obtain ⟨_, A', c', h1, h2, h3⟩ := hb j b hj;exact ⟨⟨A', b.length, c'⟩, fun b' h => by cases h; exact ⟨h1, rdBody_of h3⟩⟩
  have hs2 : ∃ f : Nat → Sl, ∀ j b, l[j]? = some b → w.cell? ⟨bk ⟨A, l.length, c⟩, of_ ⟨A, l.length, c⟩ + j, none⟩ = some (f j).v ∧ RdBody w (f j) (b.map toStp) := ⟨fun j => (hs j).choose, fun j => (hs j).choose_spec⟩
  obtain ⟨f, hf⟩ := hs2
  refine ⟨(List.range l.length).map f, (PL_length l).symm, fun hp => ?_, fun i b hi => ?_⟩
  · rw [PL_length] at hp
    exact (hb 0 _ (List.getElem?_eq_getElem hp)).1
  · rw [PL, List.getElem?_map] at hi
    obtain ⟨y, hy, rfl⟩ := Option.map_eq_some_iff.1 hi;have hlt := (List.getElem?_eq_some_iff.1 hy).1;exact ⟨f i, by rw [List.getElem?_map, List.getElem?_range hlt]; rfl, hf i y hy⟩
end SX
end Go.Proofs.Ytpenhegoilccoaa
namespace Go.Proofs.Ytpenhegoilccoaa.G
open Go.RowKit Go.Proofs.Ytpenhegoilccoaa.SX Go.Proofs.YtpenhegoilccoaaW.PrintWords Go.Proofs.YtpenhegoilccoaaW.PrintLast Go.Proofs.YtpenhegoilccoaaW.PrintMore
theorem code159 : Try.f159.body = some (Code.seq (cr Try.f159 0 false) (Code.seq (Code.seq (cr Try.f159 1 false) (Code.cond (Operand.tmp 9) (Code.seq (cr Try.f159 2 false) Code.ret) Code.skip)) (Code.seq (Code.seq (cr Try.f159 3 false) (Code.cond (Operand.tmp 14) (Code.seq (cr Try.f159 4 false) Code.ret) Code.skip)) (Code.seq (Code.seq (cr Try.f159 5 false) (Code.cond (Operand.tmp 19) (Code.seq (cr Try.f159 6 false) Code.ret) Code.skip)) (Code.seq (cr Try.f159 7 false) Code.ret))))) := by kernel_rfl
theorem eq_step {w0 w : World} {Rs : List Asn} {k xa xb : Int} (hS : Sat w0 w Rs)  :
  Calls Try.prog 159 #[.agg #[iv k, iv xa, iv xb], .agg #[iv k, iv xa, iv xb]] w (Ret fun r w' => r = .bool true ∧ Sat w0 w' Rs) := by
 refine enter (n := 20) Try.func159 code159 (by kernel_rfl) (Nat.le_of_ble_eq_true rfl) (fun a ha => ?_)
 replace ha : Has 20 [(0, .agg #[iv k, iv xa, iv xb]), (1, .agg #[iv k, iv xa, iv xb])] a := ha
 refine wp_seq (jX [0, 1, 2] (jH (qX 2 [iv k, iv xa, iv xb] 72 (ptr · 0) ha hS fun b1 w a hb2 hS ha => ?_)))
 refine jH (qX 3 [iv k, iv xa, iv xb] 72 (ptr · 0) ha hS fun b3 w a hb4 hS ha => ?_)
 refine jQ [(2, 4, .bool false)] ha fun a ha => ?_
 refine jZ (jJ (wp_seq (wp_seq (jX [0, 1, 2, 3, 4] (jQ [(0, 5, ptr b1 0)] ha fun a ha => ?_)))))
 refine qW (d := 6) (b := b1) (j := 0) ha (hS.blk 1 rfl) rfl fun a ha => ?_
 refine jQ [(2, 7, ptr b3 0)] ha fun a ha => ?_
 refine qW (d := 8) (b := b3) (j := 0) ha (hS.blk 0 rfl) rfl fun a ha => ?_
 refine xQ (.bool false) ha ((qQ (v := .bool (!decide (k = k))) ha (xG (op := (Op.binOp BinOp.neq 3 (Operand.tmp 6) (Operand.tmp 8) 3)) (d := some 9) (ty := 4)) (by kernel_rfl) (fun _ => by kernel_rfl)).as (by simp)) fun a ha => ?_
 refine jZ (jJ ?_)
 refine jK ha rfl rfl ?_
 refine wp_skip (jJ (wp_seq (wp_seq (jX [0, 1, 2, 3, 4] (jQ [(0, 10, ptr b1 1)] ha fun a ha => ?_)))))
 refine qW (d := 11) (b := b1) (j := 1) ha (hS.blk 1 rfl) rfl fun a ha => ?_
 refine jQ [(2, 12, ptr b3 1)] ha fun a ha => ?_
 refine qW (d := 13) (b := b3) (j := 1) ha (hS.blk 0 rfl) rfl fun a ha => ?_
 refine xQ (.bool false) ha ((qQ (v := .bool (!decide (xa = xa))) ha (xG (op := (Op.binOp BinOp.neq 3 (Operand.tmp 11) (Operand.tmp 13) 3)) (d := some 14) (ty := 4)) (by kernel_rfl) (fun _ => by kernel_rfl)).as (by simp)) fun a ha => ?_
 refine jZ (jJ ?_)
 refine jK ha rfl rfl ?_
 refine wp_skip (jJ (wp_seq (wp_seq (jX [0, 1, 2, 3, 4] (jQ [(0, 15, ptr b1 2)] ha fun a ha => ?_)))))
 refine qW (d := 16) (b := b1) (j := 2) ha (hS.blk 1 rfl) rfl fun a ha => ?_
 refine jQ [(2, 17, ptr b3 2)] ha fun a ha => ?_
 refine qW (d := 18) (b := b3) (j := 2) ha (hS.blk 0 rfl) rfl fun a ha => ?_
 refine xQ (.bool false) ha ((qQ (v := .bool (!decide (xb = xb))) ha (xG (op := (Op.binOp BinOp.neq 3 (Operand.tmp 16) (Operand.tmp 18) 3)) (d := some 19) (ty := 4)) (by kernel_rfl) (fun _ => by kernel_rfl)).as (by simp)) fun a ha => ?_
 refine jZ (jJ ?_)
 refine jK ha rfl rfl ?_
 refine wp_skip (jJ (wp_seq (jX [0] (jQ [(0, 4, .bool true)] ha fun a ha => ?_))))
 refine jZ ?_
 replace ha := ha.as [(4, .bool true)] rfl
 refine jJ (wp_ret (jW ha (by kernel_rfl) (jG (t := 4) ha rfl) ?_))
 exact ⟨rfl, Sat.rest [_, _] hS⟩
theorem code125 : Try.f125.body = some (Code.seq (cr Try.f125 0 false) (Code.seq (Code.seq (cr Try.f125 1 false) (Code.cond (Operand.tmp 10) (Code.seq (cr Try.f125 2 false) Code.ret) Code.skip)) (Code.seq (Code.seq (cr Try.f125 3 false) (Code.block 0 (Code.loop (Code.seq (Code.seq (cr Try.f125 4 false) (Code.cond (Operand.tmp 14) Code.skip (Code.exit 0))) (Code.seq (Code.block 1 (Code.seq (cr Try.f125 6 true) (Code.cond (Operand.tmp 26) (Code.seq (cr Try.f125 7 false) Code.ret) Code.skip))) (cr Try.f125 5 false)))))) (Code.seq (cr Try.f125 8 false) Code.ret)))) := by kernel_rfl
theorem eq_steps {w0 w : World} {Rs : List Asn} {b : List Stp} {s1 s2 : Sl} (hS : Sat w0 w Rs) (h1 : Keeps w0 Rs (fun w => RdBody w s1 b)) (h2 : Keeps w0 Rs (fun w => RdBody w s2 b)) (hlb : b.length ≤ 2000000) :
  Calls Try.prog 125 #[.slice s1.A s1.n s1.c, .slice s2.A s2.n s2.c] w (Ret fun r w' => r = .bool true ∧ Sat w0 w' Rs) := by
 have hn1 := (h1 w hS).len
 have hn2 := (h2 w hS).len
 have hA1 := (h1 w hS).A
 have hA2 := (h2 w hS).A
 refine enter (n := 27) Try.func125 code125 (by kernel_rfl) (Nat.le_of_ble_eq_true rfl) (fun a ha => ?_)
 replace ha : Has 27 [(0, .slice s1.A s1.n s1.c), (1, .slice s2.A s2.n s2.c)] a := ha
 refine wp_seq (jX [0] (jQ [(0, 4, .bool false)] ha fun a ha => ?_))
 refine jZ (jJ (wp_seq (wp_seq (jX [0, 1, 2, 3, 4] (jQ [(0, 6, .slice s1.A s1.n s1.c), (1, 7, iv (s1.n : Int)), (2, 8, .slice s2.A s2.n s2.c), (3, 9, iv (s2.n : Int)), (4, 10, .bool (!(decide ((s1.n : Int) = (s2.n : Int)))))] ha fun a ha => ?_)))))
 refine jZ (jJ ?_)
 by_cases c1 : (s1.n : Int) = (s2.n : Int)
 ·
  refine jK ha rfl (qZ (decide_eq_true c1)) ?_
  refine wp_skip (jJ (wp_seq (wp_seq (jX [0] (jQ [(0, 5, iv 0)] ha fun a ha => ?_)))))
  refine jZ (jJ (wp_block ?_))
  refine wp_loop_ghost (fun n_ a_ w_ => ∃ (i : Nat), n_ = b.length - i ∧ (i ≤ b.length) ∧ Has 27 [(0, .slice s1.A s1.n s1.c), (1, .slice s2.A s2.n s2.c), (5, iv (i : Int))] a_ ∧ Sat w0 w_ (Rs)) _ ⟨0, rfl, Nat.zero_le _, ha.keeps [0, 1, 5] _ rfl, hS⟩ ?_
  rintro n_ a w ⟨i, rfl, hi, ha, hS⟩
  refine wp_seq (wp_seq (jX [0, 1, 2, 3] (jQ [(0, 11, iv (i : Int)), (1, 12, .slice s1.A s1.n s1.c), (2, 13, iv (s1.n : Int)), (3, 14, .bool (decide ((i : Int) < (s1.n : Int))))] ha fun a ha => ?_)))
  refine jZ (jJ ?_)
  by_cases c2 : (i : Int) < (s1.n : Int)
  ·
   have hlt : i < b.length := by have := c2; omega
   obtain ⟨z, hz⟩ : ∃ z, b[i]? = some z := ⟨_, List.getElem?_eq_getElem hlt⟩;refine jU ha rfl (decide_eq_true c2) ?_;refine wp_skip (jJ (wp_seq (wp_block (wp_seq (zX 8 10 hS fun w hS => ?_)))));refine qG (k := 8) [(0, 17, .slice s1.A s1.n s1.c), (1, 18, iv (i : Int))] ha (.inr hS) fun a ha => ?_;refine yQ 2 (.pointer (some ⟨bk s1, of_ s1 + i * 3, none⟩)) ha (xU (s := s1) (el := 72) (sz := 3) (j := i) ha (yJ (t := 70) (x := 17) (y := 18) (d := 19)) rfl rfl (by kernel_rfl) (by kernel_rfl) (hA1 (by omega)) (by omega)) (.inr hS) fun a ha => ?_;refine yK 3 (.agg #[iv z.k, iv z.a, iv z.b]) ha (v_loadL ha (xH (t := 72) (x := 19) (d := 20) (ty := 72)) rfl (fun w' hw => (h1 w' hw).load hz)) hS fun a ha => ?_;refine qG (k := 4) [(4, 21, .slice s2.A s2.n s2.c), (5, 22, iv (i : Int))] ha (.inr hS) fun a ha => ?_;refine yQ 6 (.pointer (some ⟨bk s2, of_ s2 + i * 3, none⟩)) ha (xU (s := s2) (el := 72) (sz := 3) (j := i) ha (yJ (t := 70) (x := 21) (y := 22) (d := 23)) rfl rfl (by kernel_rfl) (by kernel_rfl) (hA2 (by omega)) (by omega)) (.inr hS) fun a ha => ?_;refine yK 7 (.agg #[iv z.k, iv z.a, iv z.b]) ha (v_loadL ha (xH (t := 72) (x := 23) (d := 24) (ty := 72)) rfl (fun w' hw => (h2 w' hw).load hz)) hS fun a ha => ?_;refine qU 8 (qY 25 (vs := [.agg #[iv z.k, iv z.a, iv z.b], .agg #[iv z.k, iv z.a, iv z.b]]) ha (eq_step hS) fun v3 w a hp4 ha => ?_);obtain ⟨rfl, hS⟩ := hp4;refine zQ (qG (k := 0) [(9, 26, .bool false)] ha (.inl (by kernel_rfl)) fun a ha => ?_);refine xV (jJ ?_);refine jK ha rfl rfl ?_;refine wp_skip (in_n (jJ (jX [0, 1, 2] (jQ [(0, 15, iv (i : Int))] ha fun a ha => ?_))));refine xW 16 ((i : Int) + 1) ha fun a ha => ?_;refine jQ [(2, 5, iv ((i : Int) + 1))] ha fun a ha => ?_;refine jZ (jJ ?_);exact ⟨_, by omega, i + 1, rfl, by omega, ha.keeps [0, 1, 5] _ rfl, hS⟩
  refine jK ha rfl (decide_eq_false c2) ?_
  refine wp_exit (qH (qH (in_x (jJ (wp_seq (jX [0] (jQ [(0, 4, .bool true)] ha fun a ha => ?_)))))))
  refine jZ (jJ (wp_ret (jW ha (by kernel_rfl) (jG (t := 4) ha rfl) ?_)))
  exact ⟨rfl, hS⟩
 exact absurd (by rw [hn1, hn2]) c1
theorem code65 : Try.f65.body = some (Code.seq (cr Try.f65 0 false) (Code.seq (Code.seq (cr Try.f65 1 false) (Code.cond (Operand.tmp 10) (Code.seq (cr Try.f65 2 false) Code.ret) Code.skip)) (Code.seq (Code.seq (cr Try.f65 3 false) (Code.block 0 (Code.loop (Code.seq (Code.seq (cr Try.f65 4 false) (Code.cond (Operand.tmp 14) Code.skip (Code.exit 0))) (Code.seq (Code.block 1 (Code.seq (cr Try.f65 6 true) (Code.cond (Operand.tmp 26) (Code.seq (cr Try.f65 7 false) Code.ret) Code.skip))) (cr Try.f65 5 false)))))) (Code.seq (cr Try.f65 8 false) Code.ret)))) := by kernel_rfl
theorem eq_rows {w0 w : World} {Rs : List Asn} {b : List (List Stp)} {s1 s2 : Sl} {sbs1 sbs2 : List Sl} (hS : Sat w0 w Rs) (h1 : Keeps w0 Rs (fun w => RdProg w s1 sbs1 b)) (h2 : Keeps w0 Rs (fun w => RdProg w s2 sbs2 b)) (hlb : b.length ≤ 2000000) (hlen : ∀ z ∈ b, z.length ≤ 2000000) :
  Calls Try.prog 65 #[.slice s1.A s1.n s1.c, .slice s2.A s2.n s2.c] w (Ret fun r w' => r = .bool true ∧ Sat w0 w' Rs) := by
 have hn1 := (h1 w hS).len
 have hn2 := (h2 w hS).len
 have hA1 := (h1 w hS).A
 have hA2 := (h2 w hS).A
 refine enter (n := 27) Try.func65 code65 (by kernel_rfl) (Nat.le_of_ble_eq_true rfl) (fun a ha => ?_)
 replace ha : Has 27 [(0, .slice s1.A s1.n s1.c), (1, .slice s2.A s2.n s2.c)] a := ha
 refine wp_seq (jX [0] (jQ [(0, 4, .bool false)] ha fun a ha => ?_))
 refine jZ (jJ (wp_seq (wp_seq (jX [0, 1, 2, 3, 4] (jQ [(0, 6, .slice s1.A s1.n s1.c), (1, 7, iv (s1.n : Int)), (2, 8, .slice s2.A s2.n s2.c), (3, 9, iv (s2.n : Int)), (4, 10, .bool (!(decide ((s1.n : Int) = (s2.n : Int)))))] ha fun a ha => ?_)))))
 refine jZ (jJ ?_)
 by_cases c1 : (s1.n : Int) = (s2.n : Int)
 ·
  refine jK ha rfl (qZ (decide_eq_true c1)) ?_
  refine wp_skip (jJ (wp_seq (wp_seq (jX [0] (jQ [(0, 5, iv 0)] ha fun a ha => ?_)))))
  refine jZ (jJ (wp_block ?_))
  refine wp_loop_ghost (fun n_ a_ w_ => ∃ (i : Nat), n_ = b.length - i ∧ (i ≤ b.length) ∧ Has 27 [(0, .slice s1.A s1.n s1.c), (1, .slice s2.A s2.n s2.c), (5, iv (i : Int))] a_ ∧ Sat w0 w_ (Rs)) _ ⟨0, rfl, Nat.zero_le _, ha.keeps [0, 1, 5] _ rfl, hS⟩ ?_
  rintro n_ a w ⟨i, rfl, hi, ha, hS⟩
  refine wp_seq (wp_seq (jX [0, 1, 2, 3] (jQ [(0, 11, iv (i : Int)), (1, 12, .slice s1.A s1.n s1.c), (2, 13, iv (s1.n : Int)), (3, 14, .bool (decide ((i : Int) < (s1.n : Int))))] ha fun a ha => ?_)))
  refine jZ (jJ ?_)
  by_cases c2 : (i : Int) < (s1.n : Int)
  ·
   have hlt : i < b.length := by have := c2; omega
   obtain ⟨z, hz⟩ : ∃ z, b[i]? = some z := ⟨_, List.getElem?_eq_getElem hlt⟩;obtain ⟨sb1, _, _, hsb1⟩ := RdProg.body h1 hS hz;obtain ⟨sb2, _, _, hsb2⟩ := RdProg.body h2 hS hz;refine jU ha rfl (decide_eq_true c2) ?_;refine wp_skip (jJ (wp_seq (wp_block (wp_seq (zX 8 10 hS fun w hS => ?_)))));refine qG (k := 8) [(0, 17, .slice s1.A s1.n s1.c), (1, 18, iv (i : Int))] ha (.inr hS) fun a ha => ?_;refine yQ 2 (.pointer (some ⟨bk s1, of_ s1 + i * 1, none⟩)) ha (xU (s := s1) (el := 70) (sz := 1) (j := i) ha (yJ (t := 28) (x := 17) (y := 18) (d := 19)) rfl rfl (by kernel_rfl) (by kernel_rfl) (hA1 (by omega)) (by omega)) (.inr hS) fun a ha => ?_;refine yK 3 (.slice sb1.A sb1.n sb1.c) ha (xZ ha (xH (t := 70) (x := 19) (d := 20) (ty := 70)) rfl (by kernel_rfl) (fun w' hw => by rw [Nat.mul_one]; exact (hsb1 w' hw).1)) hS fun a ha => ?_;refine qG (k := 4) [(4, 21, .slice s2.A s2.n s2.c), (5, 22, iv (i : Int))] ha (.inr hS) fun a ha => ?_;refine yQ 6 (.pointer (some ⟨bk s2, of_ s2 + i * 1, none⟩)) ha (xU (s := s2) (el := 70) (sz := 1) (j := i) ha (yJ (t := 28) (x := 21) (y := 22) (d := 23)) rfl rfl (by kernel_rfl) (by kernel_rfl) (hA2 (by omega)) (by omega)) (.inr hS) fun a ha => ?_;refine yK 7 (.slice sb2.A sb2.n sb2.c) ha (xZ ha (xH (t := 70) (x := 23) (d := 24) (ty := 70)) rfl (by kernel_rfl) (fun w' hw => by rw [Nat.mul_one]; exact (hsb2 w' hw).1)) hS fun a ha => ?_;refine qU 8 (qY 25 (vs := [.slice sb1.A sb1.n sb1.c, .slice sb2.A sb2.n sb2.c]) ha (eq_steps hS (fun w h => (hsb1 w h).2) (fun w h => (hsb2 w h).2) (hlen z (List.mem_of_getElem? hz))) fun v3 w a hp4 ha => ?_);obtain ⟨rfl, hS⟩ := hp4;refine zQ (qG (k := 0) [(9, 26, .bool false)] ha (.inl (by kernel_rfl)) fun a ha => ?_);refine xV (jJ ?_);refine jK ha rfl rfl ?_;refine wp_skip (in_n (jJ (jX [0, 1, 2] (jQ [(0, 15, iv (i : Int))] ha fun a ha => ?_))));refine xW 16 ((i : Int) + 1) ha fun a ha => ?_;refine jQ [(2, 5, iv ((i : Int) + 1))] ha fun a ha => ?_;refine jZ (jJ ?_);exact ⟨_, by omega, i + 1, rfl, by omega, ha.keeps [0, 1, 5] _ rfl, hS⟩
  refine jK ha rfl (decide_eq_false c2) ?_
  refine wp_exit (qH (qH (in_x (jJ (wp_seq (jX [0] (jQ [(0, 4, .bool true)] ha fun a ha => ?_)))))))
  refine jZ (jJ (wp_ret (jW ha (by kernel_rfl) (jG (t := 4) ha rfl) ?_)))
  exact ⟨rfl, hS⟩
 exact absurd (by rw [hn1, hn2]) c1
theorem code19 : Try.f19.body = some (Code.seq (cr Try.f19 0 false) (Code.seq (Code.seq (cr Try.f19 1 false) (Code.cond (Operand.tmp 10) (Code.seq (cr Try.f19 2 false) Code.ret) Code.skip)) (Code.seq (cr Try.f19 3 false) Code.ret))) := by kernel_rfl
theorem eq_prog {w0 w : World} {Rs : List Asn} {b : List (List Stp)} {s1 s2 : Sl} {sbs1 sbs2 : List Sl} (hS : Sat w0 w Rs) (h1 : Keeps w0 Rs (fun w => RdProg w s1 sbs1 b)) (h2 : Keeps w0 Rs (fun w => RdProg w s2 sbs2 b)) (hlb : b.length ≤ 2000000) (hlen : ∀ z ∈ b, z.length ≤ 2000000) :
  Calls Try.prog 19 #[.agg #[.slice s1.A s1.n s1.c], .agg #[.slice s2.A s2.n s2.c]] w (Ret fun r w' => r = .bool true ∧ Sat w0 w' Rs) := by
 refine enter (n := 11) Try.func19 code19 (by kernel_rfl) (Nat.le_of_ble_eq_true rfl) (fun a ha => ?_)
 replace ha : Has 11 [(0, .agg #[.slice s1.A s1.n s1.c]), (1, .agg #[.slice s2.A s2.n s2.c])] a := ha
 refine wp_seq (jX [0, 1, 2] (jH (qX 2 [.slice s1.A s1.n s1.c] 30 (ptr · 0) ha hS fun b1 w a hb2 hS ha => ?_)))
 refine jH (qX 3 [.slice s2.A s2.n s2.c] 30 (ptr · 0) ha hS fun b3 w a hb4 hS ha => ?_)
 refine jQ [(2, 4, .bool false)] ha fun a ha => ?_
 refine jZ (jJ (wp_seq (wp_seq (jX [0, 1, 2, 3, 4, 5] (jQ [(0, 5, ptr b1 0)] ha fun a ha => ?_)))))
 refine qW (d := 6) (b := b1) (j := 0) ha (hS.blk 1 rfl) rfl fun a ha => ?_
 refine jQ [(2, 7, ptr b3 0)] ha fun a ha => ?_
 refine qW (d := 8) (b := b3) (j := 0) ha (hS.blk 0 rfl) rfl fun a ha => ?_
 refine jH (qY 9 (vs := [.slice s1.A s1.n s1.c, .slice s2.A s2.n s2.c]) ha (eq_rows hS (h1.more [_, _]) (h2.more [_, _]) hlb hlen) fun v5 w a hp6 ha => ?_)
 obtain ⟨rfl, hS⟩ := hp6
 refine jQ [(5, 10, .bool false)] ha fun a ha => ?_
 refine jZ (jJ ?_)
 refine jK ha rfl rfl ?_
 refine wp_skip (jJ (wp_seq (jX [0] (jQ [(0, 4, .bool true)] ha fun a ha => ?_))))
 refine jZ (jJ (wp_ret (jW ha (by kernel_rfl) (jG (t := 4) ha rfl) ?_)))
 exact ⟨rfl, Sat.rest [_, _] hS⟩
section
variable {w0 w : World} {Rs : List Asn} {s : Sl} {l : List (List ST)} {f arg fuel shared : Int}
theorem lift0 {F : Nat} {args : Array Value} {φ : Value → Prop} (hS : Sat w0 w Rs) (h : Calls Try.prog F args w (Ret fun r w' => φ r ∧ Sat w w' [])) : Calls Try.prog F args w (Ret fun r w' => φ r ∧ Sat w0 w' Rs) := by
 refine h.mono fun e w' h => ?_
 cases e with
 | returned r => exact ⟨h.1, hS.comp (Ps := []) h.2⟩
 | _ => exact h.elim
theorem eqP_sat {t : Sl} (hS : Sat w0 w Rs) (hr : RdP w s l) (ht : RdP w t l) (hf : Fits l) :
    Calls Try.prog 19 #[.agg #[.slice s.A s.n s.c], .agg #[.slice t.A t.n t.c]] w (Ret fun r w' => r = .bool true ∧ Sat w0 w' Rs) := by
  obtain ⟨sbs1, h1⟩ := rdProg_of (c := s.c) hr.rd
  obtain ⟨sbs2, h2⟩ := rdProg_of (c := t.c) ht.rd
  rw [← hr.len] at h1
  rw [← ht.len] at h2
  refine (eq_prog (Sat.start w) (h1.keeps []) (h2.keeps []) (by rw [PL_length]; have := hf.len; omega) (fun z hz => ?_)).mono fun e w' h => ?_
  · obtain ⟨b, hb, rfl⟩ := List.mem_map.1 hz
    rw [List.length_map];have := hf.each b hb
    omega
  · cases e with
    | returned r => exact ⟨h.1, hS.comp (Ps := []) h.2⟩
    | _ => exact h.elim
end
end Go.Proofs.Ytpenhegoilccoaa.G
namespace Go.Proofs.Ytpenhegoilccoaa
namespace SX
open Go.RowKit Go.Proofs.YtpenhegoilccoaaW.PrintWords
structure RdE {α : Type} (enc : α → List Value) (sz : Nat) (w : World) (s : Sl) (l : List α) : Prop where
 len : s.n = l.length
 le : l.length ≤ s.c
 big : l.length ≤ 9223372036854775807
 at_ : ∀ (j : Nat) (x : α), l[j]? = some x → s.A = some ⟨bk s, of_ s, none⟩ ∧ ∀ (o : Nat) (u : Value), (enc x)[o]? = some u → w.cell? ⟨bk s, of_ s + j * sz + o, none⟩ = some u
section
variable {α : Type} {enc : α → List Value} {sz : Nat} {w0 w w' : World} {Rs : List Asn} {s : Sl} {l : List α}
theorem RdE.below (h : RdE enc sz w s l) (hb : Below w.heap.size w w') : RdE enc sz w' s l := ⟨h.len, h.le, h.big, fun j x hx => ⟨(h.at_ j x hx).1, fun o u hu => pw_cell_below hb ((h.at_ j x hx).2 o u hu)⟩⟩
theorem RdE.sat (h : RdE enc sz w0 s l) (hS : Sat w0 w Rs) : RdE enc sz w s l := h.below hS.below
theorem Sat.rowC {T : TypeId} {vs : List Value} (h : Sat w0 w Rs) (i : Nat) (hi : Rs[i]? = some (SX.row s.v T sz vs)) : s.n ≤ s.c ∧ s.n ≤ 9223372036854775807 := by
  obtain ⟨n, h1, h2⟩ := h.row i hi
  obtain ⟨A, sn, sc⟩ := s
  have hml : maxLen ≤ 9223372036854775807 := by decide
  rcases h2 with ⟨e, h0⟩ | ⟨g, cap, cur, e, _, hg, h3, h4, h5, h6⟩
  · simp only [Sl.v, Value.slice.injEq] at e
    obtain ⟨rfl, rfl, rfl⟩ := e;exact ⟨Nat.le_refl _, by simp⟩
  · simp only [Sl.v, Value.slice.injEq] at e
    obtain ⟨rfl, rfl, rfl⟩ := e
    dsimp only
    exact ⟨by omega, by omega⟩
end
section
variable {P : Program} {R : Array Oper} {n : Nat} {e : Env} {a : Act} {w : World}
theorem v_loadE {S : World → Prop} {i d : Nat} {t : TypeId} {x : Operand} {ty : TypeId} {b f : Nat} {vs : List Value} (h : Has n e a) (ho : AtW R i (.load t x) (some d) ty a) (hx : ev e x = some (.pointer (some ⟨b, f, none⟩)))
  (ht : aggSize P t = some vs.length) (hb : ∀ w, S w → ∀ (o : Nat) (u : Value), vs[o]? = some u → w.cell? ⟨b, f + o, none⟩ = some u) : Val P R i a S d (.agg vs.toArray) :=
 v_loadL h ho hx fun w hw => run_loadVar_agg ht fun i u hu => by rw [add0]; exact hb w hw i u hu
end
end SX
end Go.Proofs.Ytpenhegoilccoaa
namespace Go.Proofs.Ytpenhegoilccoaa.G
open Go.RowKit Go.Proofs.Ytpenhegoilccoaa.SX Go.Proofs.YtpenhegoilccoaaW.PrintWords Go.Proofs.YtpenhegoilccoaaW.PrintLast Go.Proofs.YtpenhegoilccoaaW.PrintMore
theorem getD_at {l : List Int} {n : Nat} {x : Int} (h : l[n]? = some x) : l.getD n 0 = x := by rw [List.getD_eq_getElem?_getD, h]; rfl
def cellsJ (x : Int) : List Value := [.int .i64 x]
def encJ (l : List Int) : List Value := l.flatMap cellsJ
theorem cellsJ_len (x : Int) : (cellsJ x).length = 1 := rfl
theorem encJ_length (l : List Int) : (encJ l).length = l.length * 1 := flat_length cellsJ_len l
theorem encJ_I (l : List Int) : encI l = encJ l := by
 induction l with
 | nil => rfl
 | cons x l ih => show Value.int .i64 x :: encI l = Value.int .i64 x :: encJ l; rw [ih]
theorem rdL_at {l : List (List ST)} {f : Int} {b : List ST} (h0 : 0 ≤ f) (hb : l[f.toNat]? = some b) : rd_L4 l f = b := by simp [rd_L4, List.getD, hb]
def placeB (m : Int) (l : List (List ST)) (f at_ : Int) : Bool := okF l f && (decide (0 ≤ at_) && decide (at_ ≤ ((l.getD f.toNat []).length : Int) - m))
theorem placeB_ok {m : Int} {l : List (List ST)} {f at_ : Int} (h : placeB m l f at_ = true) : okF l f = true ∧ ∃ b, l[f.toNat]? = some b ∧ 0 ≤ at_ ∧ at_ ≤ (b.length : Int) - m := by
 simp only [placeB, Bool.and_eq_true, decide_eq_true_eq] at h
 have hlt := okF_lt h.1
 obtain ⟨b, hb⟩ : ∃ b, l[f.toNat]? = some b := ⟨_, List.getElem?_eq_getElem (by omega)⟩
 refine ⟨h.1, b, hb, h.2.1, ?_⟩
 have := h.2.2
 simpa only [List.getD, hb, Option.getD_some] using this
theorem in_f (a lo hi : Int) : impl_in.f a lo hi = some (decide (lo ≤ a) && decide (a ≤ hi)) := by
 unfold impl_in.f
 by_cases h : lo ≤ a <;> simp [h]
section
variable {w0 w : World} {Rs : List Asn} {s : Sl} {l : List (List ST)} {f at_ : Int}
theorem hasNext_sat (hS : Sat w0 w Rs) (hr : RdP w s l) (hf : Fits l) :
    Calls Try.prog 59 #[.agg #[.slice s.A s.n s.c], .int .i64 f, .int .i64 at_] w (Ret fun r w' => r = .bool (placeB 2 l f at_) ∧ Sat w0 w' Rs) := by
  have hq : impl_hasNext.f l f at_ = some (placeB 2 l f at_) := by
    simp only [impl_hasNext.f, impl_isFunction.f, impl_IsProgram.f, in_f, w64b (x := (l.length : Int) - 1) (by have := hf.len; omega) (by have := hf.len; omega), Option.bind_some]
    by_cases hp : programB l = true
    · rw [if_pos hp, Option.bind_some]
      by_cases ho : okF l f = true
      · have hlt := okF_lt ho
        obtain ⟨b, hb⟩ : ∃ b, l[f.toNat]? = some b := ⟨_, List.getElem?_eq_getElem (by omega)⟩;have hbl := hf.each b (List.mem_of_getElem? hb);have h2 : (decide (0 ≤ f) && decide (f ≤ (l.length : Int) - 1)) = true := by simpa [okF, hp] using ho
        rw [if_pos h2, if_pos hlt.1, if_pos hlt.2, rdL_at hlt.1 hb, w64b (by omega) (by omega)];unfold placeB;rw [ho, Bool.true_and];simp only [List.getD, hb, Option.getD_some]
      · have h2 : (decide (0 ≤ f) && decide (f ≤ (l.length : Int) - 1)) = false := by
          have h3 := Bool.eq_false_iff.2 ho;rw [okF, hp, Bool.true_and] at h3;exact h3
        rw [h2, if_neg (by decide)];unfold placeB;rw [Bool.eq_false_iff.2 ho]; rfl
    · have h2 : okF l f = false := by rw [okF, Bool.eq_false_iff.2 hp, Bool.false_and]
      rw [Bool.eq_false_iff.2 hp];unfold placeB;rw [h2]; rfl
  have := impl_hasNext.calls s.A s.c l f at_ (placeB 2 l f at_) w hr.rd hr.le hq
  rw [← hr.len] at this
  refine this.mono ?_
  rintro e w' ⟨rfl, hb⟩
  exact ⟨rfl, Sat.skip hS hb⟩
theorem l9Next_sat (hS : Sat w0 w Rs) (hr : RdP w s l) (hf : Fits l) :
    Calls Try.prog 54 #[.agg #[.slice s.A s.n s.c], .int .i64 f, .int .i64 at_] w (Ret fun r w' => r = .bool (placeB 2 l f at_) ∧ Sat w0 w' Rs) := by
  have hq : spec_l9Next.f 1048580 l f at_ = some (placeB 2 l f at_) := by
    simp only [spec_l9Next.f, l2Program_f l hf.len 1048580 (by omega), l2Function_f l hf.len, Option.bind_some]
    by_cases hp : programB l = true
    · rw [if_pos hp]
      by_cases ho : okF l f = true
      · have hlt := okF_lt ho
        obtain ⟨b, hb⟩ : ∃ b, l[f.toNat]? = some b := ⟨_, List.getElem?_eq_getElem (by omega)⟩;have hbl := hf.each b (List.mem_of_getElem? hb);have h2 : (decide (0 ≤ f) && decide (f ≤ (l.length : Int) - 1)) = true := by simpa [okF, hp] using ho
        rw [if_pos h2, if_pos hlt.1, if_pos hlt.2, rdL_at hlt.1 hb, w64b (by omega) (by omega), l1In_f, Option.bind_some];unfold placeB;rw [ho, Bool.true_and];simp only [List.getD, hb, Option.getD_some]
      · have h2 : (decide (0 ≤ f) && decide (f ≤ (l.length : Int) - 1)) = false := by
          have h3 := Bool.eq_false_iff.2 ho;rw [okF, hp, Bool.true_and] at h3;exact h3
        rw [h2, if_neg (by decide)];unfold placeB;rw [Bool.eq_false_iff.2 ho]; rfl
    · have h2 : okF l f = false := by rw [okF, Bool.eq_false_iff.2 hp, Bool.false_and]
      rw [if_neg hp];unfold placeB;rw [h2]; rfl
  have := spec_l9Next.calls 1048580 s.A s.c l f at_ (placeB 2 l f at_) w hr.rd hr.le hq
  rw [← hr.len] at this
  refine this.mono ?_
  rintro e w' ⟨rfl, hb⟩
  exact ⟨rfl, Sat.skip hS hb⟩
end
theorem RdE.ofSteps {w : World} {s : Sl} {b : List ST} (hn : s.n = b.length) (hl : b.length ≤ s.c) (h : Kd.C k72 w s.A b.length b) : RdE cT 3 w s b := by
 obtain ⟨_, hb, h3⟩ := h
 refine ⟨hn, hl, hb, fun j x hx => ?_⟩
 have hj := (List.getElem?_eq_some_iff.1 hx).1
 obtain ⟨ad, hA, hc⟩ := h3 (by omega)
 have hcell : ∀ (j : Nat) (x : ST), b[j]? = some x → ∀ (o : Nat) (u : Value), (cT x)[o]? = some u → w.cell? (ad.add (j * 3 + o)) = some u := fun j x hx o u hu => by
  obtain ⟨cs, _, hk, hu2⟩ := hc j x hx
  obtain rfl := k72_open hk
  exact hu2 o u hu
 have hspot := spot_of_cell (v := .int .i64 (b[0]'(by omega)).f0) (w := w) (ad := ad) (by have := hcell 0 _ (List.getElem?_eq_getElem (by omega)) 0 _ rfl; simpa using this)
 obtain ⟨bb, off, sp⟩ := ad
 subst hspot
 refine ⟨by simp [bk, of_, hA], fun o u hu => ?_⟩
 have := hcell j x hx o u hu
 rw [add0] at this
 simpa [bk, of_, hA, Nat.add_assoc] using this
theorem body_rd {w : World} {s : Sl} {l : List (List ST)} (hr : RdP w s l) {j : Nat} {b : List ST} (hb : l[j]? = some b) : s.A = some ⟨bk s, of_ s, none⟩ ∧ ∃ t : Sl, w.cell? ⟨bk s, of_ s + j, none⟩ = some (.slice t.A t.n t.c) ∧ RdE cT 3 w t b := by
 obtain ⟨h1, A', c', h2, h3, h4⟩ := rows_cells hr.rd j b hb
 exact ⟨h1, ⟨A', b.length, c'⟩, h2, RdE.ofSteps rfl h3 h4⟩
end Go.Proofs.Ytpenhegoilccoaa.G
namespace Go.Proofs.Ytpenhegoilccoaa.SX
open Go.RowKit Go.Proofs.Ytpenhegoilccoaa.G Go.Proofs.YtpenhegoilccoaaW.PrintWords Go.Proofs.YtpenhegoilccoaaW.PrintLast Go.Proofs.YtpenhegoilccoaaW.PrintMore
def R3.m : R3 → MS
 | .spent m => m
 | .done m _ _ => m
def RB.m : RB → MS
 | .spent m => m
 | .go m _ _ _ => m
end Go.Proofs.Ytpenhegoilccoaa.SX
