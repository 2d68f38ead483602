/- What the claim FnExactIsSession rests on, part 17 of 21; the last part proves it: for every input the law answers true, and its arguments read behind the call as before it. No condition. -/
import Derived.Test.YtjkoibfkklhaiaaQIsSession7
import Derived.Test.YtjkoibfkklhaiaaQIsSession8
import Derived.Test.YtjkoibfkklhaiaaQIsSession10
import Derived.Test.YtjkoibfkklhaiaaQIsSession12
import Derived.Test.YtjkoibfkklhaiaaQIsSession13
import Derived.Test.YtjkoibfkklhaiaaQIsSession16
section
namespace Go.Proofs.Ytjkoibfkklhaiaa
namespace SX
open Go.RowKit Go.Proofs.Ytjkoibfkklhaiaa.G Go.Proofs.YtjkoibfkklhaiaaW.PrintWords Go.Proofs.YtjkoibfkklhaiaaW.PrintLast Go.Proofs.YtjkoibfkklhaiaaW.PrintMore
set_option linter.unusedVariables false
set_option linter.unusedSimpArgs false
abbrev GS := S176
def toStp (x : GS) : Stp := ⟨x.f0, x.f1, x.f2⟩
def PL (l : List (List GS)) : List (List Stp) := l.map (·.map toStp)
theorem PL_length (l : List (List GS)) : (PL l).length = l.length := by simp [PL]
theorem cell_lt {w : World} {p : Addr} {v : Value} (h : w.cell? p = some v) : p.block < w.heap.size := by
 unfold World.cell? at h
 split at h
 · rename_i h'; exact (Array.getElem?_eq_some_iff.1 h').1
 · cases h
theorem cell_below {w w' : World} {p : Addr} {v : Value} (h : w.cell? p = some v) (hb : Below w.heap.size w w') : w'.cell? p = some v := by
 rw [← h]
 unfold World.cell?
 rw [hb.block _ (cell_lt h)]
theorem RdBody.below {w w' : World} {s : Sl} {b : List Stp} (h : RdBody w s b) (hb : Below w.heap.size w w') : RdBody w' s b := ⟨h.len, h.A, fun j x hx => cell_below (h.k j x hx) hb, fun j x hx => cell_below (h.a j x hx) hb, fun j x hx => cell_below (h.b j x hx) hb⟩
theorem RdProg.below {w w' : World} {pv : Sl} {sbs : List Sl} {P : List (List Stp)} (h : RdProg w pv sbs P) (hb : Below w.heap.size w w') : RdProg w' pv sbs P :=
 ⟨h.len, h.A, fun i b hi => let ⟨s, h1, h2, h3⟩ := h.rows i b hi; ⟨s, h1, cell_below h2 hb, h3.below hb⟩⟩
theorem RdProg.keeps {w : World} {pv : Sl} {sbs : List Sl} {P : List (List Stp)} (h : RdProg w pv sbs P) (Rs : List Asn) : Keeps w Rs (fun w => RdProg w pv sbs P) := fun w' hS => h.below hS.below
theorem rdBody_of {w : World} {A : Option Addr} {c : Nat} {l : List GS} (hr : Kd.C k176 w A l.length l) : RdBody w ⟨A, l.length, c⟩ (l.map toStp) := by
  obtain ⟨_, _, h3⟩ := hr
  have key : ∀ (j : Nat) (x : GS), l[j]? = some x → A = some ⟨bk ⟨A, l.length, c⟩, of_ ⟨A, l.length, c⟩, none⟩ ∧ ∀ i u, (encT x)[i]? = some u → w.cell? ⟨bk ⟨A, l.length, c⟩, of_ ⟨A, l.length, c⟩ + j * 3 + i, none⟩ = some u := by
    intro j x hj
    have hjl : j < l.length := (List.getElem?_eq_some_iff.1 hj).1
    obtain ⟨ad, hA, hcells⟩ := h3 (by omega)
    have key : ∀ (j : Nat) (x : GS), l[j]? = some x → ∀ i u, (encT x)[i]? = some u → w.cell? (ad.add (j * 3 + i)) = some u := fun j x hj i u hu => by
      obtain ⟨cs, _, hk, hu'⟩ := hcells j x hj
      rw [k176_open hk] at hu'
      exact hu' i u hu
    have h0 := key 0 _ (List.getElem?_eq_getElem (by omega)) 0 _ rfl
    have hspot := spot_of_cell h0
    obtain ⟨b, off, sp⟩ := ad
    subst hspot
    subst hA
    refine ⟨rfl, fun i u hu => ?_⟩
    have := key j x hj i u hu
    rw [add0, ← Nat.add_assoc] at this
    exact this
  have get : ∀ (j : Nat) (x : Stp), (l.map toStp)[j]? = some x → ∃ y : GS, l[j]? = some y ∧ toStp y = x := fun j x hx => by
    rw [List.getElem?_map] at hx
    exact Option.map_eq_some_iff.1 hx
  refine ⟨by simp, fun hp => ?_, fun j x hx => ?_, fun j x hx => ?_, fun j x hx => ?_⟩
  · rw [List.length_map] at hp
    exact (key 0 _ (List.getElem?_eq_getElem hp)).1
  · obtain ⟨y, hy, rfl⟩ := get j x hx
    exact (key j y hy).2 0 _ rfl
  · obtain ⟨y, hy, rfl⟩ := get j x hx
    exact (key j y hy).2 1 _ rfl
  · obtain ⟨y, hy, rfl⟩ := get j x hx
    exact (key j y hy).2 2 _ rfl
theorem rdProg_of {w : World} {A : Option Addr} {c : Nat} {l : List (List GS)} (hr : Kd.C (Kd.slice 176 k176) w A l.length l) : ∃ sbs, RdProg w ⟨A, l.length, c⟩ sbs (PL l) := by
  have hb := bodies_cells (s := ⟨A, l.length, c⟩) hr
  have hs : ∀ j : Nat, ∃ s : Sl, ∀ b, l[j]? = some b → w.cell? ⟨bk ⟨A, l.length, c⟩, of_ ⟨A, l.length, c⟩ + j, none⟩ = some s.v ∧ RdBody w s (b.map toStp) := by
    intro j
    cases hj : l[j]? with
    | none => exact ⟨⟨none, 0, 0⟩, fun b h => by cases h⟩
    | some b =>
      obtain ⟨_, A', c', h1, h2, h3⟩ := hb j b hj
      exact ⟨⟨A', b.length, c'⟩, fun b' h => by cases h; exact ⟨h1, rdBody_of h3⟩⟩
  have hs2 : ∃ f : Nat → Sl, ∀ j b, l[j]? = some b → w.cell? ⟨bk ⟨A, l.length, c⟩, of_ ⟨A, l.length, c⟩ + j, none⟩ = some (f j).v ∧ RdBody w (f j) (b.map toStp) := ⟨fun j => (hs j).choose, fun j => (hs j).choose_spec⟩
  obtain ⟨f, hf⟩ := hs2
  refine ⟨(List.range l.length).map f, (PL_length l).symm, fun hp => ?_, fun i b hi => ?_⟩
  · rw [PL_length] at hp
    exact (hb 0 _ (List.getElem?_eq_getElem hp)).1
  · rw [PL, List.getElem?_map] at hi
    obtain ⟨y, hy, rfl⟩ := Option.map_eq_some_iff.1 hi
    have hlt := (List.getElem?_eq_some_iff.1 hy).1
    exact ⟨f i, by rw [List.getElem?_map, List.getElem?_range hlt]; rfl, hf i y hy⟩
section
variable {w0 w : World} {Rs : List Asn}
theorem drawn_sat (hS : Sat w0 w Rs) {w' : World} (h : Drawn0 w w') : Sat w0 w' Rs := by
 obtain ⟨q, rfl⟩ := h.out
 exact hS.grows ⟨rfl, rfl, rfl, Nat.le_refl _, fun _ _ => rfl⟩
def inB (x lo hi : Int) : Bool := decide (lo ≤ x) && decide (x ≤ hi)
theorem in_sat (hS : Sat w0 w Rs) (x lo hi : Int) : Calls Try.prog 94 #[.int .i64 x, .int .i64 lo, .int .i64 hi] w (Ret fun r w' => r = .bool (inB x lo hi) ∧ Sat w0 w' Rs) := by
 refine (impl_in.calls x lo hi _ w (in_eq x lo hi)).mono ?_
 rintro e w' ⟨rfl, hd⟩
 exact ⟨rfl, drawn_sat hS hd⟩
theorem num_sat (hS : Sat w0 w Rs) (x : Int) : Calls Try.prog 121 #[.int .i64 x] w (Ret fun r w' => r = .bool (numB x) ∧ Sat w0 w' Rs) := by
 refine (impl_isNumber.calls x _ w (num_eq x)).mono ?_
 rintro e w' ⟨rfl, hd⟩
 exact ⟨rfl, drawn_sat hS hd⟩
end
section
variable {P : Program} {R : Array Oper} {Q : Exit → Act → World → Prop} {n : Nat} {e : Env} {a : Act} {w w0 : World} {Rs : List Asn}
end
end SX
end Go.Proofs.Ytjkoibfkklhaiaa
end
section
namespace Go.Proofs.Ytjkoibfkklhaiaa.G
open Go.RowKit Go.Proofs.Ytjkoibfkklhaiaa.SX Go.Proofs.YtjkoibfkklhaiaaW.PrintWords Go.Proofs.YtjkoibfkklhaiaaW.PrintLast Go.Proofs.YtjkoibfkklhaiaaW.PrintMore
set_option linter.unusedVariables false
set_option linter.unusedSimpArgs false
theorem apart_if2 (p : Prop) [Decidable p] (b : Bool) : (if p then some b else some false) = some (decide p && b) := by by_cases h : p <;> simp [h]
theorem q_in {w0 w : World} {Rs : List Asn} (hS : Sat w0 w Rs) (x lo hi : Int) : Calls Try.prog 87 #[.int .i64 x, .int .i64 lo, .int .i64 hi] w (Ret fun r w' => r = .bool (decide (lo ≤ x) && decide (x ≤ hi)) ∧ Sat w0 w' Rs) := by
 refine (spec_l1In.calls x lo hi (decide (lo ≤ x) && decide (x ≤ hi)) w (by unfold spec_l1In.f; by_cases h : lo ≤ x <;> simp [h])).mono ?_
 rintro e w' ⟨rfl, hd⟩
 obtain ⟨q, rfl⟩ := hd.out
 exact ⟨rfl, hS.grows ⟨rfl, rfl, rfl, Nat.le_refl _, fun _ _ => rfl⟩⟩
theorem q_reg {w0 w : World} {Rs : List Asn} (hS : Sat w0 w Rs) (x : Int) : Calls Try.prog 136 #[.int .i64 x] w (Ret fun r w' => r = .bool (regB x) ∧ Sat w0 w' Rs) := by
 refine (spec_l2Reg.calls x (regB x) w (by unfold spec_l2Reg.f spec_l1In.f; simp [regB, apart_if2])).mono ?_
 rintro e w' ⟨rfl, hd⟩
 obtain ⟨q, rfl⟩ := hd.out
 exact ⟨rfl, hS.grows ⟨rfl, rfl, rfl, Nat.le_refl _, fun _ _ => rfl⟩⟩
theorem q_num {w0 w : World} {Rs : List Asn} (hS : Sat w0 w Rs) (x : Int) : Calls Try.prog 102 #[.int .i64 x] w (Ret fun r w' => r = .bool (numB x) ∧ Sat w0 w' Rs) := by
 refine (spec_l2Number.calls x (numB x) w (by unfold spec_l2Number.f spec_l1In.f; simp [numB, apart_if2])).mono ?_
 rintro e w' ⟨rfl, hd⟩
 obtain ⟨q, rfl⟩ := hd.out
 exact ⟨rfl, hS.grows ⟨rfl, rfl, rfl, Nat.le_refl _, fun _ _ => rfl⟩⟩
theorem code101 : Try.f101.body = some (Code.seq (cr Try.f101 0 false) (Code.seq (cr Try.f101 1 false) Code.ret)) := by kernel_rfl
set_option maxRecDepth 20000 in
set_option maxHeartbeats 1000000 in
theorem q_fun {w0 w : World} {Rs : List Asn} {pv : Sl} (hS : Sat w0 w Rs) (x : Int) (hn : pv.n ≤ 2000000) : Calls Try.prog 101 #[.agg #[.slice pv.A pv.n pv.c], .int .i64 x] w (Ret fun r w' => r = .bool (decide ((0 : Int) ≤ x) && decide (x ≤ (pv.n : Int) - 1)) ∧ Sat w0 w' Rs) := by
 refine enter (n := 11) Try.func101 code101 (by kernel_rfl) (Nat.le_of_ble_eq_true rfl) (fun a ha => ?_)
 replace ha : Has 11 [(0, .agg #[.slice pv.A pv.n pv.c]), (1, iv x)] a := ha
 refine wp_seq (jX [0, 1] (jH (qH 2 [.slice pv.A pv.n pv.c] 35 (ptr · 0) ha hS fun b1 w a hb2 hS ha => ?_)))
 refine jY [(1, 4, .bool false)] ha fun a ha => ?_
 refine jZ (jJ (wp_seq (jX [0, 1, 2, 3, 4, 5, 6] (jY [(0, 5, iv x), (1, 6, ptr b1 0)] ha fun a ha => ?_))))
 refine qW (d := 7) (b := b1) (j := 0) ha (hS.blk 0 rfl) rfl fun a ha => ?_
 refine jY [(3, 8, iv (pv.n : Int))] ha fun a ha => ?_
 refine yJ 9 ((pv.n : Int) - 1) ha fun a ha => ?_
 refine jH (qK 10 (vs := [iv x, iv 0, iv ((pv.n : Int) - 1)]) ha (q_in hS _ _ _) fun v3 w a hp4 ha => ?_)
 obtain ⟨rfl, hS⟩ := hp4
 refine jY [(6, 4, .bool (decide ((0 : Int) ≤ x) && decide (x ≤ ((pv.n : Int) - 1))))] ha fun a ha => ?_
 refine jZ (jJ (wp_ret (jV ha (by kernel_rfl) (qZ (t := 4) ha rfl) ?_)))
 exact ⟨rfl, Sat.rest [_] hS⟩
def okB (n : Nat) (b : List Stp) : Bool := decide (b.length ≤ 8) && b.all fun s => stepB (n : Int) s.k s.a s.b
def progQ (P : List (List Stp)) : Bool := (decide ((1 : Int) ≤ (P.length : Int)) && decide ((P.length : Int) ≤ 6)) && P.all (okB P.length)
theorem progQ_len {P : List (List Stp)} (h : (decide ((1 : Int) ≤ (P.length : Int)) && decide ((P.length : Int) ≤ 6)) = false) : progQ P = false := by unfold progQ; rw [h]; rfl
theorem progQ_no {P : List (List Stp)} {b : List Stp} (hb : b ∈ P) (h : okB P.length b = false) : progQ P = false := by
 refine Bool.eq_false_iff.2 fun h2 => ?_
 have h3 := List.all_eq_true.1 (Bool.and_eq_true_iff.1 h2).2 b hb
 rw [h] at h3
 cases h3
theorem progQ_yes {P : List (List Stp)} (h : (decide ((1 : Int) ≤ (P.length : Int)) && decide ((P.length : Int) ≤ 6)) = true) (h2 : ∀ b ∈ P, okB P.length b = true) : progQ P = true := by unfold progQ; rw [h, Bool.true_and]; exact List.all_eq_true.2 h2
theorem okB_len {n : Nat} {b : List Stp} (h : 8 < b.length) : okB n b = false := by unfold okB; rw [decide_eq_false (by omega)]; rfl
theorem okB_step {n : Nat} {b : List Stp} {z : Stp} (hz : z ∈ b) (h : stepB (n : Int) z.k z.a z.b = false) : okB n b = false := by
 refine Bool.eq_false_iff.2 fun h2 => ?_
 have h3 := List.all_eq_true.1 (Bool.and_eq_true_iff.1 h2).2 z hz
 rw [h] at h3
 cases h3
theorem okB_yes {n : Nat} {b : List Stp} (h : b.length ≤ 8) (h2 : ∀ s ∈ b, stepB (n : Int) s.k s.a s.b = true) : okB n b = true := by unfold okB; rw [decide_eq_true h, Bool.true_and]; exact List.all_eq_true.2 h2
theorem take_all {α : Type} {l : List α} {i : Nat} {x : α} {p : α → Prop} (h : ∀ y ∈ l.take i, p y) (hx : l[i]? = some x) (hp : p x) : ∀ y ∈ l.take (i + 1), p y := by
 intro y hy
 rw [List.take_add_one, hx] at hy
 rcases List.mem_append.1 hy with hy | hy
 · exact h y hy
 · rw [List.mem_singleton.1 hy]; exact hp
theorem progQ_PL (l : List (List GS)) : progQ (PL l) = programB l := by
  unfold progQ programB
  rw [PL_length]
  congr 1
  · congr 1 <;> exact decide_eq_decide.2 (by omega)
  · unfold PL
    rw [List.all_map]
    refine congrArg (List.all l) (funext fun b => ?_)
    simp only [Function.comp, okB, bodyB, List.length_map, List.all_map]
    rfl
theorem code112 : Try.f112.body = some (Code.seq (cr Try.f112 0 false) (Code.seq (Code.seq (cr Try.f112 1 false) (Code.block 0 (Code.seq (cr Try.f112 2 false) (Code.cond (Operand.tmp 7) (Code.seq (cr Try.f112 3 false) Code.ret) (Code.seq (cr Try.f112 4 false) (Code.cond (Operand.tmp 17) (Code.seq (cr Try.f112 5 false) Code.ret) (Code.seq (Code.seq (cr Try.f112 6 false) (Code.cond (Operand.tmp 27) Code.skip (cr Try.f112 7 false))) (Code.cond (Operand.tmp 27) (Code.seq (cr Try.f112 8 false) Code.ret) (Code.seq (Code.seq (cr Try.f112 9 false) (Code.cond (Operand.tmp 39) Code.skip (Code.seq (cr Try.f112 10 false) (Code.cond (Operand.tmp 39) Code.skip (Code.seq (cr Try.f112 11 false) (Code.cond (Operand.tmp 39) Code.skip (Code.seq (cr Try.f112 12 false) (Code.cond (Operand.tmp 39) Code.skip (Code.seq (cr Try.f112 13 false) (Code.cond (Operand.tmp 39) Code.skip (Code.seq (cr Try.f112 14 false) (Code.cond (Operand.tmp 39) Code.skip (cr Try.f112 15 false))))))))))))) (Code.cond (Operand.tmp 39) (Code.seq (cr Try.f112 16 false) Code.ret) (Code.seq (cr Try.f112 17 false) (Code.cond (Operand.tmp 55) (Code.seq (cr Try.f112 18 false) Code.ret) (Code.seq (cr Try.f112 19 false) (Code.cond (Operand.tmp 65) (Code.seq (cr Try.f112 20 false) Code.ret) Code.skip)))))))))))))) (Code.seq (cr Try.f112 21 false) Code.ret))) := by kernel_rfl
set_option maxRecDepth 20000 in
set_option maxHeartbeats 1000000 in
theorem q_step {w0 w : World} {Rs : List Asn} {pv : Sl} {k xa xb : Int} (hS : Sat w0 w Rs) (hn : pv.n ≤ 2000000) :
  Calls Try.prog 112 #[.agg #[.slice pv.A pv.n pv.c], .agg #[.int .i64 k, .int .i64 xa, .int .i64 xb]] w (Ret fun r w' => r = .bool (stepB (pv.n : Int) k xa xb) ∧ Sat w0 w' Rs) := by
 refine enter (n := 75) Try.func112 code112 (by kernel_rfl) (Nat.le_of_ble_eq_true rfl) (fun a ha => ?_)
 replace ha : Has 75 [(0, .agg #[.slice pv.A pv.n pv.c]), (1, .agg #[iv k, iv xa, iv xb])] a := ha
 refine wp_seq (jX [0, 1, 2] (jH (qH 2 [.slice pv.A pv.n pv.c] 35 (ptr · 0) ha hS fun b1 w a hb2 hS ha => ?_)))
 refine jH (qH 3 [iv k, iv xa, iv xb] 176 (ptr · 0) ha hS fun b3 w a hb4 hS ha => ?_)
 refine jY [(2, 4, .bool false)] ha fun a ha => ?_
 refine jZ (jJ (wp_seq (wp_seq (jX [0, 1] (jY [(0, 5, ptr b3 0)] ha fun a ha => ?_)))))
 refine qW (d := 6) (b := b3) (j := 0) ha (hS.blk 0 rfl) rfl fun a ha => ?_
 refine jZ (jJ (wp_block (wp_seq (jX [0, 1] (jY [(0, 8, .bool (decide (k = 1))), (1, 7, .bool (decide (k = 1)))] ha fun a ha => ?_)))))
 refine jZ (jJ ?_)
 by_cases c5 : k = 1
 ·
  refine qQ ha rfl (decide_eq_true c5) ?_
  refine wp_seq (jX [0, 1, 2, 3, 4, 5, 6, 7, 8] (jY [(0, 9, ptr b3 1)] ha fun a ha => ?_))
  refine qW (d := 10) (b := b3) (j := 1) ha (hS.blk 0 rfl) rfl fun a ha => ?_
  refine jH (qK 11 (vs := [iv xa]) ha (q_reg hS _) fun v6 w a hp7 ha => ?_)
  obtain ⟨rfl, hS⟩ := hp7
  refine jY [(3, 12, .bool (regB xa))] ha fun a ha => ?_
  rcases Bool.eq_false_or_eq_true (regB xa) with c8 | c8
  ·
   replace ha := ha.turn 11 (.bool true) rfl (congrArg Value.bool c8)
   replace ha := ha.turn 12 (.bool true) rfl (congrArg Value.bool c8)
   refine jY [(4, 13, ptr b3 2)] ha fun a ha => ?_
   refine qW (d := 14) (b := b3) (j := 2) ha (hS.blk 0 rfl) rfl fun a ha => ?_
   refine jH (qK 15 (vs := [iv xb]) ha (q_num hS _) fun v9 w a hp10 ha => ?_)
   obtain ⟨rfl, hS⟩ := hp10
   refine jY [(7, 16, .bool (numB xb)), (8, 4, .bool (numB xb))] ha fun a ha => ?_
   refine jZ ?_
   replace ha := ha.as [(4, .bool (numB xb))] rfl
   refine jJ (wp_ret (in_r (qY (jV ha (by kernel_rfl) (qZ (t := 4) ha rfl) ?_))))
   have hE : stepB (pv.n : Int) k xa xb = (numB xb) := by first | (simp [stepB, c5, c8]; done) | (simp only [stepB, show (decide (1 ≤ k) && decide (k ≤ 13)) = false by (simp; omega), Bool.false_and])
   rw [hE]
   exact ⟨rfl, Sat.rest [_, _] hS⟩
  replace ha := ha.turn 11 (.bool false) rfl (congrArg Value.bool c8)
  replace ha := ha.turn 12 (.bool false) rfl (congrArg Value.bool c8)
  refine jY [(4, 13, undef), (5, 14, undef), (6, 15, undef), (7, 16, .bool false), (8, 4, .bool false)] ha fun a ha => ?_
  refine jZ ?_
  replace ha := ha.as [(4, .bool false)] rfl
  refine jJ (wp_ret (in_r (qY (jV ha (by kernel_rfl) (qZ (t := 4) ha rfl) ?_))))
  have hE : stepB (pv.n : Int) k xa xb = false := by first | (simp [stepB, c5, c8]; done) | (simp only [stepB, show (decide (1 ≤ k) && decide (k ≤ 13)) = false by (simp; omega), Bool.false_and])
  rw [hE]
  exact ⟨rfl, Sat.rest [_, _] hS⟩
 refine jU ha rfl (decide_eq_false c5) ?_
 refine wp_seq (jX [0, 1] (jY [(0, 18, .bool (decide (k = 2))), (1, 17, .bool (decide (k = 2)))] ha fun a ha => ?_))
 refine jZ (jJ ?_)
 by_cases c11 : k = 2
 ·
  refine qQ ha rfl (decide_eq_true c11) ?_
  refine wp_seq (jX [0, 1, 2, 3, 4, 5, 6, 7, 8] (jY [(0, 19, ptr b3 1)] ha fun a ha => ?_))
  refine qW (d := 20) (b := b3) (j := 1) ha (hS.blk 0 rfl) rfl fun a ha => ?_
  refine jH (qK 21 (vs := [iv xa]) ha (q_reg hS _) fun v12 w a hp13 ha => ?_)
  obtain ⟨rfl, hS⟩ := hp13
  refine jY [(3, 22, .bool (regB xa))] ha fun a ha => ?_
  rcases Bool.eq_false_or_eq_true (regB xa) with c14 | c14
  ·
   replace ha := ha.turn 21 (.bool true) rfl (congrArg Value.bool c14)
   replace ha := ha.turn 22 (.bool true) rfl (congrArg Value.bool c14)
   refine jY [(4, 23, ptr b3 2)] ha fun a ha => ?_
   refine qW (d := 24) (b := b3) (j := 2) ha (hS.blk 0 rfl) rfl fun a ha => ?_
   refine jH (qK 25 (vs := [iv xb]) ha (q_reg hS _) fun v15 w a hp16 ha => ?_)
   obtain ⟨rfl, hS⟩ := hp16
   refine jY [(7, 26, .bool (regB xb)), (8, 4, .bool (regB xb))] ha fun a ha => ?_
   refine jZ ?_
   replace ha := ha.as [(4, .bool (regB xb))] rfl
   refine jJ (wp_ret (in_r (qY (jV ha (by kernel_rfl) (qZ (t := 4) ha rfl) ?_))))
   have hE : stepB (pv.n : Int) k xa xb = (regB xb) := by first | (simp [stepB, c5, c11, c14]; done) | (simp only [stepB, show (decide (1 ≤ k) && decide (k ≤ 13)) = false by (simp; omega), Bool.false_and])
   rw [hE]
   exact ⟨rfl, Sat.rest [_, _] hS⟩
  replace ha := ha.turn 21 (.bool false) rfl (congrArg Value.bool c14)
  replace ha := ha.turn 22 (.bool false) rfl (congrArg Value.bool c14)
  refine jY [(4, 23, undef), (5, 24, undef), (6, 25, undef), (7, 26, .bool false), (8, 4, .bool false)] ha fun a ha => ?_
  refine jZ ?_
  replace ha := ha.as [(4, .bool false)] rfl
  refine jJ (wp_ret (in_r (qY (jV ha (by kernel_rfl) (qZ (t := 4) ha rfl) ?_))))
  have hE : stepB (pv.n : Int) k xa xb = false := by first | (simp [stepB, c5, c11, c14]; done) | (simp only [stepB, show (decide (1 ≤ k) && decide (k ≤ 13)) = false by (simp; omega), Bool.false_and])
  rw [hE]
  exact ⟨rfl, Sat.rest [_, _] hS⟩
 refine jU ha rfl (decide_eq_false c11) ?_
 refine wp_seq (wp_seq (jX [0, 1] (jY [(0, 28, .bool (decide (k = 4))), (1, 27, .bool (decide (k = 4)))] ha fun a ha => ?_)))
 refine jZ (jJ (zJ (J := fun a_ w_ => Has 75 [(2, ptr b1 0), (3, ptr b3 0), (4, .bool false), (6, iv k), (27, .bool (decide (k = 4 ∨ k = 5)))] a_ ∧ Sat w0 w_ ((SX.blk b3 [iv k, iv xa, iv xb] 176) :: (SX.blk b1 [.slice pv.A pv.n pv.c] 35) :: Rs)) ?_ ?_))
 ·
  by_cases c17 : k = 4
  ·
   refine qQ ha rfl (decide_eq_true c17) ?_
   refine wp_skip ?_
   have e18 : (decide (k = 4 ∨ k = 5)) = (decide (k = 4)) := by simp [c5, c11, c17]
   refine jJ ⟨?_, ?_⟩
   · first | (rw [e18]; exact ha.keeps [2, 3, 4, 6, 27] _ rfl) | exact ha.keeps [2, 3, 4, 6, 27] _ rfl
   · first | (rw [e18]; exact hS) | exact hS
  refine jU ha rfl (decide_eq_false c17) ?_
  refine jX [0, 1] (jY [(0, 29, .bool (decide (k = 5))), (1, 27, .bool (decide (k = 5)))] ha fun a ha => ?_)
  refine jZ ?_
  have e19 : (decide (k = 4 ∨ k = 5)) = (decide (k = 5)) := by simp [c5, c11, c17]
  refine jJ ⟨?_, ?_⟩
  · first | (rw [e19]; exact ha.keeps [2, 3, 4, 6, 27] _ rfl) | exact ha.keeps [2, 3, 4, 6, 27] _ rfl
  · first | (rw [e19]; exact hS) | exact hS
 rintro a w ⟨ha, hS⟩
 by_cases c20 : k = 4 ∨ k = 5
 ·
  refine qQ ha rfl (decide_eq_true c20) ?_
  refine wp_seq (jX [0, 1, 2, 3, 4, 5, 6, 7, 8, 9] (xV 30 ha (hS.blk 1 rfl) fun a ha => ?_))
  refine jY [(1, 31, ptr b3 1)] ha fun a ha => ?_
  refine qW (d := 32) (b := b3) (j := 1) ha (hS.blk 0 rfl) rfl fun a ha => ?_
  refine jH (qK 33 (vs := [.agg #[.slice pv.A pv.n pv.c], iv xa]) ha (q_fun hS _ (by omega)) fun v21 w a hp22 ha => ?_)
  obtain ⟨rfl, hS⟩ := hp22
  refine jY [(4, 34, .bool (decide ((0 : Int) ≤ xa) && decide (xa ≤ (pv.n : Int) - 1)))] ha fun a ha => ?_
  rcases Bool.eq_false_or_eq_true (decide ((0 : Int) ≤ xa) && decide (xa ≤ (pv.n : Int) - 1)) with c23 | c23
  ·
   replace ha := ha.turn 33 (.bool true) rfl (congrArg Value.bool c23)
   replace ha := ha.turn 34 (.bool true) rfl (congrArg Value.bool c23)
   refine jY [(5, 35, ptr b3 2)] ha fun a ha => ?_
   refine qW (d := 36) (b := b3) (j := 2) ha (hS.blk 0 rfl) rfl fun a ha => ?_
   refine jH (qK 37 (vs := [iv xb]) ha (q_reg hS _) fun v24 w a hp25 ha => ?_)
   obtain ⟨rfl, hS⟩ := hp25
   refine jY [(8, 38, .bool (regB xb)), (9, 4, .bool (regB xb))] ha fun a ha => ?_
   refine jZ ?_
   replace ha := ha.as [(4, .bool (regB xb))] rfl
   refine jJ (wp_ret (in_r (qY (jV ha (by kernel_rfl) (qZ (t := 4) ha rfl) ?_))))
   have hE : stepB (pv.n : Int) k xa xb = (regB xb) := by rcases c20 with h | h <;> simp [stepB, h, c23]
   rw [hE]
   exact ⟨rfl, Sat.rest [_, _] hS⟩
  replace ha := ha.turn 33 (.bool false) rfl (congrArg Value.bool c23)
  replace ha := ha.turn 34 (.bool false) rfl (congrArg Value.bool c23)
  refine jY [(5, 35, undef), (6, 36, undef), (7, 37, undef), (8, 38, .bool false), (9, 4, .bool false)] ha fun a ha => ?_
  refine jZ ?_
  replace ha := ha.as [(4, .bool false)] rfl
  refine jJ (wp_ret (in_r (qY (jV ha (by kernel_rfl) (qZ (t := 4) ha rfl) ?_))))
  have hE : stepB (pv.n : Int) k xa xb = false := by rcases c20 with h | h <;> simp [stepB, h, c23]
  rw [hE]
  exact ⟨rfl, Sat.rest [_, _] hS⟩
 refine jU ha rfl (decide_eq_false c20) ?_
 refine wp_seq (wp_seq (jX [0, 1] (jY [(0, 40, .bool (decide (k = 3))), (1, 39, .bool (decide (k = 3)))] ha fun a ha => ?_)))
 refine jZ (jJ (zJ (J := fun a_ w_ => Has 75 [(3, ptr b3 0), (4, .bool false), (6, iv k), (39, .bool (decide (k = 3 ∨ k = 6 ∨ k = 7 ∨ k = 8 ∨ k = 9 ∨ k = 12 ∨ k = 13)))] a_ ∧ Sat w0 w_ ((SX.blk b3 [iv k, iv xa, iv xb] 176) :: (SX.blk b1 [.slice pv.A pv.n pv.c] 35) :: Rs)) ?_ ?_))
 ·
  by_cases c26 : k = 3
  ·
   refine qQ ha rfl (decide_eq_true c26) ?_
   refine wp_skip ?_
   have e27 : (decide (k = 3 ∨ k = 6 ∨ k = 7 ∨ k = 8 ∨ k = 9 ∨ k = 12 ∨ k = 13)) = (decide (k = 3)) := by simp [c5, c11, c20, c26]
   refine jJ ⟨?_, ?_⟩
   · first | (rw [e27]; exact ha.keeps [3, 4, 6, 39] _ rfl) | exact ha.keeps [3, 4, 6, 39] _ rfl
   · first | (rw [e27]; exact hS) | exact hS
  refine jU ha rfl (decide_eq_false c26) ?_
  refine wp_seq (jX [0, 1] (jY [(0, 41, .bool (decide (k = 6))), (1, 39, .bool (decide (k = 6)))] ha fun a ha => ?_))
  refine jZ (jJ ?_)
  by_cases c28 : k = 6
  ·
   refine qQ ha rfl (decide_eq_true c28) ?_
   refine wp_skip ?_
   have e29 : (decide (k = 3 ∨ k = 6 ∨ k = 7 ∨ k = 8 ∨ k = 9 ∨ k = 12 ∨ k = 13)) = (decide (k = 6)) := by simp [c5, c11, c20, c26, c28]
   refine jJ ⟨?_, ?_⟩
   · first | (rw [e29]; exact ha.keeps [3, 4, 6, 39] _ rfl) | exact ha.keeps [3, 4, 6, 39] _ rfl
   · first | (rw [e29]; exact hS) | exact hS
  refine jU ha rfl (decide_eq_false c28) ?_
  refine wp_seq (jX [0, 1] (jY [(0, 42, .bool (decide (k = 7))), (1, 39, .bool (decide (k = 7)))] ha fun a ha => ?_))
  refine jZ (jJ ?_)
  by_cases c30 : k = 7
  ·
   refine qQ ha rfl (decide_eq_true c30) ?_
   refine wp_skip ?_
   have e31 : (decide (k = 3 ∨ k = 6 ∨ k = 7 ∨ k = 8 ∨ k = 9 ∨ k = 12 ∨ k = 13)) = (decide (k = 7)) := by simp [c5, c11, c20, c26, c28, c30]
   refine jJ ⟨?_, ?_⟩
   · first | (rw [e31]; exact ha.keeps [3, 4, 6, 39] _ rfl) | exact ha.keeps [3, 4, 6, 39] _ rfl
   · first | (rw [e31]; exact hS) | exact hS
  refine jU ha rfl (decide_eq_false c30) ?_
  refine wp_seq (jX [0, 1] (jY [(0, 43, .bool (decide (k = 8))), (1, 39, .bool (decide (k = 8)))] ha fun a ha => ?_))
  refine jZ ?_
  replace ha := ha.as [(3, ptr b3 0), (4, .bool false), (6, iv k), (39, .bool (decide (k = 8)))] rfl
  refine jJ ?_
  by_cases c32 : k = 8
  ·
   refine qQ ha rfl (decide_eq_true c32) ?_
   refine wp_skip ?_
   have e33 : (decide (k = 3 ∨ k = 6 ∨ k = 7 ∨ k = 8 ∨ k = 9 ∨ k = 12 ∨ k = 13)) = (decide (k = 8)) := by simp [c5, c11, c20, c26, c28, c30, c32]
   refine jJ ⟨?_, ?_⟩
   · first | (rw [e33]; exact ha.keeps [3, 4, 6, 39] _ rfl) | exact ha.keeps [3, 4, 6, 39] _ rfl
   · first | (rw [e33]; exact hS) | exact hS
  refine jU ha rfl (decide_eq_false c32) ?_
  refine wp_seq (jX [0, 1] (jY [(0, 44, .bool (decide (k = 9))), (1, 39, .bool (decide (k = 9)))] ha fun a ha => ?_))
  refine jZ (jJ ?_)
  by_cases c34 : k = 9
  ·
   refine qQ ha rfl (decide_eq_true c34) ?_
   refine wp_skip ?_
   have e35 : (decide (k = 3 ∨ k = 6 ∨ k = 7 ∨ k = 8 ∨ k = 9 ∨ k = 12 ∨ k = 13)) = (decide (k = 9)) := by simp [c5, c11, c20, c26, c28, c30, c32, c34]
   refine jJ ⟨?_, ?_⟩
   · first | (rw [e35]; exact ha.keeps [3, 4, 6, 39] _ rfl) | exact ha.keeps [3, 4, 6, 39] _ rfl
   · first | (rw [e35]; exact hS) | exact hS
  refine jU ha rfl (decide_eq_false c34) ?_
  refine wp_seq (jX [0, 1] (jY [(0, 45, .bool (decide (k = 12))), (1, 39, .bool (decide (k = 12)))] ha fun a ha => ?_))
  refine jZ (jJ ?_)
  by_cases c36 : k = 12
  ·
   refine qQ ha rfl (decide_eq_true c36) ?_
   refine wp_skip ?_
   have e37 : (decide (k = 3 ∨ k = 6 ∨ k = 7 ∨ k = 8 ∨ k = 9 ∨ k = 12 ∨ k = 13)) = (decide (k = 12)) := by simp [c5, c11, c20, c26, c28, c30, c32, c34, c36]
   refine jJ ⟨?_, ?_⟩
   · first | (rw [e37]; exact ha.keeps [3, 4, 6, 39] _ rfl) | exact ha.keeps [3, 4, 6, 39] _ rfl
   · first | (rw [e37]; exact hS) | exact hS
  refine jU ha rfl (decide_eq_false c36) ?_
  refine jX [0, 1] (jY [(0, 46, .bool (decide (k = 13))), (1, 39, .bool (decide (k = 13)))] ha fun a ha => ?_)
  refine jZ ?_
  have e38 : (decide (k = 3 ∨ k = 6 ∨ k = 7 ∨ k = 8 ∨ k = 9 ∨ k = 12 ∨ k = 13)) = (decide (k = 13)) := by simp [c5, c11, c20, c26, c28, c30, c32, c34, c36]
  refine jJ ⟨?_, ?_⟩
  · first | (rw [e38]; exact ha.keeps [3, 4, 6, 39] _ rfl) | exact ha.keeps [3, 4, 6, 39] _ rfl
  · first | (rw [e38]; exact hS) | exact hS
 rintro a w ⟨ha, hS⟩
 by_cases c39 : k = 3 ∨ k = 6 ∨ k = 7 ∨ k = 8 ∨ k = 9 ∨ k = 12 ∨ k = 13
 ·
  refine qQ ha rfl (decide_eq_true c39) ?_
  refine wp_seq (jX [0, 1, 2, 3, 4, 5, 6, 7, 8] (jY [(0, 47, ptr b3 1)] ha fun a ha => ?_))
  refine qW (d := 48) (b := b3) (j := 1) ha (hS.blk 0 rfl) rfl fun a ha => ?_
  refine jH (qK 49 (vs := [iv xa]) ha (q_reg hS _) fun v40 w a hp41 ha => ?_)
  obtain ⟨rfl, hS⟩ := hp41
  refine jY [(3, 50, .bool (regB xa))] ha fun a ha => ?_
  rcases Bool.eq_false_or_eq_true (regB xa) with c42 | c42
  ·
   replace ha := ha.turn 49 (.bool true) rfl (congrArg Value.bool c42)
   replace ha := ha.turn 50 (.bool true) rfl (congrArg Value.bool c42)
   refine jY [(4, 51, ptr b3 2)] ha fun a ha => ?_
   refine qW (d := 52) (b := b3) (j := 2) ha (hS.blk 0 rfl) rfl fun a ha => ?_
   refine jY [(6, 53, .bool (decide (xb = 0))), (7, 54, .bool (decide (xb = 0))), (8, 4, .bool (decide (xb = 0)))] ha fun a ha => ?_
   refine jZ ?_
   replace ha := ha.as [(4, .bool (decide (xb = 0)))] rfl
   refine jJ (wp_ret (in_r (qY (jV ha (by kernel_rfl) (qZ (t := 4) ha rfl) ?_))))
   have hE : stepB (pv.n : Int) k xa xb = decide (xb = 0) := by rcases c39 with h | h | h | h | h | h | h <;> simp [stepB, h, c42]
   rw [hE]
   exact ⟨rfl, Sat.rest [_, _] hS⟩
  replace ha := ha.turn 49 (.bool false) rfl (congrArg Value.bool c42)
  replace ha := ha.turn 50 (.bool false) rfl (congrArg Value.bool c42)
  refine jY [(4, 51, undef), (5, 52, undef), (6, 53, undef), (7, 54, .bool false), (8, 4, .bool false)] ha fun a ha => ?_
  refine jZ ?_
  replace ha := ha.as [(4, .bool false)] rfl
  refine jJ (wp_ret (in_r (qY (jV ha (by kernel_rfl) (qZ (t := 4) ha rfl) ?_))))
  have hE : stepB (pv.n : Int) k xa xb = false := by rcases c39 with h | h | h | h | h | h | h <;> simp [stepB, h, c42]
  rw [hE]
  exact ⟨rfl, Sat.rest [_, _] hS⟩
 refine jU ha rfl (decide_eq_false c39) ?_
 refine wp_seq (jX [0, 1] (jY [(0, 56, .bool (decide (k = 10))), (1, 55, .bool (decide (k = 10)))] ha fun a ha => ?_))
 refine jZ (jJ ?_)
 by_cases c43 : k = 10
 ·
  refine qQ ha rfl (decide_eq_true c43) ?_
  refine wp_seq (jX [0, 1, 2, 3, 4, 5, 6, 7, 8] (jY [(0, 57, ptr b3 1)] ha fun a ha => ?_))
  refine qW (d := 58) (b := b3) (j := 1) ha (hS.blk 0 rfl) rfl fun a ha => ?_
  refine jY [(2, 59, .bool (decide (xa = 0))), (3, 60, .bool (decide (xa = 0)))] ha fun a ha => ?_
  by_cases c44 : xa = 0
  ·
   replace ha := ha.turn 59 (.bool true) rfl (congrArg Value.bool (decide_eq_true c44))
   replace ha := ha.turn 60 (.bool true) rfl (congrArg Value.bool (decide_eq_true c44))
   refine jY [(4, 61, ptr b3 2)] ha fun a ha => ?_
   refine qW (d := 62) (b := b3) (j := 2) ha (hS.blk 0 rfl) rfl fun a ha => ?_
   refine jY [(6, 63, .bool (decide (xb = 0))), (7, 64, .bool (decide (xb = 0))), (8, 4, .bool (decide (xb = 0)))] ha fun a ha => ?_
   refine jZ ?_
   replace ha := ha.as [(4, .bool (decide (xb = 0)))] rfl
   refine jJ (wp_ret (in_r (qY (jV ha (by kernel_rfl) (qZ (t := 4) ha rfl) ?_))))
   have hE : stepB (pv.n : Int) k xa xb = decide (xb = 0) := by first | (simp [stepB, c5, c11, c20, c39, c43, c44]; done) | (simp only [stepB, show (decide (1 ≤ k) && decide (k ≤ 13)) = false by (simp; omega), Bool.false_and])
   rw [hE]
   exact ⟨rfl, Sat.rest [_, _] hS⟩
  replace ha := ha.turn 59 (.bool false) rfl (congrArg Value.bool (decide_eq_false c44))
  replace ha := ha.turn 60 (.bool false) rfl (congrArg Value.bool (decide_eq_false c44))
  refine jY [(4, 61, undef), (5, 62, undef), (6, 63, undef), (7, 64, .bool false), (8, 4, .bool false)] ha fun a ha => ?_
  refine jZ ?_
  replace ha := ha.as [(4, .bool false)] rfl
  refine jJ (wp_ret (in_r (qY (jV ha (by kernel_rfl) (qZ (t := 4) ha rfl) ?_))))
  have hE : stepB (pv.n : Int) k xa xb = false := by first | (simp [stepB, c5, c11, c20, c39, c43, c44]; done) | (simp only [stepB, show (decide (1 ≤ k) && decide (k ≤ 13)) = false by (simp; omega), Bool.false_and])
  rw [hE]
  exact ⟨rfl, Sat.rest [_, _] hS⟩
 refine jU ha rfl (decide_eq_false c43) ?_
 refine wp_seq (jX [0, 1] (jY [(0, 66, .bool (decide (k = 11))), (1, 65, .bool (decide (k = 11)))] ha fun a ha => ?_))
 refine jZ (jJ ?_)
 by_cases c45 : k = 11
 ·
  refine qQ ha rfl (decide_eq_true c45) ?_
  refine wp_seq (jX [0, 1, 2, 3, 4, 5, 6, 7, 8] (jY [(0, 67, ptr b3 1)] ha fun a ha => ?_))
  refine qW (d := 68) (b := b3) (j := 1) ha (hS.blk 0 rfl) rfl fun a ha => ?_
  refine jH (qK 69 (vs := [iv xa, iv 0, iv 8]) ha (q_in hS _ _ _) fun v46 w a hp47 ha => ?_)
  obtain ⟨rfl, hS⟩ := hp47
  refine jY [(3, 70, .bool (decide ((0 : Int) ≤ xa) && decide (xa ≤ 8)))] ha fun a ha => ?_
  rcases Bool.eq_false_or_eq_true (decide ((0 : Int) ≤ xa) && decide (xa ≤ 8)) with c48 | c48
  ·
   replace ha := ha.turn 69 (.bool true) rfl (congrArg Value.bool c48)
   replace ha := ha.turn 70 (.bool true) rfl (congrArg Value.bool c48)
   refine jY [(4, 71, ptr b3 2)] ha fun a ha => ?_
   refine qW (d := 72) (b := b3) (j := 2) ha (hS.blk 0 rfl) rfl fun a ha => ?_
   refine jH (qK 73 (vs := [iv xb]) ha (q_reg hS _) fun v49 w a hp50 ha => ?_)
   obtain ⟨rfl, hS⟩ := hp50
   refine jY [(7, 74, .bool (regB xb)), (8, 4, .bool (regB xb))] ha fun a ha => ?_
   refine jZ ?_
   replace ha := ha.as [(4, .bool (regB xb))] rfl
   refine jJ (wp_ret (in_r (qY (jV ha (by kernel_rfl) (qZ (t := 4) ha rfl) ?_))))
   have hE : stepB (pv.n : Int) k xa xb = (regB xb) := by first | (simp [stepB, c5, c11, c20, c39, c43, c45, c48]; done) | (simp only [stepB, show (decide (1 ≤ k) && decide (k ≤ 13)) = false by (simp; omega), Bool.false_and])
   rw [hE]
   exact ⟨rfl, Sat.rest [_, _] hS⟩
  replace ha := ha.turn 69 (.bool false) rfl (congrArg Value.bool c48)
  replace ha := ha.turn 70 (.bool false) rfl (congrArg Value.bool c48)
  refine jY [(4, 71, undef), (5, 72, undef), (6, 73, undef), (7, 74, .bool false), (8, 4, .bool false)] ha fun a ha => ?_
  refine jZ ?_
  replace ha := ha.as [(4, .bool false)] rfl
  refine jJ (wp_ret (in_r (qY (jV ha (by kernel_rfl) (qZ (t := 4) ha rfl) ?_))))
  have hE : stepB (pv.n : Int) k xa xb = false := by first | (simp [stepB, c5, c11, c20, c39, c43, c45, c48]; done) | (simp only [stepB, show (decide (1 ≤ k) && decide (k ≤ 13)) = false by (simp; omega), Bool.false_and])
  rw [hE]
  exact ⟨rfl, Sat.rest [_, _] hS⟩
 refine jU ha rfl (decide_eq_false c45) ?_
 refine wp_skip (in_n (jJ (wp_seq (jX [0] (jY [(0, 4, .bool false)] ha fun a ha => ?_)))))
 refine jZ ?_
 replace ha := ha.as [(4, .bool false)] rfl
 refine jJ (wp_ret (jV ha (by kernel_rfl) (qZ (t := 4) ha rfl) ?_))
 have hE : stepB (pv.n : Int) k xa xb = false := by first | (simp [stepB, c5, c11, c20, c39, c43, c45]; done) | (simp only [stepB, show (decide (1 ≤ k) && decide (k ≤ 13)) = false by (simp; omega), Bool.false_and])
 rw [hE]
 exact ⟨rfl, Sat.rest [_, _] hS⟩
theorem code82 : Try.f82.body = some (Code.seq (cr Try.f82 0 false) (Code.seq (Code.seq (cr Try.f82 1 false) (Code.cond (Operand.tmp 9) (Code.seq (cr Try.f82 2 false) Code.ret) Code.skip)) (Code.seq (Code.seq (cr Try.f82 3 false) (Code.block 0 (Code.loop (Code.seq (Code.seq (cr Try.f82 4 false) (Code.cond (Operand.tmp 14) Code.skip (Code.exit 0))) (Code.seq (Code.block 1 (Code.seq (Code.seq (cr Try.f82 6 false) (Code.cond (Operand.tmp 23) (Code.seq (cr Try.f82 7 false) Code.ret) Code.skip)) (Code.seq (cr Try.f82 8 false) (Code.block 2 (Code.loop (Code.seq (Code.seq (cr Try.f82 9 false) (Code.cond (Operand.tmp 31) Code.skip (Code.exit 2))) (Code.seq (Code.block 3 (Code.seq (cr Try.f82 11 true) (Code.cond (Operand.tmp 44) (Code.seq (cr Try.f82 12 false) Code.ret) Code.skip))) (cr Try.f82 10 false)))))))) (cr Try.f82 5 false)))))) (Code.seq (cr Try.f82 13 false) Code.ret)))) := by kernel_rfl
set_option maxRecDepth 20000 in
set_option maxHeartbeats 1000000 in
theorem q_prog {w0 w : World} {Rs : List Asn} {P : List (List Stp)} {pv : Sl} {sbs : List Sl} (hS : Sat w0 w Rs) (hl : P.length ≤ 2000000) (hPr : Keeps w0 Rs (fun w => RdProg w pv sbs P)) :
  Calls Try.prog 82 #[.agg #[.slice pv.A pv.n pv.c]] w (Ret fun r w' => r = .bool (progQ P) ∧ Sat w0 w' Rs) := by
 have hpn := (hPr w hS).len
 have hpA := (hPr w hS).A
 refine enter (n := 45) Try.func82 code82 (by kernel_rfl) (Nat.le_of_ble_eq_true rfl) (fun a ha => ?_)
 replace ha : Has 45 [(0, .agg #[.slice pv.A pv.n pv.c])] a := ha
 refine wp_seq (jX [0, 1] (jH (qH 1 [.slice pv.A pv.n pv.c] 35 (ptr · 0) ha hS fun b1 w a hb2 hS ha => ?_)))
 refine jY [(1, 2, .bool false)] ha fun a ha => ?_
 refine jZ (jJ (wp_seq (wp_seq (jX [0, 1, 2, 3, 4] (jY [(0, 5, ptr b1 0)] ha fun a ha => ?_)))))
 refine qW (d := 6) (b := b1) (j := 0) ha (hS.blk 0 rfl) rfl fun a ha => ?_
 refine jY [(2, 7, iv (pv.n : Int))] ha fun a ha => ?_
 refine jH (qK 8 (vs := [iv (pv.n : Int), iv 1, iv 6]) ha (q_in hS _ _ _) fun v3 w a hp4 ha => ?_)
 obtain ⟨rfl, hS⟩ := hp4
 refine jY [(4, 9, .bool (!((decide ((1 : Int) ≤ (pv.n : Int)) && decide ((pv.n : Int) ≤ 6)))))] ha fun a ha => ?_
 refine jZ (jJ ?_)
 rcases Bool.eq_false_or_eq_true (decide ((1 : Int) ≤ (pv.n : Int)) && decide ((pv.n : Int) ≤ 6)) with c5 | c5
 ·
  refine jU ha rfl (xJ c5) ?_
  refine wp_skip (jJ (wp_seq (wp_seq (jX [0] (jY [(0, 3, iv 0)] ha fun a ha => ?_)))))
  refine jZ (jJ (wp_block ?_))
  refine wp_loop_ghost (fun n_ a_ w_ => ∃ (i : Nat), n_ = P.length - i ∧ (i ≤ P.length) ∧ (∀ b ∈ P.take i, okB P.length b = true) ∧ Has 45 [(1, ptr b1 0), (2, .bool false), (3, iv (i : Int))] a_ ∧ Sat w0 w_ ((SX.blk b1 [.slice pv.A pv.n pv.c] 35) :: Rs)) _ ⟨0, rfl, Nat.zero_le _, (fun b hb => by simp at hb), ha.keeps [1, 2, 3] _ rfl, hS⟩ ?_
  rintro n_ a w ⟨i, rfl, hi, hall, ha, hS⟩
  refine wp_seq (wp_seq (jX [0, 1, 2, 3, 4] (jY [(0, 10, iv (i : Int)), (1, 11, ptr b1 0)] ha fun a ha => ?_)))
  refine qW (d := 12) (b := b1) (j := 0) ha (hS.blk 0 rfl) rfl fun a ha => ?_
  refine jY [(3, 13, iv (pv.n : Int)), (4, 14, .bool (decide ((i : Int) < (pv.n : Int))))] ha fun a ha => ?_
  refine jZ (jJ ?_)
  by_cases c6 : (i : Int) < (pv.n : Int)
  ·
   have hlt : i < P.length := by have := c6; omega
   obtain ⟨body, hb⟩ : ∃ b, P[i]? = some b := ⟨_, List.getElem?_eq_getElem hlt⟩
   obtain ⟨sb, hbn, hbA, hsb⟩ := RdProg.body hPr (Sat.rest [_] hS) hb
   refine qQ ha rfl (decide_eq_true c6) ?_
   refine wp_skip (jJ (wp_seq (wp_block (wp_seq (wp_seq (jX [0, 1, 2, 3, 4, 5, 6] (jY [(0, 17, ptr b1 0)] ha fun a ha => ?_)))))))
   refine qW (d := 18) (b := b1) (j := 0) ha (hS.blk 0 rfl) rfl fun a ha => ?_
   refine jY [(2, 19, iv (i : Int))] ha fun a ha => ?_
   refine xZ (.pointer (some ⟨bk pv, of_ pv + i * 1, none⟩)) ha (xX (s := pv) (el := 109) (sz := 1) (j := i) ha (yY (t := 33) (x := 18) (y := 19) (d := 20)) rfl rfl (by kernel_rfl) (by kernel_rfl) (hpA (by omega)) (by omega)) fun a ha => ?_
   refine xZ (.slice sb.A sb.n sb.c) ha (xY ha (yZ (t := 109) (x := 20) (d := 21) (ty := 109)) rfl (by kernel_rfl) (fun w' hw => by rw [hw, Nat.mul_one]; exact ((hsb.more [_]) _ hS).1)) fun a ha => ?_
   refine jY [(5, 22, iv (sb.n : Int)), (6, 23, .bool (decide ((sb.n : Int) > 8)))] ha fun a ha => ?_
   refine jZ (jJ ?_)
   by_cases c7 : (sb.n : Int) > 8
   ·
    refine qQ ha rfl (decide_eq_true c7) ?_
    refine wp_seq (jX [0] (jY [(0, 2, .bool false)] ha fun a ha => ?_))
    refine jZ (jJ (wp_ret (qY (in_r (qY (qY (in_r (qY (jV ha (by kernel_rfl) (qZ (t := 2) ha rfl) ?_)))))))))
    have hE := progQ_no (List.mem_of_getElem? hb) (okB_len (by have := c7; omega))
    rw [hE]
    exact ⟨rfl, Sat.rest [_] hS⟩
   refine jU ha rfl (decide_eq_false c7) ?_
   refine wp_skip (jJ (wp_seq (jX [0] (jY [(0, 4, iv 0)] ha fun a ha => ?_))))
   refine jZ (jJ (wp_block ?_))
   refine wp_loop_ghost (fun n_ a_ w_ => ∃ (j : Nat), n_ = body.length - j ∧ (j ≤ body.length) ∧ (∀ s ∈ body.take j, stepB (P.length : Int) s.k s.a s.b = true) ∧ Has 45 [(1, ptr b1 0), (2, .bool false), (3, iv (i : Int)), (4, iv (j : Int))] a_ ∧ Sat w0 w_ ((SX.blk b1 [.slice pv.A pv.n pv.c] 35) :: Rs)) _ ⟨0, rfl, Nat.zero_le _, (fun b hb => by simp at hb), ha.keeps [1, 2, 3, 4] _ rfl, hS⟩ ?_
   rintro n_ a w ⟨j, rfl, hj, hin, ha, hS⟩
   refine wp_seq (wp_seq (jX [0, 1, 2, 3, 4, 5, 6, 7] (jY [(0, 24, iv (j : Int)), (1, 25, ptr b1 0)] ha fun a ha => ?_)))
   refine qW (d := 26) (b := b1) (j := 0) ha (hS.blk 0 rfl) rfl fun a ha => ?_
   refine jY [(3, 27, iv (i : Int))] ha fun a ha => ?_
   refine xZ (.pointer (some ⟨bk pv, of_ pv + i * 1, none⟩)) ha (xX (s := pv) (el := 109) (sz := 1) (j := i) ha (yY (t := 33) (x := 26) (y := 27) (d := 28)) rfl rfl (by kernel_rfl) (by kernel_rfl) (hpA (by omega)) (by omega)) fun a ha => ?_
   refine xZ (.slice sb.A sb.n sb.c) ha (xY ha (yZ (t := 109) (x := 28) (d := 29) (ty := 109)) rfl (by kernel_rfl) (fun w' hw => by rw [hw, Nat.mul_one]; exact ((hsb.more [_]) _ hS).1)) fun a ha => ?_
   refine jY [(6, 30, iv (sb.n : Int)), (7, 31, .bool (decide ((j : Int) < (sb.n : Int))))] ha fun a ha => ?_
   refine jZ (jJ ?_)
   by_cases c8 : (j : Int) < (sb.n : Int)
   ·
    have hlj : j < body.length := by have := c8; omega
    obtain ⟨z, hz⟩ : ∃ z, body[j]? = some z := ⟨_, List.getElem?_eq_getElem hlj⟩
    refine qQ ha rfl (decide_eq_true c8) ?_
    refine wp_skip (jJ (wp_seq (wp_block (wp_seq (yW 9 11 hS fun w hS => ?_)))))
    refine yG 0 34 ha hS (jQ (jK (jQ (jQ (jK (jK (jQ (jQ (jK (jQ (jW))))))))))) (fun _ hw => hw.blk 0 rfl) fun a ha => ?_
    refine qV (k := 9) [(1, 35, ptr b1 0)] ha (.inr hS) (jQ (jK (jQ (jQ (jK (jK (jQ (jQ (jK (jQ (jW))))))))))) fun a ha => ?_
    refine d_ldN 2 (d := 36) (b := b1) (j := 0) ha hS (jQ (jK (jQ (jQ (jK (jK (jQ (jQ (jK (jQ (jW))))))))))) (fun _ hw => hw.blk 0 rfl) rfl fun a ha => ?_
    refine qV (k := 7) [(3, 37, iv (i : Int))] ha (.inr hS) (jQ (jK (jQ (jQ (jK (jK (jQ (jQ (jK (jQ (jW))))))))))) fun a ha => ?_
    refine yQ 4 (.pointer (some ⟨bk pv, of_ pv + i * 1, none⟩)) ha (xX (s := pv) (el := 109) (sz := 1) (j := i) ha (yY (t := 33) (x := 36) (y := 37) (d := 38)) rfl rfl (by kernel_rfl) (by kernel_rfl) (hpA (by omega)) (by omega)) (.inr hS) (jQ (jK (jQ (jQ (jK (jK (jQ (jQ (jK (jQ (jW))))))))))) fun a ha => ?_
    refine d_valN (i := 5) (v := .slice sb.A sb.n sb.c) ha (by decide) (xY (v := .slice sb.A sb.n sb.c) ha (yZ (t := 109) (x := 38) (d := 39) (ty := 109)) rfl (by kernel_rfl) (fun w' hw => by rw [Nat.mul_one]; exact ((hsb.more [_]) _ hw).1)) hS (by kernel_rfl) (by kernel_rfl) (jQ (jK (jQ (jQ (jK (jK (jQ (jQ (jK (jQ (jW))))))))))) fun a ha => ?_
    refine qV (k := 4) [(6, 40, iv (j : Int))] ha (.inr hS) (jQ (jK (jQ (jQ (jK (jK (jQ (jQ (jK (jQ (jW))))))))))) fun a ha => ?_
    refine yQ 7 (.pointer (some ⟨bk sb, of_ sb + j * 3, none⟩)) ha (xX (s := sb) (el := 176) (sz := 3) (j := j) ha (yY (t := 109) (x := 39) (y := 40) (d := 41)) rfl rfl (by kernel_rfl) (by kernel_rfl) (hbA (by omega)) (by omega)) (.inr hS) (jQ (jK (jQ (jQ (jK (jK (jQ (jQ (jK (jQ (jW))))))))))) fun a ha => ?_
    refine yK 8 (.agg #[iv z.k, iv z.a, iv z.b]) ha (v_loadL ha (yZ (t := 176) (x := 41) (d := 42) (ty := 176)) rfl (fun w' hw => ((hsb.more [_]) _ hw).2.load hz)) hS (jQ (jK (jQ (jQ (jK (jK (jQ (jQ (jK (jQ (jW))))))))))) fun a ha => ?_
    refine xW 9 (qK 43 (vs := [.agg #[.slice pv.A pv.n pv.c], .agg #[iv z.k, iv z.a, iv z.b]]) ha (q_step hS (by omega)) fun v9 w a hp10 ha => ?_)
    obtain ⟨rfl, hS⟩ := hp10
    refine zQ (qV (k := 0) [(10, 44, .bool (!((stepB (pv.n : Int) z.k z.a z.b))))] ha (.inl (by kernel_rfl)) (jQ (jK (jQ (jQ (jK (jK (jQ (jQ (jK (jQ (jW))))))))))) fun a ha => ?_)
    refine yX (jJ ?_)
    rcases Bool.eq_false_or_eq_true (stepB (pv.n : Int) z.k z.a z.b) with c11 | c11
    ·
     refine jU ha rfl (xJ c11) ?_
     refine wp_skip (in_n (jJ (jX [0, 1, 2] (jY [(0, 32, iv (j : Int))] ha fun a ha => ?_))))
     refine yJ 33 ((j : Int) + 1) ha fun a ha => ?_
     refine jY [(2, 4, iv ((j : Int) + 1))] ha fun a ha => ?_
     refine jZ (jJ ?_)
     exact ⟨_, by omega, j + 1, rfl, by omega, take_all hin hz (by rw [← hpn]; exact c11), ha.keeps [1, 2, 3, 4] _ rfl, hS⟩
    refine qQ ha rfl (xQ c11) ?_
    refine wp_seq (jX [0] (jY [(0, 2, .bool false)] ha fun a ha => ?_))
    refine jZ (jJ (wp_ret (in_r (qY (qY (in_r (in_r (qY (qY (in_r (qY (jV ha (by kernel_rfl) (qZ (t := 2) ha rfl) ?_))))))))))))
    have hE := progQ_no (List.mem_of_getElem? hb) (okB_step (List.mem_of_getElem? hz) (by rw [← hpn]; exact c11))
    rw [hE]
    exact ⟨rfl, Sat.rest [_] hS⟩
   refine jU ha rfl (decide_eq_false c8) ?_
   refine wp_exit (qU (qU (in_x (in_n (jJ (jX [0, 1, 2] (jY [(0, 15, iv (i : Int))] ha fun a ha => ?_)))))))
   refine yJ 16 ((i : Int) + 1) ha fun a ha => ?_
   refine jY [(2, 3, iv ((i : Int) + 1))] ha fun a ha => ?_
   refine jZ (jJ ?_)
   exact ⟨_, by omega, i + 1, rfl, by omega, take_all hall hb (okB_yes (by omega) (by rw [show body = body.take j by rw [List.take_of_length_le (by have := c8; omega)]]; exact hin)), ha.keeps [1, 2, 3] _ rfl, hS⟩
  refine jU ha rfl (decide_eq_false c6) ?_
  refine wp_exit (qU (qU (in_x (jJ (wp_seq (jX [0] (jY [(0, 2, .bool true)] ha fun a ha => ?_)))))))
  refine jZ (jJ (wp_ret (jV ha (by kernel_rfl) (qZ (t := 2) ha rfl) ?_)))
  have hE := progQ_yes (by rw [← hpn]; exact c5) (by rw [show P = P.take i by rw [List.take_of_length_le (by have := c6; omega)]]; intro b hb; rw [List.length_take, Nat.min_eq_left hi, show i = P.length by have := c6; omega]; exact hall b hb)
  rw [hE]
  exact ⟨rfl, Sat.rest [_] hS⟩
 refine qQ ha rfl (xQ c5) ?_
 refine wp_seq (jX [0] (jY [(0, 2, .bool false)] ha fun a ha => ?_))
 refine jZ (jJ (wp_ret (qY (jV ha (by kernel_rfl) (qZ (t := 2) ha rfl) ?_))))
 have hE := progQ_len (by rw [← hpn]; exact c5)
 rw [hE]
 exact ⟨rfl, Sat.rest [_] hS⟩
end Go.Proofs.Ytjkoibfkklhaiaa.G
end
section
namespace Go.Proofs.Ytjkoibfkklhaiaa.G
open Go.RowKit Go.Proofs.Ytjkoibfkklhaiaa.SX Go.Proofs.YtjkoibfkklhaiaaW.PrintWords Go.Proofs.YtjkoibfkklhaiaaW.PrintLast Go.Proofs.YtjkoibfkklhaiaaW.PrintMore
set_option linter.unusedVariables false
set_option linter.unusedSimpArgs false
theorem code129 : Try.f129.body = some (Code.seq (cr Try.f129 0 false) (Code.seq (Code.seq (cr Try.f129 1 false) (Code.cond (Operand.tmp 9) (Code.seq (cr Try.f129 2 false) Code.ret) Code.skip)) (Code.seq (Code.seq (cr Try.f129 3 false) (Code.cond (Operand.tmp 14) (Code.seq (cr Try.f129 4 false) Code.ret) Code.skip)) (Code.seq (Code.seq (cr Try.f129 5 false) (Code.cond (Operand.tmp 19) (Code.seq (cr Try.f129 6 false) Code.ret) Code.skip)) (Code.seq (cr Try.f129 7 false) Code.ret))))) := by kernel_rfl
set_option maxRecDepth 20000 in
set_option maxHeartbeats 1000000 in
theorem eq_step {w0 w : World} {Rs : List Asn} {k xa xb : Int} (hS : Sat w0 w Rs)  :
  Calls Try.prog 129 #[.agg #[iv k, iv xa, iv xb], .agg #[iv k, iv xa, iv xb]] w (Ret fun r w' => r = .bool true ∧ Sat w0 w' Rs) := by
 refine enter (n := 20) Try.func129 code129 (by kernel_rfl) (Nat.le_of_ble_eq_true rfl) (fun a ha => ?_)
 replace ha : Has 20 [(0, .agg #[iv k, iv xa, iv xb]), (1, .agg #[iv k, iv xa, iv xb])] a := ha
 refine wp_seq (jX [0, 1, 2] (jH (qH 2 [iv k, iv xa, iv xb] 176 (ptr · 0) ha hS fun b1 w a hb2 hS ha => ?_)))
 refine jH (qH 3 [iv k, iv xa, iv xb] 176 (ptr · 0) ha hS fun b3 w a hb4 hS ha => ?_)
 refine jY [(2, 4, .bool false)] ha fun a ha => ?_
 refine jZ (jJ (wp_seq (wp_seq (jX [0, 1, 2, 3, 4] (jY [(0, 5, ptr b1 0)] ha fun a ha => ?_)))))
 refine qW (d := 6) (b := b1) (j := 0) ha (hS.blk 1 rfl) rfl fun a ha => ?_
 refine jY [(2, 7, ptr b3 0)] ha fun a ha => ?_
 refine qW (d := 8) (b := b3) (j := 0) ha (hS.blk 0 rfl) rfl fun a ha => ?_
 refine xZ (.bool false) ha ((qJ (v := .bool (!decide (k = k))) ha (yH (op := (Op.binOp BinOp.neq 3 (Operand.tmp 6) (Operand.tmp 8) 3)) (d := some 9) (ty := 4)) (by kernel_rfl) (fun _ => by kernel_rfl)).as (by simp)) fun a ha => ?_
 refine jZ (jJ ?_)
 refine jU ha rfl rfl ?_
 refine wp_skip (jJ (wp_seq (wp_seq (jX [0, 1, 2, 3, 4] (jY [(0, 10, ptr b1 1)] ha fun a ha => ?_)))))
 refine qW (d := 11) (b := b1) (j := 1) ha (hS.blk 1 rfl) rfl fun a ha => ?_
 refine jY [(2, 12, ptr b3 1)] ha fun a ha => ?_
 refine qW (d := 13) (b := b3) (j := 1) ha (hS.blk 0 rfl) rfl fun a ha => ?_
 refine xZ (.bool false) ha ((qJ (v := .bool (!decide (xa = xa))) ha (yH (op := (Op.binOp BinOp.neq 3 (Operand.tmp 11) (Operand.tmp 13) 3)) (d := some 14) (ty := 4)) (by kernel_rfl) (fun _ => by kernel_rfl)).as (by simp)) fun a ha => ?_
 refine jZ (jJ ?_)
 refine jU ha rfl rfl ?_
 refine wp_skip (jJ (wp_seq (wp_seq (jX [0, 1, 2, 3, 4] (jY [(0, 15, ptr b1 2)] ha fun a ha => ?_)))))
 refine qW (d := 16) (b := b1) (j := 2) ha (hS.blk 1 rfl) rfl fun a ha => ?_
 refine jY [(2, 17, ptr b3 2)] ha fun a ha => ?_
 refine qW (d := 18) (b := b3) (j := 2) ha (hS.blk 0 rfl) rfl fun a ha => ?_
 refine xZ (.bool false) ha ((qJ (v := .bool (!decide (xb = xb))) ha (yH (op := (Op.binOp BinOp.neq 3 (Operand.tmp 16) (Operand.tmp 18) 3)) (d := some 19) (ty := 4)) (by kernel_rfl) (fun _ => by kernel_rfl)).as (by simp)) fun a ha => ?_
 refine jZ (jJ ?_)
 refine jU ha rfl rfl ?_
 refine wp_skip (jJ (wp_seq (jX [0] (jY [(0, 4, .bool true)] ha fun a ha => ?_))))
 refine jZ ?_
 replace ha := ha.as [(4, .bool true)] rfl
 refine jJ (wp_ret (jV ha (by kernel_rfl) (qZ (t := 4) ha rfl) ?_))
 exact ⟨rfl, Sat.rest [_, _] hS⟩
theorem code98 : Try.f98.body = some (Code.seq (cr Try.f98 0 false) (Code.seq (Code.seq (cr Try.f98 1 false) (Code.cond (Operand.tmp 10) (Code.seq (cr Try.f98 2 false) Code.ret) Code.skip)) (Code.seq (Code.seq (cr Try.f98 3 false) (Code.block 0 (Code.loop (Code.seq (Code.seq (cr Try.f98 4 false) (Code.cond (Operand.tmp 14) Code.skip (Code.exit 0))) (Code.seq (Code.block 1 (Code.seq (cr Try.f98 6 true) (Code.cond (Operand.tmp 26) (Code.seq (cr Try.f98 7 false) Code.ret) Code.skip))) (cr Try.f98 5 false)))))) (Code.seq (cr Try.f98 8 false) Code.ret)))) := by kernel_rfl
set_option maxRecDepth 20000 in
set_option maxHeartbeats 1000000 in
theorem eq_steps {w0 w : World} {Rs : List Asn} {b : List Stp} {s1 s2 : Sl} (hS : Sat w0 w Rs) (h1 : Keeps w0 Rs (fun w => RdBody w s1 b)) (h2 : Keeps w0 Rs (fun w => RdBody w s2 b)) (hlb : b.length ≤ 2000000) :
  Calls Try.prog 98 #[.slice s1.A s1.n s1.c, .slice s2.A s2.n s2.c] w (Ret fun r w' => r = .bool true ∧ Sat w0 w' Rs) := by
 have hn1 := (h1 w hS).len
 have hn2 := (h2 w hS).len
 have hA1 := (h1 w hS).A
 have hA2 := (h2 w hS).A
 refine enter (n := 27) Try.func98 code98 (by kernel_rfl) (Nat.le_of_ble_eq_true rfl) (fun a ha => ?_)
 replace ha : Has 27 [(0, .slice s1.A s1.n s1.c), (1, .slice s2.A s2.n s2.c)] a := ha
 refine wp_seq (jX [0] (jY [(0, 4, .bool false)] ha fun a ha => ?_))
 refine jZ (jJ (wp_seq (wp_seq (jX [0, 1, 2, 3, 4] (jY [(0, 6, .slice s1.A s1.n s1.c), (1, 7, iv (s1.n : Int)), (2, 8, .slice s2.A s2.n s2.c), (3, 9, iv (s2.n : Int)), (4, 10, .bool (!(decide ((s1.n : Int) = (s2.n : Int)))))] ha fun a ha => ?_)))))
 refine jZ (jJ ?_)
 by_cases c1 : (s1.n : Int) = (s2.n : Int)
 ·
  refine jU ha rfl (xJ (decide_eq_true c1)) ?_
  refine wp_skip (jJ (wp_seq (wp_seq (jX [0] (jY [(0, 5, iv 0)] ha fun a ha => ?_)))))
  refine jZ (jJ (wp_block ?_))
  refine wp_loop_ghost (fun n_ a_ w_ => ∃ (i : Nat), n_ = b.length - i ∧ (i ≤ b.length) ∧ Has 27 [(0, .slice s1.A s1.n s1.c), (1, .slice s2.A s2.n s2.c), (5, iv (i : Int))] a_ ∧ Sat w0 w_ (Rs)) _ ⟨0, rfl, Nat.zero_le _, ha.keeps [0, 1, 5] _ rfl, hS⟩ ?_
  rintro n_ a w ⟨i, rfl, hi, ha, hS⟩
  refine wp_seq (wp_seq (jX [0, 1, 2, 3] (jY [(0, 11, iv (i : Int)), (1, 12, .slice s1.A s1.n s1.c), (2, 13, iv (s1.n : Int)), (3, 14, .bool (decide ((i : Int) < (s1.n : Int))))] ha fun a ha => ?_)))
  refine jZ (jJ ?_)
  by_cases c2 : (i : Int) < (s1.n : Int)
  ·
   have hlt : i < b.length := by have := c2; omega
   obtain ⟨z, hz⟩ : ∃ z, b[i]? = some z := ⟨_, List.getElem?_eq_getElem hlt⟩
   refine qQ ha rfl (decide_eq_true c2) ?_
   refine wp_skip (jJ (wp_seq (wp_block (wp_seq (yW 8 10 hS fun w hS => ?_)))))
   refine qV (k := 8) [(0, 17, .slice s1.A s1.n s1.c), (1, 18, iv (i : Int))] ha (.inr hS) (jQ (jK (jQ (jQ (jK (jQ (jW))))))) fun a ha => ?_
   refine yQ 2 (.pointer (some ⟨bk s1, of_ s1 + i * 3, none⟩)) ha (xX (s := s1) (el := 176) (sz := 3) (j := i) ha (yY (t := 109) (x := 17) (y := 18) (d := 19)) rfl rfl (by kernel_rfl) (by kernel_rfl) (hA1 (by omega)) (by omega)) (.inr hS) (jQ (jK (jQ (jQ (jK (jQ (jW))))))) fun a ha => ?_
   refine yK 3 (.agg #[iv z.k, iv z.a, iv z.b]) ha (v_loadL ha (yZ (t := 176) (x := 19) (d := 20) (ty := 176)) rfl (fun w' hw => (h1 w' hw).load hz)) hS (jQ (jK (jQ (jQ (jK (jQ (jW))))))) fun a ha => ?_
   refine qV (k := 4) [(4, 21, .slice s2.A s2.n s2.c), (5, 22, iv (i : Int))] ha (.inr hS) (jQ (jK (jQ (jQ (jK (jQ (jW))))))) fun a ha => ?_
   refine yQ 6 (.pointer (some ⟨bk s2, of_ s2 + i * 3, none⟩)) ha (xX (s := s2) (el := 176) (sz := 3) (j := i) ha (yY (t := 109) (x := 21) (y := 22) (d := 23)) rfl rfl (by kernel_rfl) (by kernel_rfl) (hA2 (by omega)) (by omega)) (.inr hS) (jQ (jK (jQ (jQ (jK (jQ (jW))))))) fun a ha => ?_
   refine yK 7 (.agg #[iv z.k, iv z.a, iv z.b]) ha (v_loadL ha (yZ (t := 176) (x := 23) (d := 24) (ty := 176)) rfl (fun w' hw => (h2 w' hw).load hz)) hS (jQ (jK (jQ (jQ (jK (jQ (jW))))))) fun a ha => ?_
   refine xW 8 (qK 25 (vs := [.agg #[iv z.k, iv z.a, iv z.b], .agg #[iv z.k, iv z.a, iv z.b]]) ha (eq_step hS) fun v3 w a hp4 ha => ?_)
   obtain ⟨rfl, hS⟩ := hp4
   refine zQ (qV (k := 0) [(9, 26, .bool false)] ha (.inl (by kernel_rfl)) (jQ (jK (jQ (jQ (jK (jQ (jW))))))) fun a ha => ?_)
   refine yX (jJ ?_)
   refine jU ha rfl rfl ?_
   refine wp_skip (in_n (jJ (jX [0, 1, 2] (jY [(0, 15, iv (i : Int))] ha fun a ha => ?_))))
   refine yJ 16 ((i : Int) + 1) ha fun a ha => ?_
   refine jY [(2, 5, iv ((i : Int) + 1))] ha fun a ha => ?_
   refine jZ (jJ ?_)
   exact ⟨_, by omega, i + 1, rfl, by omega, ha.keeps [0, 1, 5] _ rfl, hS⟩
  refine jU ha rfl (decide_eq_false c2) ?_
  refine wp_exit (qU (qU (in_x (jJ (wp_seq (jX [0] (jY [(0, 4, .bool true)] ha fun a ha => ?_)))))))
  refine jZ (jJ (wp_ret (jV ha (by kernel_rfl) (qZ (t := 4) ha rfl) ?_)))
  exact ⟨rfl, hS⟩
 exact absurd (by rw [hn1, hn2]) c1
theorem code59 : Try.f59.body = some (Code.seq (cr Try.f59 0 false) (Code.seq (Code.seq (cr Try.f59 1 false) (Code.cond (Operand.tmp 10) (Code.seq (cr Try.f59 2 false) Code.ret) Code.skip)) (Code.seq (Code.seq (cr Try.f59 3 false) (Code.block 0 (Code.loop (Code.seq (Code.seq (cr Try.f59 4 false) (Code.cond (Operand.tmp 14) Code.skip (Code.exit 0))) (Code.seq (Code.block 1 (Code.seq (cr Try.f59 6 true) (Code.cond (Operand.tmp 26) (Code.seq (cr Try.f59 7 false) Code.ret) Code.skip))) (cr Try.f59 5 false)))))) (Code.seq (cr Try.f59 8 false) Code.ret)))) := by kernel_rfl
set_option maxRecDepth 20000 in
set_option maxHeartbeats 1000000 in
theorem eq_rows {w0 w : World} {Rs : List Asn} {b : List (List Stp)} {s1 s2 : Sl} {sbs1 sbs2 : List Sl} (hS : Sat w0 w Rs) (h1 : Keeps w0 Rs (fun w => RdProg w s1 sbs1 b)) (h2 : Keeps w0 Rs (fun w => RdProg w s2 sbs2 b)) (hlb : b.length ≤ 2000000) (hlen : ∀ z ∈ b, z.length ≤ 2000000) :
  Calls Try.prog 59 #[.slice s1.A s1.n s1.c, .slice s2.A s2.n s2.c] w (Ret fun r w' => r = .bool true ∧ Sat w0 w' Rs) := by
 have hn1 := (h1 w hS).len
 have hn2 := (h2 w hS).len
 have hA1 := (h1 w hS).A
 have hA2 := (h2 w hS).A
 refine enter (n := 27) Try.func59 code59 (by kernel_rfl) (Nat.le_of_ble_eq_true rfl) (fun a ha => ?_)
 replace ha : Has 27 [(0, .slice s1.A s1.n s1.c), (1, .slice s2.A s2.n s2.c)] a := ha
 refine wp_seq (jX [0] (jY [(0, 4, .bool false)] ha fun a ha => ?_))
 refine jZ (jJ (wp_seq (wp_seq (jX [0, 1, 2, 3, 4] (jY [(0, 6, .slice s1.A s1.n s1.c), (1, 7, iv (s1.n : Int)), (2, 8, .slice s2.A s2.n s2.c), (3, 9, iv (s2.n : Int)), (4, 10, .bool (!(decide ((s1.n : Int) = (s2.n : Int)))))] ha fun a ha => ?_)))))
 refine jZ (jJ ?_)
 by_cases c1 : (s1.n : Int) = (s2.n : Int)
 ·
  refine jU ha rfl (xJ (decide_eq_true c1)) ?_
  refine wp_skip (jJ (wp_seq (wp_seq (jX [0] (jY [(0, 5, iv 0)] ha fun a ha => ?_)))))
  refine jZ (jJ (wp_block ?_))
  refine wp_loop_ghost (fun n_ a_ w_ => ∃ (i : Nat), n_ = b.length - i ∧ (i ≤ b.length) ∧ Has 27 [(0, .slice s1.A s1.n s1.c), (1, .slice s2.A s2.n s2.c), (5, iv (i : Int))] a_ ∧ Sat w0 w_ (Rs)) _ ⟨0, rfl, Nat.zero_le _, ha.keeps [0, 1, 5] _ rfl, hS⟩ ?_
  rintro n_ a w ⟨i, rfl, hi, ha, hS⟩
  refine wp_seq (wp_seq (jX [0, 1, 2, 3] (jY [(0, 11, iv (i : Int)), (1, 12, .slice s1.A s1.n s1.c), (2, 13, iv (s1.n : Int)), (3, 14, .bool (decide ((i : Int) < (s1.n : Int))))] ha fun a ha => ?_)))
  refine jZ (jJ ?_)
  by_cases c2 : (i : Int) < (s1.n : Int)
  ·
   have hlt : i < b.length := by have := c2; omega
   obtain ⟨z, hz⟩ : ∃ z, b[i]? = some z := ⟨_, List.getElem?_eq_getElem hlt⟩
   obtain ⟨sb1, _, _, hsb1⟩ := RdProg.body h1 hS hz
   obtain ⟨sb2, _, _, hsb2⟩ := RdProg.body h2 hS hz
   refine qQ ha rfl (decide_eq_true c2) ?_
   refine wp_skip (jJ (wp_seq (wp_block (wp_seq (yW 8 10 hS fun w hS => ?_)))))
   refine qV (k := 8) [(0, 17, .slice s1.A s1.n s1.c), (1, 18, iv (i : Int))] ha (.inr hS) (jQ (jK (jQ (jQ (jK (jQ (jW))))))) fun a ha => ?_
   refine yQ 2 (.pointer (some ⟨bk s1, of_ s1 + i * 1, none⟩)) ha (xX (s := s1) (el := 109) (sz := 1) (j := i) ha (yY (t := 33) (x := 17) (y := 18) (d := 19)) rfl rfl (by kernel_rfl) (by kernel_rfl) (hA1 (by omega)) (by omega)) (.inr hS) (jQ (jK (jQ (jQ (jK (jQ (jW))))))) fun a ha => ?_
   refine yK 3 (.slice sb1.A sb1.n sb1.c) ha (xY ha (yZ (t := 109) (x := 19) (d := 20) (ty := 109)) rfl (by kernel_rfl) (fun w' hw => by rw [Nat.mul_one]; exact (hsb1 w' hw).1)) hS (jQ (jK (jQ (jQ (jK (jQ (jW))))))) fun a ha => ?_
   refine qV (k := 4) [(4, 21, .slice s2.A s2.n s2.c), (5, 22, iv (i : Int))] ha (.inr hS) (jQ (jK (jQ (jQ (jK (jQ (jW))))))) fun a ha => ?_
   refine yQ 6 (.pointer (some ⟨bk s2, of_ s2 + i * 1, none⟩)) ha (xX (s := s2) (el := 109) (sz := 1) (j := i) ha (yY (t := 33) (x := 21) (y := 22) (d := 23)) rfl rfl (by kernel_rfl) (by kernel_rfl) (hA2 (by omega)) (by omega)) (.inr hS) (jQ (jK (jQ (jQ (jK (jQ (jW))))))) fun a ha => ?_
   refine yK 7 (.slice sb2.A sb2.n sb2.c) ha (xY ha (yZ (t := 109) (x := 23) (d := 24) (ty := 109)) rfl (by kernel_rfl) (fun w' hw => by rw [Nat.mul_one]; exact (hsb2 w' hw).1)) hS (jQ (jK (jQ (jQ (jK (jQ (jW))))))) fun a ha => ?_
   refine xW 8 (qK 25 (vs := [.slice sb1.A sb1.n sb1.c, .slice sb2.A sb2.n sb2.c]) ha (eq_steps hS (fun w h => (hsb1 w h).2) (fun w h => (hsb2 w h).2) (hlen z (List.mem_of_getElem? hz))) fun v3 w a hp4 ha => ?_)
   obtain ⟨rfl, hS⟩ := hp4
   refine zQ (qV (k := 0) [(9, 26, .bool false)] ha (.inl (by kernel_rfl)) (jQ (jK (jQ (jQ (jK (jQ (jW))))))) fun a ha => ?_)
   refine yX (jJ ?_)
   refine jU ha rfl rfl ?_
   refine wp_skip (in_n (jJ (jX [0, 1, 2] (jY [(0, 15, iv (i : Int))] ha fun a ha => ?_))))
   refine yJ 16 ((i : Int) + 1) ha fun a ha => ?_
   refine jY [(2, 5, iv ((i : Int) + 1))] ha fun a ha => ?_
   refine jZ (jJ ?_)
   exact ⟨_, by omega, i + 1, rfl, by omega, ha.keeps [0, 1, 5] _ rfl, hS⟩
  refine jU ha rfl (decide_eq_false c2) ?_
  refine wp_exit (qU (qU (in_x (jJ (wp_seq (jX [0] (jY [(0, 4, .bool true)] ha fun a ha => ?_)))))))
  refine jZ (jJ (wp_ret (jV ha (by kernel_rfl) (qZ (t := 4) ha rfl) ?_)))
  exact ⟨rfl, hS⟩
 exact absurd (by rw [hn1, hn2]) c1
theorem code20 : Try.f20.body = some (Code.seq (cr Try.f20 0 false) (Code.seq (Code.seq (cr Try.f20 1 false) (Code.cond (Operand.tmp 10) (Code.seq (cr Try.f20 2 false) Code.ret) Code.skip)) (Code.seq (cr Try.f20 3 false) Code.ret))) := by kernel_rfl
set_option maxRecDepth 20000 in
set_option maxHeartbeats 1000000 in
theorem eq_prog {w0 w : World} {Rs : List Asn} {b : List (List Stp)} {s1 s2 : Sl} {sbs1 sbs2 : List Sl} (hS : Sat w0 w Rs) (h1 : Keeps w0 Rs (fun w => RdProg w s1 sbs1 b)) (h2 : Keeps w0 Rs (fun w => RdProg w s2 sbs2 b)) (hlb : b.length ≤ 2000000) (hlen : ∀ z ∈ b, z.length ≤ 2000000) :
  Calls Try.prog 20 #[.agg #[.slice s1.A s1.n s1.c], .agg #[.slice s2.A s2.n s2.c]] w (Ret fun r w' => r = .bool true ∧ Sat w0 w' Rs) := by
 refine enter (n := 11) Try.func20 code20 (by kernel_rfl) (Nat.le_of_ble_eq_true rfl) (fun a ha => ?_)
 replace ha : Has 11 [(0, .agg #[.slice s1.A s1.n s1.c]), (1, .agg #[.slice s2.A s2.n s2.c])] a := ha
 refine wp_seq (jX [0, 1, 2] (jH (qH 2 [.slice s1.A s1.n s1.c] 35 (ptr · 0) ha hS fun b1 w a hb2 hS ha => ?_)))
 refine jH (qH 3 [.slice s2.A s2.n s2.c] 35 (ptr · 0) ha hS fun b3 w a hb4 hS ha => ?_)
 refine jY [(2, 4, .bool false)] ha fun a ha => ?_
 refine jZ (jJ (wp_seq (wp_seq (jX [0, 1, 2, 3, 4, 5] (jY [(0, 5, ptr b1 0)] ha fun a ha => ?_)))))
 refine qW (d := 6) (b := b1) (j := 0) ha (hS.blk 1 rfl) rfl fun a ha => ?_
 refine jY [(2, 7, ptr b3 0)] ha fun a ha => ?_
 refine qW (d := 8) (b := b3) (j := 0) ha (hS.blk 0 rfl) rfl fun a ha => ?_
 refine jH (qK 9 (vs := [.slice s1.A s1.n s1.c, .slice s2.A s2.n s2.c]) ha (eq_rows hS (h1.more [_, _]) (h2.more [_, _]) hlb hlen) fun v5 w a hp6 ha => ?_)
 obtain ⟨rfl, hS⟩ := hp6
 refine jY [(5, 10, .bool false)] ha fun a ha => ?_
 refine jZ (jJ ?_)
 refine jU ha rfl rfl ?_
 refine wp_skip (jJ (wp_seq (jX [0] (jY [(0, 4, .bool true)] ha fun a ha => ?_))))
 refine jZ (jJ (wp_ret (jV ha (by kernel_rfl) (qZ (t := 4) ha rfl) ?_)))
 exact ⟨rfl, Sat.rest [_, _] hS⟩
end Go.Proofs.Ytjkoibfkklhaiaa.G
end
section
namespace Go.Proofs.Ytjkoibfkklhaiaa.G
open Go.RowKit Go.Proofs.Ytjkoibfkklhaiaa.SX Go.Proofs.YtjkoibfkklhaiaaW.PrintWords Go.Proofs.YtjkoibfkklhaiaaW.PrintLast Go.Proofs.YtjkoibfkklhaiaaW.PrintMore
set_option linter.unusedVariables false
set_option linter.unusedSimpArgs false
section
variable {w0 w : World} {Rs : List Asn} {s : Sl} {l : List (List ST)} {f arg fuel shared : Int}
theorem lift0 {F : Nat} {args : Array Value} {φ : Value → Prop} (hS : Sat w0 w Rs) (h : Calls Try.prog F args w (Ret fun r w' => φ r ∧ Sat w w' [])) : Calls Try.prog F args w (Ret fun r w' => φ r ∧ Sat w0 w' Rs) := by
 refine h.mono fun e w' h => ?_
 cases e with
 | returned r => exact ⟨h.1, hS.comp (Ps := []) h.2⟩
 | _ => exact h.elim
theorem eqP_sat {t : Sl} (hS : Sat w0 w Rs) (hr : RdP w s l) (ht : RdP w t l) (hf : Fits l) :
    Calls Try.prog 20 #[.agg #[.slice s.A s.n s.c], .agg #[.slice t.A t.n t.c]] w (Ret fun r w' => r = .bool true ∧ Sat w0 w' Rs) := by
  obtain ⟨sbs1, h1⟩ := rdProg_of (c := s.c) hr.rd
  obtain ⟨sbs2, h2⟩ := rdProg_of (c := t.c) ht.rd
  rw [← hr.len] at h1
  rw [← ht.len] at h2
  refine (eq_prog (Sat.start w) (h1.keeps []) (h2.keeps []) (by rw [PL_length]; have := hf.len; omega) (fun z hz => ?_)).mono fun e w' h => ?_
  · obtain ⟨b, hb, rfl⟩ := List.mem_map.1 hz
    rw [List.length_map]
    have := hf.each b hb
    omega
  · cases e with
    | returned r => exact ⟨h.1, hS.comp (Ps := []) h.2⟩
    | _ => exact h.elim
end
end Go.Proofs.Ytjkoibfkklhaiaa.G
end
section
namespace Go.Proofs.Ytjkoibfkklhaiaa.SX
open Go.RowKit Go.Proofs.Ytjkoibfkklhaiaa.G Go.Proofs.YtjkoibfkklhaiaaW.PrintWords Go.Proofs.YtjkoibfkklhaiaaW.PrintLast Go.Proofs.YtjkoibfkklhaiaaW.PrintMore
set_option linter.unusedVariables false
set_option linter.unusedSimpArgs false
def R3.m : R3 → MS
 | .spent m => m
 | .done m _ _ => m
def RB.m : RB → MS
 | .spent m => m
 | .go m _ _ _ => m
end Go.Proofs.Ytjkoibfkklhaiaa.SX
end
section
namespace Go.Proofs.Ytjkoibfkklhaiaa.G
open Go.RowKit Go.Proofs.Ytjkoibfkklhaiaa.SX Go.Proofs.YtjkoibfkklhaiaaW.PrintWords Go.Proofs.YtjkoibfkklhaiaaW.PrintLast Go.Proofs.YtjkoibfkklhaiaaW.PrintMore
set_option linter.unusedVariables false
set_option linter.unusedSimpArgs false
theorem getD_is {l : List Int} {n : Nat} {x : Int} (h : l[n]? = some x) : l.getD n 0 = x := by rw [List.getD_eq_getElem?_getD, h]; rfl
end Go.Proofs.Ytjkoibfkklhaiaa.G
end
section
namespace Go.Proofs.Ytjkoibfkklhaiaa
namespace SX
open Go.RowKit Go.Proofs.YtjkoibfkklhaiaaW.PrintWords
set_option linter.unusedVariables false
structure RdE {α : Type} (enc : α → List Value) (sz : Nat) (w : World) (s : Sl) (l : List α) : Prop where
 len : s.n = l.length
 le : l.length ≤ s.c
 big : l.length ≤ 9223372036854775807
 at_ : ∀ (j : Nat) (x : α), l[j]? = some x → s.A = some ⟨bk s, of_ s, none⟩ ∧ ∀ (o : Nat) (u : Value), (enc x)[o]? = some u → w.cell? ⟨bk s, of_ s + j * sz + o, none⟩ = some u
section
variable {α : Type} {enc : α → List Value} {sz : Nat} {w0 w w' : World} {Rs : List Asn} {s : Sl} {l : List α}
theorem RdE.below (h : RdE enc sz w s l) (hb : Below w.heap.size w w') : RdE enc sz w' s l := ⟨h.len, h.le, h.big, fun j x hx => ⟨(h.at_ j x hx).1, fun o u hu => pw_cell_below hb ((h.at_ j x hx).2 o u hu)⟩⟩
theorem RdE.sat (h : RdE enc sz w0 s l) (hS : Sat w0 w Rs) : RdE enc sz w s l := h.below hS.below
theorem Sat.rowC {T : TypeId} {vs : List Value} (h : Sat w0 w Rs) (i : Nat) (hi : Rs[i]? = some (SX.row s.v T sz vs)) : s.n ≤ s.c ∧ s.n ≤ 9223372036854775807 := by
  obtain ⟨n, h1, h2⟩ := h.row i hi
  obtain ⟨A, sn, sc⟩ := s
  have hml : maxLen ≤ 9223372036854775807 := by decide
  rcases h2 with ⟨e, h0⟩ | ⟨g, cap, cur, e, _, hg, h3, h4, h5, h6⟩
  · simp only [Sl.v, Value.slice.injEq] at e
    obtain ⟨rfl, rfl, rfl⟩ := e
    exact ⟨Nat.le_refl _, by simp⟩
  · simp only [Sl.v, Value.slice.injEq] at e
    obtain ⟨rfl, rfl, rfl⟩ := e
    dsimp only
    exact ⟨by omega, by omega⟩
theorem Sat.rdE {T : TypeId} (h : Sat w0 w Rs) (i : Nat) (hsz : ∀ x, (enc x).length = sz) (h0 : 0 < sz) (hi : Rs[i]? = some (SX.row s.v T sz (l.flatMap enc))) : RdE enc sz w s l := by
 have hn := h.rowL i hsz h0 hi
 obtain ⟨hc, hb⟩ := h.rowC i hi
 refine ⟨hn, by rw [← hn]; exact hc, by rw [← hn]; exact hb, fun j x hx => ?_⟩
 have hj := (List.getElem?_eq_some_iff.1 hx).1
 have hA := h.rowA i hi (by rw [flat_length hsz]; exact Nat.mul_pos (by omega) h0)
 have hof : of_ s = 0 := by simp [of_, hA]
 refine ⟨by rw [hof]; exact hA, fun o u hu => ?_⟩
 have ho := (List.getElem?_eq_some_iff.1 hu).1
 rw [hsz] at ho
 rw [hof, Nat.zero_add]
 exact (h.rdC i hi).cells _ _ ((flat_get (enc := enc) (o := o) hsz hx ho).trans hu)
theorem RdE.ofPairs {s : Sl} {l : List (Int × Int)} (hn : s.n = l.length) (hl : l.length ≤ s.c) (h : Kd.C (Kd.pair (Kd.int .i64) (Kd.int .i64)) w s.A l.length l) : RdE cellsR 2 w s l := by
 obtain ⟨_, hb, h3⟩ := h
 refine ⟨hn, hl, hb, fun j x hx => ?_⟩
 have hj := (List.getElem?_eq_some_iff.1 hx).1
 obtain ⟨ad, hA, hc⟩ := h3 (by omega)
 have hcell : ∀ (j : Nat) (x : Int × Int), l[j]? = some x → ∀ (o : Nat) (u : Value), (cellsR x)[o]? = some u → w.cell? (ad.add (j * 2 + o)) = some u := fun j x hx o u hu => by
  obtain ⟨cs, _, hk, hu2⟩ := hc j x hx
  obtain ⟨c0, c1, rfl, e0, e1⟩ := hk
  have e0' : c0 = [.int .i64 x.1] := e0
  have e1' : c1 = [.int .i64 x.2] := e1
  subst e0' e1'
  exact hu2 o u hu
 have hspot := spot_of_cell (v := .int .i64 (l[0]'(by omega)).1) (w := w) (ad := ad) (by have := hcell 0 _ (List.getElem?_eq_getElem (by omega)) 0 _ rfl; simpa using this)
 obtain ⟨b, off, sp⟩ := ad
 subst hspot
 refine ⟨by simp [bk, of_, hA], fun o u hu => ?_⟩
 have := hcell j x hx o u hu
 rw [add0] at this
 simpa [bk, of_, hA, Nat.add_assoc] using this
end
section
variable {P : Program} {R : Array Oper} {n : Nat} {e : Env} {a : Act} {w : World}
theorem v_loadE {S : World → Prop} {i d : Nat} {t : TypeId} {x : Operand} {ty : TypeId} {b f : Nat} {vs : List Value} (h : Has n e a) (ho : AtW R i (.load t x) (some d) ty a) (hx : ev e x = some (.pointer (some ⟨b, f, none⟩)))
  (ht : aggSize P t = some vs.length) (hb : ∀ w, S w → ∀ (o : Nat) (u : Value), vs[o]? = some u → w.cell? ⟨b, f + o, none⟩ = some u) : Val P R i a S d (.agg vs.toArray) :=
 v_loadL h ho hx fun w hw => run_loadVar_agg ht fun i u hu => by rw [add0]; exact hb w hw i u hu
end
section
variable {P : Program} {R : Array Oper} {Q : Exit → Act → World → Prop} {n : Nat} {e : Env} {a : Act} {w w0 : World} {Rs : List Asn}
theorem made_flat {α : Type} {enc : α → List Value} {x0 : α} {z : Value} {sz : Nat} (hz : z.cells.toList = enc x0) (hsz : ∀ x, (enc x).length = sz) (h0 : 0 < sz) (m : Nat) : madeCells z.cells (m * sz) = ((List.replicate m x0).flatMap enc).toArray := by
  have hzs : z.cells.size = sz := by rw [← Array.length_toList, hz, hsz]
  refine Array.toList_inj.1 (List.ext_getElem? fun i => ?_)
  show (madeCells z.cells (m * sz)).toList[i]? = ((List.replicate m x0).flatMap enc)[i]?
  by_cases hi : i < m * sz
  · have hj : i / sz < m := (Nat.div_lt_iff_lt_mul h0).2 hi
    have ho : i % sz < sz := Nat.mod_lt _ h0
    have e1 := flat_get (enc := enc) (o := i % sz) (x := x0) (j := i / sz) (l := List.replicate m x0) hsz (by rw [List.getElem?_replicate, if_pos hj]) ho
    rw [show i / sz * sz + i % sz = i by rw [Nat.mul_comm]; exact Nat.div_add_mod i sz] at e1
    have ho2 : i % sz < z.cells.size := by rw [hzs]; exact ho
    rw [e1, ← hz]
    simp only [madeCells, Array.getElem?_toList, Array.getElem?_map, Array.getElem?_range, hzs, hi, if_true, Option.map_some, getElem!_pos z.cells (i % sz) ho2, Array.getElem?_eq_getElem ho2]
  · rw [List.getElem?_eq_none (by rw [Array.length_toList, size_madeCells]; omega), List.getElem?_eq_none (by rw [flat_length hsz, List.length_replicate]; omega)]
theorem o_makeR {α : Type} {enc : α → List Value} {x0 : α} {i d : Nat} {x y : Operand} {t el ty : TypeId} {m bytes sz : Nat} {z : Value} {K : Act → World → Prop} (h : Has n e a) (hd : d < n) (ho : AtW R i (.makeSlice t x y) (some d) ty a) (hx : ev e x = some (.int .i64 (m : Int))) (hy : ev e y = some (.int .i64 (m : Int)))
    (ht : P.underlying t = some (.slice el)) (hinfo : (P.info? el).map (fun i => (i.zero, i.size, i.bytes)) = some (some z, sz, bytes)) (hz : z.cells.toList = enc x0) (hsz : ∀ x, (enc x).length = sz) (h0 : 0 < sz) (hb0 : 0 < bytes) (hn : m * bytes ≤ 281474976710656) (hS : Sat w0 w Rs)
    (k : ∀ (s : Sl) w' a', s.n = m → Sat w0 w' (SX.row s.v el sz ((List.replicate m x0).flatMap enc) :: Rs) → Has n ((d, .slice s.A s.n s.c) :: e) a' → K a' w') : wpOp P R Q i K a w := by
  have hm : m ≤ 281474976710656 := Nat.le_trans (Nat.le_mul_of_pos_right _ hb0) hn
  refine o_new (cs := (List.replicate m x0).flatMap enc) (T := el) (fun b => .slice (some ⟨b, 0, none⟩) m m) h hd ho (by simp [covers, Op.operands, hx, hy, notSelect]) hS (fun w => ?_) (fun b w' a' hb hS' ha' => ?_)
  · obtain ⟨ti, hti, he⟩ := Option.map_eq_some_iff.1 hinfo
    simp only [Prod.mk.injEq] at he
    obtain ⟨e1, e2, e3⟩ := he
    have hr := run_make (P := P) w t el ti z ht hti e1 .i64 .i64 (m : Int) (m : Int) (by omega) (Int.le_refl _) (by rw [e3, ← Int.natCast_mul, Nat.mul_comm]; omega) (by omega)
    rw [Int.toNat_natCast, e2, made_flat hz hsz h0] at hr
    simp [execOp, opr, evD, hx, hy, hr]
  · have hS2 : Sat w0 w' (SX.blk b ((List.replicate m x0).flatMap enc ++ []) el :: Rs) := by rw [List.append_nil]; exact hS'
    exact k ⟨some ⟨b, 0, none⟩, m, m⟩ w' a' rfl (Sat.shutRow (g := b) (n := m) (cap := m) (sz := sz) (xs := (List.replicate m x0).flatMap enc) (cur := []) hS2 0 rfl (by rw [flat_length hsz, List.length_replicate]) (Nat.le_refl _) (by simp only [maxLen]; omega) (by rw [List.append_nil, flat_length hsz, List.length_replicate])) ha'
end
end SX
end Go.Proofs.Ytjkoibfkklhaiaa
end
section
namespace Go.Proofs.Ytjkoibfkklhaiaa.G
open Go.RowKit Go.Proofs.Ytjkoibfkklhaiaa.SX Go.Proofs.YtjkoibfkklhaiaaW.PrintWords Go.Proofs.YtjkoibfkklhaiaaW.PrintLast Go.Proofs.YtjkoibfkklhaiaaW.PrintMore
set_option linter.unusedVariables false
set_option linter.unusedSimpArgs false
theorem tk_next {α : Type} {l : List α} {z0 x : α} {j : Nat} (hx : l[j]? = some x) : (l.take j ++ List.replicate (l.length - j) z0).set j x = l.take (j + 1) ++ List.replicate (l.length - (j + 1)) z0 := by
 have h := (List.getElem?_eq_some_iff.1 hx).1
 have h2 : (l.take j).length = j := by rw [List.length_take]; omega
 rw [List.set_append_right _ _ (by omega), h2, Nat.sub_self, show l.length - j = (l.length - (j + 1)) + 1 by omega, List.replicate_succ, List.set_cons_zero, List.take_add_one, hx, List.append_assoc]; rfl
theorem tk_some {α : Type} {l : List α} {z0 : α} {j : Nat} (h : j < l.length) : ∃ z, (l.take j ++ List.replicate (l.length - j) z0)[j]? = some z := ⟨_, List.getElem?_eq_getElem (by rw [List.length_append, List.length_take, List.length_replicate]; omega)⟩
theorem tk_end {α : Type} {l : List α} {z0 : α} {j : Nat} (h : j = l.length) : l.take j ++ List.replicate (l.length - j) z0 = l := by rw [h, List.take_length, Nat.sub_self, List.replicate_zero, List.append_nil]
theorem getD_at {l : List Int} {n : Nat} {x : Int} (h : l[n]? = some x) : l.getD n 0 = x := by rw [List.getD_eq_getElem?_getD, h]; rfl
def cellsJ (x : Int) : List Value := [.int .i64 x]
def encJ (l : List Int) : List Value := l.flatMap cellsJ
theorem cellsJ_len (x : Int) : (cellsJ x).length = 1 := rfl
theorem encJ_length (l : List Int) : (encJ l).length = l.length * 1 := flat_length cellsJ_len l
theorem encJ_I (l : List Int) : encI l = encJ l := by
 induction l with
 | nil => rfl
 | cons x l ih => show Value.int .i64 x :: encI l = Value.int .i64 x :: encJ l; rw [ih]
def szN (n : Nat) (left : Int) : Int := if left - (n : Int) < 0 then -1 else left - (n : Int)
theorem szN_ok {n : Nat} {left : Int} (h : 0 ≤ szN n left) : (n : Int) + szN n left = left := by unfold szN at *; split at h <;> rename_i h9 <;> simp [h9] at * ; omega
theorem code93 : Try.f93.body = some (Code.seq (cr Try.f93 0 false) (Code.seq (cr Try.f93 1 false) (Code.seq (cr Try.f93 2 false) (Code.seq (cr Try.f93 3 false) (Code.seq (cr Try.f93 4 false) Code.ret))))) := by kernel_rfl
set_option maxRecDepth 20000 in
set_option maxHeartbeats 1000000 in
theorem toJob_sat {w0 w : World} {Rs : List Asn} {x0 x1 : Int} (hS : Sat w0 w Rs) :
  Calls Try.prog 93 #[.agg #[iv x0, iv x1]] w (Ret fun r w' => r = .agg #[iv x0, iv x1] ∧ Sat w0 w' Rs) := by
 refine enter (n := 11) Try.func93 code93 (by kernel_rfl) (Nat.le_of_ble_eq_true rfl) (fun a ha => ?_)
 replace ha : Has 11 [(0, .agg #[iv x0, iv x1])] a := ha
 refine wp_seq (jX [0, 1] (jH (qH 1 [iv x0, iv x1] 136 (ptr · 0) ha hS fun b1 w a hb2 hS ha => ?_)))
 refine jH (qH 2 [iv 0, iv 0] 131 (ptr · 0) ha hS fun b3 w a hb4 hS ha => ?_)
 refine jZ (jJ (wp_seq (jX [0] (jH (qH 3 [iv 0, iv 0] 131 (ptr · 0) ha hS fun b5 w a hb6 hS ha => ?_)))))
 refine jZ (jJ (wp_seq (jX [0, 1, 2, 3] (jY [(0, 4, ptr b1 0)] ha fun a ha => ?_))))
 refine qW (d := 5) (b := b1) (j := 0) ha (hS.blk 2 rfl) rfl fun a ha => ?_
 refine jY [(2, 6, ptr b5 0)] ha fun a ha => ?_
 refine jH (zX b5 0 (iv x0) 0 ha hS rfl rfl fun w a hS ha => ?_)
 refine jZ (jJ (wp_seq (jX [0, 1, 2, 3] (jY [(0, 7, ptr b1 1)] ha fun a ha => ?_))))
 refine qW (d := 8) (b := b1) (j := 1) ha (hS.blk 2 rfl) rfl fun a ha => ?_
 refine jY [(2, 9, ptr b5 1)] ha fun a ha => ?_
 refine jH (zX b5 1 (iv x1) 0 ha hS rfl rfl fun w a hS ha => ?_)
 refine jZ (jJ (wp_seq (jX [0, 1] (xV 10 ha (hS.blk 0 rfl) fun a ha => ?_))))
 refine jH (xH 1 ha (zZ (t := 131) (x := 2) (y := 10)) rfl rfl rfl (by kernel_rfl) hS rfl (Nat.le_of_ble_eq_true rfl) rfl fun w a hS ha => ?_)
 refine jZ (jJ (wp_ret (jV ha (by kernel_rfl) (zW (t := 2) (ty := 131) (i := 1) ha rfl hS rfl (by kernel_rfl)) ?_)))
 exact ⟨rfl, Sat.rest [_, _, _] hS⟩
theorem code99 : Try.f99.body = some (Code.seq (cr Try.f99 0 false) (Code.seq (Code.seq (cr Try.f99 1 false) (Code.cond (Operand.tmp 9) (Code.seq (cr Try.f99 2 false) Code.ret) Code.skip)) (Code.seq (Code.seq (cr Try.f99 3 false) (Code.cond (Operand.tmp 14) (Code.seq (cr Try.f99 4 false) Code.ret) Code.skip)) (Code.seq (cr Try.f99 5 false) Code.ret)))) := by kernel_rfl
set_option maxRecDepth 20000 in
set_option maxHeartbeats 1000000 in
theorem eqJob_sat {w0 w : World} {Rs : List Asn} {x0 x1 : Int} (hS : Sat w0 w Rs) :
  Calls Try.prog 99 #[.agg #[iv x0, iv x1], .agg #[iv x0, iv x1]] w (Ret fun r w' => r = .bool true ∧ Sat w0 w' Rs) := by
 refine enter (n := 15) Try.func99 code99 (by kernel_rfl) (Nat.le_of_ble_eq_true rfl) (fun a ha => ?_)
 replace ha : Has 15 [(0, .agg #[iv x0, iv x1]), (1, .agg #[iv x0, iv x1])] a := ha
 refine wp_seq (jX [0, 1, 2] (jH (qH 2 [iv x0, iv x1] 131 (ptr · 0) ha hS fun b1 w a hb2 hS ha => ?_)))
 refine jH (qH 3 [iv x0, iv x1] 131 (ptr · 0) ha hS fun b3 w a hb4 hS ha => ?_)
 refine jY [(2, 4, .bool false)] ha fun a ha => ?_
 refine jZ (jJ (wp_seq (wp_seq (jX [0, 1, 2, 3, 4] (jY [(0, 5, ptr b1 0)] ha fun a ha => ?_)))))
 refine qW (d := 6) (b := b1) (j := 0) ha (hS.blk 1 rfl) rfl fun a ha => ?_
 refine jY [(2, 7, ptr b3 0)] ha fun a ha => ?_
 refine qW (d := 8) (b := b3) (j := 0) ha (hS.blk 0 rfl) rfl fun a ha => ?_
 refine xZ (.bool false) ha ((qJ (v := .bool (!(decide (x0 = x0)))) ha (yH (op := (Op.binOp BinOp.neq 3 (Operand.tmp 6) (Operand.tmp 8) 3)) (d := some 9) (ty := 4)) (by kernel_rfl) (fun _ => by kernel_rfl)).as (by simp)) fun a ha => ?_
 refine jZ (jJ ?_)
 refine jU ha rfl rfl ?_
 refine wp_skip (jJ (wp_seq (wp_seq (jX [0, 1, 2, 3, 4] (jY [(0, 10, ptr b1 1)] ha fun a ha => ?_)))))
 refine qW (d := 11) (b := b1) (j := 1) ha (hS.blk 1 rfl) rfl fun a ha => ?_
 refine jY [(2, 12, ptr b3 1)] ha fun a ha => ?_
 refine qW (d := 13) (b := b3) (j := 1) ha (hS.blk 0 rfl) rfl fun a ha => ?_
 refine xZ (.bool false) ha ((qJ (v := .bool (!(decide (x1 = x1)))) ha (yH (op := (Op.binOp BinOp.neq 3 (Operand.tmp 11) (Operand.tmp 13) 3)) (d := some 14) (ty := 4)) (by kernel_rfl) (fun _ => by kernel_rfl)).as (by simp)) fun a ha => ?_
 refine jZ (jJ ?_)
 refine jU ha rfl rfl ?_
 refine wp_skip (jJ (wp_seq (jX [0] (jY [(0, 4, .bool true)] ha fun a ha => ?_))))
 refine jZ (jJ (wp_ret (jV ha (by kernel_rfl) (qZ (t := 4) ha rfl) ?_)))
 exact ⟨rfl, Sat.rest [_, _] hS⟩
theorem code57 : Try.f57.body = some (Code.seq (cr Try.f57 0 false) (Code.seq (cr Try.f57 1 false) (Code.seq (Code.seq (cr Try.f57 2 false) (Code.block 0 (Code.loop (Code.seq (Code.seq (cr Try.f57 3 false) (Code.cond (Operand.tmp 11) Code.skip (Code.exit 0))) (Code.seq (Code.block 1 (cr Try.f57 5 false)) (cr Try.f57 4 false)))))) (Code.seq (cr Try.f57 6 false) Code.ret)))) := by kernel_rfl
set_option maxRecDepth 20000 in
set_option maxHeartbeats 1000000 in
theorem toIntS_sat0 {w0 : World} {sa : Sl} {l : List Int} (hra : RdI w0 sa l) (hbig : l.length ≤ 4000000) :
  Calls Try.prog 57 #[.slice sa.A sa.n sa.c] w0 (Ret fun r w' => ∃ o : Sl, r = .slice o.A o.n o.c ∧ Sat w0 w' (SX.row (.slice o.A o.n o.c) 3 1 (encI l) :: [])) := by
 have hS : Sat w0 w0 [] := Sat.start w0
 have hlen := hra.len
 refine enter (n := 22) Try.func57 code57 (by kernel_rfl) (Nat.le_of_ble_eq_true rfl) (fun a ha => ?_)
 replace ha : Has 22 [(0, .slice sa.A sa.n sa.c)] a := ha
 refine wp_seq (jX [0] (jY [(0, 2, .slice none 0 0)] ha fun a ha => ?_))
 refine jZ (jJ (wp_seq (jX [0, 1, 2, 3] (jY [(0, 5, .slice sa.A sa.n sa.c), (1, 6, iv (sa.n : Int))] ha fun a ha => ?_))))
 refine jH (o_makeR (enc := cellsJ) (x0 := (0 : Int)) (z := .int .i64 0) (m := sa.n) (bytes := 8) (el := 3) ha (by decide) (yH (op := (Op.makeSlice 26 (Operand.tmp 6) (Operand.tmp 6))) (d := some 7) (ty := 26)) rfl rfl (by kernel_rfl) (by kernel_rfl) rfl cellsJ_len (by decide) (by decide) (by omega) hS fun o w a hon hS ha => ?_)
 refine jY [(3, 3, .slice o.A o.n o.c)] ha fun a ha => ?_
 refine jZ (jJ (wp_seq (wp_seq (jX [0] (jY [(0, 4, iv 0)] ha fun a ha => ?_)))))
 refine jZ (jJ (wp_block ?_))
 replace hS : Sat w0 w ((SX.row (.slice o.A o.n o.c) 3 1 (encJ (l.take 0 ++ List.replicate (l.length - 0) (0 : Int)))) :: []) := by have hh := hS; rw [hlen] at hh; exact hh
 refine wp_loop_ghost (fun n_ a_ w_ => ∃ (i : Nat), n_ = l.length - i ∧ (i ≤ l.length) ∧ Has 22 [(0, .slice sa.A sa.n sa.c), (3, .slice o.A o.n o.c), (4, iv (i : Int))] a_ ∧ Sat w0 w_ ((SX.row (.slice o.A o.n o.c) 3 1 (encJ (l.take i ++ List.replicate (l.length - i) (0 : Int)))) :: [])) _ ⟨0, rfl, Nat.zero_le _, ha.keeps [0, 3, 4] _ rfl, hS⟩ ?_
 rintro n_ a w ⟨i, rfl, hi, ha, hS⟩
 refine wp_seq (wp_seq (jX [0, 1, 2, 3] (jY [(0, 8, iv (i : Int)), (1, 9, .slice sa.A sa.n sa.c), (2, 10, iv (sa.n : Int)), (3, 11, .bool (decide ((i : Int) < (sa.n : Int))))] ha fun a ha => ?_)))
 refine jZ (jJ ?_)
 by_cases c1 : (i : Int) < (sa.n : Int)
 ·
  have hlt : i < l.length := by omega
  obtain ⟨x9, hx9⟩ : ∃ x, l[i]? = some x := ⟨_, List.getElem?_eq_getElem hlt⟩
  obtain ⟨z, hz⟩ := tk_some (l := l) (z0 := (0 : Int)) hlt
  refine qQ ha rfl (decide_eq_true c1) ?_
  refine wp_skip (jJ (wp_seq (wp_block (jX [0, 1, 2, 3, 4, 5, 6, 7] (jY [(0, 14, .slice o.A o.n o.c), (1, 15, iv (i : Int)), (2, 16, .slice sa.A sa.n sa.c), (3, 17, iv (i : Int))] ha fun a ha => ?_)))))
  refine xZ (.pointer (some ⟨bk sa, of_ sa + i * 1, none⟩)) ha (xX (el := 3) (sz := 1) (j := i) ha (yY (t := 26) (x := 16) (y := 17) (d := 18)) rfl rfl (by kernel_rfl) (by kernel_rfl) ((hra.sat hS).at_ ((List.getElem?_eq_some_iff.1 hx9).1)).1 (by rw [((hra.sat hS)).len]; exact (List.getElem?_eq_some_iff.1 hx9).1)) fun a ha => ?_
  refine xZ (iv x9) ha (xY (p := ⟨bk sa, of_ sa + i * 1, none⟩) ha (yZ (t := 3) (x := 18) (d := 19) (ty := 3)) rfl (by kernel_rfl) (fun w' hw => by rw [hw, Nat.mul_one, ← getD_at hx9]; exact ((hra.sat hS).at_ ((List.getElem?_eq_some_iff.1 hx9).1)).2)) fun a ha => ?_
  refine xZ (.pointer (some ⟨bk o, i * 1, none⟩)) ha (zY (s := o) (el := 3) (sz := 1) (j := i) ha (yY (t := 26) (x := 14) (y := 15) (d := 20)) rfl rfl (by kernel_rfl) (by kernel_rfl) (hS.rowA (s := o) 0 rfl (by have := (List.getElem?_eq_some_iff.1 hz).1; rw [encJ_length]; omega)) (rfl) (by have h9 := hS.rowL (s := o) (enc := cellsJ) 0 cellsJ_len (by decide) rfl; have := (List.getElem?_eq_some_iff.1 hz).1; omega)) fun a ha => ?_
  refine jH (zK (s := o) (j := i * 1 + 0) (xs := encJ (l.take i ++ List.replicate (l.length - i) (0 : Int))) (xs' := encJ ((l.take i ++ List.replicate (l.length - i) (0 : Int)).set i x9)) 0 ha (zZ (t := 3) (x := 20) (y := 19)) rfl rfl rfl (by kernel_rfl) hS rfl (by have := (List.getElem?_eq_some_iff.1 hz).1; rw [encJ_length]; omega) ((flat_set (enc := cellsJ) (x' := x9) cellsJ_len hz (by decide) rfl)) (fun w a (hS : Sat w0 w ((SX.row (.slice o.A o.n o.c) 3 1 (encJ ((l.take i ++ List.replicate (l.length - i) (0 : Int)).set i x9))) :: [])) ha => ?_))
  refine jZ (in_n (jJ (jX [0, 1, 2] (jY [(0, 12, iv (i : Int))] ha fun a ha => ?_))))
  refine yJ 13 ((i : Int) + 1) ha fun a ha => ?_
  refine jY [(2, 4, iv ((i : Int) + 1))] ha fun a ha => ?_
  refine jZ (jJ ?_)
  replace hS : Sat w0 w ((SX.row (.slice o.A o.n o.c) 3 1 (encJ (l.take (i + 1) ++ List.replicate (l.length - (i + 1)) (0 : Int)))) :: []) := by rw [← tk_next hx9]; exact hS
  exact ⟨_, by omega, i + 1, rfl, by omega, ha.keeps [0, 3, 4] _ rfl, hS⟩
 refine jU ha rfl (decide_eq_false c1) ?_
 refine wp_exit (qU (qU (in_x (jJ (wp_seq (jX [0, 1] (jY [(0, 21, .slice o.A o.n o.c), (1, 2, .slice o.A o.n o.c)] ha fun a ha => ?_)))))))
 refine jZ (jJ (wp_ret (jV ha (by kernel_rfl) (qZ (t := 2) ha rfl) ?_)))
 have hie : i = l.length := by omega
 rw [tk_end hie] at hS
 exact ⟨o, rfl, by rw [encJ_I]; exact hS⟩
theorem toIntS_sat {w0 w : World} {Rs : List Asn} {sa : Sl} {l : List Int} (hS : Sat w0 w Rs) (hra : RdI w sa l) (hbig : l.length ≤ 4000000) :
  Calls Try.prog 57 #[.slice sa.A sa.n sa.c] w (Ret fun r w' => ∃ o : Sl, r = .slice o.A o.n o.c ∧ Sat w0 w' (SX.row (.slice o.A o.n o.c) 3 1 (encI l) :: Rs)) :=
 (toIntS_sat0 hra hbig).mono fun e w' h => by
  cases e with
  | returned r => obtain ⟨o, h1, h2⟩ := h; exact ⟨o, h1, hS.comp h2⟩
  | _ => exact h.elim
theorem code19 : Try.f19.body = some (Code.seq (cr Try.f19 0 false) (Code.seq (Code.seq (cr Try.f19 1 false) (Code.cond (Operand.tmp 10) (Code.seq (cr Try.f19 2 false) Code.ret) Code.skip)) (Code.seq (Code.seq (cr Try.f19 3 false) (Code.block 0 (Code.loop (Code.seq (Code.seq (cr Try.f19 4 false) (Code.cond (Operand.tmp 14) Code.skip (Code.exit 0))) (Code.seq (Code.block 1 (Code.seq (cr Try.f19 6 true) (Code.cond (Operand.tmp 25) (Code.seq (cr Try.f19 7 false) Code.ret) Code.skip))) (cr Try.f19 5 false)))))) (Code.seq (cr Try.f19 8 false) Code.ret)))) := by kernel_rfl
set_option maxRecDepth 20000 in
set_option maxHeartbeats 1000000 in
theorem eqIntS_sat0 {w0 : World} {sa sb : Sl} {l : List Int} (hra : RdI w0 sa l) (hrb : RdI w0 sb l) :
  Calls Try.prog 19 #[.slice sa.A sa.n sa.c, .slice sb.A sb.n sb.c] w0 (Ret fun r w' => r = .bool true ∧ Sat w0 w' []) := by
 have hS : Sat w0 w0 [] := Sat.start w0
 have hbig := hra.big
 have hlen := hra.len
 have hlen2 := hrb.len
 refine enter (n := 26) Try.func19 code19 (by kernel_rfl) (Nat.le_of_ble_eq_true rfl) (fun a ha => ?_)
 replace ha : Has 26 [(0, .slice sa.A sa.n sa.c), (1, .slice sb.A sb.n sb.c)] a := ha
 refine wp_seq (jX [0] (jY [(0, 4, .bool false)] ha fun a ha => ?_))
 refine jZ (jJ (wp_seq (wp_seq (jX [0, 1, 2, 3, 4] (jY [(0, 6, .slice sa.A sa.n sa.c), (1, 7, iv (sa.n : Int)), (2, 8, .slice sb.A sb.n sb.c), (3, 9, iv (sb.n : Int)), (4, 10, .bool (!(decide ((sa.n : Int) = (sb.n : Int)))))] ha fun a ha => ?_)))))
 refine jZ (jJ ?_)
 by_cases c1 : (sa.n : Int) = (sb.n : Int)
 ·
  refine jU ha rfl (xJ (decide_eq_true c1)) ?_
  refine wp_skip (jJ (wp_seq (wp_seq (jX [0] (jY [(0, 5, iv 0)] ha fun a ha => ?_)))))
  refine jZ (jJ (wp_block ?_))
  refine wp_loop_ghost (fun n_ a_ w_ => ∃ (i : Nat), n_ = l.length - i ∧ (i ≤ l.length) ∧ Has 26 [(0, .slice sa.A sa.n sa.c), (1, .slice sb.A sb.n sb.c), (5, iv (i : Int))] a_ ∧ Sat w0 w_ ([])) _ ⟨0, rfl, Nat.zero_le _, ha.keeps [0, 1, 5] _ rfl, hS⟩ ?_
  rintro n_ a w ⟨i, rfl, hi, ha, hS⟩
  refine wp_seq (wp_seq (jX [0, 1, 2, 3] (jY [(0, 11, iv (i : Int)), (1, 12, .slice sa.A sa.n sa.c), (2, 13, iv (sa.n : Int)), (3, 14, .bool (decide ((i : Int) < (sa.n : Int))))] ha fun a ha => ?_)))
  refine jZ (jJ ?_)
  by_cases c2 : (i : Int) < (sa.n : Int)
  ·
   have hlt : i < l.length := by omega
   obtain ⟨x9, hx9⟩ : ∃ x, l[i]? = some x := ⟨_, List.getElem?_eq_getElem hlt⟩
   refine qQ ha rfl (decide_eq_true c2) ?_
   refine wp_skip (jJ (wp_seq (wp_block (wp_seq (yW 9 9 hS fun w hS => ?_)))))
   refine qV (k := 7) [(0, 17, .slice sa.A sa.n sa.c), (1, 18, iv (i : Int))] ha (.inr hS) (jQ (jK (jQ (jQ (jK (jQ (jW))))))) fun a ha => ?_
   refine yQ 2 (.pointer (some ⟨bk sa, of_ sa + i * 1, none⟩)) ha (xX (el := 3) (sz := 1) (j := i) ha (yY (t := 26) (x := 17) (y := 18) (d := 19)) rfl rfl (by kernel_rfl) (by kernel_rfl) ((hra.sat hS).at_ ((List.getElem?_eq_some_iff.1 hx9).1)).1 (by rw [((hra.sat hS)).len]; exact (List.getElem?_eq_some_iff.1 hx9).1)) (.inr hS) (jQ (jK (jQ (jQ (jK (jQ (jW))))))) fun a ha => ?_
   refine yK 3 (iv x9) ha (xY (p := ⟨bk sa, of_ sa + i * 1, none⟩) ha (yZ (t := 3) (x := 19) (d := 20) (ty := 3)) rfl (by kernel_rfl) (fun w' hw => by rw [Nat.mul_one, ← getD_at hx9]; exact (((hra.sat hw)).at_ ((List.getElem?_eq_some_iff.1 hx9).1)).2)) hS (jQ (jK (jQ (jQ (jK (jQ (jW))))))) fun a ha => ?_
   refine qV (k := 3) [(4, 21, .slice sb.A sb.n sb.c), (5, 22, iv (i : Int))] ha (.inr hS) (jQ (jK (jQ (jQ (jK (jQ (jW))))))) fun a ha => ?_
   refine yQ 6 (.pointer (some ⟨bk sb, of_ sb + i * 1, none⟩)) ha (xX (el := 3) (sz := 1) (j := i) ha (yY (t := 26) (x := 21) (y := 22) (d := 23)) rfl rfl (by kernel_rfl) (by kernel_rfl) ((hrb.sat hS).at_ ((List.getElem?_eq_some_iff.1 hx9).1)).1 (by rw [((hrb.sat hS)).len]; exact (List.getElem?_eq_some_iff.1 hx9).1)) (.inr hS) (jQ (jK (jQ (jQ (jK (jQ (jW))))))) fun a ha => ?_
   refine yK 7 (iv x9) ha (xY (p := ⟨bk sb, of_ sb + i * 1, none⟩) ha (yZ (t := 3) (x := 23) (d := 24) (ty := 3)) rfl (by kernel_rfl) (fun w' hw => by rw [Nat.mul_one, ← getD_at hx9]; exact (((hrb.sat hw)).at_ ((List.getElem?_eq_some_iff.1 hx9).1)).2)) hS (jQ (jK (jQ (jQ (jK (jQ (jW))))))) fun a ha => ?_
   refine yQ 8 (.bool false) ha ((qJ (v := .bool (!(decide (x9 = x9)))) ha (yH (op := (Op.binOp BinOp.neq 3 (Operand.tmp 20) (Operand.tmp 24) 3)) (d := some 25) (ty := 4)) (by kernel_rfl) (fun _ => by kernel_rfl)).as (by simp)) (.inr hS) (jQ (jK (jQ (jQ (jK (jQ (jW))))))) fun a ha => ?_
   refine yX (jJ ?_)
   refine jU ha rfl rfl ?_
   refine wp_skip (in_n (jJ (jX [0, 1, 2] (jY [(0, 15, iv (i : Int))] ha fun a ha => ?_))))
   refine yJ 16 ((i : Int) + 1) ha fun a ha => ?_
   refine jY [(2, 5, iv ((i : Int) + 1))] ha fun a ha => ?_
   refine jZ (jJ ?_)
   exact ⟨_, by omega, i + 1, rfl, by omega, ha.keeps [0, 1, 5] _ rfl, hS⟩
  refine jU ha rfl (decide_eq_false c2) ?_
  refine wp_exit (qU (qU (in_x (jJ (wp_seq (jX [0] (jY [(0, 4, .bool true)] ha fun a ha => ?_)))))))
  refine jZ (jJ (wp_ret (jV ha (by kernel_rfl) (qZ (t := 4) ha rfl) ?_)))
  exact ⟨rfl, hS⟩
 refine qQ ha rfl (xQ (decide_eq_false c1)) ?_
 refine wp_seq (jX [0] (jY [(0, 4, .bool false)] ha fun a ha => ?_))
 refine jZ (jJ (wp_ret (qY ?_)))
 exfalso; omega
theorem eqIntS_sat {w0 w : World} {Rs : List Asn} {sa sb : Sl} {l : List Int} (hS : Sat w0 w Rs) (hra : RdI w sa l) (hrb : RdI w sb l) :
  Calls Try.prog 19 #[.slice sa.A sa.n sa.c, .slice sb.A sb.n sb.c] w (Ret fun r w' => r = .bool true ∧ Sat w0 w' Rs) := lift0 hS (eqIntS_sat0 hra hrb)
theorem code52 : Try.f52.body = some (Code.seq (cr Try.f52 0 false) (Code.seq (cr Try.f52 1 false) (Code.seq (Code.seq (cr Try.f52 2 false) (Code.cond (Operand.tmp 10) (Code.seq (cr Try.f52 3 false) Code.ret) Code.skip)) (Code.seq (cr Try.f52 4 false) Code.ret)))) := by kernel_rfl
set_option maxRecDepth 20000 in
set_option maxHeartbeats 1000000 in
theorem szIntS_sat {w0 w : World} {Rs : List Asn} {sa : Sl} {n : Nat} {left : Int} (hS : Sat w0 w Rs) (hn : sa.n = n) (hb : n ≤ 9223372036854775807) (h0 : 0 ≤ left) (h1 : left ≤ 1048576) :
  Calls Try.prog 52 #[.slice sa.A sa.n sa.c, .int .i64 left] w (Ret fun r w' => r = .int .i64 (szN n left) ∧ Sat w0 w' Rs) := by
 refine enter (n := 12) Try.func52 code52 (by kernel_rfl) (Nat.le_of_ble_eq_true rfl) (fun a ha => ?_)
 replace ha : Has 12 [(0, .slice sa.A sa.n sa.c), (1, iv left)] a := ha
 refine wp_seq (jX [0] (jY [(0, 4, iv 0)] ha fun a ha => ?_))
 refine jZ (jJ (wp_seq (jX [0, 1, 2, 3, 4] (jY [(0, 5, iv left), (1, 6, .slice sa.A sa.n sa.c), (2, 7, iv (sa.n : Int))] ha fun a ha => ?_))))
 refine yJ 8 (left - (sa.n : Int)) ha fun a ha => ?_
 refine jY [(4, 1, iv (left - (sa.n : Int)))] ha fun a ha => ?_
 refine jZ (jJ (wp_seq (wp_seq (jX [0, 1] (jY [(0, 9, iv (left - (sa.n : Int))), (1, 10, .bool (decide ((left - (sa.n : Int)) < 0)))] ha fun a ha => ?_)))))
 refine jZ (jJ ?_)
 by_cases c1 : (left - (sa.n : Int)) < 0
 ·
  refine qQ ha rfl (decide_eq_true c1) ?_
  refine wp_seq (jX [0] (jY [(0, 4, iv (-1))] ha fun a ha => ?_))
  refine jZ (jJ (wp_ret (qY (jV ha (by kernel_rfl) (qZ (t := 4) ha rfl) ?_))))
  have hE : szN n left = (-1) := by unfold szN; simp only [← hn]; rw [if_pos (by omega)]
  rw [hE]
  exact ⟨rfl, hS⟩
 refine jU ha rfl (decide_eq_false c1) ?_
 refine wp_skip (jJ (wp_seq (jX [0, 1] (jY [(0, 11, iv (left - (sa.n : Int))), (1, 4, iv (left - (sa.n : Int)))] ha fun a ha => ?_))))
 refine jZ (jJ (wp_ret (jV ha (by kernel_rfl) (qZ (t := 4) ha rfl) ?_)))
 have hE : szN n left = left - (sa.n : Int) := by unfold szN; simp only [← hn]; rw [if_neg (by omega)]
 rw [hE]
 exact ⟨rfl, hS⟩
theorem code56 : Try.f56.body = some (Code.seq (cr Try.f56 0 false) (Code.seq (cr Try.f56 1 false) (Code.seq (Code.seq (cr Try.f56 2 false) (Code.block 0 (Code.loop (Code.seq (Code.seq (cr Try.f56 3 false) (Code.cond (Operand.tmp 11) Code.skip (Code.exit 0))) (Code.seq (Code.block 1 (cr Try.f56 5 false)) (cr Try.f56 4 false)))))) (Code.seq (cr Try.f56 6 false) Code.ret)))) := by kernel_rfl
set_option maxRecDepth 20000 in
set_option maxHeartbeats 1000000 in
theorem toJobS_sat0 {w0 : World} {sa : Sl} {l : List (Int × Int)} (hra : RdE cellsR 2 w0 sa l) (hbig : l.length ≤ 4000000) :
  Calls Try.prog 56 #[.slice sa.A sa.n sa.c] w0 (Ret fun r w' => ∃ o : Sl, r = .slice o.A o.n o.c ∧ Sat w0 w' (SX.row (.slice o.A o.n o.c) 131 2 (encR l) :: [])) := by
 have hS : Sat w0 w0 [] := Sat.start w0
 have hlen := hra.len
 refine enter (n := 23) Try.func56 code56 (by kernel_rfl) (Nat.le_of_ble_eq_true rfl) (fun a ha => ?_)
 replace ha : Has 23 [(0, .slice sa.A sa.n sa.c)] a := ha
 refine wp_seq (jX [0] (jY [(0, 2, .slice none 0 0)] ha fun a ha => ?_))
 refine jZ (jJ (wp_seq (jX [0, 1, 2, 3] (jY [(0, 5, .slice sa.A sa.n sa.c), (1, 6, iv (sa.n : Int))] ha fun a ha => ?_))))
 refine jH (o_makeR (enc := cellsR) (x0 := ((0, 0) : Int × Int)) (z := .agg #[.int .i64 0, .int .i64 0]) (m := sa.n) (bytes := 16) (el := 131) ha (by decide) (yH (op := (Op.makeSlice 37 (Operand.tmp 6) (Operand.tmp 6))) (d := some 7) (ty := 37)) rfl rfl (by kernel_rfl) (by kernel_rfl) rfl xK (by decide) (by decide) (by omega) hS fun o w a hon hS ha => ?_)
 refine jY [(3, 3, .slice o.A o.n o.c)] ha fun a ha => ?_
 refine jZ (jJ (wp_seq (wp_seq (jX [0] (jY [(0, 4, iv 0)] ha fun a ha => ?_)))))
 refine jZ (jJ (wp_block ?_))
 replace hS : Sat w0 w ((SX.row (.slice o.A o.n o.c) 131 2 (encR (l.take 0 ++ List.replicate (l.length - 0) ((0, 0) : Int × Int)))) :: []) := by have hh := hS; rw [hlen] at hh; exact hh
 refine wp_loop_ghost (fun n_ a_ w_ => ∃ (i : Nat), n_ = l.length - i ∧ (i ≤ l.length) ∧ Has 23 [(0, .slice sa.A sa.n sa.c), (3, .slice o.A o.n o.c), (4, iv (i : Int))] a_ ∧ Sat w0 w_ ((SX.row (.slice o.A o.n o.c) 131 2 (encR (l.take i ++ List.replicate (l.length - i) ((0, 0) : Int × Int)))) :: [])) _ ⟨0, rfl, Nat.zero_le _, ha.keeps [0, 3, 4] _ rfl, hS⟩ ?_
 rintro n_ a w ⟨i, rfl, hi, ha, hS⟩
 refine wp_seq (wp_seq (jX [0, 1, 2, 3] (jY [(0, 8, iv (i : Int)), (1, 9, .slice sa.A sa.n sa.c), (2, 10, iv (sa.n : Int)), (3, 11, .bool (decide ((i : Int) < (sa.n : Int))))] ha fun a ha => ?_)))
 refine jZ (jJ ?_)
 by_cases c1 : (i : Int) < (sa.n : Int)
 ·
  have hlt : i < l.length := by omega
  obtain ⟨x9, hx9⟩ : ∃ x, l[i]? = some x := ⟨_, List.getElem?_eq_getElem hlt⟩
  obtain ⟨z, hz⟩ := tk_some (l := l) (z0 := ((0, 0) : Int × Int)) hlt
  refine qQ ha rfl (decide_eq_true c1) ?_
  refine wp_skip (jJ (wp_seq (wp_block (jX [0, 1, 2, 3, 4, 5, 6, 7, 8] (jY [(0, 14, .slice o.A o.n o.c), (1, 15, iv (i : Int)), (2, 16, .slice sa.A sa.n sa.c), (3, 17, iv (i : Int))] ha fun a ha => ?_)))))
  refine xZ (.pointer (some ⟨bk sa, of_ sa + i * 2, none⟩)) ha (xU (el := 136) (sz := 2) (j := i) ha (yY (t := 25) (x := 16) (y := 17) (d := 18)) rfl rfl (by kernel_rfl) (by kernel_rfl) (RdE.at_ (hra.sat hS) _ _ hx9).1 (rfl) (by rw [((hra.sat hS)).len]; exact (List.getElem?_eq_some_iff.1 hx9).1)) fun a ha => ?_
  refine xZ (.agg #[iv x9.1, iv x9.2]) ha (v_loadE (b := bk sa) (f := of_ sa + i * 2) (vs := [iv x9.1, iv x9.2]) ha (yZ (t := 136) (x := 18) (d := 19) (ty := 136)) rfl (by kernel_rfl) (fun w' hw o u hu => by rw [hw]; exact (RdE.at_ (hra.sat hS) _ _ hx9).2 o u hu)) fun a ha => ?_
  refine jH (qK 20 (vs := [.agg #[iv x9.1, iv x9.2]]) ha (toJob_sat hS) fun v2 w a hp3 ha => ?_)
  obtain ⟨rfl, hS⟩ := hp3
  refine xZ (.pointer (some ⟨bk o, i * 2, none⟩)) ha (zY (s := o) (el := 131) (sz := 2) (j := i) ha (yY (t := 37) (x := 14) (y := 15) (d := 21)) rfl rfl (by kernel_rfl) (by kernel_rfl) (hS.rowA (s := o) 0 rfl (by have := (List.getElem?_eq_some_iff.1 hz).1; rw [encR_length]; omega)) (rfl) (by have h9 := hS.rowL (s := o) (enc := cellsR) 0 xK (by decide) rfl; have := (List.getElem?_eq_some_iff.1 hz).1; omega)) fun a ha => ?_
  refine jH (o_storeRowA (s := o) (j := i * 2) (xs := encR (l.take i ++ List.replicate (l.length - i) ((0, 0) : Int × Int))) (xs' := encR ((l.take i ++ List.replicate (l.length - i) ((0, 0) : Int × Int)).set i (x9.1, x9.2))) (vs := [iv x9.1, iv x9.2]) 0 ha (zZ (t := 131) (x := 21) (y := 20)) rfl rfl rfl (by kernel_rfl) hS rfl (by have := (List.getElem?_eq_some_iff.1 hz).1; rw [encR_length]; simp only [List.length_cons, List.length_nil]; omega) (Nat.succ_pos _) (flat_put (enc := cellsR) (x' := (x9.1, x9.2)) xK hz) (fun w a (hS : Sat w0 w ((SX.row (.slice o.A o.n o.c) 131 2 (encR ((l.take i ++ List.replicate (l.length - i) ((0, 0) : Int × Int)).set i (x9.1, x9.2)))) :: [])) ha => ?_))
  refine jZ (in_n (jJ (jX [0, 1, 2] (jY [(0, 12, iv (i : Int))] ha fun a ha => ?_))))
  refine yJ 13 ((i : Int) + 1) ha fun a ha => ?_
  refine jY [(2, 4, iv ((i : Int) + 1))] ha fun a ha => ?_
  refine jZ (jJ ?_)
  replace hS : Sat w0 w ((SX.row (.slice o.A o.n o.c) 131 2 (encR (l.take (i + 1) ++ List.replicate (l.length - (i + 1)) ((0, 0) : Int × Int)))) :: []) := by rw [← tk_next hx9]; exact hS
  exact ⟨_, by omega, i + 1, rfl, by omega, ha.keeps [0, 3, 4] _ rfl, hS⟩
 refine jU ha rfl (decide_eq_false c1) ?_
 refine wp_exit (qU (qU (in_x (jJ (wp_seq (jX [0, 1] (jY [(0, 22, .slice o.A o.n o.c), (1, 2, .slice o.A o.n o.c)] ha fun a ha => ?_)))))))
 refine jZ (jJ (wp_ret (jV ha (by kernel_rfl) (qZ (t := 2) ha rfl) ?_)))
 have hie : i = l.length := by omega
 rw [tk_end hie] at hS
 exact ⟨o, rfl, hS⟩
theorem toJobS_sat {w0 w : World} {Rs : List Asn} {sa : Sl} {l : List (Int × Int)} (hS : Sat w0 w Rs) (hra : RdE cellsR 2 w sa l) (hbig : l.length ≤ 4000000) :
  Calls Try.prog 56 #[.slice sa.A sa.n sa.c] w (Ret fun r w' => ∃ o : Sl, r = .slice o.A o.n o.c ∧ Sat w0 w' (SX.row (.slice o.A o.n o.c) 131 2 (encR l) :: Rs)) :=
 (toJobS_sat0 hra hbig).mono fun e w' h => by
  cases e with
  | returned r => obtain ⟨o, h1, h2⟩ := h; exact ⟨o, h1, hS.comp h2⟩
  | _ => exact h.elim
theorem code60 : Try.f60.body = some (Code.seq (cr Try.f60 0 false) (Code.seq (Code.seq (cr Try.f60 1 false) (Code.cond (Operand.tmp 10) (Code.seq (cr Try.f60 2 false) Code.ret) Code.skip)) (Code.seq (Code.seq (cr Try.f60 3 false) (Code.block 0 (Code.loop (Code.seq (Code.seq (cr Try.f60 4 false) (Code.cond (Operand.tmp 14) Code.skip (Code.exit 0))) (Code.seq (Code.block 1 (Code.seq (cr Try.f60 6 true) (Code.cond (Operand.tmp 26) (Code.seq (cr Try.f60 7 false) Code.ret) Code.skip))) (cr Try.f60 5 false)))))) (Code.seq (cr Try.f60 8 false) Code.ret)))) := by kernel_rfl
set_option maxRecDepth 20000 in
set_option maxHeartbeats 1000000 in
theorem eqJobS_sat0 {w0 : World} {sa sb : Sl} {l : List (Int × Int)} (hra : RdE cellsR 2 w0 sa l) (hrb : RdE cellsR 2 w0 sb l) :
  Calls Try.prog 60 #[.slice sa.A sa.n sa.c, .slice sb.A sb.n sb.c] w0 (Ret fun r w' => r = .bool true ∧ Sat w0 w' []) := by
 have hS : Sat w0 w0 [] := Sat.start w0
 have hbig := hra.big
 have hlen := hra.len
 have hlen2 := hrb.len
 refine enter (n := 27) Try.func60 code60 (by kernel_rfl) (Nat.le_of_ble_eq_true rfl) (fun a ha => ?_)
 replace ha : Has 27 [(0, .slice sa.A sa.n sa.c), (1, .slice sb.A sb.n sb.c)] a := ha
 refine wp_seq (jX [0] (jY [(0, 4, .bool false)] ha fun a ha => ?_))
 refine jZ (jJ (wp_seq (wp_seq (jX [0, 1, 2, 3, 4] (jY [(0, 6, .slice sa.A sa.n sa.c), (1, 7, iv (sa.n : Int)), (2, 8, .slice sb.A sb.n sb.c), (3, 9, iv (sb.n : Int)), (4, 10, .bool (!(decide ((sa.n : Int) = (sb.n : Int)))))] ha fun a ha => ?_)))))
 refine jZ (jJ ?_)
 by_cases c1 : (sa.n : Int) = (sb.n : Int)
 ·
  refine jU ha rfl (xJ (decide_eq_true c1)) ?_
  refine wp_skip (jJ (wp_seq (wp_seq (jX [0] (jY [(0, 5, iv 0)] ha fun a ha => ?_)))))
  refine jZ (jJ (wp_block ?_))
  refine wp_loop_ghost (fun n_ a_ w_ => ∃ (i : Nat), n_ = l.length - i ∧ (i ≤ l.length) ∧ Has 27 [(0, .slice sa.A sa.n sa.c), (1, .slice sb.A sb.n sb.c), (5, iv (i : Int))] a_ ∧ Sat w0 w_ ([])) _ ⟨0, rfl, Nat.zero_le _, ha.keeps [0, 1, 5] _ rfl, hS⟩ ?_
  rintro n_ a w ⟨i, rfl, hi, ha, hS⟩
  refine wp_seq (wp_seq (jX [0, 1, 2, 3] (jY [(0, 11, iv (i : Int)), (1, 12, .slice sa.A sa.n sa.c), (2, 13, iv (sa.n : Int)), (3, 14, .bool (decide ((i : Int) < (sa.n : Int))))] ha fun a ha => ?_)))
  refine jZ (jJ ?_)
  by_cases c2 : (i : Int) < (sa.n : Int)
  ·
   have hlt : i < l.length := by omega
   obtain ⟨x9, hx9⟩ : ∃ x, l[i]? = some x := ⟨_, List.getElem?_eq_getElem hlt⟩
   refine qQ ha rfl (decide_eq_true c2) ?_
   refine wp_skip (jJ (wp_seq (wp_block (wp_seq (yW 8 10 hS fun w hS => ?_)))))
   refine qV (k := 8) [(0, 17, .slice sa.A sa.n sa.c), (1, 18, iv (i : Int))] ha (.inr hS) (jQ (jK (jQ (jQ (jK (jQ (jW))))))) fun a ha => ?_
   refine yQ 2 (.pointer (some ⟨bk sa, of_ sa + i * 2, none⟩)) ha (xU (el := 131) (sz := 2) (j := i) ha (yY (t := 37) (x := 17) (y := 18) (d := 19)) rfl rfl (by kernel_rfl) (by kernel_rfl) (RdE.at_ (hra.sat hS) _ _ hx9).1 (rfl) (by rw [((hra.sat hS)).len]; exact (List.getElem?_eq_some_iff.1 hx9).1)) (.inr hS) (jQ (jK (jQ (jQ (jK (jQ (jW))))))) fun a ha => ?_
   refine yK 3 (.agg #[iv x9.1, iv x9.2]) ha (v_loadE (b := bk sa) (f := of_ sa + i * 2) (vs := [iv x9.1, iv x9.2]) ha (yZ (t := 131) (x := 19) (d := 20) (ty := 131)) rfl (by kernel_rfl) (fun w' hw o u hu => by exact (RdE.at_ ((hra.sat hw)) _ _ hx9).2 o u hu)) hS (jQ (jK (jQ (jQ (jK (jQ (jW))))))) fun a ha => ?_
   refine qV (k := 4) [(4, 21, .slice sb.A sb.n sb.c), (5, 22, iv (i : Int))] ha (.inr hS) (jQ (jK (jQ (jQ (jK (jQ (jW))))))) fun a ha => ?_
   refine yQ 6 (.pointer (some ⟨bk sb, of_ sb + i * 2, none⟩)) ha (xU (el := 131) (sz := 2) (j := i) ha (yY (t := 37) (x := 21) (y := 22) (d := 23)) rfl rfl (by kernel_rfl) (by kernel_rfl) (RdE.at_ (hrb.sat hS) _ _ hx9).1 (rfl) (by rw [((hrb.sat hS)).len]; exact (List.getElem?_eq_some_iff.1 hx9).1)) (.inr hS) (jQ (jK (jQ (jQ (jK (jQ (jW))))))) fun a ha => ?_
   refine yK 7 (.agg #[iv x9.1, iv x9.2]) ha (v_loadE (b := bk sb) (f := of_ sb + i * 2) (vs := [iv x9.1, iv x9.2]) ha (yZ (t := 131) (x := 23) (d := 24) (ty := 131)) rfl (by kernel_rfl) (fun w' hw o u hu => by exact (RdE.at_ ((hrb.sat hw)) _ _ hx9).2 o u hu)) hS (jQ (jK (jQ (jQ (jK (jQ (jW))))))) fun a ha => ?_
   refine xW 8 (qK 25 (vs := [.agg #[iv x9.1, iv x9.2], .agg #[iv x9.1, iv x9.2]]) ha (eqJob_sat hS) fun v3 w a hp4 ha => ?_)
   obtain ⟨rfl, hS⟩ := hp4
   refine zQ (qV (k := 0) [(9, 26, .bool false)] ha (.inl (by kernel_rfl)) (jQ (jK (jQ (jQ (jK (jQ (jW))))))) fun a ha => ?_)
   refine yX (jJ ?_)
   refine jU ha rfl rfl ?_
   refine wp_skip (in_n (jJ (jX [0, 1, 2] (jY [(0, 15, iv (i : Int))] ha fun a ha => ?_))))
   refine yJ 16 ((i : Int) + 1) ha fun a ha => ?_
   refine jY [(2, 5, iv ((i : Int) + 1))] ha fun a ha => ?_
   refine jZ (jJ ?_)
   exact ⟨_, by omega, i + 1, rfl, by omega, ha.keeps [0, 1, 5] _ rfl, hS⟩
  refine jU ha rfl (decide_eq_false c2) ?_
  refine wp_exit (qU (qU (in_x (jJ (wp_seq (jX [0] (jY [(0, 4, .bool true)] ha fun a ha => ?_)))))))
  refine jZ (jJ (wp_ret (jV ha (by kernel_rfl) (qZ (t := 4) ha rfl) ?_)))
  exact ⟨rfl, hS⟩
 refine qQ ha rfl (xQ (decide_eq_false c1)) ?_
 refine wp_seq (jX [0] (jY [(0, 4, .bool false)] ha fun a ha => ?_))
 refine jZ (jJ (wp_ret (qY ?_)))
 exfalso; omega
theorem eqJobS_sat {w0 w : World} {Rs : List Asn} {sa sb : Sl} {l : List (Int × Int)} (hS : Sat w0 w Rs) (hra : RdE cellsR 2 w sa l) (hrb : RdE cellsR 2 w sb l) :
  Calls Try.prog 60 #[.slice sa.A sa.n sa.c, .slice sb.A sb.n sb.c] w (Ret fun r w' => r = .bool true ∧ Sat w0 w' Rs) := lift0 hS (eqJobS_sat0 hra hrb)
theorem code51 : Try.f51.body = some (Code.seq (cr Try.f51 0 false) (Code.seq (cr Try.f51 1 false) (Code.seq (Code.seq (cr Try.f51 2 false) (Code.cond (Operand.tmp 10) (Code.seq (cr Try.f51 3 false) Code.ret) Code.skip)) (Code.seq (cr Try.f51 4 false) Code.ret)))) := by kernel_rfl
set_option maxRecDepth 20000 in
set_option maxHeartbeats 1000000 in
theorem szJobS_sat {w0 w : World} {Rs : List Asn} {sa : Sl} {n : Nat} {left : Int} (hS : Sat w0 w Rs) (hn : sa.n = n) (hb : n ≤ 9223372036854775807) (h0 : 0 ≤ left) (h1 : left ≤ 1048576) :
  Calls Try.prog 51 #[.slice sa.A sa.n sa.c, .int .i64 left] w (Ret fun r w' => r = .int .i64 (szN n left) ∧ Sat w0 w' Rs) := by
 refine enter (n := 12) Try.func51 code51 (by kernel_rfl) (Nat.le_of_ble_eq_true rfl) (fun a ha => ?_)
 replace ha : Has 12 [(0, .slice sa.A sa.n sa.c), (1, iv left)] a := ha
 refine wp_seq (jX [0] (jY [(0, 4, iv 0)] ha fun a ha => ?_))
 refine jZ (jJ (wp_seq (jX [0, 1, 2, 3, 4] (jY [(0, 5, iv left), (1, 6, .slice sa.A sa.n sa.c), (2, 7, iv (sa.n : Int))] ha fun a ha => ?_))))
 refine yJ 8 (left - (sa.n : Int)) ha fun a ha => ?_
 refine jY [(4, 1, iv (left - (sa.n : Int)))] ha fun a ha => ?_
 refine jZ (jJ (wp_seq (wp_seq (jX [0, 1] (jY [(0, 9, iv (left - (sa.n : Int))), (1, 10, .bool (decide ((left - (sa.n : Int)) < 0)))] ha fun a ha => ?_)))))
 refine jZ (jJ ?_)
 by_cases c1 : (left - (sa.n : Int)) < 0
 ·
  refine qQ ha rfl (decide_eq_true c1) ?_
  refine wp_seq (jX [0] (jY [(0, 4, iv (-1))] ha fun a ha => ?_))
  refine jZ (jJ (wp_ret (qY (jV ha (by kernel_rfl) (qZ (t := 4) ha rfl) ?_))))
  have hE : szN n left = (-1) := by unfold szN; simp only [← hn]; rw [if_pos (by omega)]
  rw [hE]
  exact ⟨rfl, hS⟩
 refine jU ha rfl (decide_eq_false c1) ?_
 refine wp_skip (jJ (wp_seq (jX [0, 1] (jY [(0, 11, iv (left - (sa.n : Int))), (1, 4, iv (left - (sa.n : Int)))] ha fun a ha => ?_))))
 refine jZ (jJ (wp_ret (jV ha (by kernel_rfl) (qZ (t := 4) ha rfl) ?_)))
 have hE : szN n left = left - (sa.n : Int) := by unfold szN; simp only [← hn]; rw [if_neg (by omega)]
 rw [hE]
 exact ⟨rfl, hS⟩
end Go.Proofs.Ytjkoibfkklhaiaa.G
end
section
namespace Go.Proofs.Ytjkoibfkklhaiaa.G
open Go.RowKit Go.Proofs.Ytjkoibfkklhaiaa.SX Go.Proofs.YtjkoibfkklhaiaaW.PrintWords Go.Proofs.YtjkoibfkklhaiaaW.PrintLast Go.Proofs.YtjkoibfkklhaiaaW.PrintMore
set_option linter.unusedVariables false
set_option linter.unusedSimpArgs false
def szN2 (n m : Nat) (left : Int) : Int := if szN n left < 0 then -1 else if szN m (szN n left) < 0 then -1 else szN m (szN n left)
theorem szN2_ok {n m : Nat} {left : Int} (h : 0 ≤ szN2 n m left) : (n : Int) + (m : Int) + szN2 n m left = left := by
  unfold szN2 at *
  split at h
  · omega
  · split at h
    · omega
    · rename_i h1 h2
      have e1 := szN_ok (n := n) (left := left) (by omega)
      have e2 := szN_ok (n := m) (left := szN n left) (by omega)
      rw [if_neg h1, if_neg h2]
      omega
theorem szN_le (n : Nat) (left : Int) (h : 0 ≤ left) : szN n left ≤ left := by unfold szN; split <;> omega
theorem code17 : Try.f17.body = some (Code.seq (cr Try.f17 0 false) (Code.seq (cr Try.f17 1 false) (Code.seq (cr Try.f17 2 false) (Code.seq (cr Try.f17 3 false) (Code.seq (cr Try.f17 4 false) (Code.seq (cr Try.f17 5 false) Code.ret)))))) := by kernel_rfl
set_option maxRecDepth 20000 in
set_option maxHeartbeats 1000000 in
theorem toSession_sat0 {w0 : World} {sa sb : Sl} {js : List (Int × Int)} {hs : List Int} {mode : Int} (hra : RdE cellsR 2 w0 sa js) (hrb : RdI w0 sb hs) (hl1 : js.length ≤ 4000000) (hl2 : hs.length ≤ 4000000) :
  Calls Try.prog 17 #[.agg #[.slice sa.A sa.n sa.c, .slice sb.A sb.n sb.c, .int .i64 mode]] w0 (Ret fun r w' => ∃ o1 o2 : Sl, r = .agg #[.slice o1.A o1.n o1.c, .slice o2.A o2.n o2.c, .int .i64 mode] ∧ Sat w0 w' (SX.row (.slice o1.A o1.n o1.c) 131 2 (encR js) :: SX.row (.slice o2.A o2.n o2.c) 3 1 (encI hs) :: [])) := by
 have hS : Sat w0 w0 [] := Sat.start w0
 refine enter (n := 16) Try.func17 code17 (by kernel_rfl) (Nat.le_of_ble_eq_true rfl) (fun a ha => ?_)
 replace ha : Has 16 [(0, .agg #[.slice sa.A sa.n sa.c, .slice sb.A sb.n sb.c, iv mode])] a := ha
 refine wp_seq (jX [0, 1] (jH (qH 1 [.slice sa.A sa.n sa.c, .slice sb.A sb.n sb.c, iv mode] 28 (ptr · 0) ha hS fun b1 w a hb2 hS ha => ?_)))
 refine jH (qH 2 [.slice none 0 0, .slice none 0 0, iv 0] 39 (ptr · 0) ha hS fun b3 w a hb4 hS ha => ?_)
 refine jZ (jJ (wp_seq (jX [0] (jH (qH 3 [.slice none 0 0, .slice none 0 0, iv 0] 39 (ptr · 0) ha hS fun b5 w a hb6 hS ha => ?_)))))
 refine jZ (jJ (wp_seq (jX [0, 1, 2, 3, 4] (jY [(0, 4, ptr b1 0)] ha fun a ha => ?_))))
 refine qW (d := 5) (b := b1) (j := 0) ha (hS.blk 2 rfl) rfl fun a ha => ?_
 refine jH (qK 6 (vs := [.slice sa.A sa.n sa.c]) ha (toJobS_sat hS (hra.sat hS) hl1) fun v7 w a hp8 ha => ?_)
 obtain ⟨o1, rfl, hS⟩ := hp8
 refine jY [(3, 7, ptr b5 0)] ha fun a ha => ?_
 refine jH (zX b5 0 (.slice o1.A o1.n o1.c) 1 ha hS rfl rfl fun w a hS ha => ?_)
 refine jZ (jJ (wp_seq (jX [0, 1, 2, 3, 4] (jY [(0, 8, ptr b1 1)] ha fun a ha => ?_))))
 refine qW (d := 9) (b := b1) (j := 1) ha (hS.blk 3 rfl) rfl fun a ha => ?_
 refine jH (qK 10 (vs := [.slice sb.A sb.n sb.c]) ha (toIntS_sat hS (hrb.sat hS) hl2) fun v9 w a hp10 ha => ?_)
 obtain ⟨o2, rfl, hS⟩ := hp10
 refine jY [(3, 11, ptr b5 1)] ha fun a ha => ?_
 refine jH (zX b5 1 (.slice o2.A o2.n o2.c) 2 ha hS rfl rfl fun w a hS ha => ?_)
 refine jZ (jJ (wp_seq (jX [0, 1, 2, 3] (jY [(0, 12, ptr b1 2)] ha fun a ha => ?_))))
 refine qW (d := 13) (b := b1) (j := 2) ha (hS.blk 4 rfl) rfl fun a ha => ?_
 refine jY [(2, 14, ptr b5 2)] ha fun a ha => ?_
 refine jH (zX b5 2 (iv mode) 2 ha hS rfl rfl fun w a hS ha => ?_)
 refine jZ (jJ (wp_seq (jX [0, 1] (xV 15 ha (hS.blk 2 rfl) fun a ha => ?_))))
 refine jH (xH 3 ha (zZ (t := 39) (x := 2) (y := 15)) rfl rfl rfl (by kernel_rfl) hS rfl (Nat.le_of_ble_eq_true rfl) rfl fun w a hS ha => ?_)
 refine jZ (jJ (wp_ret (jV ha (by kernel_rfl) (zW (t := 2) (ty := 39) (i := 3) ha rfl hS rfl (by kernel_rfl)) ?_)))
 replace hS := hS.pickN 5 [1, 0] (by decide) rfl
 exact ⟨o1, o2, rfl, hS⟩
theorem toSession_sat {w0 w : World} {Rs : List Asn} {sa sb : Sl} {js : List (Int × Int)} {hs : List Int} {mode : Int} (hS : Sat w0 w Rs) (hra : RdE cellsR 2 w sa js) (hrb : RdI w sb hs) (hl1 : js.length ≤ 4000000) (hl2 : hs.length ≤ 4000000) :
  Calls Try.prog 17 #[.agg #[.slice sa.A sa.n sa.c, .slice sb.A sb.n sb.c, .int .i64 mode]] w (Ret fun r w' => ∃ o1 o2 : Sl, r = .agg #[.slice o1.A o1.n o1.c, .slice o2.A o2.n o2.c, .int .i64 mode] ∧ Sat w0 w' (SX.row (.slice o1.A o1.n o1.c) 131 2 (encR js) :: SX.row (.slice o2.A o2.n o2.c) 3 1 (encI hs) :: Rs)) :=
 (toSession_sat0 hra hrb hl1 hl2).mono fun e w' h => by
  cases e with
  | returned r => obtain ⟨o1, o2, h1, h2⟩ := h; exact ⟨o1, o2, h1, hS.comp h2⟩
  | _ => exact h.elim
theorem code21 : Try.f21.body = some (Code.seq (cr Try.f21 0 false) (Code.seq (Code.seq (cr Try.f21 1 false) (Code.cond (Operand.tmp 10) (Code.seq (cr Try.f21 2 false) Code.ret) Code.skip)) (Code.seq (Code.seq (cr Try.f21 3 false) (Code.cond (Operand.tmp 16) (Code.seq (cr Try.f21 4 false) Code.ret) Code.skip)) (Code.seq (Code.seq (cr Try.f21 5 false) (Code.cond (Operand.tmp 21) (Code.seq (cr Try.f21 6 false) Code.ret) Code.skip)) (Code.seq (cr Try.f21 7 false) Code.ret))))) := by kernel_rfl
set_option maxRecDepth 20000 in
set_option maxHeartbeats 1000000 in
theorem eqSession_sat0 {w0 : World} {sa sb sc sd : Sl} {js : List (Int × Int)} {hs : List Int} {mode : Int} (hra : RdE cellsR 2 w0 sa js) (hrb : RdI w0 sb hs) (hrc : RdE cellsR 2 w0 sc js) (hrd : RdI w0 sd hs) :
  Calls Try.prog 21 #[.agg #[.slice sa.A sa.n sa.c, .slice sb.A sb.n sb.c, .int .i64 mode], .agg #[.slice sc.A sc.n sc.c, .slice sd.A sd.n sd.c, .int .i64 mode]] w0 (Ret fun r w' => r = .bool true ∧ Sat w0 w' []) := by
 have hS : Sat w0 w0 [] := Sat.start w0
 refine enter (n := 22) Try.func21 code21 (by kernel_rfl) (Nat.le_of_ble_eq_true rfl) (fun a ha => ?_)
 replace ha : Has 22 [(0, .agg #[.slice sa.A sa.n sa.c, .slice sb.A sb.n sb.c, iv mode]), (1, .agg #[.slice sc.A sc.n sc.c, .slice sd.A sd.n sd.c, iv mode])] a := ha
 refine wp_seq (jX [0, 1, 2] (jH (qH 2 [.slice sa.A sa.n sa.c, .slice sb.A sb.n sb.c, iv mode] 39 (ptr · 0) ha hS fun b1 w a hb2 hS ha => ?_)))
 refine jH (qH 3 [.slice sc.A sc.n sc.c, .slice sd.A sd.n sd.c, iv mode] 39 (ptr · 0) ha hS fun b3 w a hb4 hS ha => ?_)
 refine jY [(2, 4, .bool false)] ha fun a ha => ?_
 refine jZ (jJ (wp_seq (wp_seq (jX [0, 1, 2, 3, 4, 5] (jY [(0, 5, ptr b1 0)] ha fun a ha => ?_)))))
 refine qW (d := 6) (b := b1) (j := 0) ha (hS.blk 1 rfl) rfl fun a ha => ?_
 refine jY [(2, 7, ptr b3 0)] ha fun a ha => ?_
 refine qW (d := 8) (b := b3) (j := 0) ha (hS.blk 0 rfl) rfl fun a ha => ?_
 refine jH (qK 9 (vs := [.slice sa.A sa.n sa.c, .slice sc.A sc.n sc.c]) ha (eqJobS_sat hS (hra.sat hS) (hrc.sat hS)) fun v5 w a hp6 ha => ?_)
 obtain ⟨rfl, hS⟩ := hp6
 refine jY [(5, 10, .bool false)] ha fun a ha => ?_
 refine jZ (jJ ?_)
 refine jU ha rfl rfl ?_
 refine wp_skip (jJ (wp_seq (wp_seq (jX [0, 1, 2, 3, 4, 5] (jY [(0, 11, ptr b1 1)] ha fun a ha => ?_)))))
 refine qW (d := 12) (b := b1) (j := 1) ha (hS.blk 1 rfl) rfl fun a ha => ?_
 refine jY [(2, 13, ptr b3 1)] ha fun a ha => ?_
 refine qW (d := 14) (b := b3) (j := 1) ha (hS.blk 0 rfl) rfl fun a ha => ?_
 refine jH (qK 15 (vs := [.slice sb.A sb.n sb.c, .slice sd.A sd.n sd.c]) ha (eqIntS_sat hS (hrb.sat hS) (hrd.sat hS)) fun v7 w a hp8 ha => ?_)
 obtain ⟨rfl, hS⟩ := hp8
 refine jY [(5, 16, .bool false)] ha fun a ha => ?_
 refine jZ (jJ ?_)
 refine jU ha rfl rfl ?_
 refine wp_skip (jJ (wp_seq (wp_seq (jX [0, 1, 2, 3, 4] (jY [(0, 17, ptr b1 2)] ha fun a ha => ?_)))))
 refine qW (d := 18) (b := b1) (j := 2) ha (hS.blk 1 rfl) rfl fun a ha => ?_
 refine jY [(2, 19, ptr b3 2)] ha fun a ha => ?_
 refine qW (d := 20) (b := b3) (j := 2) ha (hS.blk 0 rfl) rfl fun a ha => ?_
 refine xZ (.bool false) ha ((qJ (v := .bool (!(decide (mode = mode)))) ha (yH (op := (Op.binOp BinOp.neq 3 (Operand.tmp 18) (Operand.tmp 20) 3)) (d := some 21) (ty := 4)) (by kernel_rfl) (fun _ => by kernel_rfl)).as (by simp)) fun a ha => ?_
 refine jZ ?_
 replace ha := ha.as [(4, .bool false), (21, .bool false)] rfl
 refine jJ ?_
 refine jU ha rfl rfl ?_
 refine wp_skip (jJ (wp_seq (jX [0] (jY [(0, 4, .bool true)] ha fun a ha => ?_))))
 refine jZ (jJ (wp_ret (jV ha (by kernel_rfl) (qZ (t := 4) ha rfl) ?_)))
 exact ⟨rfl, Sat.rest [_, _] hS⟩
theorem eqSession_sat {w0 w : World} {Rs : List Asn} {sa sb sc sd : Sl} {js : List (Int × Int)} {hs : List Int} {mode : Int} (hS : Sat w0 w Rs) (hra : RdE cellsR 2 w sa js) (hrb : RdI w sb hs) (hrc : RdE cellsR 2 w sc js) (hrd : RdI w sd hs) :
  Calls Try.prog 21 #[.agg #[.slice sa.A sa.n sa.c, .slice sb.A sb.n sb.c, .int .i64 mode], .agg #[.slice sc.A sc.n sc.c, .slice sd.A sd.n sd.c, .int .i64 mode]] w (Ret fun r w' => r = .bool true ∧ Sat w0 w' Rs) := lift0 hS (eqSession_sat0 hra hrb hrc hrd)
theorem code14 : Try.f14.body = some (Code.seq (cr Try.f14 0 false) (Code.seq (cr Try.f14 1 false) (Code.seq (Code.seq (cr Try.f14 2 false) (Code.cond (Operand.tmp 10) (Code.seq (cr Try.f14 3 false) Code.ret) Code.skip)) (Code.seq (cr Try.f14 4 false) (Code.seq (Code.seq (cr Try.f14 5 false) (Code.cond (Operand.tmp 16) (Code.seq (cr Try.f14 6 false) Code.ret) Code.skip)) (Code.seq (cr Try.f14 7 false) Code.ret)))))) := by kernel_rfl
set_option maxRecDepth 20000 in
set_option maxHeartbeats 1000000 in
theorem szSession_sat0 {w0 : World} {sa sb : Sl} {n m : Nat} {mode left : Int} (hn : sa.n = n) (hm : sb.n = m) (hq1 : n ≤ 9223372036854775807) (hq2 : m ≤ 9223372036854775807) (h0 : 0 ≤ left) (h1 : left ≤ 1048576) :
  Calls Try.prog 14 #[.agg #[.slice sa.A sa.n sa.c, .slice sb.A sb.n sb.c, .int .i64 mode], .int .i64 left] w0 (Ret fun r w' => r = .int .i64 (szN2 n m left) ∧ Sat w0 w' []) := by
 have hS : Sat w0 w0 [] := Sat.start w0
 refine enter (n := 18) Try.func14 code14 (by kernel_rfl) (Nat.le_of_ble_eq_true rfl) (fun a ha => ?_)
 replace ha : Has 18 [(0, .agg #[.slice sa.A sa.n sa.c, .slice sb.A sb.n sb.c, iv mode]), (1, iv left)] a := ha
 refine wp_seq (jX [0, 1] (jH (qH 2 [.slice sa.A sa.n sa.c, .slice sb.A sb.n sb.c, iv mode] 28 (ptr · 0) ha hS fun b1 w a hb2 hS ha => ?_)))
 refine jY [(1, 4, iv 0)] ha fun a ha => ?_
 refine jZ (jJ (wp_seq (jX [0, 1, 2, 3, 4] (jY [(0, 5, ptr b1 0)] ha fun a ha => ?_))))
 refine qW (d := 6) (b := b1) (j := 0) ha (hS.blk 0 rfl) rfl fun a ha => ?_
 refine jY [(2, 7, iv left)] ha fun a ha => ?_
 have hzl := szN_le n left h0
 refine jH (qK 8 (vs := [.slice sa.A sa.n sa.c, iv left]) ha (szJobS_sat hS hn hq1 h0 h1) fun v3 w a hp4 ha => ?_)
 obtain ⟨rfl, hS⟩ := hp4
 refine jY [(4, 1, iv (szN n left))] ha fun a ha => ?_
 refine jZ (jJ (wp_seq (wp_seq (jX [0, 1] (jY [(0, 9, iv (szN n left)), (1, 10, .bool (decide ((szN n left) < 0)))] ha fun a ha => ?_)))))
 refine jZ (jJ ?_)
 by_cases c5 : (szN n left) < 0
 ·
  refine qQ ha rfl (decide_eq_true c5) ?_
  refine wp_seq (jX [0] (jY [(0, 4, iv (-1))] ha fun a ha => ?_))
  refine jZ (jJ (wp_ret (qY (jV ha (by kernel_rfl) (qZ (t := 4) ha rfl) ?_))))
  have hE : szN2 n m left = (-1) := by unfold szN2; rw [if_pos c5]
  rw [hE]
  exact ⟨rfl, Sat.rest [_] hS⟩
 refine jU ha rfl (decide_eq_false c5) ?_
 refine wp_skip (jJ (wp_seq (jX [0, 1, 2, 3, 4] (jY [(0, 11, ptr b1 1)] ha fun a ha => ?_))))
 refine qW (d := 12) (b := b1) (j := 1) ha (hS.blk 0 rfl) rfl fun a ha => ?_
 refine jY [(2, 13, iv (szN n left))] ha fun a ha => ?_
 refine jH (qK 14 (vs := [.slice sb.A sb.n sb.c, iv (szN n left)]) ha (szIntS_sat hS hm hq2 (by omega) (by omega)) fun v6 w a hp7 ha => ?_)
 obtain ⟨rfl, hS⟩ := hp7
 refine jY [(4, 1, iv (szN m (szN n left)))] ha fun a ha => ?_
 refine jZ (jJ (wp_seq (wp_seq (jX [0, 1] (jY [(0, 15, iv (szN m (szN n left))), (1, 16, .bool (decide ((szN m (szN n left)) < 0)))] ha fun a ha => ?_)))))
 refine jZ (jJ ?_)
 by_cases c8 : (szN m (szN n left)) < 0
 ·
  refine qQ ha rfl (decide_eq_true c8) ?_
  refine wp_seq (jX [0] (jY [(0, 4, iv (-1))] ha fun a ha => ?_))
  refine jZ ?_
  replace ha := ha.as [(1, iv (szN m (szN n left))), (4, iv (-1))] rfl
  refine jJ (wp_ret (qY (jV ha (by kernel_rfl) (qZ (t := 4) ha rfl) ?_)))
  have hE : szN2 n m left = (-1) := by unfold szN2; rw [if_neg c5, if_pos c8]
  rw [hE]
  exact ⟨rfl, Sat.rest [_] hS⟩
 refine jU ha rfl (decide_eq_false c8) ?_
 refine wp_skip (jJ (wp_seq (jX [0, 1] (jY [(0, 17, iv (szN m (szN n left))), (1, 4, iv (szN m (szN n left)))] ha fun a ha => ?_))))
 refine jZ ?_
 replace ha := ha.as [(4, iv (szN m (szN n left)))] rfl
 refine jJ (wp_ret (jV ha (by kernel_rfl) (qZ (t := 4) ha rfl) ?_))
 have hE : szN2 n m left = (szN m (szN n left)) := by unfold szN2; rw [if_neg c5, if_neg c8]
 rw [hE]
 exact ⟨rfl, Sat.rest [_] hS⟩
theorem szSession_sat {w0 w : World} {Rs : List Asn} {sa sb : Sl} {n m : Nat} {mode left : Int} (hS : Sat w0 w Rs) (hn : sa.n = n) (hm : sb.n = m) (hq1 : n ≤ 9223372036854775807) (hq2 : m ≤ 9223372036854775807) (h0 : 0 ≤ left) (h1 : left ≤ 1048576) :
  Calls Try.prog 14 #[.agg #[.slice sa.A sa.n sa.c, .slice sb.A sb.n sb.c, .int .i64 mode], .int .i64 left] w (Ret fun r w' => r = .int .i64 (szN2 n m left) ∧ Sat w0 w' Rs) := lift0 hS (szSession_sat0 hn hm hq1 hq2 h0 h1)
end Go.Proofs.Ytjkoibfkklhaiaa.G
end
