/- What the claim FnExactErrorsOfRun rests on, part 13 of 22; the last part proves it: for every input the law answers true, and its arguments read behind the call as before it. No condition. -/
import Derived.Lib.SliceRun
import Derived.KernelRfl
import Derived.WalkKit
import Derived.Test.YtcbijhgepdedpaaQErrorsOfRun8
import Derived.Test.YtcbijhgepdedpaaQErrorsOfRun9
import Derived.Test.YtcbijhgepdedpaaQErrorsOfRun10
import Derived.Test.YtcbijhgepdedpaaQErrorsOfRun11
set_option linter.unusedSimpArgs false
set_option linter.unusedVariables false
set_option maxRecDepth 100000
set_option maxHeartbeats 8000000
namespace Go.Proofs.Ytcbijhgepdedpaa.G
open Go.RowKit Go.Lib Go.Proofs.Ytcbijhgepdedpaa.SX Go.Proofs.YtcbijhgepdedpaaW.PrintWords Go.Proofs.YtcbijhgepdedpaaW.PrintLast Go.Proofs.YtcbijhgepdedpaaW.PrintMore
theorem in_eq (x lo hi : Int) : impl_in.f x lo hi = some (decide (lo ≤ x) && decide (x ≤ hi)) := by
 unfold impl_in.f
 by_cases h : lo ≤ x <;> simp [h]
theorem num_eq (x : Int) : impl_isNumber.f x = some (numB x) := by unfold impl_isNumber.f; rw [in_eq]; rfl
def encT (x : S98) : List Value := [.int .i64 x.f0, .int .i64 x.f1, .int .i64 x.f2]
theorem inner_at (w : World) (B : Nat) (A : Option Addr) (n c : Nat) (hn : 1 ≤ n ∧ n ≤ 6) (hB : B < w.heap.size) (hcell : w.cell? ⟨B, 0, none⟩ = some (.slice A n c)) :
    ∀ W, Below w.heap.size w W → ∀ x : S98, Calls Try.prog 92 #[.agg (encT x).toArray, .pointer (some ⟨B, 0, none⟩)] W (Ret fun r w' => r = .bool (!(stepB (n : Int) x.f0 x.f1 x.f2)) ∧ Below W.heap.size W w') := by
  intro W hb x
  have hc : W.cell? ⟨B, 0, none⟩ = some (.slice A n c) := (hb.cell (p := ⟨B, 0, none⟩) hB).trans hcell
  have hlt : B < W.heap.size := Nat.lt_of_lt_of_le hB hb.size
  show Calls Try.prog 92 #[.agg #[.int .i64 x.f0, .int .i64 x.f1, .int .i64 x.f2], .pointer (some ⟨B, 0, none⟩)] W _
  refine Calls.mono (R := fun e w' => e = .returned (.bool (!(stepB (n : Int) x.f0 x.f1 x.f2))) ∧ Below W.heap.size W w') ?_ (by rintro e w' ⟨rfl, h⟩; exact ⟨rfl, h⟩)
  have hs : ∀ W', Calls Try.prog 93 #[.agg #[.int .i64 x.f0, .int .i64 x.f1, .int .i64 x.f2], .int .i64 (n : Int)] W' fun e w' => e = .returned (.bool (stepB (n : Int) x.f0 x.f1 x.f2)) ∧ Below W'.heap.size W' w' :=
    fun W' => (isStep_sat (k := x.f0) (xa := x.f1) (xb := x.f2) (Sat.start W') (by omega) (by omega)).mono fun e w' h => by
      cases e with
      | returned r => exact ⟨congrArg _ h.1, h.2.below⟩
      | _ => exact h.elim
  have hc' : (W.alloc (.cells #[.int .i64 x.f0, .int .i64 x.f1, .int .i64 x.f2] 98)).cell? ⟨B, 0, none⟩ = some (.slice A n c) := Lib.cell?_alloc_some _ hc
  obtain ⟨r, hr⟩ : ∃ r, r = stepB (n : Int) x.f0 x.f1 x.f2 := ⟨_, rfl⟩
  rw [← hr] at hs
  go_enter Try.func92, Try.ntmps92
  go_wp2_with (go_at_call 93; refine (hs _).mono ?_; rintro e w' ⟨rfl, hw'⟩)
  go_ret
  refine ⟨by rw [← hr]; rfl, ((Below.refl _ W).alloc (Nat.le_refl _) _).trans (hw'.mono (by simp))⟩
theorem contains_step (w0 : World) (s0 : Sl) (p : S98 → Bool) (l0 : List S98) (cap : Value) (hbig : l0.length ≤ 1000000) (hrd : ∀ w', Below w0.heap.size w0 w' → RdL Try.prog 98 3 (fun x => .agg (encT x).toArray) w' s0 l0)
    (hp : ∀ w', Below w0.heap.size w0 w' → ∀ x ∈ l0, Calls Try.prog 92 #[.agg (encT x).toArray, cap] w' (Ret fun r w'' => r = .bool (p x) ∧ Below w'.heap.size w' w'')) :
    Calls Try.prog 91 #[.slice s0.A s0.n s0.c, .func (.func 92) #[] #[cap]] w0 fun e w' => e = .returned (.bool (l0.any p)) ∧ Below w0.heap.size w0 w' := by
  have hi : Calls Try.prog 104 #[.slice s0.A s0.n s0.c, .func (.func 92) #[] #[cap]] w0 fun e w' => ∃ q : Int, e = .returned (.int .i64 q) ∧ decide (q ≥ 0) = l0.any p ∧ Below w0.heap.size w0 w' :=
    (indexStep w0 s0 _ p l0 cap hbig hrd hp).mono fun e w' hp => by
      cases e with
      | returned r => obtain ⟨⟨q, rfl, h⟩, hb⟩ := hp; exact ⟨q, rfl, h, hb⟩
      | panicked c => exact hp.elim
      | outgrown => exact hp.elim
  clear hrd hp
  generalize l0.any p = r at hi ⊢
  go_enter Try.func91, Try.ntmps91
  go_wp2_with (go_at_call 104; refine hi.mono ?_; rintro e w' ⟨q, rfl, hq, hb⟩)
  go_ret
  exact ⟨by rw [← hq]; rfl, hb⟩
theorem rdl_step {w : World} {s : Sl} {l : List S98} (hn : s.n = l.length) (hc : l.length ≤ s.c) (hr : Kd.C k98 w s.A l.length l) : RdL Try.prog 98 3 (fun x => .agg (encT x).toArray) w s l := by
 refine ⟨hn, hc, fun j x hj => ?_⟩
 obtain ⟨_, _, h3⟩ := hr
 have hjl : j < l.length := (List.getElem?_eq_some_iff.1 hj).1
 obtain ⟨ad, hA, hcells⟩ := h3 (by omega)
 have key : ∀ (j : Nat) (x : S98), l[j]? = some x → ∀ i u, (encT x)[i]? = some u → w.cell? (ad.add (j * 3 + i)) = some u := fun j x hj i u hu => by
  obtain ⟨cs, _, hk, hu'⟩ := hcells j x hj
  rw [k98_open hk] at hu'
  exact hu' i u hu
 have h0 := key 0 _ (List.getElem?_eq_getElem (by omega)) 0 _ rfl
 have hspot := spot_of_cell h0
 obtain ⟨b, off, sp⟩ := ad
 subst hspot
 have e1 : bk s = b := by simp [bk, hA]
 have e2 : of_ s = off := by simp [of_, hA]
 rw [e1, e2]
 refine ⟨hA, run_loadVar_agg (vs := encT x) (by kernel_rfl) fun i u hu => ?_⟩
 have := key j x hj i u hu
 rw [add0] at this ⊢
 rw [Nat.add_assoc]
 exact this
theorem outer_at (W : World) (B : Nat) (A : Option Addr) (n c : Nat) (hn : 1 ≤ n ∧ n ≤ 6) (hB : B < W.heap.size) (hcell : W.cell? ⟨B, 0, none⟩ = some (.slice A n c)) (s1 : Sl) (l : List S98) (h1 : s1.n = l.length) (h2 : l.length ≤ s1.c) (hr : Kd.C k98 W s1.A l.length l) :
    Calls Try.prog 90 #[.slice s1.A s1.n s1.c, .pointer (some ⟨B, 0, none⟩)] W fun e w' => e = .returned (.bool (!(bodyB (n : Int) l))) ∧ Below W.heap.size W w' := by
  have hb : ¬ l.length > 8 → Calls Try.prog 91 #[.slice s1.A s1.n s1.c, .func (.func 92) #[] #[.pointer (some ⟨B, 0, none⟩)]] W fun e w' => e = .returned (.bool (l.any fun s => !(stepB (n : Int) s.f0 s.f1 s.f2))) ∧ Below W.heap.size W w' := fun h8 =>
    contains_step W s1 _ l _ (by omega) (fun w' hb => rdl_step h1 h2 (Kd.C_below hr hb)) (fun w' hb x _ => inner_at W B A n c hn hB hcell w' hb x)
  have hbody : (!(bodyB (n : Int) l)) = if l.length > 8 then true else (l.any fun s => !(stepB (n : Int) s.f0 s.f1 s.f2)) := by
    unfold bodyB
    by_cases h8 : l.length > 8
    · rw [if_pos h8, decide_eq_false (by omega)]; rfl
    · rw [if_neg h8, decide_eq_true (by omega), Bool.true_and, List.all_eq_not_any_not, Bool.not_not]
  rw [hbody]
  obtain ⟨A1, n1, c1⟩ := s1
  simp only at h1 h2 hb ⊢
  subst h1
  clear hr hbody hcell
  generalize (l.any fun s => !(stepB (n : Int) s.f0 s.f1 s.f2)) = r at hb ⊢
  generalize l.length = m at *
  go_enter Try.func90, Try.ntmps90
  by_cases h8 : m > 8
  · go_wp2
    all_goals (go_ret; first | exact ⟨rfl, Below.refl _ _⟩ | (exfalso; omega))
  · have hb' := hb h8
    go_wp2_with (go_at_call 91; refine hb'.mono ?_; rintro e w' ⟨rfl, hw'⟩)
    all_goals (go_ret; refine ⟨?_, hw'⟩; have h9 : decide (8 < (m : Int)) = false := decide_eq_false (by omega); simp [h9])
theorem contains_body (w0 : World) (s0 : Sl) (enc : Nat → Value) (p : Nat → Bool) (l0 : List Nat) (cap : Value) (hbig : l0.length ≤ 1000000) (hrd : ∀ w', Below w0.heap.size w0 w' → RdL Try.prog 95 1 enc w' s0 l0)
    (hp : ∀ w', Below w0.heap.size w0 w' → ∀ x ∈ l0, Calls Try.prog 90 #[enc x, cap] w' (Ret fun r w'' => r = .bool (p x) ∧ Below w'.heap.size w' w'')) :
    Calls Try.prog 89 #[.slice s0.A s0.n s0.c, .func (.func 90) #[] #[cap]] w0 fun e w' => e = .returned (.bool (l0.any p)) ∧ Below w0.heap.size w0 w' := by
  have hi : Calls Try.prog 103 #[.slice s0.A s0.n s0.c, .func (.func 90) #[] #[cap]] w0 fun e w' => ∃ q : Int, e = .returned (.int .i64 q) ∧ decide (q ≥ 0) = l0.any p ∧ Below w0.heap.size w0 w' :=
    (indexBody w0 s0 _ p l0 cap hbig hrd hp).mono fun e w' hp => by
      cases e with
      | returned r => obtain ⟨⟨q, rfl, h⟩, hb⟩ := hp; exact ⟨q, rfl, h, hb⟩
      | panicked c => exact hp.elim
      | outgrown => exact hp.elim
  clear hrd hp
  generalize l0.any p = r at hi ⊢
  go_enter Try.func89, Try.ntmps89
  go_wp2_with (go_at_call 103; refine hi.mono ?_; rintro e w' ⟨q, rfl, hq, hb⟩)
  go_ret
  exact ⟨by rw [← hq]; rfl, hb⟩
theorem bodies_cells {w : World} {s : Sl} {L : List (List S98)} (hr : Kd.C (Kd.slice 98 k98) w s.A L.length L) (j : Nat) (b : List S98) (hj : L[j]? = some b) :
  s.A = some ⟨bk s, of_ s, none⟩ ∧ ∃ A' c', w.cell? ⟨bk s, of_ s + j, none⟩ = some (.slice A' b.length c') ∧ b.length ≤ c' ∧ Kd.C k98 w A' b.length b := by
 obtain ⟨_, _, h3⟩ := hr
 have hjl : j < L.length := (List.getElem?_eq_some_iff.1 hj).1
 obtain ⟨ad, hA, hcells⟩ := h3 (by omega)
 have key : ∀ (j : Nat) (b : List S98), L[j]? = some b → ∃ A' c', w.cell? (ad.add j) = some (.slice A' b.length c') ∧ b.length ≤ c' ∧ Kd.C k98 w A' b.length b := fun j b hj => by
  obtain ⟨cs, _, ⟨A', c', rfl, h4, h5⟩, hu⟩ := hcells j b hj
  have := hu 0 _ rfl
  exact ⟨A', c', by simpa [Kd.slice] using this, h4, h5⟩
 obtain ⟨A0, c0, h0, _⟩ := key 0 _ (List.getElem?_eq_getElem (by omega))
 have hspot := spot_of_cell h0
 obtain ⟨bb, off, sp⟩ := ad
 subst hspot
 have e1 : bk s = bb := by simp [bk, hA]
 have e2 : of_ s = off := by simp [of_, hA]
 rw [e1, e2]
 obtain ⟨A', c', h6, h7, h8⟩ := key j b hj
 rw [add0] at h6
 exact ⟨hA, A', c', h6, h7, h8⟩
def bodyV (w : World) (s : Sl) (j : Nat) : Value := (w.cell? ⟨bk s, of_ s + j, none⟩).getD undef
theorem impl_IsProgram.calls (A0_0 : Option Addr) (c0_0 : Nat) (l0_0 : List (List (S98))) (r : Bool) (w : World) (hr0_0 : Kd.C (Kd.slice 98 k98) w A0_0 l0_0.length l0_0) (hc0_0 : l0_0.length ≤ c0_0) (h : impl_IsProgram.f l0_0 = some r) :
    Calls Try.prog 75 #[.agg #[.slice A0_0 l0_0.length c0_0]] w fun e w' => e = .returned (.bool r) ∧ Below w.heap.size w w' := by
  have hr : programB l0_0 = r := by simpa [impl_IsProgram.f] using h
  have hb1 : Below w.heap.size w (w.alloc (.cells #[.slice A0_0 l0_0.length c0_0] 40)) := (Below.refl _ w).alloc (Nat.le_refl _) _
  have hcell1 : (w.alloc (.cells #[.slice A0_0 l0_0.length c0_0] 40)).cell? ⟨w.heap.size, 0, none⟩ = some (.slice A0_0 l0_0.length c0_0) := by simp
  have hcon : (1 ≤ l0_0.length ∧ l0_0.length ≤ 6) → ∀ W, Below (w.heap.size + 1) (w.alloc (.cells #[.slice A0_0 l0_0.length c0_0] 40)) W →
      Calls Try.prog 89 #[.slice A0_0 l0_0.length c0_0, .func (.func 90) #[] #[.pointer (some ⟨w.heap.size, 0, none⟩)]] W fun e w' => e = .returned (.bool !(l0_0.all (bodyB (l0_0.length : Int)))) ∧ Below W.heap.size W w' := by
    intro hn W hW;have hsz : w.heap.size + 1 ≤ W.heap.size := by have := hW.size; simpa using this
    have hwW : Below w.heap.size w W := hb1.trans (hW.mono (by omega));have hC : Kd.C (Kd.slice 98 k98) W A0_0 l0_0.length l0_0 := Kd.C_below hr0_0 hwW;have hcellW : W.cell? ⟨w.heap.size, 0, none⟩ = some (.slice A0_0 l0_0.length c0_0) := (hW.cell (p := ⟨w.heap.size, 0, none⟩) (by simp)).trans hcell1
    have hany : ((List.range l0_0.length).any fun j => !(bodyB (l0_0.length : Int) (l0_0.getD j []))) = !(l0_0.all (bodyB (l0_0.length : Int))) := by
      rw [List.all_eq_not_any_not, Bool.not_not]
      generalize (l0_0.length : Int) = q
      apply Bool.eq_iff_iff.2
      simp only [List.any_eq_true, List.mem_range]
      constructor
      · rintro ⟨j, hj, hp⟩
        exact ⟨l0_0[j], List.getElem_mem hj, by simpa [List.getD, hj] using hp⟩
      · rintro ⟨b, hb, hp⟩
        obtain ⟨j, hj, rfl⟩ := List.getElem_of_mem hb;exact ⟨j, hj, by simpa [List.getD, hj] using hp⟩
    have hb : ∀ (j : Nat) (hj : j < l0_0.length), ∃ A' c', W.cell? ⟨bk ⟨A0_0, l0_0.length, c0_0⟩, of_ ⟨A0_0, l0_0.length, c0_0⟩ + j, none⟩ = some (.slice A' l0_0[j].length c') ∧ l0_0[j].length ≤ c' ∧ Kd.C k98 W A' l0_0[j].length l0_0[j] := fun j hj => (bodies_cells (s := ⟨A0_0, l0_0.length, c0_0⟩) hC j _ (List.getElem?_eq_getElem hj)).2;rw [← hany];refine contains_body W ⟨A0_0, l0_0.length, c0_0⟩ (bodyV W ⟨A0_0, l0_0.length, c0_0⟩) _ (List.range l0_0.length) _ (by simp; omega) (fun w' hw' => ⟨by simp, by simpa using hc0_0, fun j x hj => ?_⟩) (fun w' hw' j hj => ?_)
    · obtain ⟨hjl, rfl⟩ : j < l0_0.length ∧ j = x := by
        obtain ⟨h1, h2⟩ := List.getElem?_eq_some_iff.1 hj;exact ⟨by simpa using h1, by simpa using h2⟩
      obtain ⟨A', c', h6, _⟩ := hb j hjl;refine ⟨(bodies_cells (s := ⟨A0_0, l0_0.length, c0_0⟩) hC j _ (List.getElem?_eq_getElem hjl)).1, ?_⟩;have h7 := pw_cell_below hw' h6;rw [Nat.mul_one];have := run_loadVar_cell (P := Try.prog) (w := w') (t := 95) (by kernel_rfl) h7;rw [this]
      simp [bodyV, h6]
    · have hjl : j < l0_0.length := List.mem_range.1 hj
      obtain ⟨A', c', h6, h7, h8⟩ := hb j hjl;have hv : bodyV W ⟨A0_0, l0_0.length, c0_0⟩ j = .slice A' l0_0[j].length c' := by simp [bodyV, h6]
      have hd : l0_0.getD j [] = l0_0[j] := by simp [List.getD, hjl]
      rw [hv, hd];refine (outer_at w' w.heap.size A0_0 l0_0.length c0_0 hn (by have := hw'.size; omega) (pw_cell_below hw' hcellW) ⟨A', l0_0[j].length, c'⟩ l0_0[j] rfl h7 (Kd.C_below h8 hw')).mono ?_
      rintro e w'' ⟨rfl, hb'⟩
      exact ⟨rfl, hb'⟩
  subst hr
  unfold programB
  have hin : ∀ W, Calls Try.prog 67 #[.int .i64 (l0_0.length : Int), .int .i64 1, .int .i64 6] W fun e w' => e = .returned (.bool (decide (1 ≤ l0_0.length) && decide (l0_0.length ≤ 6))) ∧ Drawn0 W w' := fun W => impl_in.calls _ _ _ _ W (by rw [in_eq]; congr 2 <;> (apply decide_eq_decide.2; omega))
  generalize hB : (l0_0.all (bodyB (l0_0.length : Int))) = rb at hcon ⊢
  clear hr0_0 h hcell1
  generalize l0_0.length = m at *
  by_cases hn : 1 ≤ m ∧ m ≤ 6
  · have hcon' := hcon hn
    rw [decide_eq_true hn.1, decide_eq_true hn.2] at hin;rw [decide_eq_true hn.1, decide_eq_true hn.2]
    go_enter Try.func75, Try.ntmps75
    go_wp2_with (first | (go_at_call 67; refine (hin _).mono ?_; rintro e w' ⟨rfl, ⟨q, rfl⟩⟩) | (go_at_call 89; refine (hcon' _ ?hw).mono ?_; rotate_left; rintro e w' ⟨rfl, hw'⟩))
    case hw => exact ⟨rfl, rfl, rfl, Nat.le_refl _, fun _ _ => rfl⟩
    go_ret
    exact ⟨by simp, Below.trans (B := w.heap.size) (b := (w.alloc (.cells #[.slice A0_0 m c0_0] 40)).drewN q) (hb1.trans ⟨rfl, rfl, rfl, Nat.le_refl _, fun _ _ => rfl⟩) (hw'.mono (show w.heap.size ≤ _ by simp))⟩
  · have hf : (decide (1 ≤ m) && decide (m ≤ 6)) = false := by by_cases h1 : 1 ≤ m <;> simp [h1] ; omega
    rw [hf] at hin;rw [hf]
    go_enter Try.func75, Try.ntmps75
    go_wp2_with (go_at_call 67; refine (hin _).mono ?_; rintro e w' ⟨rfl, ⟨q, rfl⟩⟩)
    all_goals (go_ret; exact ⟨rfl, hb1.trans ⟨rfl, rfl, rfl, Nat.le_refl _, fun _ _ => rfl⟩⟩)
end Go.Proofs.Ytcbijhgepdedpaa.G
namespace Go.Proofs.Ytcbijhgepdedpaa.G
open Go.RowKit Go.Proofs.YtcbijhgepdedpaaW.PrintWords Go.Proofs.YtcbijhgepdedpaaW.PrintLast Go.Proofs.YtcbijhgepdedpaaW.PrintMore
def laws_markStepS.l0 : Nat → List (S98) → Int → Int → Option (Int × (List (S98)))
 | 0, _, _, _ => none
 | k + 1, x0, x1, x5 => if x5 < (x0.length : Int) then (if 0 ≤ x5 then ((some (x0.set (x5 : Int).toNat (⟨x1, (rd_T98 x0 x5).f1, (rd_T98 x0 x5).f2⟩ : S98) : List (S98))).bind fun y265 => ((some (y265.set (x5 : Int).toNat (⟨(rd_T98 y265 x5).f0, wrap64 (x1 + 1), (rd_T98 y265 x5).f2⟩ : S98) : List (S98))).bind fun y266 => (laws_markStepS.l0 k (y266.set (x5 : Int).toNat (⟨(rd_T98 y266 x5).f0, (rd_T98 y266 x5).f1, wrap64 ((wrap64 (x1 + 1)) + 1)⟩ : S98)) (wrap64 ((wrap64 ((wrap64 (x1 + 1)) + 1)) + 1)) (wrap64 (x5 + 1))))) else (none)) else (some (x1, x0))
def laws_markStepS.f (k : Nat) (l0 : List (S98)) (a1 : Int) : Option (Int × (List (S98))) := laws_markStepS.l0 k l0 a1 0
theorem laws_markStepS.calls (k : Nat) (P0_ : Nat → Prop) (u9000_ : Value) (l0 : List (S98)) (a1 : Int) (r1 : Int) (r2 : List (S98)) (w0 w : World) (hB : Below w0.heap.size w0 w) (ho0 : Kd.R k98 98 w w0.heap.size P0_ u9000_ l0) (h : laws_markStepS.f k l0 a1 = some (r1, r2)) :
    Calls Try.prog 57 #[u9000_, .int .i64 a1] w fun e w' => e = .returned (.int .i64 r1) ∧ Kd.R k98 98 w' w0.heap.size (fun k_ => (P0_ k_ ∨ w.heap.size ≤ k_)) u9000_ r2 ∧ Below w0.heap.size w0 w' ∧ Kept w w' (fun k_ => P0_ k_) := by
  have HO0 := Aside0.mk (show Kd.R k98 98 w w0.heap.size (fun k_ => (P0_ k_ ∨ w.heap.size ≤ k_)) u9000_ l0 from Kd.R_mono ho0 (fun k_ hk => (.inl hk)))
  have HK := Aside0.mk (Kept.refl w (fun k_ => P0_ k_))
  have HW0 := Aside0.mk hB.size
  have HB := Aside0.mk hB
  clear hB
  have H : (laws_markStepS.l0 k l0 a1 0) = some (r1, r2) := h
  clear h
  have H' := Aside0.mk H
  clear H
  go_enter Try.func57, Try.ntmps57
  go_wp2
  go_loopg [1, 5] k (fun kq v1 v5 w' => ∃ (x0_1 : List (S98)) (x1_1 : Int) (x5_1 : Int), v1 = .int .i64 x1_1 ∧ v5 = .int .i64 x5_1 ∧ Aside0 (laws_markStepS.l0 kq x0_1 x1_1 x5_1 = some (r1, r2)) ∧ Aside0 (kq ≤ k) ∧ Aside0 (Kd.R k98 98 w' w0.heap.size (fun k_ => (P0_ k_ ∨ w.heap.size ≤ k_)) u9000_ x0_1) ∧ Aside0 (Kept w w' (fun k_ => P0_ k_)) ∧ Aside0 (Below w0.heap.size w0 w'))
  case atStart => exact ⟨(l0), (a1), (0), (by first | rfl | (simp; done) | (simp [*]; done)), (by first | rfl | (simp; done) | (simp [*]; done)), H', ⟨Nat.le_refl _⟩, ⟨by (with_reducible repeat (first | apply Kd.R_alloc | apply Kd.R_drewN | apply Kd.R_drew)); exact HO0.out⟩, ⟨by repeat (first | (with_reducible first | exact HK.out | apply Kept.alloc | apply Kept.drewN | apply Kept.drew) | exact HK.out)⟩, ⟨by repeat (first | (with_reducible first | exact HB.out | apply below_alloc | apply xV | apply below_drew1) | exact HB.out)⟩⟩
  case round =>
    clear H'
    try clear p2
    obtain ⟨x0_1, x1_1, x5_1, rfl, rfl, HA, HK1, HO_0, HK, HB⟩ := hrel;cases gk with
    | zero => exact absurd HA.out (by simp [laws_markStepS.l0])
    | succ k1 =>
      have H := HA.out;clear HA;simp only [laws_markStepS.l0] at H
      by_cases c3 : x5_1 < (x0_1.length : Int)
      · rw [if_pos c3] at H
        have c3b0 : decide (x5_1 < (x0_1.length : Int)) = true := decide_eq_true c3;clear c3
        by_cases c4 : 0 ≤ x5_1
        · rw [if_pos c4] at H
          have c4b0 : decide (0 ≤ x5_1) = true := decide_eq_true c4;clear c4;obtain ⟨y265, hy265⟩ : ∃ y_ : List (S98), y_ = (x0_1.set (x5_1 : Int).toNat (⟨x1_1, (rd_T98 x0_1 x5_1).f1, (rd_T98 x0_1 x5_1).f2⟩ : S98)) := ⟨_, rfl⟩;replace H : ((some (y265.set (x5_1 : Int).toNat (⟨(rd_T98 y265 x5_1).f0, wrap64 (x1_1 + 1), (rd_T98 y265 x5_1).f2⟩ : S98) : List (S98))).bind fun y266 => (laws_markStepS.l0 k1 (y266.set (x5_1 : Int).toNat (⟨(rd_T98 y266 x5_1).f0, (rd_T98 y266 x5_1).f1, wrap64 ((wrap64 (x1_1 + 1)) + 1)⟩ : S98)) (wrap64 ((wrap64 ((wrap64 (x1_1 + 1)) + 1)) + 1)) (wrap64 (x5_1 + 1)))) = some (r1, r2) := by first | (rw [hy265]; with_reducible exact H) | (have H2_ := (Option.bind_some _ _).symm.trans H; rw [hy265]; with_reducible exact H2_) | (have H2_ := (Option.bind_some _ _).symm.trans H; with_reducible exact H2_) | with_reducible exact H | (rw [hy265]; exact H) | exact H
          have Ny265 := Aside0.mk hy265;clear hy265;obtain ⟨y266, hy266⟩ : ∃ y_ : List (S98), y_ = (y265.set (x5_1 : Int).toNat (⟨(rd_T98 y265 x5_1).f0, wrap64 (x1_1 + 1), (rd_T98 y265 x5_1).f2⟩ : S98)) := ⟨_, rfl⟩;replace H : (laws_markStepS.l0 k1 (y266.set (x5_1 : Int).toNat (⟨(rd_T98 y266 x5_1).f0, (rd_T98 y266 x5_1).f1, wrap64 ((wrap64 (x1_1 + 1)) + 1)⟩ : S98)) (wrap64 ((wrap64 ((wrap64 (x1_1 + 1)) + 1)) + 1)) (wrap64 (x5_1 + 1))) = some (r1, r2) := by first | (rw [hy266]; with_reducible exact H) | (have H2_ := (Option.bind_some _ _).symm.trans H; rw [hy266]; with_reducible exact H2_) | (have H2_ := (Option.bind_some _ _).symm.trans H; with_reducible exact H2_) | with_reducible exact H | (rw [hy266]; exact H) | exact H
          have Ny266 := Aside0.mk hy266;clear hy266;obtain ⟨y267, hy267⟩ : ∃ y_ : List (S98), y_ = (y266.set (x5_1 : Int).toNat (⟨(rd_T98 y266 x5_1).f0, (rd_T98 y266 x5_1).f1, wrap64 ((wrap64 (x1_1 + 1)) + 1)⟩ : S98)) := ⟨_, rfl⟩;replace H : (laws_markStepS.l0 k1 y267 (wrap64 ((wrap64 ((wrap64 (x1_1 + 1)) + 1)) + 1)) (wrap64 (x5_1 + 1))) = some (r1, r2) := by first | (rw [hy267]; with_reducible exact H) | (have H2_ := (Option.bind_some _ _).symm.trans H; rw [hy267]; with_reducible exact H2_) | (have H2_ := (Option.bind_some _ _).symm.trans H; with_reducible exact H2_) | with_reducible exact H | (rw [hy267]; exact H) | exact H
          have Ny267 := Aside0.mk hy267;clear hy267;have H' := Aside0.mk H;clear H;obtain ⟨Ao8, co8, eo8⟩ := Kd.R_slice HO_0.out;subst eo8;have p5 : 0 ≤ (x5_1 : Int) := of_decide_eq_true (by first | (with_reducible assumption) | assumption);have q5 : (x5_1 : Int) < ((x0_1.length : Int) : Int) := of_decide_eq_true (by first | (with_reducible assumption) | assumption);obtain ⟨go5, co5, eo5, gb5, gl5, cl5, HG5⟩ := Kd.R_form HO_0.out (by omega)
          (first | cases eo5 | (injection eo5 with ea_ en_ ec_; (first | subst ea_ | (injection ea_ with ea_; subst ea_)); subst ec_; clear en_))
          have GB5 := Aside0.mk gb5;have GG5 := Aside0.mk HG5;clear gb5 gl5 HG5;have HMgo5 := Aside0.mk (show (P0_ go5 ∨ w.heap.size ≤ go5) from (HO_0.out.1 _ rfl));obtain ⟨ce5, hcl5, hM5, hcc5, hfr5⟩ := Kd.R_elem HO_0.out z98 (x5_1 : Int) p5 q5;obtain rfl := k98_openM hM5;have hx5_0 : wr.cell? ⟨go5, (x5_1 : Int).toNat * 3, none⟩ = some (.int .i64 ((rd_T98 x0_1 x5_1).f0)) := hcc5 0 _ rfl;have hx5_1 : wr.cell? ⟨go5, (x5_1 : Int).toNat * 3 + 1, none⟩ = some (.int .i64 ((rd_T98 x0_1 x5_1).f1)) := hcc5 1 _ rfl;have hx5_2 : wr.cell? ⟨go5, (x5_1 : Int).toNat * 3 + 2, none⟩ = some (.int .i64 ((rd_T98 x0_1 x5_1).f2)) := hcc5 2 _ rfl;have hf5_0 : wr.frozen? ⟨go5, (x5_1 : Int).toNat * 3, none⟩ = false := hfr5 0;have hf5_1 : wr.frozen? ⟨go5, (x5_1 : Int).toNat * 3 + 1, none⟩ = false := hfr5 1;have hf5_2 : wr.frozen? ⟨go5, (x5_1 : Int).toNat * 3 + 2, none⟩ = false := hfr5 2;clear hcl5 hcc5 hfr5 hM5;replace p5 := eq_true p5;replace q5 := eq_true q5;have HX9 := Aside0.mk (show Kd.R k98 98 wr w0.heap.size (fun k_ => (P0_ k_ ∨ w.heap.size ≤ k_)) (.slice (some ⟨go5, 0, none⟩) x0_1.length co8) x0_1 from (by (with_reducible repeat (first | apply Kd.R_alloc | apply Kd.R_drewN | apply Kd.R_drew)); exact HO_0.out));obtain ⟨ce9, hcl9, hM9, hcc9, hfr9⟩ := Kd.R_elem HX9.out z98 (x5_1 : Int) (of_decide_eq_true (by first | (with_reducible assumption) | assumption)) (by have h_ : (x5_1 : Int) < ((x0_1.length : Int) : Int) := of_decide_eq_true (by first | (with_reducible assumption) | assumption); first | exact h_ | (have e_ := (Kd.R_reads' HO_0.out).1; omega) | simpa using h_);obtain rfl := k98_openM hM9;have HP9 := Kd.R_seg HX9.out (x5_1 : Int) (of_decide_eq_true (by first | (with_reducible assumption) | assumption)) (by have h_ : (x5_1 : Int) < ((x0_1.length : Int) : Int) := of_decide_eq_true (by first | (with_reducible assumption) | assumption); first | exact h_ | (have e_ := (Kd.R_reads' HO_0.out).1; omega) | simpa using h_) (seg := [.int .i64 x1_1]) (j := 0) hcl9 hcc9 (show 1 ≤ 3 from by decide) (x' := (⟨x1_1, (rd_T98 x0_1 x5_1).f1, (rd_T98 x0_1 x5_1).f2⟩ : S98)) (k98_mkM _ _ _ (⟨x1_1, (rd_T98 x0_1 x5_1).f1, (rd_T98 x0_1 x5_1).f2⟩ : S98) ) (fun _ hk => hk);have hx9_0 := hcc9 0 _ rfl
          (try simp only [show (k98).sz = 3 from rfl, Nat.mul_one, Nat.add_zero] at hx9_0)
          have hf9_0 := hfr9 0
          (try simp only [show (k98).sz = 3 from rfl, Nat.mul_one, Nat.add_zero] at hf9_0)
          clear hcl9 hcc9 hfr9 hM9
          go_wp2_with (first | ((with_reducible refine gate_store (t := 3) (p := 16) rfl ?_); refine store_event (t := 3) (p := 16) (v := ?vo_w10) (w1 := (wr.setCell ⟨go5, (x5_1 : Int).toNat * 3, none⟩ (.int .i64 x1_1))) ?hg ?ho ?hn ?hr ?_; (case ho => rfl); (case hg => rfl); (case hn => rfl); (case hr => first | (go_simp; done) | (go_simp; rfl)); intro w10 hw; have hg : wr.grownBy w10 (some go5) := (by rw [hw]; exact HP9.2); have hp_ : Kd.R k98 98 w10 w0.heap.size (fun k_ => (P0_ k_ ∨ w.heap.size ≤ k_)) (.slice (some ⟨go5, 0, none⟩) x0_1.length co8) y265 := (by rw [hw, Ny265.out]; exact HP9.1); clear HP9; have n0_ := Aside0.mk (hp_); have n1_ := Aside0.mk ((by rw [hw]; exact below_set (HB.out) GB5.out : Below w0.heap.size w0 w10)); have n2_ := Aside0.mk (Kept.of_grown (S := (fun k_ => P0_ k_)) hg (by repeat (first | (with_reducible first | exact HK.out | apply Kept.alloc | apply Kept.drewN | apply Kept.drew) | exact HK.out)) (fun k_ e_ => (HO_0.out.1 k_ e_))); clear HO_0; clear HB; clear HK; have HO_0 := n0_; have HB := n1_; have HK := n2_; clear n0_ n1_ n2_; clear hg hw hp_; have p6 : 0 ≤ (x5_1 : Int) := of_decide_eq_true (by first | (with_reducible assumption) | assumption); have q6 : (x5_1 : Int) < ((x0_1.length : Int) : Int) := of_decide_eq_true (by first | (with_reducible assumption) | assumption); obtain ⟨ce6, hcl6, hM6, hcc6, hfr6⟩ := Kd.R_elem HO_0.out z98 (x5_1 : Int) p6 q6; obtain rfl := k98_openM hM6; have hx6_0 : w10.cell? ⟨go5, (x5_1 : Int).toNat * 3, none⟩ = some (.int .i64 ((rd_T98 y265 x5_1).f0)) := hcc6 0 _ rfl; have hx6_1 : w10.cell? ⟨go5, (x5_1 : Int).toNat * 3 + 1, none⟩ = some (.int .i64 ((rd_T98 y265 x5_1).f1)) := hcc6 1 _ rfl; have hx6_2 : w10.cell? ⟨go5, (x5_1 : Int).toNat * 3 + 2, none⟩ = some (.int .i64 ((rd_T98 y265 x5_1).f2)) := hcc6 2 _ rfl; have hf6_0 : w10.frozen? ⟨go5, (x5_1 : Int).toNat * 3, none⟩ = false := hfr6 0; have hf6_1 : w10.frozen? ⟨go5, (x5_1 : Int).toNat * 3 + 1, none⟩ = false := hfr6 1; have hf6_2 : w10.frozen? ⟨go5, (x5_1 : Int).toNat * 3 + 2, none⟩ = false := hfr6 2; clear hcl6 hcc6 hfr6 hM6; replace p6 := eq_true p6; replace q6 := eq_true q6; have HX11 := Aside0.mk (show Kd.R k98 98 w10 w0.heap.size (fun k_ => (P0_ k_ ∨ w.heap.size ≤ k_)) (.slice (some ⟨go5, 0, none⟩) x0_1.length co8) y265 from (by (with_reducible repeat (first | apply Kd.R_alloc | apply Kd.R_drewN | apply Kd.R_drew)); exact HO_0.out)); obtain ⟨ce11, hcl11, hM11, hcc11, hfr11⟩ := Kd.R_elem HX11.out z98 (x5_1 : Int) (of_decide_eq_true (by first | (with_reducible assumption) | assumption)) (by have h_ : (x5_1 : Int) < ((x0_1.length : Int) : Int) := of_decide_eq_true (by first | (with_reducible assumption) | assumption); first | exact h_ | (have e_ := (Kd.R_reads' HO_0.out).1; omega) | simpa using h_); obtain rfl := k98_openM hM11; have HP11 := Kd.R_seg HX11.out (x5_1 : Int) (of_decide_eq_true (by first | (with_reducible assumption) | assumption)) (by have h_ : (x5_1 : Int) < ((x0_1.length : Int) : Int) := of_decide_eq_true (by first | (with_reducible assumption) | assumption); first | exact h_ | (have e_ := (Kd.R_reads' HO_0.out).1; omega) | simpa using h_) (seg := [.int .i64 (wrap64 (x1_1 + 1))]) (j := 1) hcl11 hcc11 (show 2 ≤ 3 from by decide) (x' := (⟨(rd_T98 y265 x5_1).f0, wrap64 (x1_1 + 1), (rd_T98 y265 x5_1).f2⟩ : S98)) (k98_mkM _ _ _ (⟨(rd_T98 y265 x5_1).f0, wrap64 (x1_1 + 1), (rd_T98 y265 x5_1).f2⟩ : S98) ) (fun _ hk => hk); have hx11_1 := hcc11 1 _ rfl; (try simp only [show (k98).sz = 3 from rfl, Nat.mul_one, Nat.add_zero] at hx11_1); have hf11_1 := hfr11 1; (try simp only [show (k98).sz = 3 from rfl, Nat.mul_one, Nat.add_zero] at hf11_1); clear hcl11 hcc11 hfr11 hM11) | ((with_reducible refine gate_store (t := 3) (p := 23) rfl ?_); refine store_event (t := 3) (p := 23) (v := ?vo_w12) (w1 := (w10.setCell ⟨go5, (x5_1 : Int).toNat * 3 + 1, none⟩ (.int .i64 (wrap64 (x1_1 + 1))))) ?hg ?ho ?hn ?hr ?_; (case ho => rfl); (case hg => rfl); (case hn => rfl); (case hr => first | (go_simp; done) | (go_simp; rfl)); intro w12 hw; have hg : w10.grownBy w12 (some go5) := (by rw [hw]; exact HP11.2); have hp_ : Kd.R k98 98 w12 w0.heap.size (fun k_ => (P0_ k_ ∨ w.heap.size ≤ k_)) (.slice (some ⟨go5, 0, none⟩) x0_1.length co8) y266 := (by rw [hw, Ny266.out]; exact HP11.1); clear HP11; have n0_ := Aside0.mk (hp_); have n1_ := Aside0.mk ((by rw [hw]; exact below_set (HB.out) GB5.out : Below w0.heap.size w0 w12)); have n2_ := Aside0.mk (Kept.of_grown (S := (fun k_ => P0_ k_)) hg (by repeat (first | (with_reducible first | exact HK.out | apply Kept.alloc | apply Kept.drewN | apply Kept.drew) | exact HK.out)) (fun k_ e_ => (HO_0.out.1 k_ e_))); clear HO_0; clear HB; clear HK; have HO_0 := n0_; have HB := n1_; have HK := n2_; clear n0_ n1_ n2_; clear hg hw hp_; have p7 : 0 ≤ (x5_1 : Int) := of_decide_eq_true (by first | (with_reducible assumption) | assumption); have q7 : (x5_1 : Int) < ((x0_1.length : Int) : Int) := of_decide_eq_true (by first | (with_reducible assumption) | assumption); obtain ⟨ce7, hcl7, hM7, hcc7, hfr7⟩ := Kd.R_elem HO_0.out z98 (x5_1 : Int) p7 q7; obtain rfl := k98_openM hM7; have hx7_0 : w12.cell? ⟨go5, (x5_1 : Int).toNat * 3, none⟩ = some (.int .i64 ((rd_T98 y266 x5_1).f0)) := hcc7 0 _ rfl; have hx7_1 : w12.cell? ⟨go5, (x5_1 : Int).toNat * 3 + 1, none⟩ = some (.int .i64 ((rd_T98 y266 x5_1).f1)) := hcc7 1 _ rfl; have hx7_2 : w12.cell? ⟨go5, (x5_1 : Int).toNat * 3 + 2, none⟩ = some (.int .i64 ((rd_T98 y266 x5_1).f2)) := hcc7 2 _ rfl; have hf7_0 : w12.frozen? ⟨go5, (x5_1 : Int).toNat * 3, none⟩ = false := hfr7 0; have hf7_1 : w12.frozen? ⟨go5, (x5_1 : Int).toNat * 3 + 1, none⟩ = false := hfr7 1; have hf7_2 : w12.frozen? ⟨go5, (x5_1 : Int).toNat * 3 + 2, none⟩ = false := hfr7 2; clear hcl7 hcc7 hfr7 hM7; replace p7 := eq_true p7; replace q7 := eq_true q7; have HX13 := Aside0.mk (show Kd.R k98 98 w12 w0.heap.size (fun k_ => (P0_ k_ ∨ w.heap.size ≤ k_)) (.slice (some ⟨go5, 0, none⟩) x0_1.length co8) y266 from (by (with_reducible repeat (first | apply Kd.R_alloc | apply Kd.R_drewN | apply Kd.R_drew)); exact HO_0.out)); obtain ⟨ce13, hcl13, hM13, hcc13, hfr13⟩ := Kd.R_elem HX13.out z98 (x5_1 : Int) (of_decide_eq_true (by first | (with_reducible assumption) | assumption)) (by have h_ : (x5_1 : Int) < ((x0_1.length : Int) : Int) := of_decide_eq_true (by first | (with_reducible assumption) | assumption); first | exact h_ | (have e_ := (Kd.R_reads' HO_0.out).1; omega) | simpa using h_); obtain rfl := k98_openM hM13; have HP13 := Kd.R_seg HX13.out (x5_1 : Int) (of_decide_eq_true (by first | (with_reducible assumption) | assumption)) (by have h_ : (x5_1 : Int) < ((x0_1.length : Int) : Int) := of_decide_eq_true (by first | (with_reducible assumption) | assumption); first | exact h_ | (have e_ := (Kd.R_reads' HO_0.out).1; omega) | simpa using h_) (seg := [.int .i64 (wrap64 ((wrap64 (x1_1 + 1)) + 1))]) (j := 2) hcl13 hcc13 (show 3 ≤ 3 from by decide) (x' := (⟨(rd_T98 y266 x5_1).f0, (rd_T98 y266 x5_1).f1, wrap64 ((wrap64 (x1_1 + 1)) + 1)⟩ : S98)) (k98_mkM _ _ _ (⟨(rd_T98 y266 x5_1).f0, (rd_T98 y266 x5_1).f1, wrap64 ((wrap64 (x1_1 + 1)) + 1)⟩ : S98) ) (fun _ hk => hk); have hx13_2 := hcc13 2 _ rfl; (try simp only [show (k98).sz = 3 from rfl, Nat.mul_one, Nat.add_zero] at hx13_2); have hf13_2 := hfr13 2; (try simp only [show (k98).sz = 3 from rfl, Nat.mul_one, Nat.add_zero] at hf13_2); clear hcl13 hcc13 hfr13 hM13) | ((with_reducible refine gate_store (t := 3) (p := 30) rfl ?_); refine store_event (t := 3) (p := 30) (v := ?vo_w14) (w1 := (w12.setCell ⟨go5, (x5_1 : Int).toNat * 3 + 2, none⟩ (.int .i64 (wrap64 ((wrap64 (x1_1 + 1)) + 1))))) ?hg ?ho ?hn ?hr ?_; (case ho => rfl); (case hg => rfl); (case hn => rfl); (case hr => first | (go_simp; done) | (go_simp; rfl)); intro w14 hw; have hg : w12.grownBy w14 (some go5) := (by rw [hw]; exact HP13.2); have hp_ : Kd.R k98 98 w14 w0.heap.size (fun k_ => (P0_ k_ ∨ w.heap.size ≤ k_)) (.slice (some ⟨go5, 0, none⟩) x0_1.length co8) y267 := (by rw [hw, Ny267.out]; exact HP13.1); clear HP13; have n0_ := Aside0.mk (hp_); have n1_ := Aside0.mk ((by rw [hw]; exact below_set (HB.out) GB5.out : Below w0.heap.size w0 w14)); have n2_ := Aside0.mk (Kept.of_grown (S := (fun k_ => P0_ k_)) hg (by repeat (first | (with_reducible first | exact HK.out | apply Kept.alloc | apply Kept.drewN | apply Kept.drew) | exact HK.out)) (fun k_ e_ => (HO_0.out.1 k_ e_))); clear HO_0; clear HB; clear HK; have HO_0 := n0_; have HB := n1_; have HK := n2_; clear n0_ n1_ n2_; clear hg hw hp_))
          go_roundg k1
          case measure => have := HK1.out; omega
          case rel => exact ⟨(y267), (wrap64 ((wrap64 ((wrap64 (x1_1 + 1)) + 1)) + 1)), (wrap64 (x5_1 + 1)), (by first | rfl | (simp; done) | (simp [*]; done)), (by first | rfl | (simp; done) | (simp [*]; done)), H', ⟨by have := HK1.out; omega⟩, ⟨by (with_reducible repeat (first | apply Kd.R_alloc | apply Kd.R_drewN | apply Kd.R_drew)); exact HO_0.out⟩, ⟨by repeat (first | (with_reducible first | exact HK.out | apply Kept.alloc | apply Kept.drewN | apply Kept.drew) | exact HK.out)⟩, ⟨by repeat (first | (with_reducible first | exact HB.out | apply below_alloc | apply xV | apply below_drew1) | exact HB.out)⟩⟩
        · rw [if_neg c4] at H
          exact absurd H (by simp)
      · rw [if_neg c3] at H
        have c3b0 : decide (x5_1 < (x0_1.length : Int)) = false := decide_eq_false c3;clear c3;simp only [Option.some.injEq, Prod.mk.injEq] at H;obtain ⟨rfl, rfl⟩ := H;obtain ⟨Ao15, co15, eo15⟩ := Kd.R_slice HO_0.out;subst eo15
        go_wp2
        go_ret
        exact ⟨by first | rfl | (simp [errW_none, errW_some] <;> rfl) | (simp [*, errW_none, errW_some] <;> rfl), by (with_reducible repeat (first | apply Kd.R_alloc | apply Kd.R_drewN | apply Kd.R_drew)); exact HO_0.out, by repeat (first | (with_reducible first | exact HB.out | apply below_alloc | apply xV | apply below_drew1) | exact HB.out), by repeat (first | (with_reducible first | exact HK.out | apply Kept.alloc | apply Kept.drewN | apply Kept.drew) | exact HK.out)⟩
def laws_markIntS.l0 : Nat → List Int → Int → Int → Option (Int × List Int)
 | 0, _, _, _ => none
 | k + 1, x0, x1, x5 => if x5 < (x0.length : Int) then (if 0 ≤ x5 then (laws_markIntS.l0 k (x0.set (x5 : Int).toNat x1) (wrap64 (x1 + 1)) (wrap64 (x5 + 1))) else (none)) else (some (x1, x0))
def laws_markIntS.f (k : Nat) (l0 : List Int) (a1 : Int) : Option (Int × List Int) := laws_markIntS.l0 k l0 a1 0
def laws_heldIntS.l0 : Nat → List Int → Int → Int → Option (Int)
 | 0, _, _, _ => none
 | k + 1, x0, x1, x5 => if x5 < (x0.length : Int) then (if 0 ≤ x5 then (if (rd x0 x5) = x1 then (laws_heldIntS.l0 k x0 (wrap64 (x1 + 1)) (wrap64 (x5 + 1))) else (some (-1))) else (none)) else (some x1)
def laws_heldIntS.f (k : Nat) (l0 : List Int) (a1 : Int) : Option (Int) := laws_heldIntS.l0 k l0 a1 0
def laws_heldErrorNodeS.l0 : Nat → List (S71) → Int → Int → Option (Int)
 | 0, _, _, _ => none
 | k + 1, x0, x1, x5 => if x5 < (x0.length : Int) then (if 0 ≤ x5 then (if ((rd_T71 x0 x5).f0) = x1 then (if ((rd_T71 x0 x5).f1) = (wrap64 (x1 + 1)) then ((laws_heldIntS.f k ((rd_T71 x0 x5).f2) (wrap64 ((wrap64 (x1 + 1)) + 1))).bind fun t276 => (if t276 < 0 then (some (-1)) else (laws_heldErrorNodeS.l0 k x0 t276 (wrap64 (x5 + 1))))) else (some (-1))) else (some (-1))) else (none)) else (some x1)
def laws_heldErrorNodeS.f (k : Nat) (l0 : List (S71)) (a1 : Int) : Option (Int) := laws_heldErrorNodeS.l0 k l0 a1 0
def laws_heldErrors.f (k : Nat) (l0_0 : List (S71)) (a1 : Int) : Option (Int) := (laws_heldErrorNodeS.f k l0_0 a1).bind fun t278 => (if t278 < 0 then (some (-1)) else (some t278))
def spec_l10Code.f (a0_0 : Int) (a0_1 : Int) (l0_2 : List (S57)) (a0_3 : Int) : Option (Int) := if a0_0 = 1 then (some (Int.tmod (wrap64 ((Int.tmod a0_1 256) + 256)) 256)) else (if a0_0 = 2 then (some 2) else (if a0_0 = 3 then (some 0) else (some 124)))
def impl_Outcome_code.f (a0_0 : Int) (a0_1 : Int) (l0_2 : List (S57)) (a0_3 : Int) : Option (Int) := if a0_0 = 1 then (some (Int.tmod (wrap64 ((Int.tmod a0_1 256) + 256)) 256)) else (if a0_0 = 2 then (some 2) else (if a0_0 = 4 then (some 124) else (some 0)))
def spec_l11Function.f (k : Nat) (l0_0 : List (List (S98))) (a1 : Int) : Option (Bool) := (spec_l2Program.f k l0_0).bind fun t295 => (if t295 = true then ((spec_l2Function.f l0_0 a1).bind fun t296 => (some t296)) else (some false))
def spec_l1Least.f (a0 : Int) (a1 : Int) : Option (Int) := if a0 < a1 then (some a0) else (some a1)
def impl_isFunction.f (l0_0 : List (List (S98))) (a1 : Int) : Option (Bool) := (impl_IsProgram.f l0_0).bind fun t360 => (if t360 = true then ((impl_in.f a1 0 (wrap64 ((l0_0.length : Int) - 1))).bind fun t361 => (some t361)) else (some false))
abbrev ST := S98
abbrev LT := S134
def tot {α : Type} : List (List α) → Nat
 | [] => 0
 | b :: l => b.length + tot l
theorem tot_append {α : Type} (l m : List (List α)) : tot (l ++ m) = tot l + tot m := by
 induction l with
 | nil => simp [tot]
 | cons b l ih => simp [tot, ih]; omega
theorem tot_mem {α : Type} {b : List α} {l : List (List α)} (h : b ∈ l) : b.length ≤ tot l := by
 induction l with
 | nil => cases h
 | cons c l ih =>
  rcases List.mem_cons.1 h with rfl | h
  · simp [tot]
  · have := ih h; simp [tot]; omega
theorem tot_map {α β : Type} (f : α → β) (l : List (List α)) : tot (l.map (·.map f)) = tot l := by
 induction l with
 | nil => rfl
 | cons b l ih => simp [tot, ih]
def szL (left : Int) : List (List LT) → Int
 | [] => left
 | b :: l => if left - (b.length : Int) < 0 then -1 else szL (left - (b.length : Int)) l
def szP (l : List (List LT)) (left : Int) : Int := if left - (l.length : Int) < 0 then -1 else szL (left - (l.length : Int)) l
theorem szL_ok (l : List (List LT)) : ∀ left, 0 ≤ left → 0 ≤ szL left l → (tot l : Int) + szL left l = left := by
  induction l with
  | nil => intro left h0 h; simp [tot, szL]
  | cons b l ih =>
    intro left h0 h;simp only [szL] at h ⊢
    by_cases hb : left - (b.length : Int) < 0
    · rw [if_pos hb] at h; omega
    · rw [if_neg hb] at h ⊢
      have := ih _ (by omega) h;simp only [tot]
      omega
theorem szP_ok (l : List (List LT)) (left : Int) (h : 0 ≤ szP l left) : (l.length : Int) + tot l + szP l left = left := by
  unfold szP at h ⊢
  by_cases hb : left - (l.length : Int) < 0
  · rw [if_pos hb] at h; omega
  · rw [if_neg hb] at h ⊢
    have := szL_ok l _ (by omega) h
    omega
theorem szL_le (l : List (List LT)) : ∀ left, 0 ≤ left → szL left l ≤ left ∧ -1 ≤ szL left l := by
 induction l with
 | nil => intro left h; simp [szL]; omega
 | cons b l ih =>
  intro left h
  simp only [szL]
  by_cases hb : left - (b.length : Int) < 0
  · rw [if_pos hb]; omega
  · rw [if_neg hb]; have := ih (left - (b.length : Int)) (by omega); omega
theorem szP_le (l : List (List LT)) (left : Int) (h : 0 ≤ left) : szP l left ≤ left ∧ -1 ≤ szP l left := by
 unfold szP
 by_cases hb : left - (l.length : Int) < 0
 · rw [if_pos hb]; omega
 · rw [if_neg hb]; have := szL_le l (left - (l.length : Int)) (by omega); omega
theorem szStepSS_l0 (l : List (List LT)) (hl : ∀ b ∈ l, b.length ≤ 9223372036854775807) (hn : l.length ≤ 1048576) : ∀ d i, i + d = l.length → ∀ left : Int, 0 ≤ left → left ≤ 1048576 → ∀ k, d < k → laws_szStepSS.l0 k l left (i : Int) = some (szL left (l.drop i)) := by
  intro d
  induction d with
  | zero =>
    intro i hi left h0 h1 k hk;obtain ⟨k, rfl⟩ : ∃ m, k = m + 1 := ⟨k - 1, by omega⟩;have : i = l.length := by omega
    subst this;simp only [laws_szStepSS.l0];rw [if_neg (by omega), List.drop_length]
    rfl
  | succ d ih =>
    intro i hi left h0 h1 k hk;obtain ⟨k, rfl⟩ : ∃ m, k = m + 1 := ⟨k - 1, by omega⟩;have hlt : i < l.length := by omega
    have hb := hl l[i] (List.getElem_mem _);have hrd : rd_L6 l (i : Int) = l[i] := by simp [rd_L6, List.getD, hlt]
    simp only [laws_szStepSS.l0];rw [if_pos (by omega), if_pos (by omega), hrd, List.drop_eq_getElem_cons hlt];simp only [szL, laws_szStepS.f];rw [w64 (x := left - _) (by omega) (by omega)]
    by_cases hc : left - ((l[i]).length : Int) < 0
    · rw [if_pos hc, if_pos hc]; simp
    · rw [if_neg hc, if_neg hc]
      simp only [Option.bind_some];rw [if_neg hc, w64 (by omega) (by omega), show ((i : Int) + 1) = ((i + 1 : Nat) : Int) from rfl];exact ih (i + 1) (by omega) _ (by omega) (by omega) k (by omega)
theorem szProgram_f (l : List (List LT)) (hl : ∀ b ∈ l, b.length ≤ 9223372036854775807) (hn : l.length ≤ 9223372036854775807) (left : Int) (h0 : 0 ≤ left) (h1 : left ≤ 1048576) (k : Nat) (hk : 1048576 < k) : laws_szProgram.f k l left = some (szP l left) := by
  have key : laws_szStepSS.f k l left = some (szP l left) := by
    unfold laws_szStepSS.f szP;rw [w64 (by omega) (by omega)]
    by_cases hc : left - (l.length : Int) < 0
    · rw [if_pos hc, if_pos hc]
    · rw [if_neg hc, if_neg hc]
      have := szStepSS_l0 l hl (by omega) l.length 0 (by omega) (left - (l.length : Int)) (by omega) (by omega) k (by omega)
      simpa using this
  unfold laws_szProgram.f
  rw [key]
  have := szP_le l left h0
  simp only [Option.bind_some]
  by_cases hc : szP l left < 0
  · rw [if_pos hc]; congr 1; omega
  · rw [if_neg hc]
def mkS (a : Int) (n : Nat) : List ST := (List.range n).map fun (j : Nat) => ⟨a + 3 * (j : Int), a + 3 * (j : Int) + 1, a + 3 * (j : Int) + 2⟩
theorem mkS_length (a : Int) (n : Nat) : (mkS a n).length = n := by simp [mkS]
theorem mkS_succ (a : Int) (n : Nat) : mkS a (n + 1) = mkS a n ++ [⟨a + 3 * (n : Int), a + 3 * (n : Int) + 1, a + 3 * (n : Int) + 2⟩] := by simp [mkS, List.range_succ]
theorem set_mid {α : Type} (P : List α) (x y : α) (Q : List α) : (P ++ x :: Q).set P.length y = P ++ y :: Q := by simp
theorem rd_mid (P : List ST) (x : ST) (Q : List ST) : rd_T98 (P ++ x :: Q) (P.length : Int) = x := by simp [rd_T98, List.getD]
theorem markStepS_l0 (l : List ST) (a : Int) (h0 : 0 ≤ a) (hn : l.length ≤ 4194304) (ha : a ≤ 1073741824) : ∀ d i, i + d = l.length → ∀ k, d < k → laws_markStepS.l0 k (mkS a i ++ l.drop i) (a + 3 * (i : Int)) (i : Int) = some (a + 3 * (l.length : Int), mkS a l.length) := by
 intro d
 induction d with
 | zero =>
  intro i hi k hk
  obtain ⟨k, rfl⟩ : ∃ m, k = m + 1 := ⟨k - 1, by omega⟩
  have : i = l.length := by omega
  subst this
  simp only [laws_markStepS.l0]
  rw [if_neg (by simp [mkS_length]), List.drop_length, List.append_nil]
 | succ d ih =>
  intro i hi k hk
  obtain ⟨k, rfl⟩ : ∃ m, k = m + 1 := ⟨k - 1, by omega⟩
  have hlt : i < l.length := by omega
  simp only [laws_markStepS.l0]
  rw [if_pos (by simp [mkS_length]; omega), if_pos (by omega), List.drop_eq_getElem_cons hlt]
  simp only [Option.bind_some]
  have hi2 : (i : Int).toNat = (mkS a i).length := by rw [mkS_length]; omega
  have hi3 : (i : Int) = ((mkS a i).length : Int) := by rw [mkS_length]
  rw [hi2, set_mid, set_mid, set_mid]
  rw [w64 (x := a + 3 * (i : Int) + 1) (by omega) (by omega), w64 (x := a + 3 * (i : Int) + 1 + 1) (by omega) (by omega), w64 (x := a + 3 * (i : Int) + 1 + 1 + 1) (by omega) (by omega), w64 (x := (i : Int) + 1) (by omega) (by omega)]
  have key := ih (i + 1) (by omega) k (by omega)
  rw [mkS_succ] at key
  rw [hi3]
  simp only [rd_mid]
  rw [← hi3]
  rw [List.append_assoc, List.cons_append, List.nil_append] at key
  rw [show a + 3 * (i : Int) + 1 + 1 + 1 = a + 3 * ((i + 1 : Nat) : Int) by omega, show (i : Int) + 1 = ((i + 1 : Nat) : Int) from rfl, show a + 3 * (i : Int) + 1 + 1 = a + 3 * (i : Int) + 2 by omega]
  exact key
theorem markStepS_f (l : List ST) (a : Int) (h0 : 0 ≤ a) (hn : l.length ≤ 4194304) (ha : a ≤ 1073741824) (k : Nat) (hk : l.length < k) : laws_markStepS.f k l a = some (a + 3 * (l.length : Int), mkS a l.length) := by
 have := markStepS_l0 l a h0 hn ha l.length 0 (by omega) k (by omega)
 unfold laws_markStepS.f
 simpa [mkS] using this
def mkSS (a : Int) : List (List ST) → List (List ST)
 | [] => []
 | b :: l => mkS a b.length :: mkSS (a + 3 * (b.length : Int)) l
theorem mkSS_length (a : Int) (l : List (List ST)) : (mkSS a l).length = l.length := by
 induction l generalizing a with
 | nil => rfl
 | cons b l ih => simp [mkSS, ih]
theorem mkSS_snoc (a : Int) (l : List (List ST)) (b : List ST) : mkSS a (l ++ [b]) = mkSS a l ++ [mkS (a + 3 * (tot l : Int)) b.length] := by
 induction l generalizing a with
 | nil => simp [mkSS, tot]
 | cons c l ih =>
  simp only [List.cons_append, mkSS, ih, tot]
  congr 4
  omega
end Go.Proofs.Ytcbijhgepdedpaa.G
namespace Go.Proofs.Ytcbijhgepdedpaa.G
open Go.RowKit Go.Proofs.Ytcbijhgepdedpaa.SX Go.Proofs.YtcbijhgepdedpaaW.PrintWords Go.Proofs.YtcbijhgepdedpaaW.PrintLast Go.Proofs.YtcbijhgepdedpaaW.PrintMore
theorem sl_list {α : Type} (us : List (Value × α)) (h : ∀ x ∈ us, ∃ z : Sl, x.1 = z.v) : ∃ vs : List Sl, us.map (·.1) = vs.map Sl.v := by
 induction us with
 | nil => exact ⟨[], rfl⟩
 | cons x us ih =>
  obtain ⟨vs, h1⟩ := ih fun y hy => h y (List.mem_cons_of_mem _ hy)
  obtain ⟨z, h2⟩ := h x List.mem_cons_self
  exact ⟨z :: vs, by rw [List.map_cons, List.map_cons, h1, h2]⟩
theorem map_set_same {α β : Type} (us : List (α × β)) (i : Nat) (x y : α × β) (hx : us[i]? = some x) (h : y.1 = x.1) : (us.set i y).map (·.1) = us.map (·.1) := by
  apply List.ext_getElem?
  intro j
  rw [List.map_set, List.getElem?_set]
  split
  · rename_i hj
    subst hj;have h3 : (us.map (·.1))[i]? = some x.1 := by rw [List.getElem?_map, hx]; rfl
    rw [h3, h];rw [if_pos (List.getElem?_eq_some_iff.1 h3).1]
  · rfl
theorem _root_.Go.Proofs.Ytcbijhgepdedpaa.SX.Sat.kdTurn {w0 w : World} {Rs : List Asn} {α : Type} {d : Kd α} {e : Nat} {v : Value} {l : List α} (h : Sat w0 w (kdP w0.heap.size d e v l :: Rs)) :
    ∃ F : Nat → Prop, d.R e w w0.heap.size F v l ∧ ∀ (w' : World) (l' : List α), Below w0.heap.size w0 w' → Kept w w' F → d.R e w' w0.heap.size (fun k => F k ∨ w.heap.size ≤ k) v l' → Sat w0 w' (kdP w0.heap.size d e v l' :: Rs) := by
  obtain ⟨hb, F, h1, h2, h3⟩ := h
  obtain ⟨g1, g2⟩ := h1 0 _ rfl
  refine ⟨F 0, g2, fun w' l' hb' hk hR => ?_⟩
  refine ⟨hb', fun j b => match j with | 0 => F 0 b ∨ (w.heap.size ≤ b ∧ b < w'.heap.size) | j + 1 => F (j + 1) b, fun j S hj => ?_, fun i j b hi hj => ?_, fun j b hj => ?_⟩
  · match j with
    | 0 =>
      simp at hj
      subst hj;refine ⟨fun k hk2 => ?_, Kd.R_mono (Kd.R_bound hR) fun k hk2 => ?_⟩
      · rcases hk2 with h | h
        · have := g1 k h; have := hk.1; omega
        · exact h.2
      · rcases hk2.1 with h | h
        · exact .inl h
        · exact .inr ⟨h, hk2.2.2.1⟩
    | j + 1 =>
      refine S.loc w w' _ hk.1 (h1 (j + 1) S hj) fun b hF => hk.2 b (h3 _ b hF).2 fun h0 => ?_;have := h2 _ _ b hF h0
      omega
  · match i, j with
    | 0, 0 => rfl
    | 0, j + 1 =>
      rcases hi with h | h
      · exact h2 _ _ b h hj
      · have := (h3 _ b hj).2; omega
    | i + 1, 0 =>
      rcases hj with h | h
      · exact h2 _ _ b hi h
      · have := (h3 _ b hi).2; omega
    | i + 1, j + 1 => exact h2 _ _ b hi hj
  · have hs : w.heap.size ≤ w'.heap.size := hk.1
    have hs0 : w0.heap.size ≤ w.heap.size := hb.size
    match j with
    | 0 =>
      rcases hj with h | h
      · have := h3 _ b h; omega
      · omega
    | j + 1 => have := h3 _ b hj; omega
theorem markStepS_sat {w0 w : World} {Rs : List Asn} {s : Sl} {l : List ST} {a : Int} (hS : Sat w0 w (kdP w0.heap.size k98 98 s.v l :: Rs)) (h0 : 0 ≤ a) (hn : l.length ≤ 4194304) (ha : a ≤ 1073741824) :
  Calls Try.prog 57 #[.slice s.A s.n s.c, .int .i64 a] w (Ret fun r w' => r = .int .i64 (a + 3 * (l.length : Int)) ∧ Sat w0 w' (kdP w0.heap.size k98 98 s.v (mkS a l.length) :: Rs)) := by
 obtain ⟨F, hR, hT⟩ := hS.kdTurn
 refine (laws_markStepS.calls (l.length + 1) F s.v l a _ _ w0 w hS.below hR (markStepS_f l a h0 hn ha _ (by omega))).mono ?_
 rintro e w' ⟨rfl, h1, h2, h3⟩
 exact ⟨rfl, hT w' _ h2 h3 h1⟩
theorem code37 : Try.f37.body = some (Code.seq (Code.region 0 (qQ Try.f37 0) false) (Code.seq (Code.seq (Code.region 1 (qQ Try.f37 1) false) (Code.block 0 (Code.loop (Code.seq (Code.seq (Code.region 2 (qQ Try.f37 2) false) (Code.cond (Operand.tmp 9) Code.skip (Code.exit 0))) (Code.seq (Code.block 1 (Code.region 4 (qQ Try.f37 4) false)) (Code.region 3 (qQ Try.f37 3) false)))))) (Code.seq (Code.region 5 (qQ Try.f37 5) false) Code.ret))) := by kernel_rfl
theorem markStepSS_sat (w0 w : World) (Rs : List Asn) (s0 : Sl) (l : List (List S98)) (x0 : Int) (hS0 : Sat w0 w (kdS w0.heap.size k98 98 95 s0 l :: Rs)) (h0 : 0 ≤ x0) (hn : l.length ≤ 4194304) (ht : tot l ≤ 4194304) (ha1 : x0 ≤ 1048576) :
  Calls Try.prog 37 #[.slice s0.A s0.n s0.c, .int .i64 x0] w (Ret fun r w' => r = .int .i64 (x0 + 3 * (tot l : Int)) ∧ Sat w0 w' (kdS w0.heap.size k98 98 95 s0 (mkSS x0 l) :: Rs)) := by
 have hlen0 : s0.n = l.length := (hS0.rdS 0 rfl).len
 obtain ⟨us, hus, hso, hS⟩ := hS0.openS
 obtain ⟨vs, hfs⟩ : ∃ vs : List Sl, us.map (·.1) = vs.map Sl.v := sl_list us hso
 rw [show us.map Prod.fst = vs.map Sl.v from hfs] at hS
 refine enter (n := 19) Try.func37 code37 (by kernel_rfl) (Nat.le_of_ble_eq_true rfl) (fun a ha => ?_)
 replace ha : Has 19 [(0, .slice s0.A s0.n s0.c), (1, .int .i64 x0)] a := ha
 refine wp_seq ?_
 refine p_begin ?_
 refine p_val (v := .int .i64 0) ha (by decide) (qZ ha (At.here (by kernel_rfl : ((qQ Try.f37 0)[0]?).map spec = some ((Op.assign (Operand.const (Value.int IntKind.i64 0))), some 4, 3, none))) (by kernel_rfl) (fun _ => by kernel_rfl)) (fun a1 ha2 => ?_)
 refine jY ?_
 have ha3 := ha2.keeps [0, 1, 4] [(0, .slice s0.A s0.n s0.c), (1, .int .i64 x0), (4, .int .i64 0)] rfl
 clear ha2 ha a
 refine jJ (wp_seq (wp_seq ?_))
 refine p_begin ?_
 refine p_val (v := .int .i64 0) ha3 (by decide) (qZ ha3 (At.here (by kernel_rfl : ((qQ Try.f37 1)[0]?).map spec = some ((Op.assign (Operand.const (Value.int IntKind.i64 0))), some 5, 3, none))) (by kernel_rfl) (fun _ => by kernel_rfl)) (fun a4 ha5 => ?_)
 refine jY ?_
 have ha6 := ha5.keeps [0, 1, 4, 5] [(0, .slice s0.A s0.n s0.c), (1, .int .i64 x0), (4, .int .i64 0), (5, .int .i64 0)] rfl
 clear ha5 ha3 a1
 refine jJ (wp_block ?_)
 have e0 : x0 = x0 + 3 * (tot (l.take 0) : Int) := by simp [tot]
 have ha7 : Has 19 [(0, .slice s0.A s0.n s0.c), (1, .int .i64 (x0 + 3 * (tot (l.take 0) : Int))), (5, .int .i64 ((0 : Nat) : Int))] a4 := by have hh := ha6.keeps [0, 1, 5] _ rfl; rw [← e0]; exact hh
 refine wp_loop_ghost (fun n_ a_ w_ => ∃ (i : Nat) (us : List (Value × List S98)), n_ = l.length - i ∧ (i ≤ l.length) ∧ (us.map (·.2) = mkSS x0 (l.take i) ++ l.drop i) ∧ (us.map (·.1) = vs.map Sl.v) ∧ Has 19 [(0, .slice s0.A s0.n s0.c), (1, .int .i64 (x0 + 3 * (tot (l.take i) : Int))), (5, .int .i64 (i : Int))] a_ ∧ Sat w0 w_ ((SX.row (.slice s0.A s0.n s0.c) 95 1 (vs.map Sl.v)) :: (jW (us.map fun (x : Value × List S98) => kdP w0.heap.size k98 98 x.1 x.2)) :: Rs)) _ ⟨0, us, rfl, Nat.zero_le _, by simpa [mkSS] using hus, hfs, ha7.keeps [0, 1, 5] _ rfl, hS⟩ ?_
 rintro n_ a8 w9 ⟨i, us, rfl, hi, hus, hfs, ha10, hS11⟩
 refine wp_seq (wp_seq ?_)
 refine p_begin ?_
 refine p_val (v := .int .i64 (i : Int)) ha10 (by decide) (qZ ha10 (At.here (by kernel_rfl : ((qQ Try.f37 2)[0]?).map spec = some ((Op.move (Operand.tmp 5)), some 6, 3, none))) (by kernel_rfl) (fun _ => by kernel_rfl)) (fun a12 ha13 => ?_)
 refine p_val (v := .slice s0.A s0.n s0.c) ha13 (by decide) (qZ ha13 (At.here (by kernel_rfl : ((qQ Try.f37 2)[1]?).map spec = some ((Op.move (Operand.tmp 0)), some 7, 38, none))) (by kernel_rfl) (fun _ => by kernel_rfl)) (fun a14 ha15 => ?_)
 refine p_val (v := .int .i64 (s0.n : Int)) ha15 (by decide) (qZ ha15 (At.here (by kernel_rfl : ((qQ Try.f37 2)[2]?).map spec = some ((Op.call { callee := (Callee.builtin Builtin.len), args := #[(Operand.tmp 7)], argTypes := #[38] }), some 8, 3, none))) (by kernel_rfl) (fun _ => by kernel_rfl)) (fun a16 ha17 => ?_)
 refine p_val (v := .bool (decide ((i : Int) < (s0.n : Int)))) ha17 (by decide) (qZ ha17 (At.here (by kernel_rfl : ((qQ Try.f37 2)[3]?).map spec = some ((Op.binOp BinOp.lss 3 (Operand.tmp 6) (Operand.tmp 8) 3), some 9, 4, none))) (by kernel_rfl) (fun _ => by kernel_rfl)) (fun a18 ha19 => ?_)
 refine jY ?_
 have ha20 := ha19.keeps [0, 1, 5, 6, 7, 8, 9] [(0, .slice s0.A s0.n s0.c), (1, .int .i64 (x0 + 3 * (tot (l.take i) : Int))), (5, .int .i64 (i : Int)), (6, .int .i64 (i : Int)), (7, .slice s0.A s0.n s0.c), (8, .int .i64 (s0.n : Int)), (9, .bool (decide ((i : Int) < (s0.n : Int))))] rfl
 clear ha19 ha17 a16 ha15 a14 ha13 a12 ha10 a8
 refine jJ ?_
 by_cases c21 : (i : Int) < (s0.n : Int)
 ·
  have ha22 : Has 19 [(0, .slice s0.A s0.n s0.c), (1, .int .i64 (x0 + 3 * (tot (l.take i) : Int))), (5, .int .i64 (i : Int)), (6, .int .i64 (i : Int)), (7, .slice s0.A s0.n s0.c), (8, .int .i64 (s0.n : Int)), (9, .bool true)] a18 := by have hh : Has 19 [(0, .slice s0.A s0.n s0.c), (1, .int .i64 (x0 + 3 * (tot (l.take i) : Int))), (5, .int .i64 (i : Int)), (6, .int .i64 (i : Int)), (7, .slice s0.A s0.n s0.c), (8, .int .i64 (s0.n : Int)), (9, .bool (decide ((i : Int) < (s0.n : Int))))] a18 := ha20.keeps [0, 1, 5, 6, 7, 8, 9] _ rfl; simp only [decide_eq_true c21, Bool.not_true, Bool.not_false] at hh; exact hh
  have hlt : i < l.length := by have := c21; omega
  obtain ⟨b, hb⟩ : ∃ b, l[i]? = some b := ⟨_, List.getElem?_eq_getElem hlt⟩
  have htake : l.take (i + 1) = l.take i ++ [b] := by rw [List.take_add_one, hb]; rfl
  have hdrop : l.drop i = b :: l.drop (i + 1) := by rw [List.drop_eq_getElem_cons hlt, (List.getElem?_eq_some_iff.1 hb).2]
  have htl : tot (l.take i) + b.length ≤ tot l := by have h1 : tot l = tot (l.take i) + tot (l.drop i) := (by rw [← tot_append, List.take_append_drop]); rw [h1, hdrop]; simp only [tot]; omega
  have hb1 : b.length ≤ 4194304 := by omega
  have hmi : (mkSS x0 (l.take i)).length = i := by rw [mkSS_length, List.length_take]; omega
  have hlv : vs.length = l.length := by have h1 := congrArg List.length hus; have h2 := congrArg List.length hfs; simp [mkSS_length] at h1 h2; omega
  obtain ⟨x, hx, hxb⟩ : ∃ x, us[i]? = some x ∧ x.2 = b := by
   have h3 : (us.map (·.2))[i]? = some b := by rw [hus, List.getElem?_append_right (by omega), hmi, Nat.sub_self, hdrop]; rfl
   rw [List.getElem?_map] at h3;exact Option.map_eq_some_iff.1 h3
  obtain ⟨z, hz, hxz⟩ : ∃ z : Sl, (vs.map Sl.v)[i]? = some z.v ∧ x.1 = z.v := by
   have h3 : (us.map (·.1))[i]? = some x.1 := by rw [List.getElem?_map, hx]; rfl
   rw [hfs] at h3;obtain ⟨z, h4, h5⟩ := List.mem_map.1 (List.mem_of_getElem? h3);exact ⟨z, by rw [h3, h5], h5.symm⟩
  obtain rfl : x = (z.v, b) := Prod.ext hxz hxb
  have hus2 : (us.set i (z.v, mkS (x0 + 3 * (tot (l.take i) : Int)) b.length)).map (·.2) = mkSS x0 (l.take (i + 1)) ++ l.drop (i + 1) := by
   rw [List.map_set, hus, htake, mkSS_snoc, hdrop, List.append_assoc];have := set_mid (mkSS x0 (l.take i)) b (mkS (x0 + 3 * (tot (l.take i) : Int)) b.length) (l.drop (i + 1));rw [hmi] at this;exact this
  have hfs2 : (us.set i (z.v, mkS (x0 + 3 * (tot (l.take i) : Int)) b.length)).map (·.1) = vs.map Sl.v := (map_set_same us i _ (z.v, mkS (x0 + 3 * (tot (l.take i) : Int)) b.length) hx rfl).trans hfs
  refine jG ha22 rfl rfl ?_
  refine wp_skip (jJ (wp_seq (wp_block ?_)))
  refine p_begin ?_
  refine p_val (v := .slice s0.A s0.n s0.c) ha22 (by decide) (qZ ha22 (At.here (by kernel_rfl : ((qQ Try.f37 4)[0]?).map spec = some ((Op.move (Operand.tmp 0)), some 12, 38, none))) (by kernel_rfl) (fun _ => by kernel_rfl)) (fun a23 ha24 => ?_)
  refine p_val (v := .int .i64 (i : Int)) ha24 (by decide) (qZ ha24 (At.here (by kernel_rfl : ((qQ Try.f37 4)[1]?).map spec = some ((Op.move (Operand.tmp 5)), some 13, 3, none))) (by kernel_rfl) (fun _ => by kernel_rfl)) (fun a25 ha26 => ?_)
  refine p_val (v := .pointer (some ⟨bk s0, of_ s0 + i * 1, none⟩)) ha26 (by decide) (kK (s := s0) (el := 95) (sz := 1) (j := i) ha26 (At.here (by kernel_rfl : ((qQ Try.f37 4)[2]?).map spec = some ((Op.indexAddr 38 (Operand.tmp 12) (Operand.tmp 13)), some 14, 0, none))) rfl rfl (by kernel_rfl) (by kernel_rfl) (((hS11).rdV (T := 95) (s := s0) 0 rfl).cells i (by rw [List.length_map, hlv]; exact hlt)).1 rfl (by rw [hlen0]; exact hlt)) (fun a27 ha28 => ?_)
  refine p_val (v := .slice z.A z.n z.c) ha28 (by decide) (zK (v := .slice z.A z.n z.c) (p := ⟨bk s0, of_ s0 + i * 1, none⟩) ha28 (At.here (by kernel_rfl : ((qQ Try.f37 4)[3]?).map spec = some ((Op.load 95 (Operand.tmp 14)), some 15, 95, none))) rfl (by kernel_rfl) (fun w' hw => by rw [hw, Nat.mul_one]; exact (((hS11).rdV (T := 95) (s := s0) 0 rfl).cells i (by rw [List.length_map, hlv]; exact hlt)).2.trans hz)) (fun a29 ha30 => ?_)
  refine p_val (v := .int .i64 (x0 + 3 * (tot (l.take i) : Int))) ha30 (by decide) (qZ ha30 (At.here (by kernel_rfl : ((qQ Try.f37 4)[4]?).map spec = some ((Op.move (Operand.tmp 1)), some 16, 3, none))) (by kernel_rfl) (fun _ => by kernel_rfl)) (fun a31 ha32 => ?_)
  have hS37 : Sat w0 w9 ((kdP w0.heap.size k98 98 z.v b) :: (jW ((us.eraseIdx i).map fun (x : Value × List S98) => kdP w0.heap.size k98 98 x.1 x.2)) :: (SX.row (.slice s0.A s0.n s0.c) 95 1 (vs.map Sl.v)) :: Rs) := Sat.takeAt (g := fun (x : Value × List S98) => kdP w0.heap.size k98 98 x.1 x.2) hx (hS11.pickR (l := [SX.row (.slice s0.A s0.n s0.c) 95 1 (vs.map Sl.v), jW (us.map fun (x : Value × List S98) => kdP w0.heap.size k98 98 x.1 x.2)]) [1, 0] (by decide) [jW (us.map fun (x : Value × List S98) => kdP w0.heap.size k98 98 x.1 x.2), SX.row (.slice s0.A s0.n s0.c) 95 1 (vs.map Sl.v)] rfl)
  refine jZ (o_ret (Post := fun r w' => r = .int .i64 (x0 + 3 * (tot (l.take i) : Int) + 3 * (b.length : Int)) ∧ Sat w0 w' ((kdP w0.heap.size k98 98 z.v (mkS (x0 + 3 * (tot (l.take i) : Int)) b.length)) :: (jW ((us.eraseIdx i).map fun (x : Value × List S98) => kdP w0.heap.size k98 98 x.1 x.2)) :: (SX.row (.slice s0.A s0.n s0.c) 95 1 (vs.map Sl.v)) :: Rs)) ha32 (by decide) (At.here (by kernel_rfl : ((qQ Try.f37 4)[5]?).map spec = some ((Op.call { callee := (Callee.value (Operand.func 57)), args := #[(Operand.tmp 15), (Operand.tmp 16)], argTypes := #[95, 3] }), some 17, 3, none))) rfl Try.func57 (by kernel_rfl) (markStepS_sat hS37 (by omega) hb1 (by omega)) (fun v38 w35 a33 hp39 ha34 => ?_))
  obtain ⟨rfl, hS36⟩ := hp39
  have ha40 : Has 19 [(0, .slice s0.A s0.n s0.c), (1, .int .i64 (x0 + 3 * (tot (l.take i) : Int))), (5, .int .i64 (i : Int)), (6, .int .i64 (i : Int)), (7, .slice s0.A s0.n s0.c), (8, .int .i64 (s0.n : Int)), (9, .bool true), (12, .slice s0.A s0.n s0.c), (13, .int .i64 (i : Int)), (14, .pointer (some ⟨bk s0, of_ s0 + i * 1, none⟩)), (15, .slice z.A z.n z.c), (16, .int .i64 (x0 + 3 * (tot (l.take i) : Int))), (17, .int .i64 (x0 + 3 * (tot (l.take i) : Int) + 3 * (b.length : Int)))] a33 := ha34.keeps [0, 1, 5, 6, 7, 8, 9, 12, 13, 14, 15, 16, 17] _ rfl
  refine p_val (v := .int .i64 (x0 + 3 * (tot (l.take i) : Int) + 3 * (b.length : Int))) ha40 (by decide) (qZ ha40 (At.here (by kernel_rfl : ((qQ Try.f37 4)[6]?).map spec = some ((Op.assign (Operand.tmp 17)), some 1, 3, none))) (by kernel_rfl) (fun _ => by kernel_rfl)) (fun a41 ha42 => ?_)
  refine jY ?_
  have ha43 := ha42.keeps [0, 5, 6, 7, 8, 9, 12, 13, 14, 15, 16, 17, 1] [(0, .slice s0.A s0.n s0.c), (5, .int .i64 (i : Int)), (6, .int .i64 (i : Int)), (7, .slice s0.A s0.n s0.c), (8, .int .i64 (s0.n : Int)), (9, .bool true), (12, .slice s0.A s0.n s0.c), (13, .int .i64 (i : Int)), (14, .pointer (some ⟨bk s0, of_ s0 + i * 1, none⟩)), (15, .slice z.A z.n z.c), (16, .int .i64 (x0 + 3 * (tot (l.take i) : Int))), (17, .int .i64 (x0 + 3 * (tot (l.take i) : Int) + 3 * (b.length : Int))), (1, .int .i64 (x0 + 3 * (tot (l.take i) : Int) + 3 * (b.length : Int)))] rfl
  clear ha42 ha40 a33 ha34 hS37 ha32 a31 hS11 ha30 a29 ha28 a27 ha26 a25 ha24 a23 ha22 a18 ha20
  refine in_n (jJ ?_)
  refine p_begin ?_
  refine p_val (v := .int .i64 (i : Int)) ha43 (by decide) (qZ ha43 (At.here (by kernel_rfl : ((qQ Try.f37 3)[0]?).map spec = some ((Op.move (Operand.tmp 5)), some 10, 3, none))) (by kernel_rfl) (fun _ => by kernel_rfl)) (fun a44 ha45 => ?_)
  refine p_val (v := .int .i64 ((i : Int) + 1)) ha45 (by decide) ((qZ (v := .int .i64 (IntKind.i64.wrap ((i : Int) + 1))) ha45 (At.here (by kernel_rfl : ((qQ Try.f37 3)[1]?).map spec = some ((Op.binOp BinOp.add 3 (Operand.tmp 10) (Operand.const (Value.int IntKind.i64 1)) 3), some 11, 3, none))) (by kernel_rfl) (fun _ => by kernel_rfl)).as (by rw [wrap_i64 (by omega) (by omega)])) (fun a46 ha47 => ?_)
  refine p_val (v := .int .i64 ((i : Int) + 1)) ha47 (by decide) (qZ ha47 (At.here (by kernel_rfl : ((qQ Try.f37 3)[2]?).map spec = some ((Op.assign (Operand.tmp 11)), some 5, 3, none))) (by kernel_rfl) (fun _ => by kernel_rfl)) (fun a48 ha49 => ?_)
  refine jY ?_
  have ha50 := ha49.keeps [0, 6, 7, 8, 9, 12, 13, 14, 15, 16, 17, 1, 10, 11, 5] [(0, .slice s0.A s0.n s0.c), (6, .int .i64 (i : Int)), (7, .slice s0.A s0.n s0.c), (8, .int .i64 (s0.n : Int)), (9, .bool true), (12, .slice s0.A s0.n s0.c), (13, .int .i64 (i : Int)), (14, .pointer (some ⟨bk s0, of_ s0 + i * 1, none⟩)), (15, .slice z.A z.n z.c), (16, .int .i64 (x0 + 3 * (tot (l.take i) : Int))), (17, .int .i64 (x0 + 3 * (tot (l.take i) : Int) + 3 * (b.length : Int))), (1, .int .i64 (x0 + 3 * (tot (l.take i) : Int) + 3 * (b.length : Int))), (10, .int .i64 (i : Int)), (11, .int .i64 ((i : Int) + 1)), (5, .int .i64 ((i : Int) + 1))] rfl
  clear ha49 ha47 a46 ha45 a44 ha43 a41
  refine jJ ?_
  have hS51 : Sat w0 w35 ((kdP w0.heap.size k98 98 z.v (mkS (x0 + 3 * (tot (l.take i) : Int)) b.length)) :: (jW ((us.eraseIdx i).map fun (x : Value × List S98) => kdP w0.heap.size k98 98 x.1 x.2)) :: (SX.row (.slice s0.A s0.n s0.c) 95 1 (vs.map Sl.v)) :: Rs) := hS36.pickR (l := [kdP w0.heap.size k98 98 z.v (mkS (x0 + 3 * (tot (l.take i) : Int)) b.length), jW ((us.eraseIdx i).map fun (x : Value × List S98) => kdP w0.heap.size k98 98 x.1 x.2), SX.row (.slice s0.A s0.n s0.c) 95 1 (vs.map Sl.v)]) [0, 1, 2] (by decide) [kdP w0.heap.size k98 98 z.v (mkS (x0 + 3 * (tot (l.take i) : Int)) b.length), jW ((us.eraseIdx i).map fun (x : Value × List S98) => kdP w0.heap.size k98 98 x.1 x.2), SX.row (.slice s0.A s0.n s0.c) 95 1 (vs.map Sl.v)] rfl
  have hS52 : Sat w0 w35 ((jW ((us.set i (z.v, mkS (x0 + 3 * (tot (l.take i) : Int)) b.length)).map fun (x : Value × List S98) => kdP w0.heap.size k98 98 x.1 x.2)) :: (SX.row (.slice s0.A s0.n s0.c) 95 1 (vs.map Sl.v)) :: Rs) := Sat.putAt (g := fun (x : Value × List S98) => kdP w0.heap.size k98 98 x.1 x.2) (y := (z.v, mkS (x0 + 3 * (tot (l.take i) : Int)) b.length)) hx hS51
  have hS53 : Sat w0 w35 ((SX.row (.slice s0.A s0.n s0.c) 95 1 (vs.map Sl.v)) :: (jW ((us.set i (z.v, mkS (x0 + 3 * (tot (l.take i) : Int)) b.length)).map fun (x : Value × List S98) => kdP w0.heap.size k98 98 x.1 x.2)) :: Rs) := hS52.pickR (l := [jW ((us.set i (z.v, mkS (x0 + 3 * (tot (l.take i) : Int)) b.length)).map fun (x : Value × List S98) => kdP w0.heap.size k98 98 x.1 x.2), SX.row (.slice s0.A s0.n s0.c) 95 1 (vs.map Sl.v)]) [1, 0] (by decide) [SX.row (.slice s0.A s0.n s0.c) 95 1 (vs.map Sl.v), jW ((us.set i (z.v, mkS (x0 + 3 * (tot (l.take i) : Int)) b.length)).map fun (x : Value × List S98) => kdP w0.heap.size k98 98 x.1 x.2)] rfl
  have e1 : x0 + 3 * (tot (l.take i) : Int) + 3 * (b.length : Int) = x0 + 3 * (tot (l.take (i + 1)) : Int) := by rw [htake, tot_append]; simp only [tot]; omega
  have ha54 : Has 19 [(0, .slice s0.A s0.n s0.c), (1, .int .i64 (x0 + 3 * (tot (l.take (i + 1)) : Int))), (5, .int .i64 ((i + 1 : Nat) : Int))] a48 := by have hh := ha50.keeps [0, 1, 5] _ rfl; rw [← e1]; exact hh
  exact ⟨_, by omega, i + 1, (us.set i (z.v, mkS (x0 + 3 * (tot (l.take i) : Int)) b.length)), rfl, by omega, hus2, hfs2, ha54.keeps [0, 1, 5] _ rfl, hS53⟩
 have ha55 : Has 19 [(0, .slice s0.A s0.n s0.c), (1, .int .i64 (x0 + 3 * (tot (l.take i) : Int))), (5, .int .i64 (i : Int)), (6, .int .i64 (i : Int)), (7, .slice s0.A s0.n s0.c), (8, .int .i64 (s0.n : Int)), (9, .bool false)] a18 := by have hh : Has 19 [(0, .slice s0.A s0.n s0.c), (1, .int .i64 (x0 + 3 * (tot (l.take i) : Int))), (5, .int .i64 (i : Int)), (6, .int .i64 (i : Int)), (7, .slice s0.A s0.n s0.c), (8, .int .i64 (s0.n : Int)), (9, .bool (decide ((i : Int) < (s0.n : Int))))] a18 := ha20.keeps [0, 1, 5, 6, 7, 8, 9] _ rfl; simp only [decide_eq_false c21, Bool.not_true, Bool.not_false] at hh; exact hh
 have hend : i = l.length := by have := c21; omega
 refine jV ha55 rfl rfl ?_
 refine wp_exit (yX (yX (in_x (jJ (wp_seq ?_)))))
 refine p_begin ?_
 refine p_val (v := .int .i64 (x0 + 3 * (tot (l.take i) : Int))) ha55 (by decide) (qZ ha55 (At.here (by kernel_rfl : ((qQ Try.f37 5)[0]?).map spec = some ((Op.move (Operand.tmp 1)), some 18, 3, none))) (by kernel_rfl) (fun _ => by kernel_rfl)) (fun a56 ha57 => ?_)
 refine p_val (v := .int .i64 (x0 + 3 * (tot (l.take i) : Int))) ha57 (by decide) (qZ ha57 (At.here (by kernel_rfl : ((qQ Try.f37 5)[1]?).map spec = some ((Op.assign (Operand.tmp 18)), some 4, 3, none))) (by kernel_rfl) (fun _ => by kernel_rfl)) (fun a58 ha59 => ?_)
 refine jY ?_
 have ha60 := ha59.keeps [4] [(4, .int .i64 (x0 + 3 * (tot (l.take i) : Int)))] rfl
 clear ha59 ha57 a56 ha55 a18 ha20
 refine jJ (wp_ret ?_)
 refine end_tmp (t := 4) ha60 (by kernel_rfl) rfl ?_
 rw [hend, List.take_length, List.drop_length, List.append_nil] at hus
 refine ⟨by rw [hend, List.take_length], Sat.shutS us hus (fun x hx => ?_) (by rw [hfs]; exact hS11)⟩
 have := List.mem_map_of_mem (f := Prod.fst) hx
 rw [hfs] at this
 obtain ⟨z, _, hz⟩ := List.mem_map.1 this
 exact ⟨z, hz.symm⟩
abbrev RdP (w : World) (s : Sl) (l : List (List ST)) : Prop := RdS k98 98 w s l
abbrev RdA (w : World) (s : Sl) (l : List (List LT)) : Prop := RdS k134 134 w s l
abbrev prg (B : Nat) (s : Sl) (l : List (List ST)) : Asn := kdS B k98 98 95 s l
structure Fits {α : Type} (l : List (List α)) : Prop where
 len : l.length ≤ 1048576
 tot : tot l ≤ 1048576
theorem Fits.each {α : Type} {l : List (List α)} (h : Fits l) : ∀ b ∈ l, b.length ≤ 1048576 := fun b hb => Nat.le_trans (tot_mem hb) h.tot
def toP (l : List (List LT)) : List (List ST) := l.map (·.map toS)
theorem toP_fits {l : List (List LT)} (h : Fits l) : Fits (toP l) := ⟨by rw [toP, List.length_map]; exact h.len, by rw [toP, tot_map]; exact h.tot⟩
theorem kdS_lower {α : Type} {B B' : Nat} {d : Kd α} {e e' : Nat} {s : Sl} {l : List (List α)} (hB : B' ≤ B) (w : World) (F : Nat → Prop) (h : (kdS B d e e' s l).says w F) : (kdS B' d e e' s l).says w F := by
 obtain ⟨us, G, g1, g2, g3⟩ := h
 refine ⟨us, G, g1, g2, fun i R hi => ?_⟩
 match i with
 | 0 => exact g3 0 R hi
 | 1 =>
  simp at hi
  subst hi
  obtain ⟨H, h1, h2, h3⟩ := g3 1 _ rfl
  refine ⟨H, by simpa using h1, by simpa using h2, fun j R hj => ?_⟩
  rw [List.getElem?_map] at hj
  obtain ⟨x, hx, rfl⟩ := Option.map_eq_some_iff.1 hj
  obtain ⟨q1, q2⟩ := h3 j (kdP B d e x.1 x.2) (by rw [List.getElem?_map, hx]; rfl)
  exact ⟨q1, Kd.R_lower q2 hB⟩
 | n + 2 => simp at hi
section
variable {w0 w : World} {Rs : List Asn}
theorem toStepSS_sat {s0 : Sl} {l0 : List (List LT)} (hS : Sat w0 w Rs) (hr : RdA w s0 l0) (hf : Fits l0) :
  Calls Try.prog 32 #[.slice s0.A s0.n s0.c] w (Ret fun r w' => ∃ s : Sl, r = s.v ∧ Sat w0 w' (prg w0.heap.size s (toP l0) :: Rs)) := by
 refine (toss_sat w s0 l0 hr.len hr.le hr.rd hf.len hf.each).mono ?_
 intro e w' h
 cases e with
 | returned v =>
  obtain ⟨s, us, rfl, h1, h2, h3⟩ := h
  refine ⟨s, rfl, ?_⟩
  have h4 : Sat w w' (prg w.heap.size s (toP l0) :: []) := Sat.shutS us h1 h2 h3
  have h5 : Sat w0 w' (prg w.heap.size s (toP l0) :: Rs) := hS.comp h4
  exact h5.turn (i := 0) rfl (prg w0.heap.size s (toP l0)) (kdS_lower hS.below.size w')
 | _ => exact h.elim
theorem szProgram_sat {s0 : Sl} {l0 : List (List LT)} {left : Int} (hS : Sat w0 w Rs) (hr : RdA w s0 l0) (h0 : 0 ≤ left) (h1 : left ≤ 1048576) :
  Calls Try.prog 12 #[.agg #[.slice s0.A s0.n s0.c], .int .i64 left] w (Ret fun r w' => r = .int .i64 (szP l0 left) ∧ Sat w0 w' Rs) := by
 have hb : ∀ b ∈ l0, b.length ≤ 9223372036854775807 := by
  intro b hb
  obtain ⟨j, hj⟩ := List.getElem?_of_mem hb
  obtain ⟨_, A', c', _, _, hC⟩ := rows_cells hr.rd j b hj
  exact hC.2.1
 have := laws_szProgram.calls 1048577 s0.A s0.c l0 left _ w hr.rd hr.le (szProgram_f l0 hb hr.rd.2.1 left h0 h1 _ (by omega))
 rw [← hr.len] at this
 refine this.mono ?_
 rintro e w' ⟨rfl, hb⟩
 exact ⟨rfl, hS.comp (Ps := []) ⟨hb, fun _ _ => False, fun i R h => by simp at h, fun _ _ _ h => h.elim, fun _ _ h => h.elim⟩⟩
end
theorem code14 : Try.f14.body = some (Code.seq (Code.region 0 (qQ Try.f14 0) false) (Code.seq (Code.region 1 (qQ Try.f14 1) false) (Code.seq (Code.region 2 (qQ Try.f14 2) false) (Code.seq (Code.region 3 (qQ Try.f14 3) false) Code.ret)))) := by kernel_rfl
theorem toProgram_sat0 {w0 : World} {s0 : Sl} {l0 : List (List LT)} (hr : RdA w0 s0 l0) (hf : Fits l0) :
  Calls Try.prog 14 #[.agg #[.slice s0.A s0.n s0.c]] w0 (Ret fun r w' => ∃ s : Sl, r = .agg #[s.v] ∧ Sat w0 w' [prg w0.heap.size s (toP l0)]) := by
 have Rs : List Asn := []
 have hS : Sat w0 w0 [] := Sat.start w0
 refine enter (n := 9) Try.func14 code14 (by kernel_rfl) (Nat.le_of_ble_eq_true rfl) (fun a ha => ?_)
 replace ha : Has 9 [(0, .agg #[.slice s0.A s0.n s0.c])] a := ha
 refine wp_seq ?_
 refine p_begin ?_
 refine jZ (o_new (cs := [.slice s0.A s0.n s0.c]) (T := 31) (fun b => .pointer (some ⟨b, 0, none⟩)) ha (by decide) (At.here (by kernel_rfl : ((qQ Try.f14 0)[0]?).map spec = some ((Op.box 31 (Operand.tmp 0)), some 1, 0, none))) (by kernel_rfl) hS (fun _ => by kernel_rfl) (fun b5 w3 a1 hb6 (hS4 : Sat w0 w3 ((SX.blk b5 [.slice s0.A s0.n s0.c] 31) :: [])) ha2 => ?_))
 refine jZ (o_new (cs := [.slice none 0 0]) (T := 40) (fun b => .pointer (some ⟨b, 0, none⟩)) ha2 (by decide) (At.here (by kernel_rfl : ((qQ Try.f14 0)[1]?).map spec = some ((Op.alloc 40), some 2, 0, none))) (by kernel_rfl) hS4 (fun _ => by kernel_rfl) (fun b11 w9 a7 hb12 (hS10 : Sat w0 w9 ((SX.blk b11 [.slice none 0 0] 40) :: (SX.blk b5 [.slice s0.A s0.n s0.c] 31) :: [])) ha8 => ?_))
 refine jY ?_
 have ha13 := ha8.keeps [1, 2] [(1, .pointer (some ⟨b5, 0, none⟩)), (2, .pointer (some ⟨b11, 0, none⟩))] rfl
 clear ha8 hS4 ha2 a1 hS ha a
 refine jJ (wp_seq ?_)
 refine p_begin ?_
 refine jZ (o_new (cs := [.slice none 0 0]) (T := 40) (fun b => .pointer (some ⟨b, 0, none⟩)) ha13 (by decide) (At.here (by kernel_rfl : ((qQ Try.f14 1)[0]?).map spec = some ((Op.alloc 40), some 3, 0, none))) (by kernel_rfl) hS10 (fun _ => by kernel_rfl) (fun b18 w16 a14 hb19 (hS17 : Sat w0 w16 ((SX.blk b18 [.slice none 0 0] 40) :: (SX.blk b11 [.slice none 0 0] 40) :: (SX.blk b5 [.slice s0.A s0.n s0.c] 31) :: [])) ha15 => ?_))
 refine jY ?_
 have ha20 := ha15.keeps [1, 2, 3] [(1, .pointer (some ⟨b5, 0, none⟩)), (2, .pointer (some ⟨b11, 0, none⟩)), (3, .pointer (some ⟨b18, 0, none⟩))] rfl
 clear ha15 hS10 ha13 a7
 refine jJ (wp_seq ?_)
 refine p_begin ?_
 refine p_val (v := .pointer (some ⟨b5, 0, none⟩)) ha20 (by decide) (qZ ha20 (At.here (by kernel_rfl : ((qQ Try.f14 2)[0]?).map spec = some ((Op.fieldAddr 31 (Operand.tmp 1) 0), some 4, 0, none))) (by kernel_rfl) (fun _ => by kernel_rfl)) (fun a21 ha22 => ?_)
 refine p_val (v := .slice s0.A s0.n s0.c) ha22 (by decide) (v_load (cs := [.slice s0.A s0.n s0.c]) (T := 31) ha22 (At.here (by kernel_rfl : ((qQ Try.f14 2)[1]?).map spec = some ((Op.load 29 (Operand.tmp 4)), some 5, 29, none))) rfl (by kernel_rfl) (fun _ hw => by rw [hw]; exact hS17.blk 2 rfl) rfl) (fun a23 ha24 => ?_)
 refine jZ (o_ret (Post := fun r w' => ∃ s1 : Sl, r = s1.v ∧ Sat w0 w' ((prg w0.heap.size s1 (toP l0)) :: (SX.blk b18 [.slice none 0 0] 40) :: (SX.blk b11 [.slice none 0 0] 40) :: (SX.blk b5 [.slice s0.A s0.n s0.c] 31) :: [])) ha24 (by decide) (At.here (by kernel_rfl : ((qQ Try.f14 2)[2]?).map spec = some ((Op.call { callee := (Callee.value (Operand.func 32)), args := #[(Operand.tmp 5)], argTypes := #[29] }), some 6, 38, none))) rfl Try.func32 (by kernel_rfl) (toStepSS_sat hS17 (hr.sat hS17) hf) (fun v29 w27 a25 hp30 ha26 => ?_))
 obtain ⟨s1, rfl, hS28⟩ := hp30
 have ha31 : Has 9 [(1, .pointer (some ⟨b5, 0, none⟩)), (2, .pointer (some ⟨b11, 0, none⟩)), (3, .pointer (some ⟨b18, 0, none⟩)), (4, .pointer (some ⟨b5, 0, none⟩)), (5, .slice s0.A s0.n s0.c), (6, .slice s1.A s1.n s1.c)] a25 := ha26.keeps [1, 2, 3, 4, 5, 6] _ rfl
 refine p_val (v := .pointer (some ⟨b18, 0, none⟩)) ha31 (by decide) (qZ ha31 (At.here (by kernel_rfl : ((qQ Try.f14 2)[3]?).map spec = some ((Op.fieldAddr 40 (Operand.tmp 3) 0), some 7, 0, none))) (by kernel_rfl) (fun _ => by kernel_rfl)) (fun a32 ha33 => ?_)
 refine jZ (o_store (cs := [.slice none 0 0]) (cs' := [.slice s1.A s1.n s1.c]) 1 ha33 (At.here (by kernel_rfl : ((qQ Try.f14 2)[4]?).map spec = some ((Op.store 38 (Operand.tmp 7) (Operand.tmp 6)), none, 0, none))) rfl rfl rfl (by kernel_rfl) hS28 rfl (by simp) rfl (fun w36 a34 (hS37 : Sat w0 w36 ((prg w0.heap.size s1 (toP l0)) :: (SX.blk b18 [.slice s1.A s1.n s1.c] 40) :: (SX.blk b11 [.slice none 0 0] 40) :: (SX.blk b5 [.slice s0.A s0.n s0.c] 31) :: [])) ha35 => ?_))
 refine jY ?_
 have ha38 := ha35.keeps [2, 3] [(2, .pointer (some ⟨b11, 0, none⟩)), (3, .pointer (some ⟨b18, 0, none⟩))] rfl
 clear ha35 hS28 ha33 a32 ha31 a25 ha26 hS17 ha24 a23 ha22 a21 ha20 a14
 refine jJ (wp_seq ?_)
 refine p_begin ?_
 refine p_val (v := .agg #[.slice s1.A s1.n s1.c]) ha38 (by decide) (v_loadAgg (vs := [.slice s1.A s1.n s1.c]) (cs := [.slice s1.A s1.n s1.c]) (T := 40) ha38 (At.here (by kernel_rfl : ((qQ Try.f14 3)[0]?).map spec = some ((Op.load 40 (Operand.tmp 3)), some 8, 40, none))) rfl (by kernel_rfl) (fun _ hw => by rw [hw]; exact hS37.blk 1 rfl) rfl) (fun a39 ha40 => ?_)
 refine jZ (kH (vs := [.slice s1.A s1.n s1.c]) (cs := [.slice none 0 0]) (cs' := [.slice s1.A s1.n s1.c]) 2 ha40 (At.here (by kernel_rfl : ((qQ Try.f14 3)[1]?).map spec = some ((Op.store 40 (Operand.tmp 2) (Operand.tmp 8)), none, 0, none))) rfl rfl rfl (by kernel_rfl) hS37 rfl (by simp) rfl (fun w43 a41 (hS44 : Sat w0 w43 ((prg w0.heap.size s1 (toP l0)) :: (SX.blk b18 [.slice s1.A s1.n s1.c] 40) :: (SX.blk b11 [.slice s1.A s1.n s1.c] 40) :: (SX.blk b5 [.slice s0.A s0.n s0.c] 31) :: [])) ha42 => ?_))
 refine jY ?_
 have ha45 := ha42.keeps [2] [(2, .pointer (some ⟨b11, 0, none⟩))] rfl
 clear ha42 hS37 ha40 a39 ha38 a34
 refine jJ (wp_ret (qK ha45 (by kernel_rfl) (xZ (t := 2) (ty := 40) (i := 2) (cs := [.slice s1.A s1.n s1.c]) ha45 rfl hS44 rfl (by kernel_rfl)) ?_))
 have hS46 : Sat w0 w43 ((prg w0.heap.size s1 (toP l0)) :: []) := hS44.pickR (l := [prg w0.heap.size s1 (toP l0), SX.blk b18 [.slice s1.A s1.n s1.c] 40, SX.blk b11 [.slice s1.A s1.n s1.c] 40, SX.blk b5 [.slice s0.A s0.n s0.c] 31]) [0] (by decide) [prg w0.heap.size s1 (toP l0)] rfl
 exact ⟨s1, rfl, hS46⟩
theorem code18 : Try.f18.body = some (Code.seq (Code.region 0 (qQ Try.f18 0) false) (Code.seq (Code.region 1 (qQ Try.f18 1) false) (Code.seq (Code.region 2 (qQ Try.f18 2) false) Code.ret))) := by kernel_rfl
theorem markProgram_sat {w0 w : World} {Rs : List Asn} {s : Sl} {l : List (List ST)} {x0 : Int} (hS : Sat w0 w (prg w0.heap.size s l :: Rs)) (hf : Fits l) (h0 : 0 ≤ x0) (h1 : x0 ≤ 1048576) :
  Calls Try.prog 18 #[.agg #[.slice s.A s.n s.c], .int .i64 x0] w (Ret fun r w' => r = .int .i64 (x0 + 3 * (tot l : Int)) ∧ Sat w0 w' (prg w0.heap.size s (mkSS x0 l) :: Rs)) := by
 refine enter (n := 10) Try.func18 code18 (by kernel_rfl) (Nat.le_of_ble_eq_true rfl) (fun a ha => ?_)
 replace ha : Has 10 [(0, .agg #[.slice s.A s.n s.c]), (1, .int .i64 x0)] a := ha
 refine wp_seq ?_
 refine p_begin ?_
 refine jZ (o_new (cs := [.slice s.A s.n s.c]) (T := 40) (fun b => .pointer (some ⟨b, 0, none⟩)) ha (by decide) (At.here (by kernel_rfl : ((qQ Try.f18 0)[0]?).map spec = some ((Op.box 40 (Operand.tmp 0)), some 2, 0, none))) (by kernel_rfl) hS (fun _ => by kernel_rfl) (fun b5 w3 a1 hb6 (hS4 : Sat w0 w3 ((SX.blk b5 [.slice s.A s.n s.c] 40) :: (prg w0.heap.size s l) :: Rs)) ha2 => ?_))
 refine p_val (v := .int .i64 0) ha2 (by decide) (qZ ha2 (At.here (by kernel_rfl : ((qQ Try.f18 0)[1]?).map spec = some ((Op.assign (Operand.const (Value.int IntKind.i64 0))), some 4, 3, none))) (by kernel_rfl) (fun _ => by kernel_rfl)) (fun a7 ha8 => ?_)
 refine jY ?_
 have ha9 := ha8.keeps [1, 2, 4] [(1, .int .i64 x0), (2, .pointer (some ⟨b5, 0, none⟩)), (4, .int .i64 0)] rfl
 clear ha8 ha2 a1 hS ha a
 refine jJ (wp_seq ?_)
 refine p_begin ?_
 refine p_val (v := .pointer (some ⟨b5, 0, none⟩)) ha9 (by decide) (qZ ha9 (At.here (by kernel_rfl : ((qQ Try.f18 1)[0]?).map spec = some ((Op.fieldAddr 40 (Operand.tmp 2) 0), some 5, 0, none))) (by kernel_rfl) (fun _ => by kernel_rfl)) (fun a10 ha11 => ?_)
 refine p_val (v := .slice s.A s.n s.c) ha11 (by decide) (v_load (cs := [.slice s.A s.n s.c]) (T := 40) ha11 (At.here (by kernel_rfl : ((qQ Try.f18 1)[1]?).map spec = some ((Op.load 38 (Operand.tmp 5)), some 6, 38, none))) rfl (by kernel_rfl) (fun _ hw => by rw [hw]; exact hS4.blk 0 rfl) rfl) (fun a12 ha13 => ?_)
 refine p_val (v := .int .i64 x0) ha13 (by decide) (qZ ha13 (At.here (by kernel_rfl : ((qQ Try.f18 1)[2]?).map spec = some ((Op.move (Operand.tmp 1)), some 7, 3, none))) (by kernel_rfl) (fun _ => by kernel_rfl)) (fun a14 ha15 => ?_)
 have hS20 : Sat w0 w3 ((prg w0.heap.size s l) :: (SX.blk b5 [.slice s.A s.n s.c] 40) :: Rs) := hS4.pickR (l := [SX.blk b5 [.slice s.A s.n s.c] 40, prg w0.heap.size s l]) [1, 0] (by decide) [prg w0.heap.size s l, SX.blk b5 [.slice s.A s.n s.c] 40] rfl
 refine jZ (o_ret (Post := fun r w' => r = .int .i64 (x0 + 3 * (tot l : Int)) ∧ Sat w0 w' ((prg w0.heap.size s (mkSS x0 l)) :: (SX.blk b5 [.slice s.A s.n s.c] 40) :: Rs)) ha15 (by decide) (At.here (by kernel_rfl : ((qQ Try.f18 1)[3]?).map spec = some ((Op.call { callee := (Callee.value (Operand.func 37)), args := #[(Operand.tmp 6), (Operand.tmp 7)], argTypes := #[38, 3] }), some 8, 3, none))) rfl Try.func37 (by kernel_rfl) (markStepSS_sat w0 _ _ s l x0 hS20 h0 (by have := hf.len; omega) (by have := hf.tot; omega) h1) (fun v21 w18 a16 hp22 ha17 => ?_))
 obtain ⟨rfl, hS19⟩ := hp22
 have ha23 : Has 10 [(1, .int .i64 x0), (2, .pointer (some ⟨b5, 0, none⟩)), (4, .int .i64 0), (5, .pointer (some ⟨b5, 0, none⟩)), (6, .slice s.A s.n s.c), (7, .int .i64 x0), (8, .int .i64 (x0 + 3 * (tot l : Int)))] a16 := ha17.keeps [1, 2, 4, 5, 6, 7, 8] _ rfl
 refine p_val (v := .int .i64 (x0 + 3 * (tot l : Int))) ha23 (by decide) (qZ ha23 (At.here (by kernel_rfl : ((qQ Try.f18 1)[4]?).map spec = some ((Op.assign (Operand.tmp 8)), some 1, 3, none))) (by kernel_rfl) (fun _ => by kernel_rfl)) (fun a24 ha25 => ?_)
 refine jY ?_
 have ha26 := ha25.keeps [4, 1] [(4, .int .i64 0), (1, .int .i64 (x0 + 3 * (tot l : Int)))] rfl
 clear ha25 ha23 a16 ha17 hS20 ha15 a14 hS4 ha13 a12 ha11 a10 ha9 a7
 refine jJ (wp_seq ?_)
 refine p_begin ?_
 refine p_val (v := .int .i64 (x0 + 3 * (tot l : Int))) ha26 (by decide) (qZ ha26 (At.here (by kernel_rfl : ((qQ Try.f18 2)[0]?).map spec = some ((Op.move (Operand.tmp 1)), some 9, 3, none))) (by kernel_rfl) (fun _ => by kernel_rfl)) (fun a27 ha28 => ?_)
 refine p_val (v := .int .i64 (x0 + 3 * (tot l : Int))) ha28 (by decide) (qZ ha28 (At.here (by kernel_rfl : ((qQ Try.f18 2)[1]?).map spec = some ((Op.assign (Operand.tmp 9)), some 4, 3, none))) (by kernel_rfl) (fun _ => by kernel_rfl)) (fun a29 ha30 => ?_)
 refine jY ?_
 have ha31 := ha30.keeps [4] [(4, .int .i64 (x0 + 3 * (tot l : Int)))] rfl
 clear ha30 ha28 a27 ha26 a24
 refine jJ (wp_ret (qK ha31 (by kernel_rfl) (yJ (t := 4) ha31 rfl) ?_))
 have hS32 : Sat w0 w18 ((prg w0.heap.size s (mkSS x0 l)) :: Rs) := hS19.pickR (l := [prg w0.heap.size s (mkSS x0 l), SX.blk b5 [.slice s.A s.n s.c] 40]) [0] (by decide) [prg w0.heap.size s (mkSS x0 l)] rfl
 exact ⟨rfl, hS32⟩
theorem toProgram_sat {w0 w : World} {Rs : List Asn} {s0 : Sl} {l0 : List (List LT)} (hS : Sat w0 w Rs) (hr : RdA w s0 l0) (hf : Fits l0) :
  Calls Try.prog 14 #[.agg #[.slice s0.A s0.n s0.c]] w (Ret fun r w' => ∃ s : Sl, r = .agg #[s.v] ∧ Sat w0 w' (prg w0.heap.size s (toP l0) :: Rs)) := by
 refine (toProgram_sat0 hr hf).mono ?_
 intro e w' h
 cases e with
 | returned v =>
  obtain ⟨s, rfl, h4⟩ := h
  have h5 : Sat w0 w' (prg w.heap.size s (toP l0) :: Rs) := hS.comp h4
  exact ⟨s, rfl, h5.turn (i := 0) rfl (prg w0.heap.size s (toP l0)) (kdS_lower hS.below.size w')⟩
 | _ => exact h.elim
end Go.Proofs.Ytcbijhgepdedpaa.G
