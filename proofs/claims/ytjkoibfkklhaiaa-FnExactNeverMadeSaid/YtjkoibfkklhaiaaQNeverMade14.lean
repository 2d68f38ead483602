/- What the claim FnExactNeverMade rests on, part 14 of 22; the last part proves it: for every input the law answers true, and its arguments read behind the call as before it. No condition. -/
import Derived.Lib.SliceRun
import Derived.KernelRfl
import Derived.WalkKit
import Derived.Test.YtjkoibfkklhaiaaQNeverMade7
import Derived.Test.YtjkoibfkklhaiaaQNeverMade8
import Derived.Test.YtjkoibfkklhaiaaQNeverMade9
import Derived.Test.YtjkoibfkklhaiaaQNeverMade10
set_option linter.unusedSimpArgs false
set_option linter.unusedVariables false
namespace Go.Proofs.Ytjkoibfkklhaiaa.G
open Go.RowKit Go.Lib Go.Proofs.Ytjkoibfkklhaiaa.SX Go.Proofs.YtjkoibfkklhaiaaW.PrintWords Go.Proofs.YtjkoibfkklhaiaaW.PrintLast Go.Proofs.YtjkoibfkklhaiaaW.PrintMore
theorem in_eq (x lo hi : Int) : impl_in.f x lo hi = some (decide (lo ≤ x) && decide (x ≤ hi)) := by
 unfold impl_in.f
 by_cases h : lo ≤ x <;> simp [h]
theorem num_eq (x : Int) : impl_isNumber.f x = some (numB x) := by unfold impl_isNumber.f; rw [in_eq]; rfl
def encT (x : S176) : List Value := [.int .i64 x.f0, .int .i64 x.f1, .int .i64 x.f2]
theorem inner_at (w : World) (B : Nat) (A : Option Addr) (n c : Nat) (hn : 1 ≤ n ∧ n ≤ 6) (hB : B < w.heap.size) (hcell : w.cell? ⟨B, 0, none⟩ = some (.slice A n c)) :
    ∀ W, Below w.heap.size w W → ∀ x : S176, Calls Try.prog 116 #[.agg (encT x).toArray, .pointer (some ⟨B, 0, none⟩)] W (Ret fun r w' => r = .bool (!(stepB (n : Int) x.f0 x.f1 x.f2)) ∧ Below W.heap.size W w') := by
  intro W hb x
  have hc : W.cell? ⟨B, 0, none⟩ = some (.slice A n c) := (hb.cell (p := ⟨B, 0, none⟩) hB).trans hcell
  have hlt : B < W.heap.size := Nat.lt_of_lt_of_le hB hb.size
  show Calls Try.prog 116 #[.agg #[.int .i64 x.f0, .int .i64 x.f1, .int .i64 x.f2], .pointer (some ⟨B, 0, none⟩)] W _
  refine Calls.mono (R := fun e w' => e = .returned (.bool (!(stepB (n : Int) x.f0 x.f1 x.f2))) ∧ Below W.heap.size W w') ?_ (by rintro e w' ⟨rfl, h⟩; exact ⟨rfl, h⟩)
  have hs : ∀ W', Calls Try.prog 117 #[.agg #[.int .i64 x.f0, .int .i64 x.f1, .int .i64 x.f2], .int .i64 (n : Int)] W' fun e w' => e = .returned (.bool (stepB (n : Int) x.f0 x.f1 x.f2)) ∧ Below W'.heap.size W' w' :=
    fun W' => (isStep_sat (k := x.f0) (xa := x.f1) (xb := x.f2) (Sat.start W') (by omega) (by omega)).mono fun e w' h => by
      cases e with
      | returned r => exact ⟨congrArg _ h.1, h.2.below⟩
      | _ => exact h.elim
  have hc' : (W.alloc (.cells #[.int .i64 x.f0, .int .i64 x.f1, .int .i64 x.f2] 176)).cell? ⟨B, 0, none⟩ = some (.slice A n c) := Lib.cell?_alloc_some _ hc
  obtain ⟨r, hr⟩ : ∃ r, r = stepB (n : Int) x.f0 x.f1 x.f2 := ⟨_, rfl⟩
  rw [← hr] at hs
  go_enter Try.func116, Try.ntmps116
  go_wp2_with (go_at_call 117; refine (hs _).mono ?_; rintro e w' ⟨rfl, hw'⟩)
  go_ret
  refine ⟨by rw [← hr]; rfl, ((Below.refl _ W).alloc (Nat.le_refl _) _).trans (hw'.mono (by simp))⟩
theorem contains_step (w0 : World) (s0 : Sl) (p : S176 → Bool) (l0 : List S176) (cap : Value) (hbig : l0.length ≤ 1000000) (hrd : ∀ w', Below w0.heap.size w0 w' → RdL Try.prog 176 3 (fun x => .agg (encT x).toArray) w' s0 l0)
    (hp : ∀ w', Below w0.heap.size w0 w' → ∀ x ∈ l0, Calls Try.prog 116 #[.agg (encT x).toArray, cap] w' (Ret fun r w'' => r = .bool (p x) ∧ Below w'.heap.size w' w'')) :
    Calls Try.prog 115 #[.slice s0.A s0.n s0.c, .func (.func 116) #[] #[cap]] w0 fun e w' => e = .returned (.bool (l0.any p)) ∧ Below w0.heap.size w0 w' := by
  have hi : Calls Try.prog 138 #[.slice s0.A s0.n s0.c, .func (.func 116) #[] #[cap]] w0 fun e w' => ∃ q : Int, e = .returned (.int .i64 q) ∧ decide (q ≥ 0) = l0.any p ∧ Below w0.heap.size w0 w' :=
    (indexStep w0 s0 _ p l0 cap hbig hrd hp).mono fun e w' hp => by
      cases e with
      | returned r => obtain ⟨⟨q, rfl, h⟩, hb⟩ := hp; exact ⟨q, rfl, h, hb⟩
      | panicked c => exact hp.elim
      | outgrown => exact hp.elim
  clear hrd hp
  generalize l0.any p = r at hi ⊢
  go_enter Try.func115, Try.ntmps115
  go_wp2_with (go_at_call 138; refine hi.mono ?_; rintro e w' ⟨q, rfl, hq, hb⟩)
  go_ret
  exact ⟨by rw [← hq]; rfl, hb⟩
theorem rdl_step {w : World} {s : Sl} {l : List S176} (hn : s.n = l.length) (hc : l.length ≤ s.c) (hr : Kd.C k176 w s.A l.length l) : RdL Try.prog 176 3 (fun x => .agg (encT x).toArray) w s l := by
 refine ⟨hn, hc, fun j x hj => ?_⟩
 obtain ⟨_, _, h3⟩ := hr
 have hjl : j < l.length := (List.getElem?_eq_some_iff.1 hj).1
 obtain ⟨ad, hA, hcells⟩ := h3 (by omega)
 have key : ∀ (j : Nat) (x : S176), l[j]? = some x → ∀ i u, (encT x)[i]? = some u → w.cell? (ad.add (j * 3 + i)) = some u := fun j x hj i u hu => by
  obtain ⟨cs, _, hk, hu'⟩ := hcells j x hj
  rw [k176_open hk] at hu'
  exact hu' i u hu
 have h0 := key 0 _ (List.getElem?_eq_getElem (by omega)) 0 _ rfl
 have hspot := spot_of_cell h0
 obtain ⟨b, off, sp⟩ := ad
 subst hspot
 have e1 : bk s = b := by simp [bk, hA]
 have e2 : of_ s = off := by simp [of_, hA]
 rw [e1, e2]
 refine ⟨hA, run_loadVar_agg (vs := encT x) (by kernel_rfl) fun i u hu => ?_⟩
 have := key j x hj i u hu
 rw [add0] at this ⊢
 rw [Nat.add_assoc]
 exact this
theorem outer_at (W : World) (B : Nat) (A : Option Addr) (n c : Nat) (hn : 1 ≤ n ∧ n ≤ 6) (hB : B < W.heap.size) (hcell : W.cell? ⟨B, 0, none⟩ = some (.slice A n c)) (s1 : Sl) (l : List S176) (h1 : s1.n = l.length) (h2 : l.length ≤ s1.c) (hr : Kd.C k176 W s1.A l.length l) :
    Calls Try.prog 114 #[.slice s1.A s1.n s1.c, .pointer (some ⟨B, 0, none⟩)] W fun e w' => e = .returned (.bool (!(bodyB (n : Int) l))) ∧ Below W.heap.size W w' := by
  have hb : ¬ l.length > 8 → Calls Try.prog 115 #[.slice s1.A s1.n s1.c, .func (.func 116) #[] #[.pointer (some ⟨B, 0, none⟩)]] W fun e w' => e = .returned (.bool (l.any fun s => !(stepB (n : Int) s.f0 s.f1 s.f2))) ∧ Below W.heap.size W w' := fun h8 =>
    contains_step W s1 _ l _ (by omega) (fun w' hb => rdl_step h1 h2 (Kd.C_below hr hb)) (fun w' hb x _ => inner_at W B A n c hn hB hcell w' hb x)
  have hbody : (!(bodyB (n : Int) l)) = if l.length > 8 then true else (l.any fun s => !(stepB (n : Int) s.f0 s.f1 s.f2)) := by
    unfold bodyB
    by_cases h8 : l.length > 8
    · rw [if_pos h8, decide_eq_false (by omega)]; rfl
    · rw [if_neg h8, decide_eq_true (by omega), Bool.true_and, List.all_eq_not_any_not, Bool.not_not]
  rw [hbody]
  obtain ⟨A1, n1, c1⟩ := s1
  simp only at h1 h2 hb ⊢
  subst h1
  clear hr hbody hcell
  generalize (l.any fun s => !(stepB (n : Int) s.f0 s.f1 s.f2)) = r at hb ⊢
  generalize l.length = m at *
  go_enter Try.func114, Try.ntmps114
  by_cases h8 : m > 8
  · go_wp2
    all_goals (go_ret; first | exact ⟨rfl, Below.refl _ _⟩ | (exfalso; omega))
  · have hb' := hb h8
    go_wp2_with (go_at_call 115; refine hb'.mono ?_; rintro e w' ⟨rfl, hw'⟩)
    all_goals (go_ret; refine ⟨?_, hw'⟩; have h9 : decide (8 < (m : Int)) = false := decide_eq_false (by omega); simp [h9])
theorem contains_body (w0 : World) (s0 : Sl) (enc : Nat → Value) (p : Nat → Bool) (l0 : List Nat) (cap : Value) (hbig : l0.length ≤ 1000000) (hrd : ∀ w', Below w0.heap.size w0 w' → RdL Try.prog 109 1 enc w' s0 l0)
    (hp : ∀ w', Below w0.heap.size w0 w' → ∀ x ∈ l0, Calls Try.prog 114 #[enc x, cap] w' (Ret fun r w'' => r = .bool (p x) ∧ Below w'.heap.size w' w'')) :
    Calls Try.prog 113 #[.slice s0.A s0.n s0.c, .func (.func 114) #[] #[cap]] w0 fun e w' => e = .returned (.bool (l0.any p)) ∧ Below w0.heap.size w0 w' := by
  have hi : Calls Try.prog 137 #[.slice s0.A s0.n s0.c, .func (.func 114) #[] #[cap]] w0 fun e w' => ∃ q : Int, e = .returned (.int .i64 q) ∧ decide (q ≥ 0) = l0.any p ∧ Below w0.heap.size w0 w' :=
    (indexBody w0 s0 _ p l0 cap hbig hrd hp).mono fun e w' hp => by
      cases e with
      | returned r => obtain ⟨⟨q, rfl, h⟩, hb⟩ := hp; exact ⟨q, rfl, h, hb⟩
      | panicked c => exact hp.elim
      | outgrown => exact hp.elim
  clear hrd hp
  generalize l0.any p = r at hi ⊢
  go_enter Try.func113, Try.ntmps113
  go_wp2_with (go_at_call 137; refine hi.mono ?_; rintro e w' ⟨q, rfl, hq, hb⟩)
  go_ret
  exact ⟨by rw [← hq]; rfl, hb⟩
theorem bodies_cells {w : World} {s : Sl} {L : List (List S176)} (hr : Kd.C (Kd.slice 176 k176) w s.A L.length L) (j : Nat) (b : List S176) (hj : L[j]? = some b) :
  s.A = some ⟨bk s, of_ s, none⟩ ∧ ∃ A' c', w.cell? ⟨bk s, of_ s + j, none⟩ = some (.slice A' b.length c') ∧ b.length ≤ c' ∧ Kd.C k176 w A' b.length b := by
 obtain ⟨_, _, h3⟩ := hr
 have hjl : j < L.length := (List.getElem?_eq_some_iff.1 hj).1
 obtain ⟨ad, hA, hcells⟩ := h3 (by omega)
 have key : ∀ (j : Nat) (b : List S176), L[j]? = some b → ∃ A' c', w.cell? (ad.add j) = some (.slice A' b.length c') ∧ b.length ≤ c' ∧ Kd.C k176 w A' b.length b := fun j b hj => by
  obtain ⟨cs, _, ⟨A', c', rfl, h4, h5⟩, hu⟩ := hcells j b hj
  have := hu 0 _ rfl
  exact ⟨A', c', by simpa [Kd.slice] using this, h4, h5⟩
 obtain ⟨A0, c0, h0, _⟩ := key 0 _ (List.getElem?_eq_getElem (by omega))
 have hspot := spot_of_cell h0
 obtain ⟨bb, off, sp⟩ := ad
 subst hspot
 have e1 : bk s = bb := by simp [bk, hA]
 have e2 : of_ s = off := by simp [of_, hA]
 rw [e1, e2]
 obtain ⟨A', c', h6, h7, h8⟩ := key j b hj
 rw [add0] at h6
 exact ⟨hA, A', c', h6, h7, h8⟩
def bodyV (w : World) (s : Sl) (j : Nat) : Value := (w.cell? ⟨bk s, of_ s + j, none⟩).getD undef
theorem impl_IsProgram.calls (A0_0 : Option Addr) (c0_0 : Nat) (l0_0 : List (List (S176))) (r : Bool) (w : World) (hr0_0 : Kd.C (Kd.slice 176 k176) w A0_0 l0_0.length l0_0) (hc0_0 : l0_0.length ≤ c0_0) (h : impl_IsProgram.f l0_0 = some r) :
    Calls Try.prog 84 #[.agg #[.slice A0_0 l0_0.length c0_0]] w fun e w' => e = .returned (.bool r) ∧ Below w.heap.size w w' := by
  have hr : programB l0_0 = r := by simpa [impl_IsProgram.f] using h
  have hb1 : Below w.heap.size w (w.alloc (.cells #[.slice A0_0 l0_0.length c0_0] 35)) := (Below.refl _ w).alloc (Nat.le_refl _) _
  have hcell1 : (w.alloc (.cells #[.slice A0_0 l0_0.length c0_0] 35)).cell? ⟨w.heap.size, 0, none⟩ = some (.slice A0_0 l0_0.length c0_0) := by simp
  have hcon : (1 ≤ l0_0.length ∧ l0_0.length ≤ 6) → ∀ W, Below (w.heap.size + 1) (w.alloc (.cells #[.slice A0_0 l0_0.length c0_0] 35)) W →
      Calls Try.prog 113 #[.slice A0_0 l0_0.length c0_0, .func (.func 114) #[] #[.pointer (some ⟨w.heap.size, 0, none⟩)]] W fun e w' => e = .returned (.bool !(l0_0.all (bodyB (l0_0.length : Int)))) ∧ Below W.heap.size W w' := by
    intro hn W hW;have hsz : w.heap.size + 1 ≤ W.heap.size := by have := hW.size; simpa using this
    have hwW : Below w.heap.size w W := hb1.trans (hW.mono (by omega));have hC : Kd.C (Kd.slice 176 k176) W A0_0 l0_0.length l0_0 := Kd.C_below hr0_0 hwW;have hcellW : W.cell? ⟨w.heap.size, 0, none⟩ = some (.slice A0_0 l0_0.length c0_0) := (hW.cell (p := ⟨w.heap.size, 0, none⟩) (by simp)).trans hcell1
    have hany : ((List.range l0_0.length).any fun j => !(bodyB (l0_0.length : Int) (l0_0.getD j []))) = !(l0_0.all (bodyB (l0_0.length : Int))) := by
      rw [List.all_eq_not_any_not, Bool.not_not]
      generalize (l0_0.length : Int) = q
      apply Bool.eq_iff_iff.2
      simp only [List.any_eq_true, List.mem_range]
      constructor
      · rintro ⟨j, hj, hp⟩
        exact ⟨l0_0[j], List.getElem_mem hj, by simpa [List.getD, hj] using hp⟩
      · rintro ⟨b, hb, hp⟩
        obtain ⟨j, hj, rfl⟩ := List.getElem_of_mem hb;exact ⟨j, hj, by simpa [List.getD, hj] using hp⟩
    have hb : ∀ (j : Nat) (hj : j < l0_0.length), ∃ A' c', W.cell? ⟨bk ⟨A0_0, l0_0.length, c0_0⟩, of_ ⟨A0_0, l0_0.length, c0_0⟩ + j, none⟩ = some (.slice A' l0_0[j].length c') ∧ l0_0[j].length ≤ c' ∧ Kd.C k176 W A' l0_0[j].length l0_0[j] := fun j hj => (bodies_cells (s := ⟨A0_0, l0_0.length, c0_0⟩) hC j _ (List.getElem?_eq_getElem hj)).2;rw [← hany];refine contains_body W ⟨A0_0, l0_0.length, c0_0⟩ (bodyV W ⟨A0_0, l0_0.length, c0_0⟩) _ (List.range l0_0.length) _ (by simp; omega) (fun w' hw' => ⟨by simp, by simpa using hc0_0, fun j x hj => ?_⟩) (fun w' hw' j hj => ?_)
    · obtain ⟨hjl, rfl⟩ : j < l0_0.length ∧ j = x := by
        obtain ⟨h1, h2⟩ := List.getElem?_eq_some_iff.1 hj;exact ⟨by simpa using h1, by simpa using h2⟩
      obtain ⟨A', c', h6, _⟩ := hb j hjl;refine ⟨(bodies_cells (s := ⟨A0_0, l0_0.length, c0_0⟩) hC j _ (List.getElem?_eq_getElem hjl)).1, ?_⟩;have h7 := pw_cell_below hw' h6;rw [Nat.mul_one];have := run_loadVar_cell (P := Try.prog) (w := w') (t := 109) (by kernel_rfl) h7;rw [this]
      simp [bodyV, h6]
    · have hjl : j < l0_0.length := List.mem_range.1 hj
      obtain ⟨A', c', h6, h7, h8⟩ := hb j hjl;have hv : bodyV W ⟨A0_0, l0_0.length, c0_0⟩ j = .slice A' l0_0[j].length c' := by simp [bodyV, h6]
      have hd : l0_0.getD j [] = l0_0[j] := by simp [List.getD, hjl]
      rw [hv, hd];refine (outer_at w' w.heap.size A0_0 l0_0.length c0_0 hn (by have := hw'.size; omega) (pw_cell_below hw' hcellW) ⟨A', l0_0[j].length, c'⟩ l0_0[j] rfl h7 (Kd.C_below h8 hw')).mono ?_
      rintro e w'' ⟨rfl, hb'⟩
      exact ⟨rfl, hb'⟩
  subst hr
  unfold programB
  have hin : ∀ W, Calls Try.prog 94 #[.int .i64 (l0_0.length : Int), .int .i64 1, .int .i64 6] W fun e w' => e = .returned (.bool (decide (1 ≤ l0_0.length) && decide (l0_0.length ≤ 6))) ∧ Drawn0 W w' := fun W => impl_in.calls _ _ _ _ W (by rw [in_eq]; congr 2 <;> (apply decide_eq_decide.2; omega))
  generalize hB : (l0_0.all (bodyB (l0_0.length : Int))) = rb at hcon ⊢
  clear hr0_0 h hcell1
  generalize l0_0.length = m at *
  by_cases hn : 1 ≤ m ∧ m ≤ 6
  · have hcon' := hcon hn
    rw [decide_eq_true hn.1, decide_eq_true hn.2] at hin;rw [decide_eq_true hn.1, decide_eq_true hn.2]
    go_enter Try.func84, Try.ntmps84
    go_wp2_with (first | (go_at_call 94; refine (hin _).mono ?_; rintro e w' ⟨rfl, ⟨q, rfl⟩⟩) | (go_at_call 113; refine (hcon' _ ?hw).mono ?_; rotate_left; rintro e w' ⟨rfl, hw'⟩))
    case hw => exact ⟨rfl, rfl, rfl, Nat.le_refl _, fun _ _ => rfl⟩
    go_ret
    exact ⟨by simp, Below.trans (B := w.heap.size) (b := (w.alloc (.cells #[.slice A0_0 m c0_0] 35)).drewN q) (hb1.trans ⟨rfl, rfl, rfl, Nat.le_refl _, fun _ _ => rfl⟩) (hw'.mono (show w.heap.size ≤ _ by simp))⟩
  · have hf : (decide (1 ≤ m) && decide (m ≤ 6)) = false := by by_cases h1 : 1 ≤ m <;> simp [h1] ; omega
    rw [hf] at hin;rw [hf]
    go_enter Try.func84, Try.ntmps84
    go_wp2_with (go_at_call 94; refine (hin _).mono ?_; rintro e w' ⟨rfl, ⟨q, rfl⟩⟩)
    all_goals (go_ret; exact ⟨rfl, hb1.trans ⟨rfl, rfl, rfl, Nat.le_refl _, fun _ _ => rfl⟩⟩)
end Go.Proofs.Ytjkoibfkklhaiaa.G
