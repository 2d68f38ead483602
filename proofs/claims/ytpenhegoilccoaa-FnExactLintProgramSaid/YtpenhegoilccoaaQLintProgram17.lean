/- What the claim FnExactLintProgram rests on, part 17 of 29; the last part proves it: for every input the law answers true, and its arguments read behind the call as before it. No condition. -/
import Derived.Lib.SliceRun
import Derived.KernelRfl
import Derived.WalkKit
import Derived.Test.YtpenhegoilccoaaQLintProgram10
import Derived.Test.YtpenhegoilccoaaQLintProgram11
import Derived.Test.YtpenhegoilccoaaQLintProgram12
import Derived.Test.YtpenhegoilccoaaQLintProgram13
import Derived.Test.YtpenhegoilccoaaQLintProgram14
set_option linter.unusedSimpArgs false
set_option linter.unusedVariables false
namespace Go.Proofs.Ytpenhegoilccoaa.G
open Go.RowKit Go.Lib Go.Proofs.Ytpenhegoilccoaa.SX Go.Proofs.YtpenhegoilccoaaW.PrintWords Go.Proofs.YtpenhegoilccoaaW.PrintLast Go.Proofs.YtpenhegoilccoaaW.PrintMore
theorem in_eq (x lo hi : Int) : impl_in.f x lo hi = some (decide (lo ≤ x) && decide (x ≤ hi)) := by
 unfold impl_in.f
 by_cases h : lo ≤ x <;> simp [h]
def encT (x : S72) : List Value := [.int .i64 x.f0, .int .i64 x.f1, .int .i64 x.f2]
theorem inner_at (w : World) (B : Nat) (A : Option Addr) (n c : Nat) (hn : 1 ≤ n ∧ n ≤ 6) (hB : B < w.heap.size) (hcell : w.cell? ⟨B, 0, none⟩ = some (.slice A n c)) :
    ∀ W, Below w.heap.size w W → ∀ x : S72, Calls Try.prog 139 #[.agg (encT x).toArray, .pointer (some ⟨B, 0, none⟩)] W (Ret fun r w' => r = .bool (!(stepB (n : Int) x.f0 x.f1 x.f2)) ∧ Below W.heap.size W w') := by
  intro W hb x
  have hc : W.cell? ⟨B, 0, none⟩ = some (.slice A n c) := (hb.cell (p := ⟨B, 0, none⟩) hB).trans hcell
  have hlt : B < W.heap.size := Nat.lt_of_lt_of_le hB hb.size
  show Calls Try.prog 139 #[.agg #[.int .i64 x.f0, .int .i64 x.f1, .int .i64 x.f2], .pointer (some ⟨B, 0, none⟩)] W _
  refine Calls.mono (R := fun e w' => e = .returned (.bool (!(stepB (n : Int) x.f0 x.f1 x.f2))) ∧ Below W.heap.size W w') ?_ (by rintro e w' ⟨rfl, h⟩; exact ⟨rfl, h⟩)
  have hs : ∀ W', Calls Try.prog 140 #[.agg #[.int .i64 x.f0, .int .i64 x.f1, .int .i64 x.f2], .int .i64 (n : Int)] W' fun e w' => e = .returned (.bool (stepB (n : Int) x.f0 x.f1 x.f2)) ∧ Below W'.heap.size W' w' :=
    fun W' => (isStep_sat (k := x.f0) (xa := x.f1) (xb := x.f2) (Sat.start W') (by omega) (by omega)).mono fun e w' h => by
      cases e with
      | returned r => exact ⟨congrArg _ h.1, h.2.below⟩
      | _ => exact h.elim
  have hc' : (W.alloc (.cells #[.int .i64 x.f0, .int .i64 x.f1, .int .i64 x.f2] 72)).cell? ⟨B, 0, none⟩ = some (.slice A n c) := Lib.cell?_alloc_some _ hc
  obtain ⟨r, hr⟩ : ∃ r, r = stepB (n : Int) x.f0 x.f1 x.f2 := ⟨_, rfl⟩
  rw [← hr] at hs
  go_enter Try.func139, Try.ntmps139
  go_wp2_with (go_at_call 140; refine (hs _).mono ?_; rintro e w' ⟨rfl, hw'⟩)
  go_ret
  refine ⟨by rw [← hr]; rfl, ((Below.refl _ W).alloc (Nat.le_refl _) _).trans (hw'.mono (by simp))⟩
theorem contains_step (w0 : World) (s0 : Sl) (p : S72 → Bool) (l0 : List S72) (cap : Value) (hbig : l0.length ≤ 1000000) (hrd : ∀ w', Below w0.heap.size w0 w' → RdL Try.prog 72 3 (fun x => .agg (encT x).toArray) w' s0 l0)
    (hp : ∀ w', Below w0.heap.size w0 w' → ∀ x ∈ l0, Calls Try.prog 139 #[.agg (encT x).toArray, cap] w' (Ret fun r w'' => r = .bool (p x) ∧ Below w'.heap.size w' w'')) :
    Calls Try.prog 63 #[.slice s0.A s0.n s0.c, .func (.func 139) #[] #[cap]] w0 fun e w' => e = .returned (.bool (l0.any p)) ∧ Below w0.heap.size w0 w' := by
  have hi : Calls Try.prog 124 #[.slice s0.A s0.n s0.c, .func (.func 139) #[] #[cap]] w0 fun e w' => ∃ q : Int, e = .returned (.int .i64 q) ∧ decide (q ≥ 0) = l0.any p ∧ Below w0.heap.size w0 w' :=
    (indexStep w0 s0 _ p l0 cap hbig hrd hp).mono fun e w' hp => by
      cases e with
      | returned r => obtain ⟨⟨q, rfl, h⟩, hb⟩ := hp; exact ⟨q, rfl, h, hb⟩
      | panicked c => exact hp.elim
      | outgrown => exact hp.elim
  clear hrd hp
  generalize l0.any p = r at hi ⊢
  go_enter Try.func63, Try.ntmps63
  go_wp2_with (go_at_call 124; refine hi.mono ?_; rintro e w' ⟨q, rfl, hq, hb⟩)
  go_ret
  exact ⟨by rw [← hq]; rfl, hb⟩
theorem rdl_step {w : World} {s : Sl} {l : List S72} (hn : s.n = l.length) (hc : l.length ≤ s.c) (hr : Kd.C k72 w s.A l.length l) : RdL Try.prog 72 3 (fun x => .agg (encT x).toArray) w s l := by
 refine ⟨hn, hc, fun j x hj => ?_⟩
 obtain ⟨_, _, h3⟩ := hr
 have hjl : j < l.length := (List.getElem?_eq_some_iff.1 hj).1
 obtain ⟨ad, hA, hcells⟩ := h3 (by omega)
 have key : ∀ (j : Nat) (x : S72), l[j]? = some x → ∀ i u, (encT x)[i]? = some u → w.cell? (ad.add (j * 3 + i)) = some u := fun j x hj i u hu => by
  obtain ⟨cs, _, hk, hu'⟩ := hcells j x hj
  rw [k72_open hk] at hu'
  exact hu' i u hu
 have h0 := key 0 _ (List.getElem?_eq_getElem (by omega)) 0 _ rfl
 have hspot := spot_of_cell h0
 obtain ⟨b, off, sp⟩ := ad
 subst hspot
 have e1 : bk s = b := by simp [bk, hA]
 have e2 : of_ s = off := by simp [of_, hA]
 rw [e1, e2]
 refine ⟨hA, run_loadVar_agg (vs := encT x) (by kernel_rfl) fun i u hu => ?_⟩
 have := key j x hj i u hu
 rw [add0] at this ⊢
 rw [Nat.add_assoc]
 exact this
theorem outer_at (W : World) (B : Nat) (A : Option Addr) (n c : Nat) (hn : 1 ≤ n ∧ n ≤ 6) (hB : B < W.heap.size) (hcell : W.cell? ⟨B, 0, none⟩ = some (.slice A n c)) (s1 : Sl) (l : List S72) (h1 : s1.n = l.length) (h2 : l.length ≤ s1.c) (hr : Kd.C k72 W s1.A l.length l) :
    Calls Try.prog 138 #[.slice s1.A s1.n s1.c, .pointer (some ⟨B, 0, none⟩)] W fun e w' => e = .returned (.bool (!(bodyB (n : Int) l))) ∧ Below W.heap.size W w' := by
  have hb : ¬ l.length > 8 → Calls Try.prog 63 #[.slice s1.A s1.n s1.c, .func (.func 139) #[] #[.pointer (some ⟨B, 0, none⟩)]] W fun e w' => e = .returned (.bool (l.any fun s => !(stepB (n : Int) s.f0 s.f1 s.f2))) ∧ Below W.heap.size W w' := fun h8 =>
    contains_step W s1 _ l _ (by omega) (fun w' hb => rdl_step h1 h2 (Kd.C_below hr hb)) (fun w' hb x _ => inner_at W B A n c hn hB hcell w' hb x)
  have hbody : (!(bodyB (n : Int) l)) = if l.length > 8 then true else (l.any fun s => !(stepB (n : Int) s.f0 s.f1 s.f2)) := by
    unfold bodyB
    by_cases h8 : l.length > 8
    · rw [if_pos h8, decide_eq_false (by omega)]; rfl
    · rw [if_neg h8, decide_eq_true (by omega), Bool.true_and, List.all_eq_not_any_not, Bool.not_not]
  rw [hbody]
  obtain ⟨A1, n1, c1⟩ := s1
  simp only at h1 h2 hb ⊢
  subst h1
  clear hr hbody hcell
  generalize (l.any fun s => !(stepB (n : Int) s.f0 s.f1 s.f2)) = r at hb ⊢
  generalize l.length = m at *
  go_enter Try.func138, Try.ntmps138
  by_cases h8 : m > 8
  · go_wp2
    all_goals (go_ret; first | exact ⟨rfl, Below.refl _ _⟩ | (exfalso; omega))
  · have hb' := hb h8
    go_wp2_with (go_at_call 63; refine hb'.mono ?_; rintro e w' ⟨rfl, hw'⟩)
    all_goals (go_ret; refine ⟨?_, hw'⟩; have h9 : decide (8 < (m : Int)) = false := decide_eq_false (by omega); simp [h9])
theorem contains_body (w0 : World) (s0 : Sl) (enc : Nat → Value) (p : Nat → Bool) (l0 : List Nat) (cap : Value) (hbig : l0.length ≤ 1000000) (hrd : ∀ w', Below w0.heap.size w0 w' → RdL Try.prog 70 1 enc w' s0 l0)
    (hp : ∀ w', Below w0.heap.size w0 w' → ∀ x ∈ l0, Calls Try.prog 138 #[enc x, cap] w' (Ret fun r w'' => r = .bool (p x) ∧ Below w'.heap.size w' w'')) :
    Calls Try.prog 137 #[.slice s0.A s0.n s0.c, .func (.func 138) #[] #[cap]] w0 fun e w' => e = .returned (.bool (l0.any p)) ∧ Below w0.heap.size w0 w' := by
  have hi : Calls Try.prog 164 #[.slice s0.A s0.n s0.c, .func (.func 138) #[] #[cap]] w0 fun e w' => ∃ q : Int, e = .returned (.int .i64 q) ∧ decide (q ≥ 0) = l0.any p ∧ Below w0.heap.size w0 w' :=
    (indexBody w0 s0 _ p l0 cap hbig hrd hp).mono fun e w' hp => by
      cases e with
      | returned r => obtain ⟨⟨q, rfl, h⟩, hb⟩ := hp; exact ⟨q, rfl, h, hb⟩
      | panicked c => exact hp.elim
      | outgrown => exact hp.elim
  clear hrd hp
  generalize l0.any p = r at hi ⊢
  go_enter Try.func137, Try.ntmps137
  go_wp2_with (go_at_call 164; refine hi.mono ?_; rintro e w' ⟨q, rfl, hq, hb⟩)
  go_ret
  exact ⟨by rw [← hq]; rfl, hb⟩
theorem bodies_cells {w : World} {s : Sl} {L : List (List S72)} (hr : Kd.C (Kd.slice 72 k72) w s.A L.length L) (j : Nat) (b : List S72) (hj : L[j]? = some b) :
  s.A = some ⟨bk s, of_ s, none⟩ ∧ ∃ A' c', w.cell? ⟨bk s, of_ s + j, none⟩ = some (.slice A' b.length c') ∧ b.length ≤ c' ∧ Kd.C k72 w A' b.length b := by
 obtain ⟨_, _, h3⟩ := hr
 have hjl : j < L.length := (List.getElem?_eq_some_iff.1 hj).1
 obtain ⟨ad, hA, hcells⟩ := h3 (by omega)
 have key : ∀ (j : Nat) (b : List S72), L[j]? = some b → ∃ A' c', w.cell? (ad.add j) = some (.slice A' b.length c') ∧ b.length ≤ c' ∧ Kd.C k72 w A' b.length b := fun j b hj => by
  obtain ⟨cs, _, ⟨A', c', rfl, h4, h5⟩, hu⟩ := hcells j b hj
  have := hu 0 _ rfl
  exact ⟨A', c', by simpa [Kd.slice] using this, h4, h5⟩
 obtain ⟨A0, c0, h0, _⟩ := key 0 _ (List.getElem?_eq_getElem (by omega))
 have hspot := spot_of_cell h0
 obtain ⟨bb, off, sp⟩ := ad
 subst hspot
 have e1 : bk s = bb := by simp [bk, hA]
 have e2 : of_ s = off := by simp [of_, hA]
 rw [e1, e2]
 obtain ⟨A', c', h6, h7, h8⟩ := key j b hj
 rw [add0] at h6
 exact ⟨hA, A', c', h6, h7, h8⟩
def bodyV (w : World) (s : Sl) (j : Nat) : Value := (w.cell? ⟨bk s, of_ s + j, none⟩).getD undef
theorem impl_IsProgram.calls (A0_0 : Option Addr) (c0_0 : Nat) (l0_0 : List (List (S72))) (r : Bool) (w : World) (hr0_0 : Kd.C (Kd.slice 72 k72) w A0_0 l0_0.length l0_0) (hc0_0 : l0_0.length ≤ c0_0) (h : impl_IsProgram.f l0_0 = some r) :
    Calls Try.prog 79 #[.agg #[.slice A0_0 l0_0.length c0_0]] w fun e w' => e = .returned (.bool r) ∧ Below w.heap.size w w' := by
  have hr : programB l0_0 = r := by simpa [impl_IsProgram.f] using h
  have hb1 : Below w.heap.size w (w.alloc (.cells #[.slice A0_0 l0_0.length c0_0] 30)) := (Below.refl _ w).alloc (Nat.le_refl _) _
  have hcell1 : (w.alloc (.cells #[.slice A0_0 l0_0.length c0_0] 30)).cell? ⟨w.heap.size, 0, none⟩ = some (.slice A0_0 l0_0.length c0_0) := by simp
  have hcon : (1 ≤ l0_0.length ∧ l0_0.length ≤ 6) → ∀ W, Below (w.heap.size + 1) (w.alloc (.cells #[.slice A0_0 l0_0.length c0_0] 30)) W →
      Calls Try.prog 137 #[.slice A0_0 l0_0.length c0_0, .func (.func 138) #[] #[.pointer (some ⟨w.heap.size, 0, none⟩)]] W fun e w' => e = .returned (.bool !(l0_0.all (bodyB (l0_0.length : Int)))) ∧ Below W.heap.size W w' := by
    intro hn W hW;have hsz : w.heap.size + 1 ≤ W.heap.size := by have := hW.size; simpa using this
    have hwW : Below w.heap.size w W := hb1.trans (hW.mono (by omega));have hC : Kd.C (Kd.slice 72 k72) W A0_0 l0_0.length l0_0 := Kd.C_below hr0_0 hwW;have hcellW : W.cell? ⟨w.heap.size, 0, none⟩ = some (.slice A0_0 l0_0.length c0_0) := (hW.cell (p := ⟨w.heap.size, 0, none⟩) (by simp)).trans hcell1
    have hany : ((List.range l0_0.length).any fun j => !(bodyB (l0_0.length : Int) (l0_0.getD j []))) = !(l0_0.all (bodyB (l0_0.length : Int))) := by
      rw [List.all_eq_not_any_not, Bool.not_not]
      generalize (l0_0.length : Int) = q
      apply Bool.eq_iff_iff.2
      simp only [List.any_eq_true, List.mem_range]
      constructor
      · rintro ⟨j, hj, hp⟩
        exact ⟨l0_0[j], List.getElem_mem hj, by simpa [List.getD, hj] using hp⟩
      · rintro ⟨b, hb, hp⟩
        obtain ⟨j, hj, rfl⟩ := List.getElem_of_mem hb;exact ⟨j, hj, by simpa [List.getD, hj] using hp⟩
    have hb : ∀ (j : Nat) (hj : j < l0_0.length), ∃ A' c', W.cell? ⟨bk ⟨A0_0, l0_0.length, c0_0⟩, of_ ⟨A0_0, l0_0.length, c0_0⟩ + j, none⟩ = some (.slice A' l0_0[j].length c') ∧ l0_0[j].length ≤ c' ∧ Kd.C k72 W A' l0_0[j].length l0_0[j] := fun j hj => (bodies_cells (s := ⟨A0_0, l0_0.length, c0_0⟩) hC j _ (List.getElem?_eq_getElem hj)).2;rw [← hany];refine contains_body W ⟨A0_0, l0_0.length, c0_0⟩ (bodyV W ⟨A0_0, l0_0.length, c0_0⟩) _ (List.range l0_0.length) _ (by simp; omega) (fun w' hw' => ⟨by simp, by simpa using hc0_0, fun j x hj => ?_⟩) (fun w' hw' j hj => ?_)
    · obtain ⟨hjl, rfl⟩ : j < l0_0.length ∧ j = x := by
        obtain ⟨h1, h2⟩ := List.getElem?_eq_some_iff.1 hj;exact ⟨by simpa using h1, by simpa using h2⟩
      obtain ⟨A', c', h6, _⟩ := hb j hjl;refine ⟨(bodies_cells (s := ⟨A0_0, l0_0.length, c0_0⟩) hC j _ (List.getElem?_eq_getElem hjl)).1, ?_⟩;have h7 := pw_cell_below hw' h6;rw [Nat.mul_one];have := run_loadVar_cell (P := Try.prog) (w := w') (t := 70) (by kernel_rfl) h7;rw [this]
      simp [bodyV, h6]
    · have hjl : j < l0_0.length := List.mem_range.1 hj
      obtain ⟨A', c', h6, h7, h8⟩ := hb j hjl;have hv : bodyV W ⟨A0_0, l0_0.length, c0_0⟩ j = .slice A' l0_0[j].length c' := by simp [bodyV, h6]
      have hd : l0_0.getD j [] = l0_0[j] := by simp [List.getD, hjl]
      rw [hv, hd];refine (outer_at w' w.heap.size A0_0 l0_0.length c0_0 hn (by have := hw'.size; omega) (pw_cell_below hw' hcellW) ⟨A', l0_0[j].length, c'⟩ l0_0[j] rfl h7 (Kd.C_below h8 hw')).mono ?_
      rintro e w'' ⟨rfl, hb'⟩
      exact ⟨rfl, hb'⟩
  subst hr
  unfold programB
  have hin : ∀ W, Calls Try.prog 120 #[.int .i64 (l0_0.length : Int), .int .i64 1, .int .i64 6] W fun e w' => e = .returned (.bool (decide (1 ≤ l0_0.length) && decide (l0_0.length ≤ 6))) ∧ Drawn0 W w' := fun W => impl_in.calls _ _ _ _ W (by rw [in_eq]; congr 2 <;> (apply decide_eq_decide.2; omega))
  generalize hB : (l0_0.all (bodyB (l0_0.length : Int))) = rb at hcon ⊢
  clear hr0_0 h hcell1
  generalize l0_0.length = m at *
  by_cases hn : 1 ≤ m ∧ m ≤ 6
  · have hcon' := hcon hn
    rw [decide_eq_true hn.1, decide_eq_true hn.2] at hin;rw [decide_eq_true hn.1, decide_eq_true hn.2]
    go_enter Try.func79, Try.ntmps79
    go_wp2_with (first | (go_at_call 120; refine (hin _).mono ?_; rintro e w' ⟨rfl, ⟨q, rfl⟩⟩) | (go_at_call 137; refine (hcon' _ ?hw).mono ?_; rotate_left; rintro e w' ⟨rfl, hw'⟩))
    case hw => exact ⟨rfl, rfl, rfl, Nat.le_refl _, fun _ _ => rfl⟩
    go_ret
    exact ⟨by simp, Below.trans (B := w.heap.size) (b := (w.alloc (.cells #[.slice A0_0 m c0_0] 30)).drewN q) (hb1.trans ⟨rfl, rfl, rfl, Nat.le_refl _, fun _ _ => rfl⟩) (hw'.mono (show w.heap.size ≤ _ by simp))⟩
  · have hf : (decide (1 ≤ m) && decide (m ≤ 6)) = false := by by_cases h1 : 1 ≤ m <;> simp [h1] ; omega
    rw [hf] at hin;rw [hf]
    go_enter Try.func79, Try.ntmps79
    go_wp2_with (go_at_call 120; refine (hin _).mono ?_; rintro e w' ⟨rfl, ⟨q, rfl⟩⟩)
    all_goals (go_ret; exact ⟨rfl, hb1.trans ⟨rfl, rfl, rfl, Nat.le_refl _, fun _ _ => rfl⟩⟩)
end Go.Proofs.Ytpenhegoilccoaa.G
namespace Go.Proofs.Ytpenhegoilccoaa.G
open Go.RowKit Go.Proofs.YtpenhegoilccoaaW.PrintWords Go.Proofs.YtpenhegoilccoaaW.PrintLast Go.Proofs.YtpenhegoilccoaaW.PrintMore
theorem w64b {x : Int} (h0 : -9223372036854775808 ≤ x) (h1 : x ≤ 9223372036854775807) : wrap64 x = x := by unfold wrap64; omega
theorem and_if (x : Bool) (y : Bool) : (if x = true then some y else some false) = some (x && y) := by cases x <;> rfl
theorem beqz (b : Int) : (b == 0) = decide (b = 0) := by by_cases h : b = 0 <;> simp [h]
theorem l1In_f (a lo hi : Int) : spec_l1In.f a lo hi = some (decide (lo ≤ a) && decide (a ≤ hi)) := by
 unfold spec_l1In.f
 by_cases h : lo ≤ a
 · rw [if_pos h]; simp [h]
 · rw [if_neg (by omega)]; simp [h]
theorem l2Reg_f (a : Int) : spec_l2Reg.f a = some (regB a) := by simp [spec_l2Reg.f, l1In_f, regB]
theorem l2Number_f (a : Int) : spec_l2Number.f a = some (numB a) := by simp [spec_l2Number.f, l1In_f, numB]
theorem l2Function_f (l : List (List S72)) (hl : l.length ≤ 1048576) (a : Int) : spec_l2Function.f l a = some (decide (0 ≤ a) && decide (a ≤ (l.length : Int) - 1)) := by
 simp [spec_l2Function.f, l1In_f, w64b (x := (l.length : Int) - 1) (by omega) (by omega)]
theorem l2Step_f (l : List (List S72)) (hl : l.length ≤ 1048576) (kd a b : Int) (k : Nat) (hk : 2 ≤ k) : spec_l2Step.f k l kd a b = some (stepB (l.length : Int) kd a b) := by
  obtain ⟨k, rfl⟩ : ∃ m, k = m + 2 := ⟨k - 2, by omega⟩
  by_cases h : 1 ≤ kd ∧ kd ≤ 13
  · have hd : kd = 1 ∨ kd = 2 ∨ kd = 3 ∨ kd = 4 ∨ kd = 5 ∨ kd = 6 ∨ kd = 7 ∨ kd = 8 ∨ kd = 9 ∨ kd = 10 ∨ kd = 11 ∨ kd = 12 ∨ kd = 13 := by omega
    rcases hd with rfl | rfl | rfl | rfl | rfl | rfl | rfl | rfl | rfl | rfl | rfl | rfl | rfl <;>
      simp only [spec_l2Step.f, spec_l2Step.j0, spec_l2Step.j1, l1In_f, l2Reg_f, l2Number_f, l2Function_f l hl, Option.bind_some, and_if, stepB] <;> simp [beqz] <;> (try (by_cases h0 : a = 0 <;> simp [h0]))
  · have h1 : kd ≠ 1 ∧ kd ≠ 2 ∧ kd ≠ 3 ∧ kd ≠ 4 ∧ kd ≠ 5 ∧ kd ≠ 6 ∧ kd ≠ 7 ∧ kd ≠ 8 ∧ kd ≠ 9 ∧ kd ≠ 10 ∧ kd ≠ 11 ∧ kd ≠ 12 ∧ kd ≠ 13 := by omega
    obtain ⟨h1, h2, h3, h4, h5, h6, h7, h8, h9, h10, h11, h12, h13⟩ := h1
    have hs : stepB (l.length : Int) kd a b = false := by
      unfold stepB
      have : (decide (1 ≤ kd) && decide (kd ≤ 13)) = false := by
        by_cases h0 : 1 ≤ kd
        · have : ¬ kd ≤ 13 := fun h' => h ⟨h0, h'⟩
          simp [this]
        · simp [h0]
      rw [this, Bool.false_and, Bool.false_and]
    rw [hs]
    simp [spec_l2Step.f, spec_l2Step.j0, spec_l2Step.j1, h1, h2, h3, h4, h5, h6, h7, h8, h9, h10, h11, h12, h13]
def stB (l : List (List S72)) (s : S72) : Bool := stepB (l.length : Int) s.f0 s.f1 s.f2
theorem l2Program_l1 (l : List (List S72)) (hl : l.length ≤ 1048576) (f : Nat) (hf : f < l.length) (hb : (l[f]).length ≤ 8) (M : Nat) (R : Bool) (hR : ∀ k, M < k → spec_l2Program.l0 k ((f : Int) + 1) l = some R) :
  ∀ d i, i + d = (l[f]).length → ∀ k, M + d + 4 < k → spec_l2Program.l1 k (f : Int) (i : Int) l = some (((l[f]).drop i).all (stB l) && R) := by
 have hrd : rd_L4 l (f : Int) = l[f] := by simp [rd_L4, List.getD, hf]
 intro d
 induction d with
 | zero =>
  intro i hi k hk
  obtain ⟨k, rfl⟩ : ∃ m, k = m + 1 := ⟨k - 1, by omega⟩
  have : i = (l[f]).length := by omega
  subst this
  simp only [spec_l2Program.l1, hrd]
  rw [if_pos (by omega), if_pos (by omega), if_neg (by omega), w64b (by omega) (by omega), hR k (by omega), List.drop_length]
  simp
 | succ d ih =>
  intro i hi k hk
  obtain ⟨k, rfl⟩ : ∃ m, k = m + 1 := ⟨k - 1, by omega⟩
  have hlt : i < (l[f]).length := by omega
  have hrt : rd_T72 l[f] (i : Int) = (l[f])[i] := by simp [rd_T72, List.getD, hlt]
  simp only [spec_l2Program.l1, hrd, hrt]
  rw [if_pos (by omega), if_pos (by omega), if_pos (by omega), if_pos (by omega), l2Step_f l hl _ _ _ k (by omega), List.drop_eq_getElem_cons hlt, List.all_cons]
  simp only [Option.bind_some]
  rw [w64b (by omega) (by omega)]
  have := ih (i + 1) (by omega) k (by omega)
  rw [show ((i : Int) + 1) = ((i + 1 : Nat) : Int) from rfl, this, and_if, Bool.and_assoc]
  rfl
theorem l2Program_l0 (l : List (List S72)) (hl : l.length ≤ 6) : ∀ d f, f + d = l.length → ∀ k, d * 16 < k → spec_l2Program.l0 k (f : Int) l = some ((l.drop f).all (bodyB (l.length : Int))) := by
  intro d
  induction d with
  | zero =>
    intro f hf k hk;obtain ⟨k, rfl⟩ : ∃ m, k = m + 1 := ⟨k - 1, by omega⟩;have : f = l.length := by omega
    subst this;simp only [spec_l2Program.l0];rw [if_neg (by omega), List.drop_length]
    rfl
  | succ d ih =>
    intro f hf k hk;obtain ⟨k, rfl⟩ : ∃ m, k = m + 1 := ⟨k - 1, by omega⟩;have hlt : f < l.length := by omega
    have hrd : rd_L4 l (f : Int) = l[f] := by simp [rd_L4, List.getD, hlt]
    simp only [spec_l2Program.l0, hrd];rw [if_pos (by omega), if_pos (by omega), List.drop_eq_getElem_cons hlt, List.all_cons]
    by_cases hb : ((l[f]).length : Int) > 8
    · rw [if_pos hb]
      have : bodyB (l.length : Int) l[f] = false := by unfold bodyB; simp; intro h; omega
      rw [this, Bool.false_and]
    · rw [if_neg hb]
      have := l2Program_l1 l (by omega) f hlt (by omega) (d * 16) _ (fun k hk => by have := ih (f + 1) (by omega) k hk; rw [show ((f : Int) + 1) = ((f + 1 : Nat) : Int) from rfl]; exact this) (l[f]).length 0 (by omega) k (by omega);rw [show (0 : Int) = ((0 : Nat) : Int) from rfl, this, List.drop_zero];have e : bodyB (l.length : Int) l[f] = (l[f]).all (stB l) := by unfold bodyB; rw [decide_eq_true (by omega : (l[f]).length ≤ 8), Bool.true_and]; rfl
      rw [e]
theorem l2Program_f (l : List (List S72)) (hl : l.length ≤ 1048576) (k : Nat) (hk : 100 < k) : spec_l2Program.f k l = some (programB l) := by
  unfold spec_l2Program.f programB
  rw [l1In_f]
  simp only [Option.bind_some]
  by_cases h : 1 ≤ l.length ∧ l.length ≤ 6
  · have e1 : (decide ((1 : Int) ≤ (l.length : Int)) && decide ((l.length : Int) ≤ 6)) = true := by simp; omega
    have e2 : (decide (1 ≤ l.length) && decide (l.length ≤ 6)) = true := by simp; omega
    rw [e1, e2, if_pos rfl, Bool.true_and];have := l2Program_l0 l h.2 l.length 0 (by omega) k (by omega);rw [show (0 : Int) = ((0 : Nat) : Int) from rfl, this, List.drop_zero]
  · have e1 : (decide ((1 : Int) ≤ (l.length : Int)) && decide ((l.length : Int) ≤ 6)) = false := by simp; omega
    have e2 : (decide (1 ≤ l.length) && decide (l.length ≤ 6)) = false := by simp; omega
    rw [e1, e2, if_neg (by decide), Bool.false_and]
def impl_isFunction.f (l0_0 : List (List (S72))) (a1 : Int) : Option (Bool) := (impl_IsProgram.f l0_0).bind fun t264 => (if t264 = true then ((impl_in.f a1 0 (wrap64 ((l0_0.length : Int) - 1))).bind fun t265 => (some t265)) else (some false))
def impl_hasNext.f (l0_0 : List (List (S72))) (a1 : Int) (a2 : Int) : Option (Bool) := (impl_isFunction.f l0_0 a1).bind fun t267 => (if t267 = true then (if 0 ≤ a1 then (if a1 < (l0_0.length : Int) then ((impl_in.f a2 0 (wrap64 (((rd_L4 l0_0 a1).length : Int) - 2))).bind fun t269 => (some t269)) else (none)) else (none)) else (some false))
def slices_Index_int_int.l0 : Nat → List Int → Int → Int → Int → Option (Int)
 | 0, _, _, _, _ => none
 | k + 1, x0, x1, x7, x8 => if x8 < x7 then (if 0 ≤ x8 then (if x8 < (x0.length : Int) then (if x1 = (rd x0 x8) then (some x8) else (slices_Index_int_int.l0 k x0 x1 x7 (wrap64 (x8 + 1)))) else (none)) else (none)) else (some (-1))
def slices_Index_int_int.f (k : Nat) (l0 : List Int) (a1 : Int) : Option (Int) := slices_Index_int_int.l0 k l0 a1 (l0.length : Int) 0
def slices_Contains_int_int.f (k : Nat) (l0 : List Int) (a1 : Int) : Option (Bool) := (slices_Index_int_int.f k l0 a1).bind fun t271 => (some (decide (t271 ≥ 0)))
def impl_Step_isPlain.f (k : Nat) (a0_0 : Int) (a0_1 : Int) (a0_2 : Int) : Option (Bool) := (slices_Contains_int_int.f k (([1, 2, 3, 12, 13] : List Int)) a0_0).bind fun t276 => (some t276)
def impl_areShared.f (k : Nat) (a0_0 : Int) (a0_1 : Int) (a0_2 : Int) (a1_0 : Int) (a1_1 : Int) (a1_2 : Int) : Option (Bool) := (some (([12, 13] : List Int) : List Int)).bind fun y279 => ((slices_Contains_int_int.f k y279 a0_0).bind fun t282 => (if t282 = true then ((slices_Contains_int_int.f k y279 a1_0).bind fun t283 => (some t283)) else (some false)))
def cmp_isNaN_int.f (a0 : Int) : Option (Bool) := some (a0 != a0)
def cmp_Less_int.f (a0 : Int) (a1 : Int) : Option (Bool) := (cmp_isNaN_int.f a0).bind fun t285 => (if t285 = true then ((cmp_isNaN_int.f a1).bind fun t286 => (if t286 = true then (some (decide (a0 < a1))) else (some true))) else (some (decide (a0 < a1))))
end Go.Proofs.Ytpenhegoilccoaa.G
namespace Go.Proofs.Ytpenhegoilccoaa.G
open Go.RowKit Go.Proofs.Ytpenhegoilccoaa.SX Go.Proofs.YtpenhegoilccoaaW.PrintWords Go.Proofs.YtpenhegoilccoaaW.PrintLast Go.Proofs.YtpenhegoilccoaaW.PrintMore
section
def cur (g : ST → ST) (b : List ST) (i : Nat) : List ST := (b.take i).map g ++ b.drop i
variable {g : ST → ST} {b : List ST} {i : Nat} {x : ST}
end
end Go.Proofs.Ytpenhegoilccoaa.G
namespace Go.Proofs.Ytpenhegoilccoaa.G
open Go.RowKit Go.Proofs.YtpenhegoilccoaaW.PrintWords Go.Proofs.YtpenhegoilccoaaW.PrintLast Go.Proofs.YtpenhegoilccoaaW.PrintMore
def spec_l9Place.f (k : Nat) (l0_0 : List (List (S72))) (a1 : Int) (a2 : Int) : Option (Bool) := (spec_l2Program.f k l0_0).bind fun t921 => (if t921 = true then ((spec_l2Function.f l0_0 a1).bind fun t922 => (if t922 = true then (if 0 ≤ a1 then (if a1 < (l0_0.length : Int) then ((spec_l1In.f a2 0 (wrap64 (((rd_L4 l0_0 a1).length : Int) - 1))).bind fun t924 => (some t924)) else (none)) else (none)) else (some false))) else (some false))
def spec_l11Function.f (k : Nat) (l0_0 : List (List (S72))) (a1 : Int) : Option (Bool) := (spec_l2Program.f k l0_0).bind fun t952 => (if t952 = true then ((spec_l2Function.f l0_0 a1).bind fun t953 => (some t953)) else (some false))
end Go.Proofs.Ytpenhegoilccoaa.G
