/- What the claim FnExactSameRuns rests on, part 12 of 20; the last part proves it: for every input the law answers true, and its arguments read behind the call as before it. No condition. -/
import Derived.Lib.SliceRun
import Derived.KernelRfl
import Derived.WalkKit
import Derived.Test.YtggahaddkoifkaaQSameRuns7
import Derived.Test.YtggahaddkoifkaaQSameRuns8
import Derived.Test.YtggahaddkoifkaaQSameRuns9
import Derived.Test.YtggahaddkoifkaaQSameRuns10
section
namespace Go.Proofs.Ytggahaddkoifkaa.G
open Go.RowKit Go.Lib Go.Proofs.Ytggahaddkoifkaa.SX Go.Proofs.YtggahaddkoifkaaW.PrintWords Go.Proofs.YtggahaddkoifkaaW.PrintLast Go.Proofs.YtggahaddkoifkaaW.PrintMore
set_option linter.unusedVariables false
set_option linter.unusedSimpArgs false
theorem in_eq (x lo hi : Int) : impl_in.f x lo hi = some (decide (lo ≤ x) && decide (x ≤ hi)) := by
 unfold impl_in.f
 by_cases h : lo ≤ x <;> simp [h]
theorem num_eq (x : Int) : impl_isNumber.f x = some (numB x) := by unfold impl_isNumber.f; rw [in_eq]; rfl
def encT (x : S174) : List Value := [.int .i64 x.f0, .int .i64 x.f1, .int .i64 x.f2]
theorem inner_at (w : World) (B : Nat) (A : Option Addr) (n c : Nat) (hn : 1 ≤ n ∧ n ≤ 6) (hB : B < w.heap.size) (hcell : w.cell? ⟨B, 0, none⟩ = some (.slice A n c)) :
    ∀ W, Below w.heap.size w W → ∀ x : S174, Calls Try.prog 134 #[.agg (encT x).toArray, .pointer (some ⟨B, 0, none⟩)] W (Ret fun r w' => r = .bool (!(stepB (n : Int) x.f0 x.f1 x.f2)) ∧ Below W.heap.size W w') := by
  intro W hb x
  have hc : W.cell? ⟨B, 0, none⟩ = some (.slice A n c) := (hb.cell (p := ⟨B, 0, none⟩) hB).trans hcell
  have hlt : B < W.heap.size := Nat.lt_of_lt_of_le hB hb.size
  show Calls Try.prog 134 #[.agg #[.int .i64 x.f0, .int .i64 x.f1, .int .i64 x.f2], .pointer (some ⟨B, 0, none⟩)] W _
  refine Calls.mono (R := fun e w' => e = .returned (.bool (!(stepB (n : Int) x.f0 x.f1 x.f2))) ∧ Below W.heap.size W w') ?_ (by rintro e w' ⟨rfl, h⟩; exact ⟨rfl, h⟩)
  have hs : ∀ W', Calls Try.prog 135 #[.agg #[.int .i64 x.f0, .int .i64 x.f1, .int .i64 x.f2], .int .i64 (n : Int)] W' fun e w' => e = .returned (.bool (stepB (n : Int) x.f0 x.f1 x.f2)) ∧ Below W'.heap.size W' w' :=
    fun W' => (isStep_sat (k := x.f0) (xa := x.f1) (xb := x.f2) (Sat.start W') (by omega) (by omega)).mono fun e w' h => by
      cases e with
      | returned r => exact ⟨congrArg _ h.1, h.2.below⟩
      | _ => exact h.elim
  have hc' : (W.alloc (.cells #[.int .i64 x.f0, .int .i64 x.f1, .int .i64 x.f2] 174)).cell? ⟨B, 0, none⟩ = some (.slice A n c) := Lib.cell?_alloc_some _ hc
  obtain ⟨r, hr⟩ : ∃ r, r = stepB (n : Int) x.f0 x.f1 x.f2 := ⟨_, rfl⟩
  rw [← hr] at hs
  go_enter Try.func134, Try.ntmps134
  go_wp2_with (go_at_call 135; refine (hs _).mono ?_; rintro e w' ⟨rfl, hw'⟩)
  go_ret
  refine ⟨by rw [← hr]; rfl, ((Below.refl _ W).alloc (Nat.le_refl _) _).trans (hw'.mono (by simp))⟩
theorem contains_step (w0 : World) (s0 : Sl) (p : S174 → Bool) (l0 : List S174) (cap : Value) (hbig : l0.length ≤ 1000000) (hrd : ∀ w', Below w0.heap.size w0 w' → RdL Try.prog 174 3 (fun x => .agg (encT x).toArray) w' s0 l0)
    (hp : ∀ w', Below w0.heap.size w0 w' → ∀ x ∈ l0, Calls Try.prog 134 #[.agg (encT x).toArray, cap] w' (Ret fun r w'' => r = .bool (p x) ∧ Below w'.heap.size w' w'')) :
    Calls Try.prog 133 #[.slice s0.A s0.n s0.c, .func (.func 134) #[] #[cap]] w0 fun e w' => e = .returned (.bool (l0.any p)) ∧ Below w0.heap.size w0 w' := by
  have hi : Calls Try.prog 146 #[.slice s0.A s0.n s0.c, .func (.func 134) #[] #[cap]] w0 fun e w' => ∃ q : Int, e = .returned (.int .i64 q) ∧ decide (q ≥ 0) = l0.any p ∧ Below w0.heap.size w0 w' :=
    (indexStep w0 s0 _ p l0 cap hbig hrd hp).mono fun e w' hp => by
      cases e with
      | returned r => obtain ⟨⟨q, rfl, h⟩, hb⟩ := hp; exact ⟨q, rfl, h, hb⟩
      | panicked c => exact hp.elim
      | outgrown => exact hp.elim
  clear hrd hp
  generalize l0.any p = r at hi ⊢
  go_enter Try.func133, Try.ntmps133
  go_wp2_with (go_at_call 146; refine hi.mono ?_; rintro e w' ⟨q, rfl, hq, hb⟩)
  go_ret
  exact ⟨by rw [← hq]; rfl, hb⟩
theorem rdl_step {w : World} {s : Sl} {l : List S174} (hn : s.n = l.length) (hc : l.length ≤ s.c) (hr : Kd.C k174 w s.A l.length l) : RdL Try.prog 174 3 (fun x => .agg (encT x).toArray) w s l := by
 refine ⟨hn, hc, fun j x hj => ?_⟩
 obtain ⟨_, _, h3⟩ := hr
 have hjl : j < l.length := (List.getElem?_eq_some_iff.1 hj).1
 obtain ⟨ad, hA, hcells⟩ := h3 (by omega)
 have key : ∀ (j : Nat) (x : S174), l[j]? = some x → ∀ i u, (encT x)[i]? = some u → w.cell? (ad.add (j * 3 + i)) = some u := fun j x hj i u hu => by
  obtain ⟨cs, _, hk, hu'⟩ := hcells j x hj
  rw [k174_open hk] at hu'
  exact hu' i u hu
 have h0 := key 0 _ (List.getElem?_eq_getElem (by omega)) 0 _ rfl
 have hspot := spot_of_cell h0
 obtain ⟨b, off, sp⟩ := ad
 subst hspot
 have e1 : bk s = b := by simp [bk, hA]
 have e2 : of_ s = off := by simp [of_, hA]
 rw [e1, e2]
 refine ⟨hA, run_loadVar_agg (vs := encT x) (by kernel_rfl) fun i u hu => ?_⟩
 have := key j x hj i u hu
 rw [add0] at this ⊢
 rw [Nat.add_assoc]
 exact this
theorem outer_at (W : World) (B : Nat) (A : Option Addr) (n c : Nat) (hn : 1 ≤ n ∧ n ≤ 6) (hB : B < W.heap.size) (hcell : W.cell? ⟨B, 0, none⟩ = some (.slice A n c)) (s1 : Sl) (l : List S174) (h1 : s1.n = l.length) (h2 : l.length ≤ s1.c) (hr : Kd.C k174 W s1.A l.length l) :
    Calls Try.prog 132 #[.slice s1.A s1.n s1.c, .pointer (some ⟨B, 0, none⟩)] W fun e w' => e = .returned (.bool (!(bodyB (n : Int) l))) ∧ Below W.heap.size W w' := by
  have hb : ¬ l.length > 8 → Calls Try.prog 133 #[.slice s1.A s1.n s1.c, .func (.func 134) #[] #[.pointer (some ⟨B, 0, none⟩)]] W fun e w' => e = .returned (.bool (l.any fun s => !(stepB (n : Int) s.f0 s.f1 s.f2))) ∧ Below W.heap.size W w' := fun h8 =>
    contains_step W s1 _ l _ (by omega) (fun w' hb => rdl_step h1 h2 (Kd.C_below hr hb)) (fun w' hb x _ => inner_at W B A n c hn hB hcell w' hb x)
  have hbody : (!(bodyB (n : Int) l)) = if l.length > 8 then true else (l.any fun s => !(stepB (n : Int) s.f0 s.f1 s.f2)) := by
    unfold bodyB
    by_cases h8 : l.length > 8
    · rw [if_pos h8, decide_eq_false (by omega)]; rfl
    · rw [if_neg h8, decide_eq_true (by omega), Bool.true_and, List.all_eq_not_any_not, Bool.not_not]
  rw [hbody]
  obtain ⟨A1, n1, c1⟩ := s1
  simp only at h1 h2 hb ⊢
  subst h1
  clear hr hbody hcell
  generalize (l.any fun s => !(stepB (n : Int) s.f0 s.f1 s.f2)) = r at hb ⊢
  generalize l.length = m at *
  go_enter Try.func132, Try.ntmps132
  by_cases h8 : m > 8
  · go_wp2
    all_goals (go_ret; first | exact ⟨rfl, Below.refl _ _⟩ | (exfalso; omega))
  · have hb' := hb h8
    go_wp2_with (go_at_call 133; refine hb'.mono ?_; rintro e w' ⟨rfl, hw'⟩)
    all_goals (go_ret; refine ⟨?_, hw'⟩; have h9 : decide (8 < (m : Int)) = false := decide_eq_false (by omega); simp [h9])
theorem contains_body (w0 : World) (s0 : Sl) (enc : Nat → Value) (p : Nat → Bool) (l0 : List Nat) (cap : Value) (hbig : l0.length ≤ 1000000) (hrd : ∀ w', Below w0.heap.size w0 w' → RdL Try.prog 134 1 enc w' s0 l0)
    (hp : ∀ w', Below w0.heap.size w0 w' → ∀ x ∈ l0, Calls Try.prog 132 #[enc x, cap] w' (Ret fun r w'' => r = .bool (p x) ∧ Below w'.heap.size w' w'')) :
    Calls Try.prog 131 #[.slice s0.A s0.n s0.c, .func (.func 132) #[] #[cap]] w0 fun e w' => e = .returned (.bool (l0.any p)) ∧ Below w0.heap.size w0 w' := by
  have hi : Calls Try.prog 145 #[.slice s0.A s0.n s0.c, .func (.func 132) #[] #[cap]] w0 fun e w' => ∃ q : Int, e = .returned (.int .i64 q) ∧ decide (q ≥ 0) = l0.any p ∧ Below w0.heap.size w0 w' :=
    (indexBody w0 s0 _ p l0 cap hbig hrd hp).mono fun e w' hp => by
      cases e with
      | returned r => obtain ⟨⟨q, rfl, h⟩, hb⟩ := hp; exact ⟨q, rfl, h, hb⟩
      | panicked c => exact hp.elim
      | outgrown => exact hp.elim
  clear hrd hp
  generalize l0.any p = r at hi ⊢
  go_enter Try.func131, Try.ntmps131
  go_wp2_with (go_at_call 145; refine hi.mono ?_; rintro e w' ⟨q, rfl, hq, hb⟩)
  go_ret
  exact ⟨by rw [← hq]; rfl, hb⟩
theorem bodies_cells {w : World} {s : Sl} {L : List (List S174)} (hr : Kd.C (Kd.slice 174 k174) w s.A L.length L) (j : Nat) (b : List S174) (hj : L[j]? = some b) :
  s.A = some ⟨bk s, of_ s, none⟩ ∧ ∃ A' c', w.cell? ⟨bk s, of_ s + j, none⟩ = some (.slice A' b.length c') ∧ b.length ≤ c' ∧ Kd.C k174 w A' b.length b := by
 obtain ⟨_, _, h3⟩ := hr
 have hjl : j < L.length := (List.getElem?_eq_some_iff.1 hj).1
 obtain ⟨ad, hA, hcells⟩ := h3 (by omega)
 have key : ∀ (j : Nat) (b : List S174), L[j]? = some b → ∃ A' c', w.cell? (ad.add j) = some (.slice A' b.length c') ∧ b.length ≤ c' ∧ Kd.C k174 w A' b.length b := fun j b hj => by
  obtain ⟨cs, _, ⟨A', c', rfl, h4, h5⟩, hu⟩ := hcells j b hj
  have := hu 0 _ rfl
  exact ⟨A', c', by simpa [Kd.slice] using this, h4, h5⟩
 obtain ⟨A0, c0, h0, _⟩ := key 0 _ (List.getElem?_eq_getElem (by omega))
 have hspot := spot_of_cell h0
 obtain ⟨bb, off, sp⟩ := ad
 subst hspot
 have e1 : bk s = bb := by simp [bk, hA]
 have e2 : of_ s = off := by simp [of_, hA]
 rw [e1, e2]
 obtain ⟨A', c', h6, h7, h8⟩ := key j b hj
 rw [add0] at h6
 exact ⟨hA, A', c', h6, h7, h8⟩
def bodyV (w : World) (s : Sl) (j : Nat) : Value := (w.cell? ⟨bk s, of_ s + j, none⟩).getD undef
theorem impl_IsProgram.calls (A0_0 : Option Addr) (c0_0 : Nat) (l0_0 : List (List (S174))) (r : Bool) (w : World) (hr0_0 : Kd.C (Kd.slice 174 k174) w A0_0 l0_0.length l0_0) (hc0_0 : l0_0.length ≤ c0_0) (h : impl_IsProgram.f l0_0 = some r) :
    Calls Try.prog 104 #[.agg #[.slice A0_0 l0_0.length c0_0]] w fun e w' => e = .returned (.bool r) ∧ Below w.heap.size w w' := by
  have hr : programB l0_0 = r := by simpa [impl_IsProgram.f] using h
  have hb1 : Below w.heap.size w (w.alloc (.cells #[.slice A0_0 l0_0.length c0_0] 30)) := (Below.refl _ w).alloc (Nat.le_refl _) _
  have hcell1 : (w.alloc (.cells #[.slice A0_0 l0_0.length c0_0] 30)).cell? ⟨w.heap.size, 0, none⟩ = some (.slice A0_0 l0_0.length c0_0) := by simp
  have hcon : (1 ≤ l0_0.length ∧ l0_0.length ≤ 6) → ∀ W, Below (w.heap.size + 1) (w.alloc (.cells #[.slice A0_0 l0_0.length c0_0] 30)) W →
      Calls Try.prog 131 #[.slice A0_0 l0_0.length c0_0, .func (.func 132) #[] #[.pointer (some ⟨w.heap.size, 0, none⟩)]] W fun e w' => e = .returned (.bool !(l0_0.all (bodyB (l0_0.length : Int)))) ∧ Below W.heap.size W w' := by
    intro hn W hW
    have hsz : w.heap.size + 1 ≤ W.heap.size := by have := hW.size; simpa using this
    have hwW : Below w.heap.size w W := hb1.trans (hW.mono (by omega))
    have hC : Kd.C (Kd.slice 174 k174) W A0_0 l0_0.length l0_0 := Kd.C_below hr0_0 hwW
    have hcellW : W.cell? ⟨w.heap.size, 0, none⟩ = some (.slice A0_0 l0_0.length c0_0) := (hW.cell (p := ⟨w.heap.size, 0, none⟩) (by simp)).trans hcell1
    have hany : ((List.range l0_0.length).any fun j => !(bodyB (l0_0.length : Int) (l0_0.getD j []))) = !(l0_0.all (bodyB (l0_0.length : Int))) := by
      rw [List.all_eq_not_any_not, Bool.not_not]
      generalize (l0_0.length : Int) = q
      apply Bool.eq_iff_iff.2
      simp only [List.any_eq_true, List.mem_range]
      constructor
      · rintro ⟨j, hj, hp⟩
        exact ⟨l0_0[j], List.getElem_mem hj, by simpa [List.getD, hj] using hp⟩
      · rintro ⟨b, hb, hp⟩
        obtain ⟨j, hj, rfl⟩ := List.getElem_of_mem hb
        exact ⟨j, hj, by simpa [List.getD, hj] using hp⟩
    have hb : ∀ (j : Nat) (hj : j < l0_0.length), ∃ A' c', W.cell? ⟨bk ⟨A0_0, l0_0.length, c0_0⟩, of_ ⟨A0_0, l0_0.length, c0_0⟩ + j, none⟩ = some (.slice A' l0_0[j].length c') ∧ l0_0[j].length ≤ c' ∧ Kd.C k174 W A' l0_0[j].length l0_0[j] := fun j hj => (bodies_cells (s := ⟨A0_0, l0_0.length, c0_0⟩) hC j _ (List.getElem?_eq_getElem hj)).2
    rw [← hany]
    refine contains_body W ⟨A0_0, l0_0.length, c0_0⟩ (bodyV W ⟨A0_0, l0_0.length, c0_0⟩) _ (List.range l0_0.length) _ (by simp; omega) (fun w' hw' => ⟨by simp, by simpa using hc0_0, fun j x hj => ?_⟩) (fun w' hw' j hj => ?_)
    · obtain ⟨hjl, rfl⟩ : j < l0_0.length ∧ j = x := by
        obtain ⟨h1, h2⟩ := List.getElem?_eq_some_iff.1 hj
        exact ⟨by simpa using h1, by simpa using h2⟩
      obtain ⟨A', c', h6, _⟩ := hb j hjl
      refine ⟨(bodies_cells (s := ⟨A0_0, l0_0.length, c0_0⟩) hC j _ (List.getElem?_eq_getElem hjl)).1, ?_⟩
      have h7 := pw_cell_below hw' h6
      rw [Nat.mul_one]
      have := run_loadVar_cell (P := Try.prog) (w := w') (t := 134) (by kernel_rfl) h7
      rw [this]
      simp [bodyV, h6]
    · have hjl : j < l0_0.length := List.mem_range.1 hj
      obtain ⟨A', c', h6, h7, h8⟩ := hb j hjl
      have hv : bodyV W ⟨A0_0, l0_0.length, c0_0⟩ j = .slice A' l0_0[j].length c' := by simp [bodyV, h6]
      have hd : l0_0.getD j [] = l0_0[j] := by simp [List.getD, hjl]
      rw [hv, hd]
      refine (outer_at w' w.heap.size A0_0 l0_0.length c0_0 hn (by have := hw'.size; omega) (pw_cell_below hw' hcellW) ⟨A', l0_0[j].length, c'⟩ l0_0[j] rfl h7 (Kd.C_below h8 hw')).mono ?_
      rintro e w'' ⟨rfl, hb'⟩
      exact ⟨rfl, hb'⟩
  subst hr
  unfold programB
  have hin : ∀ W, Calls Try.prog 97 #[.int .i64 (l0_0.length : Int), .int .i64 1, .int .i64 6] W fun e w' => e = .returned (.bool (decide (1 ≤ l0_0.length) && decide (l0_0.length ≤ 6))) ∧ Drawn0 W w' := fun W => impl_in.calls _ _ _ _ W (by rw [in_eq]; congr 2 <;> (apply decide_eq_decide.2; omega))
  generalize hB : (l0_0.all (bodyB (l0_0.length : Int))) = rb at hcon ⊢
  clear hr0_0 h hcell1
  generalize l0_0.length = m at *
  by_cases hn : 1 ≤ m ∧ m ≤ 6
  · have hcon' := hcon hn
    rw [decide_eq_true hn.1, decide_eq_true hn.2] at hin
    rw [decide_eq_true hn.1, decide_eq_true hn.2]
    go_enter Try.func104, Try.ntmps104
    go_wp2_with (first | (go_at_call 97; refine (hin _).mono ?_; rintro e w' ⟨rfl, ⟨q, rfl⟩⟩) | (go_at_call 131; refine (hcon' _ ?hw).mono ?_; rotate_left; rintro e w' ⟨rfl, hw'⟩))
    case hw => exact ⟨rfl, rfl, rfl, Nat.le_refl _, fun _ _ => rfl⟩
    go_ret
    exact ⟨by simp, Below.trans (B := w.heap.size) (b := (w.alloc (.cells #[.slice A0_0 m c0_0] 30)).drewN q) (hb1.trans ⟨rfl, rfl, rfl, Nat.le_refl _, fun _ _ => rfl⟩) (hw'.mono (show w.heap.size ≤ _ by simp))⟩
  · have hf : (decide (1 ≤ m) && decide (m ≤ 6)) = false := by by_cases h1 : 1 ≤ m <;> simp [h1] ; omega
    rw [hf] at hin
    rw [hf]
    go_enter Try.func104, Try.ntmps104
    go_wp2_with (go_at_call 97; refine (hin _).mono ?_; rintro e w' ⟨rfl, ⟨q, rfl⟩⟩)
    all_goals (go_ret; exact ⟨rfl, hb1.trans ⟨rfl, rfl, rfl, Nat.le_refl _, fun _ _ => rfl⟩⟩)
end Go.Proofs.Ytggahaddkoifkaa.G
end
section
namespace Go.Proofs.Ytggahaddkoifkaa.G
open Go.RowKit Go.Proofs.YtggahaddkoifkaaW.PrintWords Go.Proofs.YtggahaddkoifkaaW.PrintLast Go.Proofs.YtggahaddkoifkaaW.PrintMore
set_option linter.unusedVariables false
set_option linter.unusedSimpArgs false
def laws_eqIntS.l0 : Nat → List Int → List Int → Int → Option (Bool)
 | 0, _, _, _ => none
 | k + 1, x0, x1, x5 => if x5 < (x0.length : Int) then (if 0 ≤ x5 then (if x5 < (x1.length : Int) then (if (rd x0 x5) = (rd x1 x5) then (laws_eqIntS.l0 k x0 x1 (wrap64 (x5 + 1))) else (some false)) else (none)) else (none)) else (some true)
def laws_markStepS.l0 : Nat → List (S174) → Int → Int → Option (Int × (List (S174)))
 | 0, _, _, _ => none
 | k + 1, x0, x1, x5 => if x5 < (x0.length : Int) then (if 0 ≤ x5 then ((some (x0.set (x5 : Int).toNat (⟨x1, (rd_T174 x0 x5).f1, (rd_T174 x0 x5).f2⟩ : S174) : List (S174))).bind fun y315 => ((some (y315.set (x5 : Int).toNat (⟨(rd_T174 y315 x5).f0, wrap64 (x1 + 1), (rd_T174 y315 x5).f2⟩ : S174) : List (S174))).bind fun y316 => (laws_markStepS.l0 k (y316.set (x5 : Int).toNat (⟨(rd_T174 y316 x5).f0, (rd_T174 y316 x5).f1, wrap64 ((wrap64 (x1 + 1)) + 1)⟩ : S174)) (wrap64 ((wrap64 ((wrap64 (x1 + 1)) + 1)) + 1)) (wrap64 (x5 + 1))))) else (none)) else (some (x1, x0))
def laws_markIntS.l0 : Nat → List Int → Int → Int → Option (Int × List Int)
 | 0, _, _, _ => none
 | k + 1, x0, x1, x5 => if x5 < (x0.length : Int) then (if 0 ≤ x5 then (laws_markIntS.l0 k (x0.set (x5 : Int).toNat x1) (wrap64 (x1 + 1)) (wrap64 (x5 + 1))) else (none)) else (some (x1, x0))
def laws_heldIntS.l0 : Nat → List Int → Int → Int → Option (Int)
 | 0, _, _, _ => none
 | k + 1, x0, x1, x5 => if x5 < (x0.length : Int) then (if 0 ≤ x5 then (if (rd x0 x5) = x1 then (laws_heldIntS.l0 k x0 (wrap64 (x1 + 1)) (wrap64 (x5 + 1))) else (some (-1))) else (none)) else (some x1)
end Go.Proofs.Ytggahaddkoifkaa.G
end
section
namespace Go.Proofs.Ytggahaddkoifkaa.G
open Go.RowKit Go.Proofs.YtggahaddkoifkaaW.PrintWords Go.Proofs.YtggahaddkoifkaaW.PrintLast Go.Proofs.YtggahaddkoifkaaW.PrintMore
set_option linter.unusedVariables false
set_option linter.unusedSimpArgs false
abbrev ST := S174
abbrev LT := S176
def tot {α : Type} : List (List α) → Nat
 | [] => 0
 | b :: l => b.length + tot l
theorem tot_mem {α : Type} {b : List α} {l : List (List α)} (h : b ∈ l) : b.length ≤ tot l := by
 induction l with
 | nil => cases h
 | cons c l ih =>
  rcases List.mem_cons.1 h with rfl | h
  · simp [tot]
  · have := ih h; simp [tot]; omega
theorem tot_map {α β : Type} (f : α → β) (l : List (List α)) : tot (l.map (·.map f)) = tot l := by
 induction l with
 | nil => rfl
 | cons b l ih => simp [tot, ih]
def szL (left : Int) : List (List LT) → Int
 | [] => left
 | b :: l => if left - (b.length : Int) < 0 then -1 else szL (left - (b.length : Int)) l
def szP (l : List (List LT)) (left : Int) : Int := if left - (l.length : Int) < 0 then -1 else szL (left - (l.length : Int)) l
theorem szL_ok (l : List (List LT)) : ∀ left, 0 ≤ left → 0 ≤ szL left l → (tot l : Int) + szL left l = left := by
  induction l with
  | nil => intro left h0 h; simp [tot, szL]
  | cons b l ih =>
    intro left h0 h
    simp only [szL] at h ⊢
    by_cases hb : left - (b.length : Int) < 0
    · rw [if_pos hb] at h; omega
    · rw [if_neg hb] at h ⊢
      have := ih _ (by omega) h
      simp only [tot]
      omega
theorem szP_ok (l : List (List LT)) (left : Int) (h : 0 ≤ szP l left) : (l.length : Int) + tot l + szP l left = left := by
  unfold szP at h ⊢
  by_cases hb : left - (l.length : Int) < 0
  · rw [if_pos hb] at h; omega
  · rw [if_neg hb] at h ⊢
    have := szL_ok l _ (by omega) h
    omega
theorem szL_le (l : List (List LT)) : ∀ left, 0 ≤ left → szL left l ≤ left ∧ -1 ≤ szL left l := by
 induction l with
 | nil => intro left h; simp [szL]; omega
 | cons b l ih =>
  intro left h
  simp only [szL]
  by_cases hb : left - (b.length : Int) < 0
  · rw [if_pos hb]; omega
  · rw [if_neg hb]; have := ih (left - (b.length : Int)) (by omega); omega
theorem szP_le (l : List (List LT)) (left : Int) (h : 0 ≤ left) : szP l left ≤ left ∧ -1 ≤ szP l left := by
 unfold szP
 by_cases hb : left - (l.length : Int) < 0
 · rw [if_pos hb]; omega
 · rw [if_neg hb]; have := szL_le l (left - (l.length : Int)) (by omega); omega
theorem szStepSS_l0 (l : List (List LT)) (hl : ∀ b ∈ l, b.length ≤ 9223372036854775807) (hn : l.length ≤ 1048576) : ∀ d i, i + d = l.length → ∀ left : Int, 0 ≤ left → left ≤ 1048576 → ∀ k, d < k → laws_szStepSS.l0 k l left (i : Int) = some (szL left (l.drop i)) := by
  intro d
  induction d with
  | zero =>
    intro i hi left h0 h1 k hk
    obtain ⟨k, rfl⟩ : ∃ m, k = m + 1 := ⟨k - 1, by omega⟩
    have : i = l.length := by omega
    subst this
    simp only [laws_szStepSS.l0]
    rw [if_neg (by omega), List.drop_length]
    rfl
  | succ d ih =>
    intro i hi left h0 h1 k hk
    obtain ⟨k, rfl⟩ : ∃ m, k = m + 1 := ⟨k - 1, by omega⟩
    have hlt : i < l.length := by omega
    have hb := hl l[i] (List.getElem_mem _)
    have hrd : rd_L2 l (i : Int) = l[i] := by simp [rd_L2, List.getD, hlt]
    simp only [laws_szStepSS.l0]
    rw [if_pos (by omega), if_pos (by omega), hrd, List.drop_eq_getElem_cons hlt]
    simp only [szL, laws_szStepS.f]
    rw [w64 (x := left - _) (by omega) (by omega)]
    by_cases hc : left - ((l[i]).length : Int) < 0
    · rw [if_pos hc, if_pos hc]; simp
    · rw [if_neg hc, if_neg hc]
      simp only [Option.bind_some]
      rw [if_neg hc, w64 (by omega) (by omega), show ((i : Int) + 1) = ((i + 1 : Nat) : Int) from rfl]
      exact ih (i + 1) (by omega) _ (by omega) (by omega) k (by omega)
theorem szProgram_f (l : List (List LT)) (hl : ∀ b ∈ l, b.length ≤ 9223372036854775807) (hn : l.length ≤ 9223372036854775807) (left : Int) (h0 : 0 ≤ left) (h1 : left ≤ 1048576) (k : Nat) (hk : 1048576 < k) : laws_szProgram.f k l left = some (szP l left) := by
  have key : laws_szStepSS.f k l left = some (szP l left) := by
    unfold laws_szStepSS.f szP
    rw [w64 (by omega) (by omega)]
    by_cases hc : left - (l.length : Int) < 0
    · rw [if_pos hc, if_pos hc]
    · rw [if_neg hc, if_neg hc]
      have := szStepSS_l0 l hl (by omega) l.length 0 (by omega) (left - (l.length : Int)) (by omega) (by omega) k (by omega)
      simpa using this
  unfold laws_szProgram.f
  rw [key]
  have := szP_le l left h0
  simp only [Option.bind_some]
  by_cases hc : szP l left < 0
  · rw [if_pos hc]; congr 1; omega
  · rw [if_neg hc]
end Go.Proofs.Ytggahaddkoifkaa.G
end
section
namespace Go.Proofs.Ytggahaddkoifkaa.G
open Go.RowKit Go.Proofs.Ytggahaddkoifkaa.SX Go.Proofs.YtggahaddkoifkaaW.PrintWords Go.Proofs.YtggahaddkoifkaaW.PrintLast Go.Proofs.YtggahaddkoifkaaW.PrintMore
set_option linter.unusedVariables false
set_option linter.unusedSimpArgs false
abbrev RdP (w : World) (s : Sl) (l : List (List ST)) : Prop := RdS k174 174 w s l
abbrev RdA (w : World) (s : Sl) (l : List (List LT)) : Prop := RdS k176 176 w s l
abbrev prg (B : Nat) (s : Sl) (l : List (List ST)) : Asn := kdS B k174 174 134 s l
structure Fits {α : Type} (l : List (List α)) : Prop where
 len : l.length ≤ 1048576
 tot : tot l ≤ 1048576
theorem Fits.each {α : Type} {l : List (List α)} (h : Fits l) : ∀ b ∈ l, b.length ≤ 1048576 := fun b hb => Nat.le_trans (tot_mem hb) h.tot
def toP (l : List (List LT)) : List (List ST) := l.map (·.map toS)
theorem toP_fits {l : List (List LT)} (h : Fits l) : Fits (toP l) := ⟨by rw [toP, List.length_map]; exact h.len, by rw [toP, tot_map]; exact h.tot⟩
theorem kdS_lower {α : Type} {B B' : Nat} {d : Kd α} {e e' : Nat} {s : Sl} {l : List (List α)} (hB : B' ≤ B) (w : World) (F : Nat → Prop) (h : (kdS B d e e' s l).says w F) : (kdS B' d e e' s l).says w F := by
 obtain ⟨us, G, g1, g2, g3⟩ := h
 refine ⟨us, G, g1, g2, fun i R hi => ?_⟩
 match i with
 | 0 => exact g3 0 R hi
 | 1 =>
  simp at hi
  subst hi
  obtain ⟨H, h1, h2, h3⟩ := g3 1 _ rfl
  refine ⟨H, by simpa using h1, by simpa using h2, fun j R hj => ?_⟩
  rw [List.getElem?_map] at hj
  obtain ⟨x, hx, rfl⟩ := Option.map_eq_some_iff.1 hj
  obtain ⟨q1, q2⟩ := h3 j (kdP B d e x.1 x.2) (by rw [List.getElem?_map, hx]; rfl)
  exact ⟨q1, Kd.R_lower q2 hB⟩
 | n + 2 => simp at hi
section
variable {w0 w : World} {Rs : List Asn}
theorem toStepSS_sat {s0 : Sl} {l0 : List (List LT)} (hS : Sat w0 w Rs) (hr : RdA w s0 l0) (hf : Fits l0) :
  Calls Try.prog 53 #[.slice s0.A s0.n s0.c] w (Ret fun r w' => ∃ s : Sl, r = s.v ∧ Sat w0 w' (prg w0.heap.size s (toP l0) :: Rs)) := by
 refine (toss_sat w s0 l0 hr.len hr.le hr.rd hf.len hf.each).mono ?_
 intro e w' h
 cases e with
 | returned v =>
  obtain ⟨s, us, rfl, h1, h2, h3⟩ := h
  refine ⟨s, rfl, ?_⟩
  have h4 : Sat w w' (prg w.heap.size s (toP l0) :: []) := Sat.shutS us h1 h2 h3
  have h5 : Sat w0 w' (prg w.heap.size s (toP l0) :: Rs) := hS.comp h4
  exact h5.turn (i := 0) rfl (prg w0.heap.size s (toP l0)) (kdS_lower hS.below.size w')
 | _ => exact h.elim
theorem szProgram_sat {s0 : Sl} {l0 : List (List LT)} {left : Int} (hS : Sat w0 w Rs) (hr : RdA w s0 l0) (h0 : 0 ≤ left) (h1 : left ≤ 1048576) :
  Calls Try.prog 13 #[.agg #[.slice s0.A s0.n s0.c], .int .i64 left] w (Ret fun r w' => r = .int .i64 (szP l0 left) ∧ Sat w0 w' Rs) := by
 have hb : ∀ b ∈ l0, b.length ≤ 9223372036854775807 := by
  intro b hb
  obtain ⟨j, hj⟩ := List.getElem?_of_mem hb
  obtain ⟨_, A', c', _, _, hC⟩ := rows_cells hr.rd j b hj
  exact hC.2.1
 have := laws_szProgram.calls 1048577 s0.A s0.c l0 left _ w hr.rd hr.le (szProgram_f l0 hb hr.rd.2.1 left h0 h1 _ (by omega))
 rw [← hr.len] at this
 refine this.mono ?_
 rintro e w' ⟨rfl, hb⟩
 exact ⟨rfl, hS.comp (Ps := []) ⟨hb, fun _ _ => False, fun i R h => by simp at h, fun _ _ _ h => h.elim, fun _ _ h => h.elim⟩⟩
end
theorem code15 : Try.f15.body = some (Code.seq (Code.region 0 (xQ Try.f15 0) false) (Code.seq (Code.region 1 (xQ Try.f15 1) false) (Code.seq (Code.region 2 (xQ Try.f15 2) false) (Code.seq (Code.region 3 (xQ Try.f15 3) false) Code.ret)))) := by kernel_rfl
set_option maxRecDepth 20000 in
set_option maxHeartbeats 1000000 in
theorem toProgram_sat0 {w0 : World} {s0 : Sl} {l0 : List (List LT)} (hr : RdA w0 s0 l0) (hf : Fits l0) :
  Calls Try.prog 15 #[.agg #[.slice s0.A s0.n s0.c]] w0 (Ret fun r w' => ∃ s : Sl, r = .agg #[s.v] ∧ Sat w0 w' [prg w0.heap.size s (toP l0)]) := by
 have Rs : List Asn := []
 have hS : Sat w0 w0 [] := Sat.start w0
 refine enter (n := 9) Try.func15 code15 (by kernel_rfl) (Nat.le_of_ble_eq_true rfl) (fun a ha => ?_)
 replace ha : Has 9 [(0, .agg #[.slice s0.A s0.n s0.c])] a := ha
 refine wp_seq ?_
 refine p_begin ?_
 refine jU (o_new (cs := [.slice s0.A s0.n s0.c]) (T := 24) (fun b => .pointer (some ⟨b, 0, none⟩)) ha (by decide) (At.here (by kernel_rfl : ((xQ Try.f15 0)[0]?).map spec = some ((Op.box 24 (Operand.tmp 0)), some 1, 0, none))) (by kernel_rfl) hS (fun _ => by kernel_rfl) (fun b5 w3 a1 hb6 (hS4 : Sat w0 w3 ((SX.blk b5 [.slice s0.A s0.n s0.c] 24) :: [])) ha2 => ?_))
 refine jU (o_new (cs := [.slice none 0 0]) (T := 30) (fun b => .pointer (some ⟨b, 0, none⟩)) ha2 (by decide) (At.here (by kernel_rfl : ((xQ Try.f15 0)[1]?).map spec = some ((Op.alloc 30), some 2, 0, none))) (by kernel_rfl) hS4 (fun _ => by kernel_rfl) (fun b11 w9 a7 hb12 (hS10 : Sat w0 w9 ((SX.blk b11 [.slice none 0 0] 30) :: (SX.blk b5 [.slice s0.A s0.n s0.c] 24) :: [])) ha8 => ?_))
 refine jW ?_
 have ha13 := ha8.keeps [1, 2] [(1, .pointer (some ⟨b5, 0, none⟩)), (2, .pointer (some ⟨b11, 0, none⟩))] rfl
 clear ha8 hS4 ha2 a1 hS ha a
 refine jX (wp_seq ?_)
 refine p_begin ?_
 refine jU (o_new (cs := [.slice none 0 0]) (T := 30) (fun b => .pointer (some ⟨b, 0, none⟩)) ha13 (by decide) (At.here (by kernel_rfl : ((xQ Try.f15 1)[0]?).map spec = some ((Op.alloc 30), some 3, 0, none))) (by kernel_rfl) hS10 (fun _ => by kernel_rfl) (fun b18 w16 a14 hb19 (hS17 : Sat w0 w16 ((SX.blk b18 [.slice none 0 0] 30) :: (SX.blk b11 [.slice none 0 0] 30) :: (SX.blk b5 [.slice s0.A s0.n s0.c] 24) :: [])) ha15 => ?_))
 refine jW ?_
 have ha20 := ha15.keeps [1, 2, 3] [(1, .pointer (some ⟨b5, 0, none⟩)), (2, .pointer (some ⟨b11, 0, none⟩)), (3, .pointer (some ⟨b18, 0, none⟩))] rfl
 clear ha15 hS10 ha13 a7
 refine jX (wp_seq ?_)
 refine p_begin ?_
 refine p_val (v := .pointer (some ⟨b5, 0, none⟩)) ha20 (by decide) (xH ha20 (At.here (by kernel_rfl : ((xQ Try.f15 2)[0]?).map spec = some ((Op.fieldAddr 24 (Operand.tmp 1) 0), some 4, 0, none))) (by kernel_rfl) (fun _ => by kernel_rfl)) (fun a21 ha22 => ?_)
 refine p_val (v := .slice s0.A s0.n s0.c) ha22 (by decide) (v_load (cs := [.slice s0.A s0.n s0.c]) (T := 24) ha22 (At.here (by kernel_rfl : ((xQ Try.f15 2)[1]?).map spec = some ((Op.load 22 (Operand.tmp 4)), some 5, 22, none))) rfl (by kernel_rfl) (fun _ hw => by rw [hw]; exact hS17.blk 2 rfl) rfl) (fun a23 ha24 => ?_)
 refine jU (o_ret (Post := fun r w' => ∃ s1 : Sl, r = s1.v ∧ Sat w0 w' ((prg w0.heap.size s1 (toP l0)) :: (SX.blk b18 [.slice none 0 0] 30) :: (SX.blk b11 [.slice none 0 0] 30) :: (SX.blk b5 [.slice s0.A s0.n s0.c] 24) :: [])) ha24 (by decide) (At.here (by kernel_rfl : ((xQ Try.f15 2)[2]?).map spec = some ((Op.call { callee := (Callee.value (Operand.func 53)), args := #[(Operand.tmp 5)], argTypes := #[22] }), some 6, 28, none))) rfl Try.func53 (by kernel_rfl) (toStepSS_sat hS17 (hr.sat hS17) hf) (fun v29 w27 a25 hp30 ha26 => ?_))
 obtain ⟨s1, rfl, hS28⟩ := hp30
 have ha31 : Has 9 [(1, .pointer (some ⟨b5, 0, none⟩)), (2, .pointer (some ⟨b11, 0, none⟩)), (3, .pointer (some ⟨b18, 0, none⟩)), (4, .pointer (some ⟨b5, 0, none⟩)), (5, .slice s0.A s0.n s0.c), (6, .slice s1.A s1.n s1.c)] a25 := ha26.keeps [1, 2, 3, 4, 5, 6] _ rfl
 refine p_val (v := .pointer (some ⟨b18, 0, none⟩)) ha31 (by decide) (xH ha31 (At.here (by kernel_rfl : ((xQ Try.f15 2)[3]?).map spec = some ((Op.fieldAddr 30 (Operand.tmp 3) 0), some 7, 0, none))) (by kernel_rfl) (fun _ => by kernel_rfl)) (fun a32 ha33 => ?_)
 refine jU (o_store (cs := [.slice none 0 0]) (cs' := [.slice s1.A s1.n s1.c]) 1 ha33 (At.here (by kernel_rfl : ((xQ Try.f15 2)[4]?).map spec = some ((Op.store 28 (Operand.tmp 7) (Operand.tmp 6)), none, 0, none))) rfl rfl rfl (by kernel_rfl) hS28 rfl (by simp) rfl (fun w36 a34 (hS37 : Sat w0 w36 ((prg w0.heap.size s1 (toP l0)) :: (SX.blk b18 [.slice s1.A s1.n s1.c] 30) :: (SX.blk b11 [.slice none 0 0] 30) :: (SX.blk b5 [.slice s0.A s0.n s0.c] 24) :: [])) ha35 => ?_))
 refine jW ?_
 have ha38 := ha35.keeps [2, 3] [(2, .pointer (some ⟨b11, 0, none⟩)), (3, .pointer (some ⟨b18, 0, none⟩))] rfl
 clear ha35 hS28 ha33 a32 ha31 a25 ha26 hS17 ha24 a23 ha22 a21 ha20 a14
 refine jX (wp_seq ?_)
 refine p_begin ?_
 refine p_val (v := .agg #[.slice s1.A s1.n s1.c]) ha38 (by decide) (v_loadAgg (vs := [.slice s1.A s1.n s1.c]) (cs := [.slice s1.A s1.n s1.c]) (T := 30) ha38 (At.here (by kernel_rfl : ((xQ Try.f15 3)[0]?).map spec = some ((Op.load 30 (Operand.tmp 3)), some 8, 30, none))) rfl (by kernel_rfl) (fun _ hw => by rw [hw]; exact hS37.blk 1 rfl) rfl) (fun a39 ha40 => ?_)
 refine jU (jG (vs := [.slice s1.A s1.n s1.c]) (cs := [.slice none 0 0]) (cs' := [.slice s1.A s1.n s1.c]) 2 ha40 (At.here (by kernel_rfl : ((xQ Try.f15 3)[1]?).map spec = some ((Op.store 30 (Operand.tmp 2) (Operand.tmp 8)), none, 0, none))) rfl rfl rfl (by kernel_rfl) hS37 rfl (by simp) rfl (fun w43 a41 (hS44 : Sat w0 w43 ((prg w0.heap.size s1 (toP l0)) :: (SX.blk b18 [.slice s1.A s1.n s1.c] 30) :: (SX.blk b11 [.slice s1.A s1.n s1.c] 30) :: (SX.blk b5 [.slice s0.A s0.n s0.c] 24) :: [])) ha42 => ?_))
 refine jW ?_
 have ha45 := ha42.keeps [2] [(2, .pointer (some ⟨b11, 0, none⟩))] rfl
 clear ha42 hS37 ha40 a39 ha38 a34
 refine jX (wp_ret (xJ ha45 (by kernel_rfl) (yY (t := 2) (ty := 30) (i := 2) (cs := [.slice s1.A s1.n s1.c]) ha45 rfl hS44 rfl (by kernel_rfl)) ?_))
 have hS46 : Sat w0 w43 ((prg w0.heap.size s1 (toP l0)) :: []) := hS44.pickR (l := [prg w0.heap.size s1 (toP l0), SX.blk b18 [.slice s1.A s1.n s1.c] 30, SX.blk b11 [.slice s1.A s1.n s1.c] 30, SX.blk b5 [.slice s0.A s0.n s0.c] 24]) [0] (by decide) [prg w0.heap.size s1 (toP l0)] rfl
 exact ⟨s1, rfl, hS46⟩
theorem toProgram_sat {w0 w : World} {Rs : List Asn} {s0 : Sl} {l0 : List (List LT)} (hS : Sat w0 w Rs) (hr : RdA w s0 l0) (hf : Fits l0) :
  Calls Try.prog 15 #[.agg #[.slice s0.A s0.n s0.c]] w (Ret fun r w' => ∃ s : Sl, r = .agg #[s.v] ∧ Sat w0 w' (prg w0.heap.size s (toP l0) :: Rs)) := by
 refine (toProgram_sat0 hr hf).mono ?_
 intro e w' h
 cases e with
 | returned v =>
  obtain ⟨s, rfl, h4⟩ := h
  have h5 : Sat w0 w' (prg w.heap.size s (toP l0) :: Rs) := hS.comp h4
  exact ⟨s, rfl, h5.turn (i := 0) rfl (prg w0.heap.size s (toP l0)) (kdS_lower hS.below.size w')⟩
 | _ => exact h.elim
end Go.Proofs.Ytggahaddkoifkaa.G
end
