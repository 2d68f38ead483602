/- What the claim FnExactKeepReached rests on, part 12 of 27; the last part proves it: for every input the law answers true, and its arguments read behind the call as before it. No condition. -/
import Derived.Lib.SliceRun
import Derived.Test.YtpenhegoilccoaaQKeepReached9
set_option linter.unusedSimpArgs false
set_option linter.unusedVariables false
set_option maxRecDepth 100000
set_option maxHeartbeats 8000000
section
namespace Go.Proofs.Ytpenhegoilccoaa.G
open Go.RowKit Go.Proofs.YtpenhegoilccoaaW.PrintWords Go.Proofs.YtpenhegoilccoaaW.PrintLast Go.Proofs.YtpenhegoilccoaaW.PrintMore
theorem eqlS (w : World) (a : Option Addr) (l c : Nat) : (binOp .eql 70 (.slice a l c) (.slice none 0 0)).run Try.prog w = .ok (.bool a.isNone) w := Go.Lib.run_eql_slice_nil w _ _ a l c _ _ Try.underlying70
attribute [local go_sem] eqlS
theorem impl_Step_131.calls (A0 : Option Addr) (c0 : Nat) (l0 : List (S72)) (r : List (S72)) (w : World) (hr0 : Kd.C k72 w A0 l0.length l0) (hc0 : l0.length ≤ c0) (h : impl_Step_131.f l0 = some r) :
    Calls Try.prog 131 #[.slice A0 l0.length c0] w fun e w' => ∃ v0_ : Value, e = .returned (v0_) ∧ Kd.R k72 72 w' w.heap.size (fun _ => True) v0_ r ∧ Below w.heap.size w w' := by
  have HR0 := Aside0.mk hr0
  have HB := Aside0.mk (Below.refl w.heap.size w)
  cases A0 with
  | none =>
    have hl : l0 = [] := by
      rcases Nat.eq_zero_or_pos l0.length with h0 | h0
      · exact List.eq_nil_of_length_eq_zero h0
      · obtain ⟨ad, ha, _⟩ := hr0.2.2 h0
        cases ha
    subst hl
    obtain rfl : r = [] := by
      have h2 : impl_Step_131.f ([] : List S72) = some [] := by simp [impl_Step_131.f]
      rw [h2] at h;exact (Option.some.inj h).symm
    clear hr0 h
    go_enter Try.func131, Try.ntmps131
    go_wp2
    go_ret
    exact ⟨_, rfl, Kd.R_nil _ _ _ _ _, by repeat (first | (with_reducible first | exact HB.out | apply below_alloc | apply jQ | apply below_drew1) | exact HB.out)⟩
  | some A0 =>
    clear hr0;obtain ⟨y259, hy259⟩ : ∃ y_ : List (S72), y_ = [] := ⟨_, rfl⟩
    obtain ⟨hlt, rfl⟩ : y259.length + l0.length < 5864062014805 ∧ y259 ++ l0 = r := by
      subst hy259;simp only [impl_Step_131.f, Option.bind_some] at h
      by_cases c : ([] : List S72).length + l0.length < 5864062014805
      · rw [if_pos c] at h; exact ⟨c, Option.some.inj h⟩
      · rw [if_neg c] at h; cases h
    have Ny259 := Aside0.mk hy259;clear hy259;obtain ⟨y262, hy262⟩ : ∃ y_ : List (S72), y_ = (y259 ++ l0) := ⟨_, rfl⟩;rw [← hy262];have Ny262 := Aside0.mk hy262;have LMc2 := Aside0.mk hlt;clear hy262 hlt h
    go_enter Try.func131, Try.ntmps131
    go_wp2_with (first | ((with_reducible refine gate_dst (N := 5) rfl ?_); refine Kd.R_lit k72 _ 72 ?hg (N := 5) ?hd (xs := ([] : List (S72))) (inner := []) (ok := fun _ => True) (okp := fun _ => True) ?hr ?hp (fun _ hk => hk) trivial (Below.refl _ _) (Nat.le_refl _) (by simp) ?_; (case hd => rfl); (case hg => rfl); (case hr => first | (go_simp; done) | (go_simp; rfl)); (case hp => exact (Reps.none _ _)); intro v260 w3 ho4 hb hg_ hnew_; clear hg_ hnew_; (first | rw [← Ny259.out] at ho4 | (simp only [Int.reduceToNat] at ho4; rw [← Ny259.out] at ho4)); have n0_ := Aside0.mk (Kd.R_lower ho4 (below_size (by repeat (first | (with_reducible first | exact HB.out | apply below_alloc | apply jQ | apply below_drew1) | exact HB.out)))); have n1_ := Aside0.mk (below_step (by repeat (first | (with_reducible first | exact HB.out | apply below_alloc | apply jQ | apply below_drew1) | exact HB.out)) hb); clear HB; have HO261 := n0_; have HB := n1_; clear n0_ n1_; clear hb ho4) | ((with_reducible refine gate_builtin (b := .append) (xs := #[.tmp 5, .tmp 6]) rfl ?_); at_builtin; refine Kd.R_append_rows k72 (w0 := w) w.heap.size rfl (.tmp 5) (.tmp 6) 70 72 (.agg #[(.int .i64 0), (.int .i64 0), (.int .i64 0)]) 24 rfl Try.underlying70 info72 rfl (by decide) (by omega) v260 y259 l0 _ _ _ (fun _ => True) (fun _ => False) rfl rfl ?aO ?aR (fun _ _ h => h) (fun _ h => h.elim) ?aF ?aB ?aS ?aL ?_; (case aR => repeat (first | exact (Kd.C_below HR0.out HB.out) | (with_reducible refine Kd.C_alloc ?_ _) | (with_reducible refine Kd.C_drewN ?_ _) | (with_reducible refine Kd.C_drew ?_))); (case aB => exact (by repeat (first | (with_reducible first | exact HB.out | apply below_alloc | apply jQ | apply below_drew1) | exact HB.out))); (case aF => exact (fun _ _ => trivial)); (case aO => exact (by (with_reducible repeat (first | apply Kd.R_alloc | apply Kd.R_drewN | apply Kd.R_drew)); exact HO261.out)); (case aS => exact (below_size (by repeat (first | (with_reducible first | exact HB.out | apply below_alloc | apply jQ | apply below_drew1) | exact HB.out)))); (case aL => have := LMc2.out; omega); intro v263 w5 ho hb hg hat; rw [← Ny262.out] at ho; have n0_ := Aside0.mk (hb); have n1_ := Aside0.mk (ho); clear HB; clear HO261; have HB := n0_; have HO264 := n1_; clear n0_ n1_; clear ho hb hg hat))
    go_ret
    exact ⟨_, by first | rfl | (simp [errW_none, errW_some] <;> rfl) | (simp [*, errW_none, errW_some] <;> rfl), by (with_reducible repeat (first | apply Kd.R_alloc | apply Kd.R_drewN | apply Kd.R_drew)); exact HO264.out, by repeat (first | (with_reducible first | exact HB.out | apply below_alloc | apply jQ | apply below_drew1) | exact HB.out)⟩
end Go.Proofs.Ytpenhegoilccoaa.G
end
namespace Go.Proofs.Ytpenhegoilccoaa.G
open Go.RowKit Go.Proofs.YtpenhegoilccoaaW.PrintWords Go.Proofs.YtpenhegoilccoaaW.PrintLast Go.Proofs.YtpenhegoilccoaaW.PrintMore
def impl_Program_copied.l0 : Nat → List (List (S72)) → Int → Int → List (List (S72)) → Option ((List (List (S72))))
 | 0, _, _, _, _ => none
 | k + 1, x8, x9, x10, x748000 => if x10 < x9 then (if 0 ≤ x10 then (if x10 < (x8.length : Int) then ((impl_Step_131.f (rd_L4 x8 x10)).bind fun t749 => (if x748000.length < 5864062014805 then (impl_Program_copied.l0 k x8 x9 (wrap64 (x10 + 1)) (x748000 ++ [t749])) else (none))) else (none)) else (none)) else (some x748000)
def impl_Program_copied.f (k : Nat) (l0_0 : List (List (S72))) : Option ((List (List (S72)))) := impl_Program_copied.l0 k l0_0 (l0_0.length : Int) 0 ([] : List (List (S72)))
end Go.Proofs.Ytpenhegoilccoaa.G
