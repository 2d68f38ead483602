/- Contracts of functions of this seat that stand for themselves: entries, copies of lists. No program's text is assumed: each is walked, or laid by the library's contract. -/
import Derived.Test.YtelnidlfeaihmaaGx5
import Derived.Test.YtelnidlfeaihmaaGx7
import Derived.Shelf.SlicesE.IndexFunc
import Derived.Shelf.Slices.Delete
import Derived.Shelf.Slices.Clone
import Derived.Lib.OwnBridge
import Derived.KernelRfl
import Derived.WalkKit
namespace Go.Proofs.Ytelnidlfeaihmaa.G
open Go.RowKit Go.Shelf Go.Lib Go.Proofs.YtelnidlfeaihmaaW.PrintWords Go.Proofs.YtelnidlfeaihmaaW.PrintLast Go.Proofs.YtelnidlfeaihmaaW.PrintMore
set_option linter.unusedVariables false
set_option linter.unusedSimpArgs false
def l87_ren : Go.Shelf.Ren := ⟨fun | 8 => 87 | 6 => 96 | n => n, fun | 22 => 28 | 23 => 3 | 25 => 103 | 4 => 4 | 3 => 3 | 0 => 0 | n => n, fun | n => n⟩
theorem l87 : SlLaysH.n8 Try.prog l87_ren where
  mixed := by kernel_rfl
  f6 := ⟨"slices.IndexFunc[[]int,int]", by decide, Try.func96.trans (congrArg some (by kernel_rfl))⟩
  f8 := ⟨"slices.ContainsFunc[[]int,int]", by decide, Try.func87.trans (congrArg some (by kernel_rfl))⟩
  t0 := Try.underlying0
  a0 := Try.isAgg0
  z0 := Try.sizeOf0
  v0 := Try.zeroValue0
  t3 := Try.underlying3
  a3 := Try.isAgg3
  z3 := Try.sizeOf3
  v3 := Try.zeroValue3
  t4 := Try.underlying4
  a4 := Try.isAgg4
  z4 := Try.sizeOf4
  v4 := Try.zeroValue4
  t22 := Try.underlying28
  a22 := Try.isAgg28
  z22 := Try.sizeOf28
  v22 := Try.zeroValue28
  a23 := Try.isAgg3
  z23 := Try.sizeOf3
  t25 := Try.underlying103
  a25 := Try.isAgg103
  z25 := Try.sizeOf103
  v25 := Try.zeroValue103
def l93_ren : Go.Shelf.Ren := ⟨fun | 23 => 93 | n => n, fun | 22 => 28 | 3 => 3 | 4 => 4 | 0 => 0 | n => n, fun | n => n⟩
theorem l93 : Lays2.n23 Try.prog l93_ren where
  mixed := by kernel_rfl
  f23 := Try.func93.trans (congrArg some (by kernel_rfl))
  t0 := Try.underlying0
  a0 := Try.isAgg0
  z0 := Try.sizeOf0
  v0 := Try.zeroValue0
  t3 := Try.underlying3
  a3 := Try.isAgg3
  z3 := Try.sizeOf3
  v3 := Try.zeroValue3
  t4 := Try.underlying4
  a4 := Try.isAgg4
  z4 := Try.sizeOf4
  v4 := Try.zeroValue4
  t22 := Try.underlying28
  a22 := Try.isAgg28
  z22 := Try.sizeOf28
  v22 := Try.zeroValue28
  i3 := by kernel_rfl
def l79_ren : Go.Shelf.Ren := ⟨fun | 15 => 79 | n => n, fun | 22 => 28 | 3 => 3 | 4 => 4 | n => n, fun | n => n⟩
theorem l79 : Lays2.n15 Try.prog l79_ren where
  mixed := by kernel_rfl
  f15 := Try.func79.trans (congrArg some (by kernel_rfl))
  t3 := Try.underlying3
  a3 := Try.isAgg3
  z3 := Try.sizeOf3
  v3 := Try.zeroValue3
  t4 := Try.underlying4
  a4 := Try.isAgg4
  z4 := Try.sizeOf4
  v4 := Try.zeroValue4
  t22 := Try.underlying28
  a22 := Try.isAgg28
  z22 := Try.sizeOf28
  v22 := Try.zeroValue28
  i3 := by kernel_rfl
/-- What a row of whole numbers that is read says, cell by cell. -/
theorem ints_cells {w : World} {A : Option Addr} {l : List Int} (h : Kd.C (Kd.int .i64) w A l.length l) (hl : l ≠ []) :
    ∃ b off, A = some ⟨b, off, none⟩ ∧ ∀ j, j < l.length → w.cell? ⟨b, off + j, none⟩ = some (.int .i64 l[j]!) := by
  obtain ⟨_, _, h3⟩ := h
  have hp : 0 < l.length := List.length_pos_iff.2 hl
  obtain ⟨ad, rfl, hc⟩ := h3 hp
  have hcell : ∀ j, j < l.length → w.cell? (ad.add j) = some (.int .i64 l[j]!) := fun j hj => by
    obtain ⟨c, _, hk, hu⟩ := hc j _ (List.getElem?_eq_getElem hj)
    have e : c = [.int .i64 l[j]] := hk
    subst e
    have := hu 0 _ rfl
    simpa [Kd.int, Kd.scalar, getElem!_pos, hj] using this
  have hspot : ad.spot = none := by
    have h0 := hcell 0 hp
    simp only [Addr.add, if_true] at h0
    unfold World.cell? at h0
    split at h0
    · split at h0
      · cases h0
      · rename_i hs; simpa using hs
    · cases h0
  obtain ⟨b, off, sp⟩ := ad
  subst hspot
  refine ⟨b, off, rfl, fun j hj => ?_⟩
  have := hcell j hj
  unfold Addr.add at this
  split at this
  · rename_i h0; subst h0; simpa using this
  · exact this

theorem entry_at (w : World) : PredAt Try.prog 88 #[] (Value.int .i64) (fun n => !(entryB n)) w := by
  intro W x hb
  show Calls Try.prog 88 #[.int .i64 x] W _
  go_enter Try.func88, Try.ntmps88
  go_wp2
  all_goals (go_ret; exact ⟨by simp_all [entryB], 0, rfl⟩)

theorem impl_areEntries.calls (A0 : Option Addr) (c0 : Nat) (l0 : List Int) (r : Bool) (w : World) (hr0 : Kd.C (Kd.int .i64) w A0 l0.length l0) (hc0 : l0.length ≤ c0) (h : impl_areEntries.f l0 = some r) :
    Calls Try.prog 66 #[.slice A0 l0.length c0] w fun e w' => e = .returned (.bool r) ∧ Drawn0 w w' := by
  have eg : ∀ args w, (callFunc 88 args).run Try.prog w = .ok (.enter 88 args) w := enters_of Try.func88 (by kernel_rfl) rfl
  have hcon : Calls Try.prog 87 #[.slice A0 l0.length c0, .func (.func 88) #[] #[]] w fun e w' => e = .returned (.bool (l0.any fun n => !(entryB n))) ∧ ∃ q, w' = w.drewN q := by
    by_cases hl : l0 = []
    · subst hl
      exact (AnyE.slices_ContainsFunc_empty l87 A0 c0 _ w).mono fun e w' ⟨h1, h2⟩ => ⟨h1, 0, h2⟩
    · obtain ⟨b, off, rfl, hc⟩ := ints_cells hr0 hl
      have := AnyE.slices_ContainsFunc l87 (Value.int .i64) (fun n => !(entryB n)) 88 #[] eg b off l0.length c0 l0 w (entry_at w) (Nat.le_refl _) hr0.2.1 hc
      rwa [List.take_length] at this
  have hr : r = (decide (l0.length ≤ 60) && !(l0.any fun n => !(entryB n))) := by
    have : entriesB l0 = r := by simpa [impl_areEntries.f] using h
    rw [← this, entriesB]
    rw [List.all_eq_not_any_not]
  clear h hr0
  generalize (l0.any fun n => !(entryB n)) = t at hcon hr
  subst hr
  go_enter Try.func66, Try.ntmps66
  go_wp2_with (go_at_call 87; refine hcon.mono ?_; rintro e w' ⟨rfl, q, rfl⟩)
  all_goals (go_ret; refine ⟨by simp_all; try omega, ?_⟩)
  all_goals first | exact ⟨_, rfl⟩ | exact ⟨0, rfl⟩

theorem clone_empty (ad : Addr) (c0 : Nat) (w : World) :
    Calls Try.prog 79 #[.slice (some ad) 0 c0] w fun e w' => ∃ v0_ : Value, e = .returned (v0_) ∧ Kd.R (Kd.int .i64) 3 w' w.heap.size (fun _ => True) v0_ [] ∧ Below w.heap.size w w' := by
  obtain ⟨i0, hi, hz0, hz1, hz2⟩ := info_parts (show (Try.prog.info? 3).map (fun i => (i.zero, i.size, i.bytes)) = some (some (.int .i64 0), 1, 8) by kernel_rfl)
  have q : ∀ (w : World) (a : Option Addr) (n c n' c' : Nat), (binOp .eql 28 (.slice a n c) (.slice none n' c')).run Try.prog w = .ok (.bool a.isNone) w := fun w a n c n' c' => Lib.run_eql_slice_nil w _ _ a n c n' c' Try.underlying28
  go_enter Try.func79, Try.ntmps79
  go_wp2_with (at_builtin; refine wpList_append_own _ rfl _ _ 28 rfl w.heap.size 3 i0 (.int .i64 0) 1 8 Try.underlying28 hi hz0 hz1 hz2 rfl (by decide) _ _ _ rfl (World.ownsRow_made w #[] 0 (Nat.le_refl _) (Nat.zero_le _) rfl) ad 0 c0 [] rfl ?qc1 ?qc2 ?qc3 ?qc4 ?qc5 ?qc6 ?_)
  case qc1 => simp
  case qc2 => intro j u hj; simp at hj
  case qc3 => intro u hu; cases hu
  case qc4 => simp
  case qc5 => simp
  case qc6 => simp
  intro v' w1 hown hgrow hnil
  go_wp2
  go_ret
  refine ⟨v', rfl, Kd.R_of_own (xs := []) (enc := Value.int .i64) (by simpa [encs] using hown) (fun _ _ => trivial), ?_⟩
  exact ((Below.refl _ w).alloc (Nat.le_refl _) _).grown hgrow (by simp) (by intro k hk; simp [Value.ownBlock] at hk; omega)

theorem slices_Clone_int_int.calls (A0 : Option Addr) (c0 : Nat) (l0 : List Int) (r : List Int) (w : World) (hr0 : Kd.C (Kd.int .i64) w A0 l0.length l0) (hc0 : l0.length ≤ c0) (h : slices_Clone_int_int.f l0 = some r) :
    Calls Try.prog 79 #[.slice A0 l0.length c0] w fun e w' => ∃ v0_ : Value, e = .returned (v0_) ∧ Kd.R (Kd.int .i64) 3 w' w.heap.size (fun _ => True) v0_ r ∧ Below w.heap.size w w' := by
  unfold slices_Clone_int_int.f at h
  split at h
  · rename_i hlen
    obtain rfl : l0 = r := by simpa using h
    by_cases hn : A0 = none
    · subst hn
      have h0 : l0 = [] := by
        by_cases hl : l0 = []
        · exact hl
        · obtain ⟨b, off, e, _⟩ := ints_cells hr0 hl
          cases e
      subst h0
      exact (Any.slices_Clone_int_nil l79 0 c0 w).mono fun e w' ⟨h1, h2⟩ => ⟨_, h1, by subst h2; exact Kd.R_nil _ _ _ _ _, by subst h2; exact Below.refl _ _⟩
    · by_cases hl : l0 = []
      · subst hl
        obtain ⟨ad, rfl⟩ := Option.ne_none_iff_exists'.1 hn
        exact clone_empty ad c0 w
      have key : ∃ b off, A0 = some ⟨b, off, none⟩ ∧ ∀ j, j < l0.length → w.cell? ⟨b, off + j, none⟩ = some (.int .i64 (l0.getD j 0)) := by
        obtain ⟨b, off, e, hc⟩ := ints_cells hr0 hl
        exact ⟨b, off, e, fun j hj => by rw [hc j hj]; simp [getElem!_pos, hj, List.getD]⟩
      obtain ⟨b, off, rfl, hc⟩ := key
      refine (Any.slices_Clone_int l79 b off l0.length c0 l0 w (Nat.le_refl _) (by omega) hc).mono ?_
      rintro e w' ⟨v', rfl, hown, _, hb⟩
      rw [List.take_length] at hown
      exact ⟨v', rfl, Kd.R_of_own hown (fun _ _ => trivial), hb⟩
  · cases h

end Go.Proofs.Ytelnidlfeaihmaa.G
