/- What the claim FnExactErrorsOfRun rests on, part 17 of 22; the last part proves it: for every input the law answers true, and its arguments read behind the call as before it. No condition. -/
import Derived.Tactics
import Derived.Tactics2
import Derived.Defers
import Derived.Recover
import Derived.Laws.Pointers
import Derived.Test.YtcbijhgepdedpaaQErrorsOfRun15
set_option maxRecDepth 20000
namespace Go.Proofs.Ytcbijhgepdedpaa
namespace SX
open Go.RowKit
theorem assert_yes (w : World) : (Instr.typeAssert (.iface 161 (.agg #[])) 20 161 true).run Try.prog w = .ok (.tuple #[.agg #[], .bool true]) w := by kernel_rfl
theorem assert_no (w : World) : (Instr.typeAssert .nilIface 20 161 true).run Try.prog w = .ok (.tuple #[.agg #[], .bool false]) w := by kernel_rfl
theorem catch_panicking (p : Addr) (x : Value) (older : List PanicEntry) (w : World) (hc : w.cell? p = some x) (hz : w.frozen? p = false) :
  CallsD Try.prog 94 #[.pointer (some p)] (.panicking ({ v := .iface 161 (.agg #[]), recovered := false } :: older)) w fun e u' w' =>
   e = .returned (.tuple #[]) ∧ u' = .panicking ({ v := .iface 161 (.agg #[]), recovered := true } :: older) ∧ w' = (w.alloc (.cells #[] 161)).setCell p (.pointer none) := by
 refine callsD_of_wpS Try.func94 rfl fun c₀ cs hu => ?_
 apply wpS_seq
 apply wpS_region
 have hr : Array.replicate 8 undef = #[undef, undef, undef, undef, undef, undef, undef, undef] := rfl
 have hpb : p.block < w.heap.size := by
  unfold World.cell? at hc
  split at hc
  · rename_i h; exact (Array.getElem?_eq_some_iff.1 h).1
  · cases hc
 have hc2 : (w.alloc (.cells #[] 161)).cell? p = some x := by
  rw [← hc]; unfold World.cell?; rw [heap_alloc_old w _ hpb]
 have hz2 : (w.alloc (.cells #[] 161)).frozen? p = false := by
  rw [← hz]; unfold World.frozen?; rw [heap_alloc_old w _ hpb]
 simp [wpOpsS, go_sem, recoverD, hu, Try.ntmps94, Exit.thenS, assert_yes, hr, storeCells]
 apply wpS_seq
 apply wpS_region
 simp [wpOpsS, go_sem, Exit.thenS]
 refine wpS_cond (t := true) (by simp [Act.eval]) ?_
 simp only [if_true]
 apply wpS_region
 simp [wpOpsS, go_sem, hc2, hz2, bodyPostS, results, Try.results94]
theorem catch_idle (p : Addr) (w : World) :
  CallsD Try.prog 94 #[.pointer (some p)] .returning w fun e u' w' => e = .returned (.tuple #[]) ∧ u' = .returning ∧ w' = w.alloc (.cells #[] 161) := by
 refine callsD_of_wpS Try.func94 rfl fun c₀ cs hu => ?_
 have hr : Array.replicate 8 undef = #[undef, undef, undef, undef, undef, undef, undef, undef] := rfl
 apply wpS_seq
 apply wpS_region
 simp [wpOpsS, go_sem, recoverD, hu, Try.ntmps94, Exit.thenS, assert_no, hr, storeCells]
 apply wpS_seq
 apply wpS_region
 simp [wpOpsS, go_sem, Exit.thenS]
 refine wpS_cond (t := false) (by simp [Act.eval]) ?_
 simp only [Bool.false_eq_true, if_false]
 refine wpS_of_wp (wp_skip ?_)
 cases c₀
 simp_all [bodyPostS, results, Try.results94]
def firstPost (w0 : World) (bm : Nat) (pv : Sl) (fuel : Int) (Rs : List Asn) (res : R3) : Ending → World → Prop
 | .returned v, w => (∃ m f o bd, res = .done m f o ∧ v = .pointer (some ⟨bd, 0, none⟩) ∧ Sat w0 w (mch bm pv fuel m :: frm bd f (.pointer none) :: Rs)) ∨ (∃ m, res = .spent m ∧ v = .pointer none ∧ Sat w0 w (mch bm pv fuel m :: Rs))
 | _, _ => False
theorem first_calls (P : List (List Stp)) (hP : ProgOk P) (fuel : Int) (bm : Nat) (pv : Sl) (sbs : List Sl) (w0 w : World) (Rs : List Asn) (m : MS) (fn arg : Int) (x : Nat) (hS : Sat w0 w (mch bm pv fuel m :: Rs)) (hm : OkM fuel m (x + 2)) (hdep : m.depth = 0) (h0 : 0 ≤ fn) (h1 : fn < P.length) (hPr : Keeps w0 Rs (fun w => RdProg w pv sbs P)) :
  Calls Try.prog 77 #[.pointer (some ⟨bm, 0, none⟩), .int .i64 fn, .int .i64 arg] w (firstPost w0 bm pv fuel Rs (callS P fuel 8 m fn arg none 0 false)) := by
 have hmf : ∀ (fn : Fn) (first cap : Array Value) (w : World), (Instr.makeFunc fn first cap).run Try.prog w = .ok (.func fn first cap) w := fun _ _ _ _ => rfl
 have hS1 := hS.alloc [.pointer none] 139
 have hS2 : Sat w0 (w.alloc (.cells #[.pointer none] 139)) (mch bm pv fuel m :: qV (.pointer none) (.pointer none) (qX none 0) :: SX.blk w.heap.size [.pointer none] 139 :: Rs) := by
  have h9 := hS1.more (p := (Value.pointer none = Value.pointer none)) rfl
  exact h9.pickR (l := [fact (Value.pointer none = Value.pointer none), SX.blk w.heap.size [.pointer none] 139, mch bm pv fuel m]) [2, 0, 1] (by decide) [mch bm pv fuel m, fact (Value.pointer none = Value.pointer none), SX.blk w.heap.size [.pointer none] 139] rfl
 have hcall := call_calls P hP fuel bm pv sbs 8 w0 _ _ m fn arg (.pointer none) (.pointer none) none 0 false x hS2 hm (by rw [hdep]; rfl) (by omega) h0 h1 (fun h => by cases h) (fun q h => by cases h) (hPr.cons _)
 generalize callS P fuel 8 m fn arg none 0 false = res at hcall ⊢
 cases res with
 | done m1 f1 o1 =>
  replace hcall := hcall.mono (R' := fun e w' => ∃ bd, e = .returned (.pointer (some ⟨bd, 0, none⟩)) ∧ w'.cell? ⟨w.heap.size, 0, none⟩ = some (.pointer none) ∧ w'.frozen? ⟨w.heap.size, 0, none⟩ = false ∧ Sat w0 w' (SX.blk w.heap.size [.pointer none] 139 :: mch bm pv fuel m1 :: frm bd f1 (.pointer none) :: Rs)) (by
   intro e w' hp;cases e with
   | returned v =>
    obtain ⟨m', f', o', bd, hr, rfl, h4⟩ := hp
    injection hr with e1 e2 e3
    subst e1 e2 e3;have h5 : Sat w0 w' (SX.blk w.heap.size [.pointer none] 139 :: mch bm pv fuel m1 :: frm bd f1 (.pointer none) :: Rs) := h4.pickR (l := [mch bm pv fuel m1, frm bd f1 (.pointer none), qV (.pointer none) (.pointer none) (qX none o1), SX.blk w.heap.size [.pointer none] 139]) [3, 0, 1] (by decide) [SX.blk w.heap.size [.pointer none] 139, mch bm pv fuel m1, frm bd f1 (.pointer none)] rfl;exact ⟨bd, rfl, cell_blk (h5.blk 0 rfl) rfl, frozen_of_row w' _ _ _ _ (h5.blk 0 rfl), h5⟩
   | panicked c => obtain ⟨m', hr, _⟩ := hp; cases hr
   | outgrown => exact hp.elim)
  go_enter_defers Try.func77, Try.ntmps77
  go_wp2_with (go_at_call 95; refine hcall.mono ?_; rintro e w' ⟨bd, rfl, hc, hz, h5⟩)
  refine leaves_cons (f := 94) (args := #[.pointer (some ⟨w.heap.size, 0, none⟩)]) (by simp) (by simp [go_sem]) ?_
  refine (catch_idle ⟨w.heap.size, 0, none⟩ _).mono ?_
  rintro e u' w'' ⟨rfl, rfl, rfl⟩
  have h6 := h5.setCell 0 rfl 0 (.pointer (some ⟨bd, 0, none⟩))
  have h7 := h6.alloc [] 161
  have hc7 := cell_blk (j := 0) (h7.blk 1 rfl) rfl
  simp [Leaves, settle, results, Try.results77, go_sem, hc7]
  exact .inl ⟨m1, f1, o1, bd, rfl, rfl, Sat.rest [_, _] h7⟩
 | spent m1 =>
  replace hcall := hcall.mono (R' := fun e w' => e = .panicked spentC ∧ w'.cell? ⟨w.heap.size, 0, none⟩ = some (.pointer none) ∧ w'.frozen? ⟨w.heap.size, 0, none⟩ = false ∧ Sat w0 w' (SX.blk w.heap.size [.pointer none] 139 :: mch bm pv fuel m1 :: Rs)) (by
   intro e w' hp;cases e with
   | returned v => obtain ⟨m', f', o', bd, hr, _⟩ := hp; cases hr
   | panicked c =>
    obtain ⟨m', hr, rfl, h4⟩ := hp
    injection hr with e1
    subst e1;have h5 : Sat w0 w' (SX.blk w.heap.size [.pointer none] 139 :: mch bm pv fuel m1 :: Rs) := h4.pickR (l := [mch bm pv fuel m1, SX.blk w.heap.size [.pointer none] 139]) [1, 0] (by decide) [SX.blk w.heap.size [.pointer none] 139, mch bm pv fuel m1] rfl;exact ⟨rfl, cell_blk (h5.blk 0 rfl) rfl, frozen_of_row w' _ _ _ _ (h5.blk 0 rfl), h5⟩
   | outgrown => exact hp.elim)
  go_enter_defers Try.func77, Try.ntmps77
  go_wp2_with (go_at_call 95; refine hcall.mono ?_; rintro e w' ⟨rfl, hc, hz, h5⟩)
  refine leaves_cons (f := 94) (args := #[.pointer (some ⟨w.heap.size, 0, none⟩)]) (by simp) (by simp [go_sem]) ?_
  refine (catch_panicking ⟨w.heap.size, 0, none⟩ _ [] _ hc hz).mono ?_
  rintro e u' w'' ⟨rfl, rfl, rfl⟩
  have h6 := h5.alloc [] 161
  have h7 := h6.setCell 1 rfl 0 (.pointer none)
  have hc7 := cell_blk (j := 0) (h7.blk 1 rfl) rfl
  simp [Leaves, settle, results, Try.results77, go_sem, hc7]
  exact .inr ⟨m1, rfl, rfl, Sat.rest [_, _] h7⟩
end SX
end Go.Proofs.Ytcbijhgepdedpaa
