/- What the claim FnExactSessionKinds rests on, part 20 of 22; the last part proves it: for every input the law answers true, and its arguments read behind the call as before it. No condition. -/
import Derived.Test.YtjkoibfkklhaiaaQSessionKinds16
import Derived.Test.YtjkoibfkklhaiaaQSessionKinds18
set_option linter.unusedSimpArgs false
set_option linter.unusedVariables false
namespace Go.Proofs.Ytjkoibfkklhaiaa.G
open Go.RowKit Go.Deep Go.Proofs.Ytjkoibfkklhaiaa.SX Go.Proofs.YtjkoibfkklhaiaaW.PrintWords
section
variable {H : Type} {enc : TypeId × Value → H} {w : World} {base : Nat} {sp : Nat → Bool} {held : Bool} {fuel : Nat} {cs : List Value} {x : DataW H × List MemPlace}
theorem rdb_int (n : Nat) (cs : List Value) (x : DataW H × List MemPlace) (h : DataW.trod enc Try.prog w base sp held n 3 cs = some x) : ∃ a, (Kd.int .i64).K w a cs := by
 obtain ⟨a, rfl, _⟩ := DataW.trod_int Try.underlying3 h
 exact ⟨a, rfl⟩
theorem rdb_ints (h : DataW.trod enc Try.prog w base sp held fuel 26 cs = some x) : ∃ (s0 : Sl) (l0 : List Int), cs = [.slice s0.A s0.n s0.c] ∧ RdI w s0 l0 := by
 obtain ⟨xs, A, c, h1, h2, h3⟩ := rdb_slice Try.underlying26 (d := Kd.int .i64) (by kernel_rfl) rdb_int h
 exact ⟨⟨A, xs.length, c⟩, xs, h1, rfl, h2, h3⟩
theorem list2 {α : Type} {l : List α} (h : l.length = 2) : ∃ c0 c1, l = [c0, c1] := by
 match l, h with
 | [c0, c1], _ => exact ⟨c0, c1, rfl⟩
theorem rdb_Job (n : Nat) (cs : List Value) (x : DataW H × List MemPlace) (h : DataW.trod enc Try.prog w base sp held n 136 cs = some x) : ∃ a, (Kd.pair (Kd.int .i64) (Kd.int .i64)).K w a cs := by
  obtain ⟨y0, y1, m, _, hl, h0, h1⟩ := Go.ChangeShapes.trod_struct2 Try.underlying136 h
  have hC : Try.prog.cellsOf 136 = 2 := by kernel_rfl
  have hI : Try.prog.cellsOf 3 = 1 := by kernel_rfl
  obtain ⟨c0, c1, rfl⟩ := list2 (hl.trans hC)
  · simp only [hI] at h0 h1
    obtain ⟨a0, e0, _⟩ := DataW.trod_int Try.underlying3 h0;obtain ⟨a1, e1, _⟩ := DataW.trod_int Try.underlying3 h1
    simp at e0 e1
    subst e0 e1;exact ⟨(a0, a1), [_], [_], rfl, rfl, rfl⟩
theorem rdb_JobS (h : DataW.trod enc Try.prog w base sp held fuel 25 cs = some x) : ∃ (s0 : Sl) (l0 : List (Int × Int)), cs = [.slice s0.A s0.n s0.c] ∧ RdE cellsR 2 w s0 l0 := by
 obtain ⟨xs, A, c, h1, h2, h3⟩ := rdb_slice Try.underlying25 (d := Kd.pair (Kd.int .i64) (Kd.int .i64)) (by kernel_rfl) rdb_Job h
 exact ⟨⟨A, xs.length, c⟩, xs, h1, RdE.ofPairs rfl h2 h3⟩
end
end Go.Proofs.Ytjkoibfkklhaiaa.G
