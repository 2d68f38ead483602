/- What the claim FnExactRenumberFunctions rests on, part 22 of 27; the last part proves it: for every input the law answers true, and its arguments read behind the call as before it. No condition. -/
import Derived.Test.YtpenhegoilccoaaQRenumberFunctions17
import Derived.Test.YtpenhegoilccoaaQRenumberFunctions19
set_option linter.unusedSimpArgs false
set_option linter.unusedVariables false
namespace Go.Proofs.Ytpenhegoilccoaa.G
open Go.RowKit Go.Deep Go.Proofs.Ytpenhegoilccoaa.SX Go.Proofs.YtpenhegoilccoaaW.PrintWords
section
variable {H : Type} {enc : TypeId × Value → H} {w : World} {base : Nat} {sp : Nat → Bool} {held : Bool} {fuel : Nat} {cs : List Value} {x : DataW H × List MemPlace}
theorem rdb_int (n : Nat) (cs : List Value) (x : DataW H × List MemPlace) (h : DataW.trod enc Try.prog w base sp held n 3 cs = some x) : ∃ a, (Kd.int .i64).K w a cs := by
 obtain ⟨a, rfl, _⟩ := DataW.trod_int Try.underlying3 h
 exact ⟨a, rfl⟩
theorem rdb_ints (h : DataW.trod enc Try.prog w base sp held fuel 44 cs = some x) : ∃ (s0 : Sl) (l0 : List Int), cs = [.slice s0.A s0.n s0.c] ∧ RdI w s0 l0 := by
 obtain ⟨xs, A, c, h1, h2, h3⟩ := rdb_slice Try.underlying44 (d := Kd.int .i64) (by kernel_rfl) rdb_int h
 exact ⟨⟨A, xs.length, c⟩, xs, h1, rfl, h2, h3⟩
end
end Go.Proofs.Ytpenhegoilccoaa.G
