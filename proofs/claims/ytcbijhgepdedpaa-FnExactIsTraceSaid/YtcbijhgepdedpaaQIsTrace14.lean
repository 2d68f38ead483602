/- What the claim FnExactIsTrace rests on, part 14 of 19; the last part proves it: for every input the law answers true, and its arguments read behind the call as before it. No condition. -/
import Derived.Deep.Slices
import Derived.Deep.Strs
import Derived.ChangeSame
import Derived.Lib.SmallJoins
import Derived.Test.YtcbijhgepdedpaaQIsTrace7
import Derived.Test.YtcbijhgepdedpaaQIsTrace8
set_option linter.unusedSimpArgs false
set_option linter.unusedVariables false
namespace Go.Proofs.Ytcbijhgepdedpaa.G
open Go.RowKit Go.Deep Go.Proofs.Ytcbijhgepdedpaa.SX Go.Proofs.YtcbijhgepdedpaaW.PrintWords
section
variable {H : Type} {enc : TypeId × Value → H} {P : Program} {w : World} {base : Nat} {sp : Nat → Bool} {held : Bool}
theorem rdb_row {α : Type} {d : Kd α} {e : TypeId} (he : ∀ (n : Nat) (cs : List Value) (x : DataW H × List MemPlace), DataW.trod enc P w base sp held n e cs = some x → ∃ a, d.K w a cs) (ad : Addr) (len n : Nat) (D : Nat → DataW H) (Pl : Nat → List MemPlace)
    (hx : ∀ i, i < len → ∃ cs', w.cells? base (ad.add (i * P.cellsOf e)) (P.cellsOf e) = some cs' ∧ DataW.trod enc P w base sp held n e cs' = some (D i, Pl i)) :
    ∃ xs : List α, xs.length = len ∧ ∀ (j : Nat) (a : α), xs[j]? = some a → ∃ cs', w.cells? base (ad.add (j * P.cellsOf e)) (P.cellsOf e) = some cs' ∧ d.K w a cs' := by
  induction len with
  | zero => exact ⟨[], rfl, fun j a h => by simp at h⟩
  | succ len ih =>
    obtain ⟨xs, hl, hj⟩ := ih fun i hi => hx i (by omega);obtain ⟨cs', h1, h2⟩ := hx len (by omega);obtain ⟨a, ha⟩ := he n cs' _ h2;refine ⟨xs ++ [a], by simp [hl], fun j b hb => ?_⟩
    by_cases hjl : j < xs.length
    · rw [List.getElem?_append_left hjl] at hb; exact hj j b hb
    · rw [List.getElem?_append_right (by omega)] at hb
      have : j = len := by
        have := (List.getElem?_eq_some_iff.1 hb).1
        simp at this
        omega
      subst this;rw [hl, Nat.sub_self] at hb
      injection hb with hb
      exact ⟨cs', h1, hb ▸ ha⟩
theorem rdb_slice {α : Type} {d : Kd α} {e t : TypeId} (ht : P.underlying t = some (.slice e)) (hc : P.cellsOf e = d.sz) (he : ∀ (n : Nat) (cs : List Value) (x : DataW H × List MemPlace), DataW.trod enc P w base sp held n e cs = some x → ∃ a, d.K w a cs)
    {fuel : Nat} {cs : List Value} {x : DataW H × List MemPlace} (h : DataW.trod enc P w base sp held fuel t cs = some x) : ∃ (xs : List α) (A : Option Addr) (c : Nat), cs = [.slice A xs.length c] ∧ xs.length ≤ c ∧ Kd.C d w A xs.length xs := by
  rcases open_slice ht h with ⟨rfl, _⟩ | ⟨a, len, cap, m, n, D, Pl, rfl, hb, hl, hm, hmm, _, hx⟩
  · exact ⟨[], none, 0, rfl, Nat.le_refl _, rfl, by simp, fun h => absurd h (Nat.lt_irrefl _)⟩
  · obtain ⟨xs, hxl, hj⟩ := rdb_row he a len n D Pl fun i hi => hx i (by rw [hmm]; split <;> omega)
    have hml : maxLen ≤ 9223372036854775807 := by decide
    subst hxl;refine ⟨xs, some a, cap, rfl, hl, rfl, by omega, fun hp => ⟨a, rfl, fun j b hb => ?_⟩⟩;obtain ⟨cs', h1, h2⟩ := hj j b hb;obtain ⟨_, hlen, hcell⟩ := World.cells?_some h1;refine ⟨cs', by rw [hlen, hc], h2, fun i u hu => ?_⟩;have hi : i < cs'.length := (List.getElem?_eq_some_iff.1 hu).1;rw [← hc, ← Go.Deep.add_add, hcell i (by omega)];exact hu
end
section
variable {H : Type} {enc : TypeId × Value → H} {w : World} {base : Nat} {sp : Nat → Bool} {held : Bool} {fuel : Nat} {cs : List Value} {x : DataW H × List MemPlace}
theorem list3 {α : Type} {l : List α} (h : l.length = 3) : ∃ c0 c1 c2, l = [c0, c1, c2] := by
 match l, h with
 | [c0, c1, c2], _ => exact ⟨c0, c1, c2, rfl⟩
end
end Go.Proofs.Ytcbijhgepdedpaa.G
