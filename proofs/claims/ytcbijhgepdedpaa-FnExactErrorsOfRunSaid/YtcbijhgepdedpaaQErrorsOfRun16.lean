/- What the claim FnExactErrorsOfRun rests on, part 16 of 22; the last part proves it: for every input the law answers true, and its arguments read behind the call as before it. No condition. -/
import Derived.Deep.Slices
import Derived.Deep.Strs
import Derived.ChangeSame
import Derived.Lib.SmallJoins
import Derived.Test.YtcbijhgepdedpaaQErrorsOfRun8
import Derived.Test.YtcbijhgepdedpaaQErrorsOfRun9
set_option linter.unusedSimpArgs false
set_option linter.unusedVariables false
namespace Go.Proofs.Ytcbijhgepdedpaa.G
open Go.RowKit Go.Deep Go.Proofs.Ytcbijhgepdedpaa.SX Go.Proofs.YtcbijhgepdedpaaW.PrintWords
section
variable {H : Type} {enc : TypeId × Value → H} {P : Program} {w : World} {base : Nat} {sp : Nat → Bool} {held : Bool}
theorem rdb_row {α : Type} {d : Kd α} {e : TypeId} (he : ∀ (n : Nat) (cs : List Value) (x : DataW H × List MemPlace), DataW.trod enc P w base sp held n e cs = some x → ∃ a, d.K w a cs) (ad : Addr) (len n : Nat) (D : Nat → DataW H) (Pl : Nat → List MemPlace)
    (hx : ∀ i, i < len → ∃ cs', w.cells? base (ad.add (i * P.cellsOf e)) (P.cellsOf e) = some cs' ∧ DataW.trod enc P w base sp held n e cs' = some (D i, Pl i)) :
    ∃ xs : List α, xs.length = len ∧ ∀ (j : Nat) (a : α), xs[j]? = some a → ∃ cs', w.cells? base (ad.add (j * P.cellsOf e)) (P.cellsOf e) = some cs' ∧ d.K w a cs' := by
  induction len with
  | zero => exact ⟨[], rfl, fun j a h => by simp at h⟩
  | succ len ih =>
    obtain ⟨xs, hl, hj⟩ := ih fun i hi => hx i (by omega);obtain ⟨cs', h1, h2⟩ := hx len (by omega);obtain ⟨a, ha⟩ := he n cs' _ h2;refine ⟨xs ++ [a], by simp [hl], fun j b hb => ?_⟩
    by_cases hjl : j < xs.length
    · rw [List.getElem?_append_left hjl] at hb; exact hj j b hb
    · rw [List.getElem?_append_right (by omega)] at hb
      have : j = len := by
        have := (List.getElem?_eq_some_iff.1 hb).1
        simp at this
        omega
      subst this;rw [hl, Nat.sub_self] at hb
      injection hb with hb
      exact ⟨cs', h1, hb ▸ ha⟩
theorem rdb_slice {α : Type} {d : Kd α} {e t : TypeId} (ht : P.underlying t = some (.slice e)) (hc : P.cellsOf e = d.sz) (he : ∀ (n : Nat) (cs : List Value) (x : DataW H × List MemPlace), DataW.trod enc P w base sp held n e cs = some x → ∃ a, d.K w a cs)
    {fuel : Nat} {cs : List Value} {x : DataW H × List MemPlace} (h : DataW.trod enc P w base sp held fuel t cs = some x) : ∃ (xs : List α) (A : Option Addr) (c : Nat), cs = [.slice A xs.length c] ∧ xs.length ≤ c ∧ Kd.C d w A xs.length xs := by
  rcases open_slice ht h with ⟨rfl, _⟩ | ⟨a, len, cap, m, n, D, Pl, rfl, hb, hl, hm, hmm, _, hx⟩
  · exact ⟨[], none, 0, rfl, Nat.le_refl _, rfl, by simp, fun h => absurd h (Nat.lt_irrefl _)⟩
  · obtain ⟨xs, hxl, hj⟩ := rdb_row he a len n D Pl fun i hi => hx i (by rw [hmm]; split <;> omega)
    have hml : maxLen ≤ 9223372036854775807 := by decide
    subst hxl;refine ⟨xs, some a, cap, rfl, hl, rfl, by omega, fun hp => ⟨a, rfl, fun j b hb => ?_⟩⟩;obtain ⟨cs', h1, h2⟩ := hj j b hb;obtain ⟨_, hlen, hcell⟩ := World.cells?_some h1;refine ⟨cs', by rw [hlen, hc], h2, fun i u hu => ?_⟩;have hi : i < cs'.length := (List.getElem?_eq_some_iff.1 hu).1;rw [← hc, ← Go.Deep.add_add, hcell i (by omega)];exact hu
end
section
variable {H : Type} {enc : TypeId × Value → H} {w : World} {base : Nat} {sp : Nat → Bool} {held : Bool} {fuel : Nat} {cs : List Value} {x : DataW H × List MemPlace}
theorem list1 {α : Type} {l : List α} (h : l.length = 1) : ∃ c0, l = [c0] := by
 match l, h with
 | [c0], _ => exact ⟨c0, rfl⟩
theorem list3 {α : Type} {l : List α} (h : l.length = 3) : ∃ c0 c1 c2, l = [c0, c1, c2] := by
 match l, h with
 | [c0, c1, c2], _ => exact ⟨c0, c1, c2, rfl⟩
theorem rdb_step (n : Nat) (cs : List Value) (x : DataW H × List MemPlace) (h : DataW.trod enc Try.prog w base sp held n 134 cs = some x) : ∃ a, k134.K w a cs := by
  obtain ⟨y0, y1, y2, m, _, hl, h0, h1, h2⟩ := trod_struct3 Try.underlying134 h
  have hC : Try.prog.cellsOf 134 = 3 := by kernel_rfl
  have hI : Try.prog.cellsOf 3 = 1 := by kernel_rfl
  obtain ⟨c0, c1, c2, rfl⟩ := list3 (hl.trans hC)
  · simp only [hI] at h0 h1 h2
    obtain ⟨a0, e0, _⟩ := DataW.trod_int Try.underlying3 h0;obtain ⟨a1, e1, _⟩ := DataW.trod_int Try.underlying3 h1;obtain ⟨a2, e2, _⟩ := DataW.trod_int Try.underlying3 h2
    simp at e0 e1 e2
    subst e0 e1 e2;exact ⟨⟨a0, a1, a2⟩, k134_mk w _⟩
theorem rdb_steps (n : Nat) (cs : List Value) (x : DataW H × List MemPlace) (h : DataW.trod enc Try.prog w base sp held n 102 cs = some x) : ∃ a, (Kd.slice 134 k134).K w a cs := by
 obtain ⟨xs, A, c, h1, h2, h3⟩ := rdb_slice Try.underlying102 (d := k134) (by kernel_rfl) rdb_step h
 exact ⟨xs, A, c, h1, h2, h3⟩
theorem rdb_functions (h : DataW.trod enc Try.prog w base sp held fuel 29 cs = some x) : ∃ (s0 : Sl) (l0 : List (List S134)), cs = [.slice s0.A s0.n s0.c] ∧ RdS k134 134 w s0 l0 := by
 obtain ⟨xs, A, c, h1, h2, h3⟩ := rdb_slice Try.underlying29 (d := Kd.slice 134 k134) (by kernel_rfl) rdb_steps h
 exact ⟨⟨A, xs.length, c⟩, xs, h1, rfl, h2, h3⟩
theorem rdb_program (h : DataW.trod enc Try.prog w base sp held fuel 31 cs = some x) : ∃ (s0 : Sl) (l0 : List (List S134)), cs = [.slice s0.A s0.n s0.c] ∧ RdS k134 134 w s0 l0 := by
  obtain ⟨y0, n, _, hl, h0⟩ := Go.ChangeShapes.trod_struct1 Try.underlying31 h
  have hC : Try.prog.cellsOf 31 = 1 := by kernel_rfl
  have hI : Try.prog.cellsOf 29 = 1 := by kernel_rfl
  obtain ⟨c0, rfl⟩ := list1 (hl.trans hC)
  · simp only [hI] at h0
    exact rdb_functions (by simpa using h0)
end
end Go.Proofs.Ytcbijhgepdedpaa.G
