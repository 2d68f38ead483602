/- What the claim FnExactIsTrace rests on, part 18 of 19; the last part proves it: for every input the law answers true, and its arguments read behind the call as before it. No condition. -/
import Derived.Test.YtcbijhgepdedpaaQIsTrace13
import Derived.Test.YtcbijhgepdedpaaQIsTrace14
import Derived.Test.YtcbijhgepdedpaaQIsTrace16
set_option linter.unusedSimpArgs false
set_option linter.unusedVariables false
namespace Go.Proofs.Ytcbijhgepdedpaa.G
open Go.RowKit Go.Deep Go.Proofs.Ytcbijhgepdedpaa.SX Go.Proofs.YtcbijhgepdedpaaW.PrintWords
abbrev kd3 : Kd (Int × Int × Int) := Kd.pair (Kd.int .i64) (Kd.pair (Kd.int .i64) (Kd.int .i64))
theorem RdE.ofTriples {w : World} {s : Sl} {l : List (Int × Int × Int)} (hn : s.n = l.length) (hl : l.length ≤ s.c) (h : Kd.C kd3 w s.A l.length l) : RdE cellsE 3 w s l := by
 obtain ⟨_, hb, h3⟩ := h
 refine ⟨hn, hl, hb, fun j x hx => ?_⟩
 have hj := (List.getElem?_eq_some_iff.1 hx).1
 obtain ⟨ad, hA, hc⟩ := h3 (by omega)
 have hcell : ∀ (j : Nat) (x : Int × Int × Int), l[j]? = some x → ∀ (o : Nat) (u : Value), (cellsE x)[o]? = some u → w.cell? (ad.add (j * 3 + o)) = some u := fun j x hx o u hu => by
  obtain ⟨cs, _, hk, hu2⟩ := hc j x hx
  obtain ⟨c0, c1, rfl, e0, d0, d1, rfl, e1, e2⟩ := hk
  have e0' : c0 = [.int .i64 x.1] := e0
  have e1' : d0 = [.int .i64 x.2.1] := e1
  have e2' : d1 = [.int .i64 x.2.2] := e2
  subst e0' e1' e2'
  exact hu2 o u hu
 have hspot := spot_of_cell (v := .int .i64 (l[0]'(by omega)).1) (w := w) (ad := ad) (by have := hcell 0 _ (List.getElem?_eq_getElem (by omega)) 0 _ rfl; simpa using this)
 obtain ⟨b, off, sp⟩ := ad
 subst hspot
 refine ⟨by simp [bk, of_, hA], fun o u hu => ?_⟩
 have := hcell j x hx o u hu
 rw [add0] at this
 simpa [bk, of_, hA, Nat.add_assoc] using this
section
variable {H : Type} {enc : TypeId × Value → H} {w : World} {base : Nat} {sp : Nat → Bool} {held : Bool} {fuel : Nat} {cs : List Value} {x : DataW H × List MemPlace}
theorem rdb_Event (n : Nat) (cs : List Value) (x : DataW H × List MemPlace) (h : DataW.trod enc Try.prog w base sp held n 63 cs = some x) : ∃ a, kd3.K w a cs := by
  obtain ⟨y0, y1, y2, m, _, hl, h0, h1, h2⟩ := trod_struct3 Try.underlying63 h
  have hC : Try.prog.cellsOf 63 = 3 := by kernel_rfl
  have hI : Try.prog.cellsOf 3 = 1 := by kernel_rfl
  obtain ⟨c0, c1, c2, rfl⟩ := list3 (hl.trans hC)
  · simp only [hI] at h0 h1 h2
    obtain ⟨a0, e0, _⟩ := DataW.trod_int Try.underlying3 h0;obtain ⟨a1, e1, _⟩ := DataW.trod_int Try.underlying3 h1;obtain ⟨a2, e2, _⟩ := DataW.trod_int Try.underlying3 h2
    simp at e0 e1 e2
    subst e0 e1 e2;exact ⟨(a0, a1, a2), [_], [_, _], rfl, rfl, [_], [_], rfl, rfl, rfl⟩
theorem rdb_EventS (h : DataW.trod enc Try.prog w base sp held fuel 22 cs = some x) : ∃ (s0 : Sl) (l0 : List (Int × Int × Int)), cs = [.slice s0.A s0.n s0.c] ∧ RdE cellsE 3 w s0 l0 := by
 obtain ⟨xs, A, c, h1, h2, h3⟩ := rdb_slice Try.underlying22 (d := kd3) (by kernel_rfl) rdb_Event h
 exact ⟨⟨A, xs.length, c⟩, xs, h1, RdE.ofTriples rfl h2 h3⟩
end
end Go.Proofs.Ytcbijhgepdedpaa.G
