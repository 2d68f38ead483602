/- What the claim FnExactDropStep rests on, part 18 of 23; the last part proves it: for every input the law answers true, and its arguments read behind the call as before it. No condition. -/
import Derived.Test.YtbgfiiehjaghiaaQDropStep8
import Derived.Test.YtbgfiiehjaghiaaQDropStep9
import Derived.Test.YtbgfiiehjaghiaaQDropStep14
import Derived.Test.YtbgfiiehjaghiaaQDropStep15
import Derived.Test.YtbgfiiehjaghiaaQDropStep17
set_option linter.unusedSimpArgs false
set_option linter.unusedVariables false
namespace Go.Proofs.Ytbgfiiehjaghiaa
namespace SX
open Go.RowKit Go.Proofs.Ytbgfiiehjaghiaa.G Go.Proofs.YtbgfiiehjaghiaaW.PrintWords Go.Proofs.YtbgfiiehjaghiaaW.PrintLast Go.Proofs.YtbgfiiehjaghiaaW.PrintMore
abbrev GS := S68
def toStp (x : GS) : Stp := ⟨x.f0, x.f1, x.f2⟩
def PL (l : List (List GS)) : List (List Stp) := l.map (·.map toStp)
theorem PL_length (l : List (List GS)) : (PL l).length = l.length := by simp [PL]
theorem stepB_ok {n : Nat} {k a b : Int} (h : stepB n k a b = true) : StpOk n ⟨k, a, b⟩ := by
  simp only [stepB, Bool.and_eq_true, decide_eq_true_eq] at h
  obtain ⟨⟨⟨h1, h2⟩, h3⟩, h4⟩ := h
  refine ⟨h1, h2, fun n4 n5 n10 n11 => ?_, fun hk => ?_, fun hk => ?_, fun hk => ?_, fun hk => ?_⟩
  · dsimp only at n4 n5 n10 n11 ⊢
    rw [if_neg (by omega), if_neg n11, if_neg n10] at h3;simp only [regB, Bool.and_eq_true, decide_eq_true_eq] at h3;exact h3
  · dsimp only at hk ⊢
    rw [if_neg (by omega), if_pos hk] at h4;simp only [regB, Bool.and_eq_true, decide_eq_true_eq] at h4;exact h4
  · dsimp only at hk ⊢
    rw [if_pos hk] at h3;simp only [Bool.and_eq_true, decide_eq_true_eq] at h3
    omega
  · dsimp only at hk ⊢
    rw [if_neg (by omega), if_pos hk] at h3;simp only [Bool.and_eq_true, decide_eq_true_eq] at h3;exact h3
  · dsimp only at hk ⊢
    rw [if_pos hk] at h4;simp only [numB, Bool.and_eq_true, decide_eq_true_eq] at h4;exact h4
theorem progOk_of {l : List (List GS)} (h : programB l = true) : ProgOk (PL l) := by
  simp only [programB, bodyB, Bool.and_eq_true, decide_eq_true_eq, List.all_eq_true] at h
  obtain ⟨⟨h1, h2⟩, h3⟩ := h
  refine ⟨by rw [PL_length]; exact h1, by rw [PL_length]; exact h2, fun b hb => ?_, fun b hb s hs => ?_⟩
  · obtain ⟨b', hb', rfl⟩ := List.mem_map.1 hb
    rw [List.length_map];exact (h3 b' hb').1
  · obtain ⟨b', hb', rfl⟩ := List.mem_map.1 hb
    obtain ⟨s', hs', rfl⟩ := List.mem_map.1 hs;rw [PL_length];exact stepB_ok ((h3 b' hb').2 s' hs')
section
variable {w0 w : World} {Rs : List Asn}
theorem drawn_sat (hS : Sat w0 w Rs) {w' : World} (h : Drawn0 w w') : Sat w0 w' Rs := by
 obtain ⟨q, rfl⟩ := h.out
 exact hS.grows ⟨rfl, rfl, rfl, Nat.le_refl _, fun _ _ => rfl⟩
def inB (x lo hi : Int) : Bool := decide (lo ≤ x) && decide (x ≤ hi)
theorem in_sat (hS : Sat w0 w Rs) (x lo hi : Int) : Calls Try.prog 69 #[.int .i64 x, .int .i64 lo, .int .i64 hi] w (Ret fun r w' => r = .bool (inB x lo hi) ∧ Sat w0 w' Rs) := by
 refine (impl_in.calls x lo hi _ w (in_eq x lo hi)).mono ?_
 rintro e w' ⟨rfl, hd⟩
 exact ⟨rfl, drawn_sat hS hd⟩
end
end SX
end Go.Proofs.Ytbgfiiehjaghiaa
namespace Go.Proofs.Ytbgfiiehjaghiaa.G
open Go.RowKit Go.Proofs.Ytbgfiiehjaghiaa.SX Go.Proofs.YtbgfiiehjaghiaaW.PrintWords Go.Proofs.YtbgfiiehjaghiaaW.PrintLast Go.Proofs.YtbgfiiehjaghiaaW.PrintMore
theorem q_in {w0 w : World} {Rs : List Asn} (hS : Sat w0 w Rs) (x lo hi : Int) : Calls Try.prog 66 #[.int .i64 x, .int .i64 lo, .int .i64 hi] w (Ret fun r w' => r = .bool (decide (lo ≤ x) && decide (x ≤ hi)) ∧ Sat w0 w' Rs) := by
 refine (spec_l1In.calls x lo hi (decide (lo ≤ x) && decide (x ≤ hi)) w (by unfold spec_l1In.f; by_cases h : lo ≤ x <;> simp [h])).mono ?_
 rintro e w' ⟨rfl, hd⟩
 obtain ⟨q, rfl⟩ := hd.out
 exact ⟨rfl, hS.grows ⟨rfl, rfl, rfl, Nat.le_refl _, fun _ _ => rfl⟩⟩
end Go.Proofs.Ytbgfiiehjaghiaa.G
namespace Go.Proofs.Ytbgfiiehjaghiaa
namespace SX
open Go.RowKit Go.Proofs.YtbgfiiehjaghiaaW.PrintWords
structure RdE {α : Type} (enc : α → List Value) (sz : Nat) (w : World) (s : Sl) (l : List α) : Prop where
 len : s.n = l.length
 le : l.length ≤ s.c
 big : l.length ≤ 9223372036854775807
 at_ : ∀ (j : Nat) (x : α), l[j]? = some x → s.A = some ⟨bk s, of_ s, none⟩ ∧ ∀ (o : Nat) (u : Value), (enc x)[o]? = some u → w.cell? ⟨bk s, of_ s + j * sz + o, none⟩ = some u
section
variable {α : Type} {enc : α → List Value} {sz : Nat} {w0 w w' : World} {Rs : List Asn} {s : Sl} {l : List α}
theorem RdE.below (h : RdE enc sz w s l) (hb : Below w.heap.size w w') : RdE enc sz w' s l := ⟨h.len, h.le, h.big, fun j x hx => ⟨(h.at_ j x hx).1, fun o u hu => pw_cell_below hb ((h.at_ j x hx).2 o u hu)⟩⟩
theorem RdE.sat (h : RdE enc sz w0 s l) (hS : Sat w0 w Rs) : RdE enc sz w s l := h.below hS.below
theorem Sat.rowC {T : TypeId} {vs : List Value} (h : Sat w0 w Rs) (i : Nat) (hi : Rs[i]? = some (SX.row s.v T sz vs)) : s.n ≤ s.c ∧ s.n ≤ 9223372036854775807 := by
  obtain ⟨n, h1, h2⟩ := h.row i hi
  obtain ⟨A, sn, sc⟩ := s
  have hml : maxLen ≤ 9223372036854775807 := by decide
  rcases h2 with ⟨e, h0⟩ | ⟨g, cap, cur, e, _, hg, h3, h4, h5, h6⟩
  · simp only [Sl.v, Value.slice.injEq] at e
    obtain ⟨rfl, rfl, rfl⟩ := e;exact ⟨Nat.le_refl _, by simp⟩
  · simp only [Sl.v, Value.slice.injEq] at e
    obtain ⟨rfl, rfl, rfl⟩ := e
    dsimp only
    exact ⟨by omega, by omega⟩
end
section
variable {P : Program} {R : Array Oper} {n : Nat} {e : Env} {a : Act} {w : World}
theorem v_loadE {S : World → Prop} {i d : Nat} {t : TypeId} {x : Operand} {ty : TypeId} {b f : Nat} {vs : List Value} (h : Has n e a) (ho : AtW R i (.load t x) (some d) ty a) (hx : ev e x = some (.pointer (some ⟨b, f, none⟩)))
  (ht : aggSize P t = some vs.length) (hb : ∀ w, S w → ∀ (o : Nat) (u : Value), vs[o]? = some u → w.cell? ⟨b, f + o, none⟩ = some u) : Val P R i a S d (.agg vs.toArray) :=
 v_loadL h ho hx fun w hw => run_loadVar_agg ht fun i u hu => by rw [add0]; exact hb w hw i u hu
end
end SX
end Go.Proofs.Ytbgfiiehjaghiaa
namespace Go.Proofs.Ytbgfiiehjaghiaa.G
open Go.RowKit Go.Proofs.Ytbgfiiehjaghiaa.SX Go.Proofs.YtbgfiiehjaghiaaW.PrintWords Go.Proofs.YtbgfiiehjaghiaaW.PrintLast Go.Proofs.YtbgfiiehjaghiaaW.PrintMore
theorem l2Own_l0 (l : List (List ST)) (hl : l.length ≤ 1048576) (hb : ∀ b ∈ l, b.length ≤ 1048576) : ∀ d i, i + d = l.length → ∀ k, d < k → spec_l2Own.l0 k (i : Int) l (l.take i) = some l := by
 intro d
 induction d with
 | zero =>
  intro i hi k hk
  obtain ⟨k, rfl⟩ : ∃ m, k = m + 1 := ⟨k - 1, by omega⟩
  have : i = l.length := by omega
  subst this
  simp only [spec_l2Own.l0]
  rw [if_neg (by omega), List.take_length]
 | succ d ih =>
  intro i hi k hk
  obtain ⟨k, rfl⟩ : ∃ m, k = m + 1 := ⟨k - 1, by omega⟩
  have hlt : i < l.length := by omega
  have hrd : rd_L4 l (i : Int) = l[i] := by simp [rd_L4, List.getD, hlt]
  simp only [spec_l2Own.l0, hrd, Option.bind_some, List.nil_append]
  rw [if_pos (by omega), if_pos (by omega), if_pos (by have := hb _ (List.getElem_mem hlt); simp; omega)]
  rw [if_pos (by rw [List.length_take]; omega), w64b (by omega) (by omega), show ((i : Int) + 1) = ((i + 1 : Nat) : Int) from rfl]
  have := ih (i + 1) (by omega) k (by omega)
  rw [List.take_add_one, List.getElem?_eq_getElem hlt] at this
  exact this
theorem l2Own_f (l : List (List ST)) (hf : Fits l) (k : Nat) (hk : l.length < k) : spec_l2Own.f k l = some l := by
 have := l2Own_l0 l hf.len hf.each l.length 0 (by omega) k hk
 unfold spec_l2Own.f
 simpa using this
theorem tot_set {α : Type} {l : List (List α)} {f : Nat} {b c : List α} (hb : l[f]? = some b) (hc : c.length ≤ b.length) : tot (l.set f c) ≤ tot l := by
 induction l generalizing f with
 | nil => simp at hb
 | cons d l ih =>
  cases f with
  | zero => simp at hb; subst hb; simp [tot]; omega
  | succ f => simp at hb; have := ih hb; simp [tot]; omega
theorem nil_fits {α : Type} : Fits ([] : List (List α)) := ⟨by simp, by simp [tot]⟩
def placeB (m : Int) (l : List (List ST)) (f at_ : Int) : Bool := okF l f && (decide (0 ≤ at_) && decide (at_ ≤ ((l.getD f.toNat []).length : Int) - m))
theorem placeB_ok {m : Int} {l : List (List ST)} {f at_ : Int} (h : placeB m l f at_ = true) : okF l f = true ∧ ∃ b, l[f.toNat]? = some b ∧ 0 ≤ at_ ∧ at_ ≤ (b.length : Int) - m := by
 simp only [placeB, Bool.and_eq_true, decide_eq_true_eq] at h
 have hlt := okF_lt h.1
 obtain ⟨b, hb⟩ : ∃ b, l[f.toNat]? = some b := ⟨_, List.getElem?_eq_getElem (by omega)⟩
 refine ⟨h.1, b, hb, h.2.1, ?_⟩
 have := h.2.2
 simpa only [List.getD, hb, Option.getD_some] using this
section
variable {w0 w : World} {Rs : List Asn} {s : Sl} {l : List (List ST)} {f at_ : Int}
theorem l2Program_sat (hS : Sat w0 w Rs) (hr : RdP w s l) (hf : Fits l) :
  Calls Try.prog 63 #[.agg #[.slice s.A s.n s.c]] w (Ret fun r w' => r = .bool (programB l) ∧ Sat w0 w' Rs) := by
 have := spec_l2Program.calls 1048580 s.A s.c l (programB l) w hr.rd hr.le (l2Program_f l hf.len 1048580 (by omega))
 rw [← hr.len] at this
 refine this.mono ?_
 rintro e w' ⟨rfl, hb⟩
 exact ⟨rfl, Sat.skip hS hb⟩
theorem l2Own_sat (hS : Sat w0 w Rs) (hr : RdP w s l) (hf : Fits l) :
  Calls Try.prog 56 #[.agg #[.slice s.A s.n s.c]] w (Ret fun r w' => ∃ s' : Sl, r = .agg #[s'.v] ∧ Sat w0 w' (prg w0.heap.size s' l :: Rs)) := by
 have := spec_l2Own.calls 1048580 s.A s.c l l w hr.rd hr.le (l2Own_f l hf 1048580 (by have := hf.len; omega))
 rw [← hr.len] at this
 refine this.mono ?_
 rintro e w' ⟨v, rfl, h1, h2⟩
 obtain ⟨s', rfl, h3⟩ := hS.madeS h2 h1
 exact ⟨s', rfl, h3⟩
end
theorem RdE.ofSteps {w : World} {s : Sl} {b : List ST} (hn : s.n = b.length) (hl : b.length ≤ s.c) (h : Kd.C k68 w s.A b.length b) : RdE cT 3 w s b := by
 obtain ⟨_, hb, h3⟩ := h
 refine ⟨hn, hl, hb, fun j x hx => ?_⟩
 have hj := (List.getElem?_eq_some_iff.1 hx).1
 obtain ⟨ad, hA, hc⟩ := h3 (by omega)
 have hcell : ∀ (j : Nat) (x : ST), b[j]? = some x → ∀ (o : Nat) (u : Value), (cT x)[o]? = some u → w.cell? (ad.add (j * 3 + o)) = some u := fun j x hx o u hu => by
  obtain ⟨cs, _, hk, hu2⟩ := hc j x hx
  obtain rfl := k68_open hk
  exact hu2 o u hu
 have hspot := spot_of_cell (v := .int .i64 (b[0]'(by omega)).f0) (w := w) (ad := ad) (by have := hcell 0 _ (List.getElem?_eq_getElem (by omega)) 0 _ rfl; simpa using this)
 obtain ⟨bb, off, sp⟩ := ad
 subst hspot
 refine ⟨by simp [bk, of_, hA], fun o u hu => ?_⟩
 have := hcell j x hx o u hu
 rw [add0] at this
 simpa [bk, of_, hA, Nat.add_assoc] using this
theorem body_rd {w : World} {s : Sl} {l : List (List ST)} (hr : RdP w s l) {j : Nat} {b : List ST} (hb : l[j]? = some b) : s.A = some ⟨bk s, of_ s, none⟩ ∧ ∃ t : Sl, w.cell? ⟨bk s, of_ s + j, none⟩ = some (.slice t.A t.n t.c) ∧ RdE cT 3 w t b := by
 obtain ⟨h1, A', c', h2, h3, h4⟩ := rows_cells hr.rd j b hb
 exact ⟨h1, ⟨A', b.length, c'⟩, h2, RdE.ofSteps rfl h3 h4⟩
end Go.Proofs.Ytbgfiiehjaghiaa.G
