/- Many pieces: their order, one taken out and put back; rows of rows whose inner rows lie apart. -/
import Derived.Test.YtmeejdeafmgdnaaSXr
import Derived.Test.YtmeejdeafmgdnaaWApart
namespace Go.Proofs.Ytmeejdeafmgdnaa
namespace SX
open Go.RowKit Go.Proofs.YtmeejdeafmgdnaaW.PrintWords

section
variable {w0 w : World} {Rs : List Asn}
/-- The order of the pieces doesn't matter. -/
theorem Sat.perm_ {l1 l2 : List Asn} (hp : l1.Perm l2) : ∀ pre, Sat w0 w (pre ++ l1) → Sat w0 w (pre ++ l2) := by
  induction hp with
  | nil => exact fun _ h => h
  | cons x _ ih =>
    intro pre h
    have := ih (pre ++ [x]) (by simpa using h)
    simpa using this
  | swap x y l =>
    intro pre h
    have h1 : Sat w0 w (starL pre :: y :: x :: l) := h.merge
    have h2 : Sat w0 w (starL pre :: x :: y :: l) := h1.pickR (l := [starL pre, y, x]) [0, 2, 1] (by decide) [starL pre, x, y] rfl
    exact h2.split
  | trans _ _ ih1 ih2 => exact fun pre h => ih2 pre (ih1 pre h)
theorem Sat.perm {l1 l2 : List Asn} (h : Sat w0 w l1) (hp : l1.Perm l2) : Sat w0 w l2 := Sat.perm_ hp [] h
/-- One of many pieces taken out, and put back. -/
theorem Sat.takeOut {l1 l2 : List Asn} {A : Asn} (h : Sat w0 w (starL (l1 ++ A :: l2) :: Rs)) : Sat w0 w (A :: starL (l1 ++ l2) :: Rs) := by
  have h1 : Sat w0 w ((A :: (l1 ++ l2)) ++ Rs) := h.split.perm (List.Perm.append_right _ List.perm_middle)
  have h2 : Sat w0 w ((l1 ++ l2) ++ (A :: Rs)) := h1.perm (List.perm_middle.symm : (A :: ((l1 ++ l2) ++ Rs)).Perm ((l1 ++ l2) ++ A :: Rs))
  exact h2.merge.pickR (l := [starL (l1 ++ l2), A]) [1, 0] (by decide) [A, starL (l1 ++ l2)] rfl
theorem Sat.putIn {l1 l2 : List Asn} {A : Asn} (h : Sat w0 w (A :: starL (l1 ++ l2) :: Rs)) : Sat w0 w (starL (l1 ++ A :: l2) :: Rs) := by
  have h0 : Sat w0 w (starL (l1 ++ l2) :: A :: Rs) := h.pickR (l := [A, starL (l1 ++ l2)]) [1, 0] (by decide) [starL (l1 ++ l2), A] rfl
  have h1 : Sat w0 w ((l1 ++ l2) ++ (A :: Rs)) := h0.split
  have h2 : Sat w0 w ((l1 ++ A :: l2) ++ Rs) := h1.perm (by
    have e : ((A :: (l1 ++ l2)) ++ Rs).Perm ((l1 ++ A :: l2) ++ Rs) := List.Perm.append_right _ List.perm_middle.symm
    exact (List.perm_middle : ((l1 ++ l2) ++ (A :: Rs)).Perm (A :: ((l1 ++ l2) ++ Rs))).trans e)
  exact h2.merge
theorem Sat.takeAt {α : Type} {g : α → Asn} {l : List α} {j : Nat} {x : α} (hj : l[j]? = some x) (h : Sat w0 w (starL (l.map g) :: Rs)) : Sat w0 w (g x :: starL ((l.eraseIdx j).map g) :: Rs) := by
  have hlt := (List.getElem?_eq_some_iff.1 hj).1
  have hx : l[j] = x := (List.getElem?_eq_some_iff.1 hj).2
  have e1 : l = l.take j ++ x :: l.drop (j + 1) := by
    conv => lhs; rw [← List.take_append_drop j l, List.drop_eq_getElem_cons hlt, hx]
  have e2 : l.eraseIdx j = l.take j ++ l.drop (j + 1) := List.eraseIdx_eq_take_drop_succ l j
  rw [e2, List.map_append]
  refine Sat.takeOut ?_
  rw [e1, List.map_append, List.map_cons] at h
  exact h
theorem Sat.putAt {α : Type} {g : α → Asn} {l : List α} {j : Nat} {x y : α} (hj : l[j]? = some x) (h : Sat w0 w (g y :: starL ((l.eraseIdx j).map g) :: Rs)) : Sat w0 w (starL ((l.set j y).map g) :: Rs) := by
  have hlt := (List.getElem?_eq_some_iff.1 hj).1
  have e1 : l.set j y = l.take j ++ y :: l.drop (j + 1) := by rw [List.set_eq_take_append_cons_drop, if_pos hlt]
  have e2 : l.eraseIdx j = l.take j ++ l.drop (j + 1) := List.eraseIdx_eq_take_drop_succ l j
  rw [e2, List.map_append] at h
  rw [e1, List.map_append, List.map_cons]
  exact h.putIn
theorem Sat.front {l : List Asn} {A : Asn} (h : Sat w0 w (l ++ A :: Rs)) : Sat w0 w (A :: (l ++ Rs)) := h.perm List.perm_middle
theorem Sat.back {l : List Asn} {A : Asn} (h : Sat w0 w (A :: (l ++ Rs))) : Sat w0 w (l ++ A :: Rs) := h.perm List.perm_middle.symm
theorem Sat.comm2 {l k : List Asn} (h : Sat w0 w (l ++ (k ++ Rs))) : Sat w0 w (k ++ (l ++ Rs)) := h.perm (by
  rw [← List.append_assoc, ← List.append_assoc]
  exact List.Perm.append_right _ List.perm_append_comm)
theorem Sat.pick0 {A : Asn} (h : Sat w0 w (A :: Rs)) : Sat w0 w Rs := by
  obtain ⟨hb, F, h1, h2, h3⟩ := h
  exact ⟨hb, fun j b => F (j + 1) b, fun j S hj => h1 (j + 1) S (by simpa using hj), fun i j b hi hj => by have := h2 _ _ b hi hj; omega, fun i b hi => h3 _ b hi⟩
/-- Only these of the first n pieces, in this order. -/
def pickL (n : Nat) (is : List Nat) (L : List Asn) : Option (List Asn) := (is.mapM fun i => (L.take n)[i]?).map (· ++ L.drop n)
theorem Sat.pickN {L L' : List Asn} (h : Sat w0 w L) (n : Nat) (is : List Nat) (hn : is.Nodup) (he : pickL n is L = some L') : Sat w0 w L' := by
  obtain ⟨l', h1, rfl⟩ := Option.map_eq_some_iff.1 he
  rw [← List.take_append_drop n L] at h
  exact h.pickR is hn l' h1
end
/-- A row of rows (type e' of the outer row's elements, e of the inner ones'), no two in one block. -/
def kdS {α : Type} (B : Nat) (d : Kd α) (e e' : Nat) (s : Sl) (l : List (List α)) : Asn :=
  exA fun us : { us : List (Value × List α) // us.map (·.2) = l ∧ ∀ x ∈ us, ∃ z : Sl, x.1 = z.v } => starL [SX.row s.v e' 1 (us.1.map Prod.fst), starL (us.1.map fun x => kdP B d e x.1 x.2)]
section
variable {w0 w w' : World} {Rs : List Asn} {α : Type} {d : Kd α} {e e' : Nat} {s : Sl} {l : List (List α)}
theorem Sat.openS {B : Nat} (h : Sat w0 w (kdS B d e e' s l :: Rs)) : ∃ us : List (Value × List α), us.map (·.2) = l ∧ (∀ x ∈ us, ∃ z : Sl, x.1 = z.v) ∧ Sat w0 w (SX.row s.v e' 1 (us.map Prod.fst) :: starL (us.map fun x => kdP B d e x.1 x.2) :: Rs) := by
  obtain ⟨⟨us, h1, h2⟩, h⟩ := h.open_ 0 rfl
  exact ⟨us, h1, h2, h.split⟩
theorem Sat.shutS {B : Nat} (us : List (Value × List α)) (h1 : us.map (·.2) = l) (h2 : ∀ x ∈ us, ∃ z : Sl, x.1 = z.v) (h : Sat w0 w (SX.row s.v e' 1 (us.map Prod.fst) :: starL (us.map fun x => kdP B d e x.1 x.2) :: Rs)) : Sat w0 w (kdS B d e e' s l :: Rs) := by
  have h3 := Sat.merge (l := [SX.row s.v e' 1 (us.map Prod.fst), starL (us.map fun x => kdP B d e x.1 x.2)]) h
  exact h3.shut (R := fun us : { us : List (Value × List α) // us.map (·.2) = l ∧ ∀ x ∈ us, ∃ z : Sl, x.1 = z.v } => starL [SX.row s.v e' 1 (us.1.map Prod.fst), starL (us.1.map fun x => kdP B d e x.1 x.2)]) ⟨us, h1, h2⟩ 0 rfl
/-- What the printer tells of rows of rows that a call made. -/
theorem Sat.madeS {v : Value} (h : Sat w0 w Rs) (hb : Below w.heap.size w w') (hS : Kd.S (Kd.slice e d) e' w' w.heap.size (fun _ => True) v l) : ∃ s : Sl, v = s.v ∧ Sat w0 w' (kdS w0.heap.size d e e' s l :: Rs) := by
  obtain ⟨A, c, rfl⟩ := Kd.S_slice hS
  refine ⟨⟨A, l.length, c⟩, rfl, ?_⟩
  obtain ⟨f, h0, inner, ho, hr⟩ := hS
  have hlen : inner.length = l.length := by have := hr.1; simpa [Kd.tag, Kd.slice] using this
  have hel : ∀ (j : Nat) (b : List α), l[j]? = some b → ∃ v, inner[j]? = some v ∧ d.R e w' w.heap.size (fun k => (True ∧ some k ≠ (Value.slice A l.length c).ownBlock) ∧ f k = j) v b := by
    intro j b hj
    obtain ⟨v, h1, h2⟩ := hr.2 j (b, j) (Kd.zip_at hj)
    simp only [Kd.tag, Kd.slice, Nat.mul_one] at h1
    have h3 := congrArg (fun l : List Value => l[0]?) h1
    simp only [List.getElem?_take, List.getElem?_drop, Nat.add_zero] at h3
    exact ⟨v, by simpa using h3, h2⟩
  have e1 : (inner.zip l).map (·.2) = l := List.map_snd_zip (by omega)
  have e2 : (inner.zip l).map Prod.fst = inner := List.map_fst_zip (by omega)
  have hz : ∀ (j : Nat) (x : Value × List α), (inner.zip l)[j]? = some x → d.R e w' w.heap.size (fun k => (True ∧ some k ≠ (Value.slice A l.length c).ownBlock) ∧ f k = j) x.1 x.2 := by
    intro j x hj
    obtain ⟨h1, h2⟩ := List.getElem?_zip_eq_some.1 hj
    obtain ⟨v, h3, h4⟩ := hel j _ h2
    rw [h1] at h3
    injection h3 with h3
    rw [h3]
    exact h4
  have hfirst : Sat w0 w' (starL [SX.row (Value.slice A l.length c) e' 1 inner, starL ((inner.zip l).map fun x => kdP w0.heap.size d e x.1 x.2)] :: Rs) := by
    refine h.new _ hb.os hb.tape hb.output hb.size (fun b hlt => hb.block b hlt) ⟨fun k => (Value.slice A l.length c).ownBlock = some k ∨ ∃ j, j < l.length ∧ (w.heap.size ≤ k ∧ k < w'.heap.size ∧ some k ≠ (Value.slice A l.length c).ownBlock ∧ f k = j), ?_, ?_⟩
    · refine ⟨fun i k => match i with | 0 => (Value.slice A l.length c).ownBlock = some k | _ => ∃ j, j < l.length ∧ (w.heap.size ≤ k ∧ k < w'.heap.size ∧ some k ≠ (Value.slice A l.length c).ownBlock ∧ f k = j), ?_, ?_, ?_⟩
      · intro k
        constructor
        · rintro (h | h)
          · exact ⟨0, by simp, h⟩
          · exact ⟨1, by simp, h⟩
        · rintro ⟨i, hi, h⟩
          match i with
          | 0 => exact .inl h
          | n + 1 => exact .inr h
      · intro i j k hi hj h1 h2
        match i, j with
        | 0, 0 => rfl
        | 0, n + 1 => obtain ⟨_, _, _, _, h3, _⟩ := h2; exact absurd h1.symm h3
        | n + 1, 0 => obtain ⟨_, _, _, _, h3, _⟩ := h1; exact absurd h2.symm h3
        | n + 1, m + 1 => simp at hi hj; omega
      · intro i R hi
        match i with
        | 0 =>
          simp at hi
          subst hi
          exact ⟨fun k => Iff.rfl, l.zipIdx.length, own_weaken ho (Nat.zero_le _)⟩
        | 1 =>
          simp at hi
          subst hi
          refine ⟨fun j k => w.heap.size ≤ k ∧ k < w'.heap.size ∧ some k ≠ (Value.slice A l.length c).ownBlock ∧ f k = j, ?_, ?_, ?_⟩
          · intro k
            simp only [List.length_map, List.length_zip, hlen, Nat.min_self]
          · intro i j k _ _ h1 h2
            exact h1.2.2.2.symm.trans h2.2.2.2
          · intro j R hj
            rw [List.getElem?_map] at hj
            obtain ⟨x, hx, rfl⟩ := Option.map_eq_some_iff.1 hj
            refine ⟨fun k hk => hk.2.1, Kd.R_lower (Kd.R_mono (Kd.R_bound (hz j x hx)) fun k hk => ⟨hk.2.1, hk.2.2.1, hk.1.1.2, hk.1.2⟩) h.below.size⟩
        | n + 2 => simp at hi
    · rintro k (hk | ⟨j, _, hk, _⟩)
      · exact own_base ho k hk
      · exact hk
  refine Sat.shutS (inner.zip l) e1 ?_ (by rw [e2]; exact hfirst.split)
  intro x hx
  obtain ⟨j, hj⟩ := List.getElem?_of_mem hx
  obtain ⟨A', c', h1⟩ := Kd.R_slice (hz j x hj)
  exact ⟨⟨A', _, c'⟩, h1⟩
/-- Rows of rows that are read. -/
structure RdS (d : Kd α) (e : Nat) (w : World) (s : Sl) (l : List (List α)) : Prop where
  len : s.n = l.length
  le : l.length ≤ s.c
  rd : Kd.C (Kd.slice e d) w s.A l.length l
theorem RdS.below (h : RdS d e w s l) (hb : Below w.heap.size w w') : RdS d e w' s l := ⟨h.len, h.le, Kd.C_below h.rd hb⟩
theorem RdS.sat (h : RdS d e w0 s l) (hS : Sat w0 w Rs) : RdS d e w s l := h.below hS.below
theorem RdS.eq (h : RdS d e w s l) : s.v = .slice s.A l.length s.c := by rw [Sl.v, h.len]
theorem Sat.rdS (h : Sat w0 w Rs) (i : Nat) (hi : Rs[i]? = some (kdS w0.heap.size d e e' s l)) : RdS d e w s l := by
  obtain ⟨⟨us, h1, h2⟩, h⟩ := h.open_ i hi
  obtain ⟨F, ⟨G, g1, g2, g3⟩, h4⟩ := h.at_ (i := i) (R := starL [SX.row s.v e' 1 (us.map Prod.fst), starL (us.map fun x => kdP w0.heap.size d e x.1 x.2)]) (by rw [List.getElem?_set_self (List.getElem?_eq_some_iff.1 hi).1])
  obtain ⟨_, n, hn⟩ := g3 0 _ rfl
  obtain ⟨K, k1, k2, k3⟩ := g3 1 _ rfl
  have hlu : us.length = l.length := by rw [← h1, List.length_map]
  have hnl : n = us.length := by have := hn.1; simpa using this.symm
  obtain ⟨A, m, c⟩ := s
  have key : ∀ (j : Nat) (b : List α), l[j]? = some b → ∃ A' c', (us.map Prod.fst)[j]? = some (.slice A' b.length c') ∧ b.length ≤ c' ∧ Kd.C d w A' b.length b := by
    intro j b hj
    rw [← h1, List.getElem?_map] at hj
    obtain ⟨x, hx, rfl⟩ := Option.map_eq_some_iff.1 hj
    obtain ⟨_, hR⟩ := k3 j (kdP w0.heap.size d e x.1 x.2) (by rw [List.getElem?_map, hx]; rfl)
    obtain ⟨A', c', h5, h6, h7⟩ := Kd.R_reads hR
    exact ⟨A', c', by rw [List.getElem?_map, hx]; exact congrArg some h5, h6, h7⟩
  rcases hn.2 with ⟨hv, h0⟩ | ⟨g, cap, cur, hv, _, hg, q3, q4, q5, q6⟩
  · simp only [Sl.v, Value.slice.injEq] at hv
    obtain ⟨rfl, rfl, rfl⟩ := hv
    have hl0 : l = [] := List.eq_nil_of_length_eq_zero (by omega)
    subst hl0
    exact ⟨rfl, Nat.le_refl _, rfl, by simp, fun h => absurd h (Nat.lt_irrefl _)⟩
  · simp only [Sl.v, Value.slice.injEq] at hv
    obtain ⟨rfl, rfl, rfl⟩ := hv
    have hml : maxLen ≤ 9223372036854775807 := by decide
    refine ⟨by simp only []; omega, by simp only []; omega, rfl, by omega, fun hp => ⟨⟨g, 0, none⟩, rfl, fun j b hj => ?_⟩⟩
    obtain ⟨A', c', h5, h6, h7⟩ := key j b hj
    refine ⟨[.slice A' b.length c'], rfl, ⟨A', c', rfl, h6, h7⟩, fun i u hu => ?_⟩
    obtain rfl : i = 0 := by
      have := (List.getElem?_eq_some_iff.1 hu).1
      simpa using this
    obtain rfl : Value.slice A' b.length c' = u := by simpa using hu
    simp only [Kd.slice, Nat.mul_one, Nat.add_zero]
    have hjl : j < l.length := (List.getElem?_eq_some_iff.1 hj).1
    rw [add0, Nat.zero_add, cell_of_row w g j cur e' (0, 0) hg]
    rw [← q6, List.getElem?_take] at h5
    rw [if_pos (by omega), Array.getElem?_toList] at h5
    exact h5
end
end SX
end Go.Proofs.Ytmeejdeafmgdnaa
