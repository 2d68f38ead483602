/- What the claim FnExactIsValidRecord rests on, part 8 of 11; the last part proves it: for every input the law answers true, and its arguments read behind the call as before it. No condition. -/
import Derived.Lib.OwnBridge
import Derived.Test.YtpenhegoilccoaaQIsValidRecord3
import Derived.Test.YtpenhegoilccoaaQIsValidRecord6
namespace Go.Proofs.Ytpenhegoilccoaa
namespace SX
open Go.RowKit Go.Proofs.YtpenhegoilccoaaW.PrintWords
def jQ (l : List Asn) : Asn where
 says w F := ∃ G : Nat → Nat → Prop, (∀ k, F k ↔ ∃ i, i < l.length ∧ G i k) ∧ (∀ i j k, i < l.length → j < l.length → G i k → G j k → i = j) ∧ ∀ (i : Nat) (R : Asn), l[i]? = some R → R.says w (G i)
 lt w F h k hk := by
  obtain ⟨G, h1, _, h3⟩ := h
  obtain ⟨i, hi, hg⟩ := (h1 k).1 hk
  exact (l[i]).lt w (G i) (h3 i _ (List.getElem?_eq_getElem hi)) k hg
 loc w w' F hz h hk := by
  obtain ⟨G, h1, h2, h3⟩ := h
  refine ⟨G, h1, h2, fun i R hi => R.loc w w' (G i) hz (h3 i R hi) fun b hb => hk b ((h1 b).2 ⟨i, (List.getElem?_eq_some_iff.1 hi).1, hb⟩)⟩
section
variable {w0 w : World} {Rs : List Asn}
theorem Sat.split {l : List Asn} (h : Sat w0 w (jQ l :: Rs)) : Sat w0 w (l ++ Rs) := by
  obtain ⟨hb, F, h1, h2, h3⟩ := h
  obtain ⟨G, g1, g2, g3⟩ := h1 0 _ rfl
  refine ⟨hb, fun j b => if j < l.length then G j b else F (j - l.length + 1) b, fun j S hj => ?_, fun j j' b hj hj' => ?_, fun j b hj => ?_⟩
  · by_cases hl : j < l.length
    · rw [List.getElem?_append_left hl] at hj
      simp only [hl, if_true];exact g3 j S hj
    · rw [List.getElem?_append_right (by omega)] at hj
      simp only [hl, if_false];exact h1 (j - l.length + 1) S (by simpa using hj)
  · dsimp only at hj hj'
    split at hj <;> split at hj'
    · rename_i a b; exact g2 j j' _ a b hj hj'
    · rename_i a _; have := h2 0 _ _ ((g1 _).2 ⟨j, a, hj⟩) hj'; omega
    · rename_i _ a; have := h2 0 _ _ ((g1 _).2 ⟨j', a, hj'⟩) hj; omega
    · have := h2 _ _ _ hj hj'; omega
  · dsimp only at hj
    split at hj
    · rename_i a; exact h3 0 b ((g1 b).2 ⟨j, a, hj⟩)
    · exact h3 _ b hj
theorem Sat.merge {l : List Asn} (h : Sat w0 w (l ++ Rs)) : Sat w0 w (jQ l :: Rs) := by
  obtain ⟨hb, F, h1, h2, h3⟩ := h
  refine ⟨hb, fun j b => match j with | 0 => ∃ i, i < l.length ∧ F i b | j + 1 => F (j + l.length) b, fun j S hj => ?_, fun j j' b hj hj' => ?_, fun j b hj => ?_⟩
  · cases j with
    | zero =>
      simp at hj
      subst hj;refine ⟨F, fun _ => Iff.rfl, fun i j k _ _ hi hj => h2 i j k hi hj, fun i R hi => h1 i R ?_⟩;rw [List.getElem?_append_left (List.getElem?_eq_some_iff.1 hi).1];exact hi
    | succ j =>
      refine h1 (j + l.length) S ?_;rw [List.getElem?_append_right (by omega)]
      simpa using hj
  · cases j <;> cases j'
    · rfl
    · obtain ⟨i, hi, hf⟩ := hj
      have := h2 _ _ b hf hj'; omega
    · obtain ⟨i, hi, hf⟩ := hj'
      have := h2 _ _ b hj hf; omega
    · have := h2 _ _ b hj hj'; omega
  · cases j with
    | zero => obtain ⟨i, hi, hf⟩ := hj; exact h3 i b hf
    | succ j => exact h3 _ b hj
end
structure Sl where
 A : Option Addr
 n : Nat
 c : Nat
def bk (s : Sl) : Nat := (s.A.getD default).block
def of_ (s : Sl) : Nat := (s.A.getD default).off
structure RdI (w : World) (s : Sl) (l : List Int) : Prop where
 len : s.n = l.length
 le : l.length ≤ s.c
 rd : Kd.C (Kd.int .i64) w s.A l.length l
theorem spot_of_cell {w : World} {ad : Addr} {v : Value} (h : w.cell? (ad.add 0) = some v) : ad.spot = none := by
  simp only [Addr.add, if_true] at h
  unfold World.cell? at h
  split at h
  · split at h
    · cases h
    · rename_i hs; simpa using hs
  · cases h
section
variable {w0 w w' : World} {Rs : List Asn} {s : Sl} {l : List Int}
theorem RdI.at_ (h : RdI w s l) {j : Nat} (hj : j < l.length) : s.A = some ⟨bk s, of_ s, none⟩ ∧ w.cell? ⟨bk s, of_ s + j, none⟩ = some (.int .i64 (l.getD j 0)) := by
 obtain ⟨_, _, h3⟩ := h.rd
 have hp : 0 < l.length := by omega
 obtain ⟨ad, hA, hc⟩ := h3 hp
 have hcell : ∀ j, j < l.length → w.cell? (ad.add j) = some (.int .i64 (l.getD j 0)) := fun j hj => by
  obtain ⟨c, _, hk, hu⟩ := hc j _ (List.getElem?_eq_getElem hj)
  have e : c = [.int .i64 l[j]] := hk
  subst e
  have := hu 0 _ rfl
  simpa [Kd.int, Kd.scalar, List.getD, hj] using this
 have hspot := spot_of_cell (hcell 0 hp)
 obtain ⟨b, off, sp⟩ := ad
 subst hspot
 have := hcell j hj
 rw [add0] at this
 refine ⟨by simp [bk, of_, hA], ?_⟩
 simpa [bk, of_, hA] using this
end
def Ret (R : Value → World → Prop) : Ending → World → Prop
 | .returned v, w => R v w
 | _, _ => False
section
variable {w0 w : World} {Rs : List Asn}
theorem Sat.perm_ {l1 l2 : List Asn} (hp : l1.Perm l2) : ∀ pre, Sat w0 w (pre ++ l1) → Sat w0 w (pre ++ l2) := by
 induction hp with
 | nil => exact fun _ h => h
 | cons x _ ih =>
  intro pre h
  have := ih (pre ++ [x]) (by simpa using h)
  simpa using this
 | swap x y l =>
  intro pre h
  have h1 : Sat w0 w (jQ pre :: y :: x :: l) := h.merge
  have h2 : Sat w0 w (jQ pre :: x :: y :: l) := h1.pickR (l := [jQ pre, y, x]) [0, 2, 1] (by decide) [jQ pre, x, y] rfl
  exact h2.split
 | trans _ _ ih1 ih2 => exact fun pre h => ih2 pre (ih1 pre h)
theorem Sat.perm {l1 l2 : List Asn} (h : Sat w0 w l1) (hp : l1.Perm l2) : Sat w0 w l2 := Sat.perm_ hp [] h
end
end SX
end Go.Proofs.Ytpenhegoilccoaa
