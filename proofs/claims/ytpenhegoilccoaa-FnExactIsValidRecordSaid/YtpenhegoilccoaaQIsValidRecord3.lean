/- What the claim FnExactIsValidRecord rests on, part 3 of 11; the last part proves it: for every input the law answers true, and its arguments read behind the call as before it. No condition. -/
import Derived.OrdersHeld
import Derived.Below
import Derived.KernelRfl
import Derived.Laws.AppendOwn
import Derived.Laws.OwnMore
import Derived.Maps.AppendAt
import Derived.WalkKit
namespace Go.Proofs.Ytpenhegoilccoaa
namespace SX
open Go.RowKit
abbrev Env := List (Nat × Value)
structure Asn where
 says : World → (Nat → Prop) → Prop
 lt : ∀ w F, says w F → ∀ b, F b → b < w.heap.size
 loc : ∀ w w' F, w.heap.size ≤ w'.heap.size → says w F → (∀ b, F b → w'.heap[b]? = w.heap[b]?) → says w' F
def blk (b : Nat) (cs : List Value) (T : TypeId) : Asn where
 says w F := (∀ k, F k ↔ k = b) ∧ w.heap[b]? = some (.cells cs.toArray T (0, 0))
 lt w F h k hk := by
  have := (h.1 k).1 hk
  subst this
  exact (Array.getElem?_eq_some_iff.1 h.2).1
 loc w w' F hz h hk := ⟨h.1, by rw [hk b ((h.1 b).2 rfl)]; exact h.2⟩
def obj (b : Nat) (o : Obj) : Asn where
 says w F := (∀ k, F k ↔ k = b) ∧ w.heap[b]? = some o
 lt w F h k hk := by
  have := (h.1 k).1 hk
  subst this
  exact (Array.getElem?_eq_some_iff.1 h.2).1
 loc w w' F hz h hk := ⟨h.1, by rw [hk b ((h.1 b).2 rfl)]; exact h.2⟩
def row (v : Value) (T : TypeId) (sz : Nat) (xs : List Value) : Asn where
 says w F := (∀ k, F k ↔ v.ownBlock = some k) ∧ ∃ n, w.ownsRow 0 T sz v n xs
 lt w F h k hk := by
  obtain ⟨n, h2⟩ := h.2
  exact (h2.lt k ((h.1 k).1 hk)).2
 loc w w' F hz h hk := by
  obtain ⟨h1, n, h2, h3⟩ := h
  refine ⟨h1, n, h2, ?_⟩
  rcases h3 with h3 | ⟨g, cap, cur, rfl, hb, hg, rest⟩
  · exact .inl h3
  · exact .inr ⟨g, cap, cur, rfl, hb, by rw [hk g ((h1 g).2 rfl)]; exact hg, rest⟩
def star (A B : Asn) : Asn where
 says w F := ∃ G H, (∀ k, F k ↔ G k ∨ H k) ∧ (∀ k, G k → ¬ H k) ∧ A.says w G ∧ B.says w H
 lt w F h k hk := by
  obtain ⟨G, H, h1, _, h3, h4⟩ := h
  rcases (h1 k).1 hk with h | h
  · exact A.lt w G h3 k h
  · exact B.lt w H h4 k h
 loc w w' F hz h hk := by
  obtain ⟨G, H, h1, h2, h3, h4⟩ := h
  exact ⟨G, H, h1, h2, A.loc w w' G hz h3 fun b hb => hk b ((h1 b).2 (.inl hb)), B.loc w w' H hz h4 fun b hb => hk b ((h1 b).2 (.inr hb))⟩
structure Sat (w0 w : World) (Rs : List Asn) : Prop where
 below : Below w0.heap.size w0 w
 pieces : ∃ F : Nat → Nat → Prop, (∀ (i : Nat) (R : Asn), Rs[i]? = some R → R.says w (F i)) ∧ (∀ i j b, F i b → F j b → i = j) ∧ (∀ i b, F i b → w0.heap.size ≤ b ∧ b < w.heap.size)
section
variable {w0 w : World} {Rs : List Asn}
theorem Sat.pickR {l : List Asn} (h : Sat w0 w (l ++ Rs)) (is : List Nat) (hn : is.Nodup) (l' : List Asn) (hp : is.mapM (fun i => l[i]?) = some l') : Sat w0 w (l' ++ Rs) := by
  obtain ⟨hb, F, h1, h2, h3⟩ := h
  have hlen : ∀ (is : List Nat) (l' : List Asn), is.mapM (fun i => l[i]?) = some l' → is.length = l'.length ∧ ∀ (i : Nat) (R : Asn), l'[i]? = some R → ∃ j : Nat, is[i]? = some j ∧ l[j]? = some R := by
    intro is
    induction is with
    | nil => intro l' hp; simp at hp; subst hp; simp
    | cons x is ih =>
      intro l' hp;rw [List.mapM_cons] at hp;cases hx : l[x]? with
      | none => simp [hx] at hp
      | some r =>
        cases hr : is.mapM (fun i => l[i]?) with
        | none => simp [hx, hr] at hp
        | some rs =>
          simp [hx, hr] at hp
          subst hp;obtain ⟨g1, g2⟩ := ih rs hr;refine ⟨by simp [g1], fun i R hi => ?_⟩;cases i with
          | zero => simp at hi; subst hi; exact ⟨x, rfl, hx⟩
          | succ i => simpa using g2 i R (by simpa using hi)
  obtain ⟨hl, hget⟩ := hlen is l' hp
  have hat : ∀ i j : Nat, is[i]? = some j → j < l.length := by
    intro i j hij;have hi : i < l'.length := by rw [← hl]; exact (List.getElem?_eq_some_iff.1 hij).1
    obtain ⟨j', e1, e2⟩ := hget i _ (List.getElem?_eq_getElem hi);rw [hij] at e1
    injection e1 with e1
    subst e1;exact (List.getElem?_eq_some_iff.1 e2).1
  let at_ : Nat → Nat := fun i => if i < l'.length then is.getD i 0 else i - l'.length + l.length
  have hat2 : ∀ i, i < l'.length → is[i]? = some (at_ i) := by
    intro i hi;simp only [at_, hi, if_true];rw [List.getD_eq_getElem?_getD, List.getElem?_eq_getElem (by omega)]
    simp
  have hinj : ∀ i j, at_ i = at_ j → i = j := by
    intro i j hij
    by_cases hi : i < l'.length <;> by_cases hj : j < l'.length
    · have e1 := hat2 i hi
      have e2 := hat2 j hj;exact (List.getElem?_inj (by omega) hn).1 (by rw [e1, e2, hij])
    · have := hat _ _ (hat2 i hi)
      simp only [at_, hj, if_false] at hij;simp only [at_] at this
      omega
    · have := hat _ _ (hat2 j hj)
      simp only [at_, hi, if_false] at hij;simp only [at_] at this
      omega
    · simp only [at_, hi, hj, if_false] at hij
      omega
  refine ⟨hb, fun i b => F (at_ i) b, fun i R hi => ?_, fun i j b hi hj => hinj _ _ (h2 _ _ b hi hj), fun i b hi => h3 _ b hi⟩
  by_cases hlt : i < l'.length
  · rw [List.getElem?_append_left hlt] at hi
    obtain ⟨j, e1, e2⟩ := hget i R hi
    have : at_ i = j := by
      have := hat2 i hlt;rw [e1] at this
      injection this with this
      exact this.symm
    show R.says w (F (at_ i))
    rw [this];refine h1 j R ?_;rw [List.getElem?_append_left (List.getElem?_eq_some_iff.1 e2).1];exact e2
  · rw [List.getElem?_append_right (by omega)] at hi
    refine h1 (at_ i) R ?_;simp only [at_, hlt, if_false];rw [List.getElem?_append_right (by omega)]
    simpa using hi
theorem Sat.at_ (h : Sat w0 w Rs) {i : Nat} {R : Asn} (hi : Rs[i]? = some R) : ∃ F, R.says w F ∧ ∀ b, F b → w0.heap.size ≤ b ∧ b < w.heap.size := by
 obtain ⟨_, F, h1, _, h3⟩ := h
 exact ⟨F i, h1 i R hi, h3 i⟩
theorem Sat.blk (h : Sat w0 w Rs) {b : Nat} {cs : List Value} {T : TypeId} (i : Nat) (hi : Rs[i]? = some (blk b cs T)) : w.heap[b]? = some (.cells cs.toArray T (0, 0)) := by
 obtain ⟨F, h1, _⟩ := h.at_ hi
 exact h1.2
theorem Sat.obj (h : Sat w0 w Rs) {b : Nat} {o : Obj} (i : Nat) (hi : Rs[i]? = some (obj b o)) : w.heap[b]? = some o := by
 obtain ⟨F, h1, _⟩ := h.at_ hi
 exact h1.2
theorem Sat.row (h : Sat w0 w Rs) {v : Value} {T : TypeId} {sz : Nat} {xs : List Value} (i : Nat) (hi : Rs[i]? = some (row v T sz xs)) : ∃ n, w.ownsRow 0 T sz v n xs := by
 obtain ⟨F, h1, _⟩ := h.at_ hi
 exact h1.2
end
section
variable {P : Program} {R : Array Oper} {Q : Exit → Act → World → Prop} {n : Nat} {e : Env} {a : Act} {w w0 : World} {Rs : List Asn}
theorem add0 (b j k : Nat) : (⟨b, j, none⟩ : Addr).add k = ⟨b, j + k, none⟩ := by unfold Addr.add; split <;> simp_all
end
end SX
end Go.Proofs.Ytpenhegoilccoaa
