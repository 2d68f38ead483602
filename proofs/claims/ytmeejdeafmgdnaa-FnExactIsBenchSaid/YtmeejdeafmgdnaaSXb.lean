/- Memory told by a list of separate pieces: blocks, rows that are owned, a map; what lies below the call's first block is as it was. -/
import Derived.Test.YtmeejdeafmgdnaaSXa
namespace Go.Proofs.Ytmeejdeafmgdnaa
namespace SX
open Go.RowKit

/-- A piece: what it says of a world and of the blocks that it holds. -/
structure Asn where
  says : World → (Nat → Prop) → Prop
  lt : ∀ w F, says w F → ∀ b, F b → b < w.heap.size
  loc : ∀ w w' F, says w F → (∀ b, F b → w'.heap[b]? = w.heap[b]?) → says w' F

theorem lt_of_get {w w' : World} {b : Nat} (h : w'.heap[b]? = w.heap[b]?) (hb : b < w.heap.size) : b < w'.heap.size := by
  have : w'.heap[b]? ≠ none := by rw [h]; simpa using hb
  exact Nat.lt_of_not_le fun hle => this (by simpa using hle)

/-- One block of cells, known whole. -/
def blk (b : Nat) (cs : List Value) (T : TypeId) : Asn where
  says w F := (∀ k, F k ↔ k = b) ∧ w.heap[b]? = some (.cells cs.toArray T (0, 0))
  lt w F h k hk := by
    have := (h.1 k).1 hk
    subst this
    exact (Array.getElem?_eq_some_iff.1 h.2).1
  loc w w' F h hk := ⟨h.1, by rw [hk b ((h.1 b).2 rfl)]; exact h.2⟩

/-- One block of whatever kind. -/
def obj (b : Nat) (o : Obj) : Asn where
  says w F := (∀ k, F k ↔ k = b) ∧ w.heap[b]? = some o
  lt w F h k hk := by
    have := (h.1 k).1 hk
    subst this
    exact (Array.getElem?_eq_some_iff.1 h.2).1
  loc w w' F h hk := ⟨h.1, by rw [hk b ((h.1 b).2 rfl)]; exact h.2⟩

/-- A slice that owns its row: element type T of sz cells, the cells xs. -/
def row (v : Value) (T : TypeId) (sz : Nat) (xs : List Value) : Asn where
  says w F := (∀ k, F k ↔ v.ownBlock = some k) ∧ ∃ n, w.ownsRow 0 T sz v n xs
  lt w F h k hk := by
    obtain ⟨n, h2⟩ := h.2
    exact (h2.lt k ((h.1 k).1 hk)).2
  loc w w' F h hk := by
    obtain ⟨h1, n, h2, h3⟩ := h
    refine ⟨h1, n, h2, ?_⟩
    rcases h3 with h3 | ⟨g, cap, cur, rfl, hb, hg, rest⟩
    · exact .inl h3
    · exact .inr ⟨g, cap, cur, rfl, hb, by rw [hk g ((h1 g).2 rfl)]; exact hg, rest⟩

/-- Two pieces as one. -/
def star (A B : Asn) : Asn where
  says w F := ∃ G H, (∀ k, F k ↔ G k ∨ H k) ∧ (∀ k, G k → ¬ H k) ∧ A.says w G ∧ B.says w H
  lt w F h k hk := by
    obtain ⟨G, H, h1, _, h3, h4⟩ := h
    rcases (h1 k).1 hk with h | h
    · exact A.lt w G h3 k h
    · exact B.lt w H h4 k h
  loc w w' F h hk := by
    obtain ⟨G, H, h1, h2, h3, h4⟩ := h
    exact ⟨G, H, h1, h2, A.loc w w' G h3 fun b hb => hk b ((h1 b).2 (.inl hb)), B.loc w w' H h4 fun b hb => hk b ((h1 b).2 (.inr hb))⟩

/-- There is something such that. -/
def exA {α : Type} (R : α → Asn) : Asn where
  says w F := ∃ x, (R x).says w F
  lt w F h k hk := let ⟨x, hx⟩ := h; (R x).lt w F hx k hk
  loc w w' F h hk := let ⟨x, hx⟩ := h; ⟨x, (R x).loc w w' F hx hk⟩

/-- A fact, holding no block. -/
def fact (p : Prop) : Asn where
  says _ F := p ∧ ∀ k, ¬ F k
  lt _ _ h k hk := absurd hk (h.2 k)
  loc _ _ _ h _ := h

/-- Below w0's size w is as w0; behind it lie, apart from each other, the pieces Rs (and what nobody asks for). -/
structure Sat (w0 w : World) (Rs : List Asn) : Prop where
  below : Below w0.heap.size w0 w
  pieces : ∃ F : Nat → Nat → Prop, (∀ (i : Nat) (R : Asn), Rs[i]? = some R → R.says w (F i)) ∧ (∀ i j b, F i b → F j b → i = j) ∧ (∀ i b, F i b → w0.heap.size ≤ b ∧ b < w.heap.size)

section
variable {w0 w : World} {Rs : List Asn}

theorem Sat.start (w : World) : Sat w w [] := ⟨Below.refl _ _, fun _ _ => False, fun i R h => by simp at h, fun _ _ _ h => h.elim, fun _ _ h => h.elim⟩

theorem Sat.drew (h : Sat w0 w Rs) : Sat w0 w.drew Rs := by
  obtain ⟨hb, F, h1, h2, h3⟩ := h
  exact ⟨hb.drew, F, fun i R hi => R.loc w w.drew (F i) (h1 i R hi) fun _ _ => rfl, h2, h3⟩

theorem Sat.pick (h : Sat w0 w Rs) (is : List Nat) (hn : is.Nodup) (Rs' : List Asn) (hp : is.mapM (fun i => Rs[i]?) = some Rs') : Sat w0 w Rs' := by
  obtain ⟨hb, F, h1, h2, h3⟩ := h
  have hget : ∀ (is : List Nat) (Rs' : List Asn), is.mapM (fun i => Rs[i]?) = some Rs' → ∀ (i : Nat) (R : Asn), Rs'[i]? = some R → ∃ j : Nat, is[i]? = some j ∧ Rs[j]? = some R := by
    intro is
    induction is with
    | nil => intro Rs' hp i R hi; simp at hp; subst hp; simp at hi
    | cons x is ih =>
      intro Rs' hp i R hi
      rw [List.mapM_cons] at hp
      cases hx : Rs[x]? with
      | none => simp [hx] at hp
      | some r =>
        cases hr : is.mapM (fun i => Rs[i]?) with
        | none => simp [hx, hr] at hp
        | some rs =>
          simp [hx, hr] at hp
          subst hp
          cases i with
          | zero => simp at hi; subst hi; exact ⟨x, rfl, hx⟩
          | succ i => simpa using ih rs hr i R (by simpa using hi)
  refine ⟨hb, fun i b => ∃ j : Nat, is[i]? = some j ∧ F j b, fun i R hi => ?_, ?_, ?_⟩
  · obtain ⟨j, hj, hR⟩ := hget is Rs' hp i R hi
    have := h1 j R hR
    have e : (fun b => ∃ j : Nat, is[i]? = some j ∧ F j b) = F j := by
      funext b
      apply propext
      constructor
      · rintro ⟨j', hj', hb⟩
        rw [hj] at hj'
        injection hj' with hj'
        subst hj'
        exact hb
      · exact fun hb => ⟨j, hj, hb⟩
    show R.says w (fun b => ∃ j : Nat, is[i]? = some j ∧ F j b)
    rw [e]
    exact this
  · rintro i i' b ⟨j, hj, hb⟩ ⟨j', hj', hb'⟩
    have := h2 j j' b hb hb'
    subst this
    have hi : i < is.length := (List.getElem?_eq_some_iff.1 hj).1
    exact (List.getElem?_inj hi hn).1 (by rw [hj, hj'])
  · rintro i b ⟨j, _, hb⟩
    exact h3 j b hb

/-- Some of the first pieces, in another order; the rest stays. -/
theorem Sat.pickR {l : List Asn} (h : Sat w0 w (l ++ Rs)) (is : List Nat) (hn : is.Nodup) (l' : List Asn) (hp : is.mapM (fun i => l[i]?) = some l') : Sat w0 w (l' ++ Rs) := by
  obtain ⟨hb, F, h1, h2, h3⟩ := h
  have hlen : ∀ (is : List Nat) (l' : List Asn), is.mapM (fun i => l[i]?) = some l' → is.length = l'.length ∧ ∀ (i : Nat) (R : Asn), l'[i]? = some R → ∃ j : Nat, is[i]? = some j ∧ l[j]? = some R := by
    intro is
    induction is with
    | nil => intro l' hp; simp at hp; subst hp; simp
    | cons x is ih =>
      intro l' hp
      rw [List.mapM_cons] at hp
      cases hx : l[x]? with
      | none => simp [hx] at hp
      | some r =>
        cases hr : is.mapM (fun i => l[i]?) with
        | none => simp [hx, hr] at hp
        | some rs =>
          simp [hx, hr] at hp
          subst hp
          obtain ⟨g1, g2⟩ := ih rs hr
          refine ⟨by simp [g1], fun i R hi => ?_⟩
          cases i with
          | zero => simp at hi; subst hi; exact ⟨x, rfl, hx⟩
          | succ i => simpa using g2 i R (by simpa using hi)
  obtain ⟨hl, hget⟩ := hlen is l' hp
  have hat : ∀ i j : Nat, is[i]? = some j → j < l.length := by
    intro i j hij
    have hi : i < l'.length := by rw [← hl]; exact (List.getElem?_eq_some_iff.1 hij).1
    obtain ⟨j', e1, e2⟩ := hget i _ (List.getElem?_eq_getElem hi)
    rw [hij] at e1
    injection e1 with e1
    subst e1
    exact (List.getElem?_eq_some_iff.1 e2).1
  let at_ : Nat → Nat := fun i => if i < l'.length then is.getD i 0 else i - l'.length + l.length
  have hat2 : ∀ i, i < l'.length → is[i]? = some (at_ i) := by
    intro i hi
    simp only [at_, hi, if_true]
    rw [List.getD_eq_getElem?_getD, List.getElem?_eq_getElem (by omega)]
    simp
  have hinj : ∀ i j, at_ i = at_ j → i = j := by
    intro i j hij
    by_cases hi : i < l'.length <;> by_cases hj : j < l'.length
    · have e1 := hat2 i hi
      have e2 := hat2 j hj
      exact (List.getElem?_inj (by omega) hn).1 (by rw [e1, e2, hij])
    · have := hat _ _ (hat2 i hi)
      simp only [at_, hj, if_false] at hij
      simp only [at_] at this
      omega
    · have := hat _ _ (hat2 j hj)
      simp only [at_, hi, if_false] at hij
      simp only [at_] at this
      omega
    · simp only [at_, hi, hj, if_false] at hij
      omega
  refine ⟨hb, fun i b => F (at_ i) b, fun i R hi => ?_, fun i j b hi hj => hinj _ _ (h2 _ _ b hi hj), fun i b hi => h3 _ b hi⟩
  by_cases hlt : i < l'.length
  · rw [List.getElem?_append_left hlt] at hi
    obtain ⟨j, e1, e2⟩ := hget i R hi
    have : at_ i = j := by
      have := hat2 i hlt
      rw [e1] at this
      injection this with this
      exact this.symm
    show R.says w (F (at_ i))
    rw [this]
    refine h1 j R ?_
    rw [List.getElem?_append_left (List.getElem?_eq_some_iff.1 e2).1]
    exact e2
  · rw [List.getElem?_append_right (by omega)] at hi
    refine h1 (at_ i) R ?_
    simp only [at_, hlt, if_false]
    rw [List.getElem?_append_right (by omega)]
    simpa using hi

/-- What one piece says, with its blocks. -/
theorem Sat.at_ (h : Sat w0 w Rs) {i : Nat} {R : Asn} (hi : Rs[i]? = some R) : ∃ F, R.says w F ∧ ∀ b, F b → w0.heap.size ≤ b ∧ b < w.heap.size := by
  obtain ⟨_, F, h1, _, h3⟩ := h
  exact ⟨F i, h1 i R hi, h3 i⟩
theorem Sat.blk (h : Sat w0 w Rs) {b : Nat} {cs : List Value} {T : TypeId} (i : Nat) (hi : Rs[i]? = some (blk b cs T)) : w.heap[b]? = some (.cells cs.toArray T (0, 0)) := by
  obtain ⟨F, h1, _⟩ := h.at_ hi
  exact h1.2
theorem Sat.obj (h : Sat w0 w Rs) {b : Nat} {o : Obj} (i : Nat) (hi : Rs[i]? = some (obj b o)) : w.heap[b]? = some o := by
  obtain ⟨F, h1, _⟩ := h.at_ hi
  exact h1.2
theorem Sat.row (h : Sat w0 w Rs) {v : Value} {T : TypeId} {sz : Nat} {xs : List Value} (i : Nat) (hi : Rs[i]? = some (row v T sz xs)) : ∃ n, w.ownsRow 0 T sz v n xs := by
  obtain ⟨F, h1, _⟩ := h.at_ hi
  exact h1.2

/-- One piece is changed, or opened, or put together anew; new blocks may have come; nothing else has turned. -/
theorem Sat.upd (h : Sat w0 w Rs) {w' : World} {i : Nat} {R : Asn} (hi : Rs[i]? = some R) (R' : Asn)
    (hos : w'.os = w.os) (htape : w'.tape = w.tape) (hout : w'.output = w.output) (hsize : w.heap.size ≤ w'.heap.size)
    (hc : ∀ F, R.says w F → ∃ F', R'.says w' F' ∧ (∀ b, F' b → F b ∨ w.heap.size ≤ b) ∧ ∀ b, b < w.heap.size → ¬ F b → w'.heap[b]? = w.heap[b]?) : Sat w0 w' (Rs.set i R') := by
  obtain ⟨hb, F, h1, h2, h3⟩ := h
  obtain ⟨F', hR', hF', hrest⟩ := hc (F i) (h1 i R hi)
  have hs0 : w0.heap.size ≤ w.heap.size := hb.size
  refine ⟨hb.trans ⟨hos, htape, hout, hsize, fun k hk => hrest k (by omega) fun hk' => by have := (h3 i k hk').1; omega⟩,
    fun j b => if j = i then F' b else F j b, fun j S hj => ?_, fun j j' b hj hj' => ?_, fun j b hj => ?_⟩
  · by_cases e : j = i
    · subst e
      have hlt : j < Rs.length := (List.getElem?_eq_some_iff.1 hi).1
      rw [List.getElem?_set_self hlt] at hj
      injection hj with hj
      subst hj
      simpa using hR'
    · rw [List.getElem?_set_ne (Ne.symm e)] at hj
      simp only [e, if_false]
      refine S.loc w w' (F j) (h1 j S hj) fun b hb => hrest b (h3 j b hb).2 fun hb' => e (h2 j i b hb hb')
  · dsimp only at hj hj'
    split at hj <;> split at hj'
    · omega
    · rename_i e e'
      rcases hF' b hj with h | h
      · have := h2 i j' b h hj'; omega
      · have := (h3 j' b hj').2; omega
    · rename_i e e'
      rcases hF' b hj' with h | h
      · have := h2 j i b hj h; omega
      · have := (h3 j b hj).2; omega
    · exact h2 j j' b hj hj'
  · dsimp only at hj
    split at hj
    · have hlt := R'.lt w' F' hR' b hj
      rcases hF' b hj with h | h
      · exact ⟨(h3 i b h).1, hlt⟩
      · exact ⟨by omega, hlt⟩
    · have := h3 j b hj; omega

/-- A new piece in new blocks. -/
theorem Sat.new (h : Sat w0 w Rs) {w' : World} (R' : Asn) (hos : w'.os = w.os) (htape : w'.tape = w.tape) (hout : w'.output = w.output) (hsize : w.heap.size ≤ w'.heap.size)
    (hold : ∀ b, b < w.heap.size → w'.heap[b]? = w.heap[b]?) (hc : ∃ F', R'.says w' F' ∧ ∀ b, F' b → w.heap.size ≤ b) : Sat w0 w' (R' :: Rs) := by
  obtain ⟨hb, F, h1, h2, h3⟩ := h
  obtain ⟨F', hR', hF'⟩ := hc
  have hs0 : w0.heap.size ≤ w.heap.size := hb.size
  refine ⟨hb.trans ⟨hos, htape, hout, hsize, fun k hk => hold k (by omega)⟩, fun j b => match j with | 0 => F' b | j + 1 => F j b, fun j S hj => ?_, fun j j' b hj hj' => ?_, fun j b hj => ?_⟩
  · cases j with
    | zero => simp at hj; subst hj; exact hR'
    | succ j => exact S.loc w w' (F j) (h1 j S (by simpa using hj)) fun b hb => hold b (h3 j b hb).2
  · cases j <;> cases j'
    · rfl
    · exfalso
      have := hF' b hj; have := (h3 _ b hj').2; omega
    · exfalso
      have := hF' b hj'; have := (h3 _ b hj).2; omega
    · exact congrArg _ (h2 _ _ b hj hj')
  · cases j with
    | zero => exact ⟨by have := hF' b hj; omega, R'.lt w' F' hR' b hj⟩
    | succ j => have := h3 j b hj; exact ⟨this.1, by omega⟩

theorem Sat.allocO (h : Sat w0 w Rs) (o : Obj) : Sat w0 (w.alloc o) (SX.obj w.heap.size o :: Rs) :=
  h.new _ rfl rfl rfl (by simp) (fun b hb => heap_alloc_old w o hb) ⟨fun k => k = w.heap.size, ⟨fun _ => Iff.rfl, heap_alloc_new w o⟩, fun b hb => by omega⟩
theorem Sat.alloc (h : Sat w0 w Rs) (cs : List Value) (T : TypeId) : Sat w0 (w.alloc (.cells cs.toArray T)) (SX.blk w.heap.size cs T :: Rs) :=
  h.new _ rfl rfl rfl (by simp) (fun b hb => heap_alloc_old w _ hb) ⟨fun k => k = w.heap.size, ⟨fun _ => Iff.rfl, heap_alloc_new w _⟩, fun b hb => by omega⟩

theorem Sat.setCell (h : Sat w0 w Rs) {b : Nat} {cs : List Value} {T : TypeId} (i : Nat) (hi : Rs[i]? = some (SX.blk b cs T)) (j : Nat) (v : Value) :
    Sat w0 (w.setCell ⟨b, j, none⟩ v) (Rs.set i (SX.blk b (cs.set j v) T)) := by
  refine h.upd hi _ rfl rfl rfl (by simp) fun F hF => ⟨F, ⟨hF.1, ?_⟩, fun _ hb => .inl hb, fun k _ hF' => ?_⟩
  · have := heap_setCell_same w b j cs.toArray T v hF.2
    simpa using this
  · exact heap_setCell_other w _ k v (fun e => hF' ((hF.1 k).2 e))

/-- Behind something that makes memory and turns nothing that was there. -/
theorem Sat.grows (h : Sat w0 w Rs) {w' : World} (hb : Below w.heap.size w w') : Sat w0 w' Rs := by
  obtain ⟨hb0, F, h1, h2, h3⟩ := h
  exact ⟨hb0.trans (hb.mono hb0.size), F, fun i R hi => R.loc w w' (F i) (h1 i R hi) fun b hF => hb.block b (h3 i b hF).2, h2, fun i b hF => ⟨(h3 i b hF).1, Nat.lt_of_lt_of_le (h3 i b hF).2 hb.size⟩⟩

/-- One piece told otherwise, in the same world. -/
theorem Sat.turn (h : Sat w0 w Rs) {i : Nat} {R : Asn} (hi : Rs[i]? = some R) (R' : Asn) (hc : ∀ F, R.says w F → R'.says w F) : Sat w0 w (Rs.set i R') :=
  h.upd hi R' rfl rfl rfl (Nat.le_refl _) fun F hF => ⟨F, hc F hF, fun _ hb => .inl hb, fun _ _ _ => rfl⟩
theorem Sat.open_ (h : Sat w0 w Rs) {α : Type} {R : α → Asn} (i : Nat) (hi : Rs[i]? = some (exA R)) : ∃ x, Sat w0 w (Rs.set i (R x)) := by
  obtain ⟨F, ⟨x, _⟩, _⟩ := h.at_ hi
  obtain ⟨hb, G, h1, h2, h3⟩ := h
  obtain ⟨x, hx⟩ := h1 i _ hi
  refine ⟨x, hb, G, fun j S hj => ?_, h2, h3⟩
  by_cases e : i = j
  · subst e
    rw [List.getElem?_set_self (List.getElem?_eq_some_iff.1 hi).1] at hj
    injection hj with hj
    subst hj
    exact hx
  · rw [List.getElem?_set_ne e] at hj
    exact h1 j S hj
theorem Sat.shut (h : Sat w0 w Rs) {α : Type} {R : α → Asn} (x : α) (i : Nat) (hi : Rs[i]? = some (R x)) : Sat w0 w (Rs.set i (exA R)) := h.turn hi _ fun _ hF => ⟨x, hF⟩
/-- Two pieces at the head become one. -/
theorem Sat.join {A B : Asn} (h : Sat w0 w (A :: B :: Rs)) : Sat w0 w (SX.star A B :: Rs) := by
  obtain ⟨hb, F, h1, h2, h3⟩ := h
  refine ⟨hb, fun j b => match j with | 0 => F 0 b ∨ F 1 b | j + 1 => F (j + 2) b, fun j S hj => ?_, fun j j' b hj hj' => ?_, fun j b hj => ?_⟩
  · cases j with
    | zero => simp at hj; subst hj; exact ⟨F 0, F 1, fun _ => Iff.rfl, fun k h0 h1' => absurd (h2 0 1 k h0 h1') (by omega), h1 0 A rfl, h1 1 B rfl⟩
    | succ j => exact h1 (j + 2) S (by simpa using hj)
  · cases j <;> cases j'
    · rfl
    · rcases hj with h | h <;> exact absurd (h2 _ _ b h hj') (by omega)
    · rcases hj' with h | h <;> exact absurd (h2 _ _ b hj h) (by omega)
    · have := h2 _ _ b hj hj'; omega
  · cases j with
    | zero => rcases hj with h | h <;> exact h3 _ b h
    | succ j => exact h3 _ b hj
/-- And apart again. -/
theorem Sat.part {A B : Asn} (h : Sat w0 w (SX.star A B :: Rs)) : Sat w0 w (A :: B :: Rs) := by
  obtain ⟨hb, F, h1, h2, h3⟩ := h
  obtain ⟨G, H, g1, g2, g3, g4⟩ := h1 0 _ rfl
  refine ⟨hb, fun j b => match j with | 0 => G b | 1 => H b | j + 2 => F (j + 1) b, fun j S hj => ?_, fun j j' b hj hj' => ?_, fun j b hj => ?_⟩
  · match j with
    | 0 => simp at hj; subst hj; exact g3
    | 1 => simp at hj; subst hj; exact g4
    | j + 2 => exact h1 (j + 1) S (by simpa using hj)
  · match j, j' with
    | 0, 0 => rfl
    | 0, 1 => exact absurd hj' (g2 b hj)
    | 1, 0 => exact absurd hj (g2 b hj')
    | 1, 1 => rfl
    | 0, j + 2 => have := h2 0 (j + 1) b ((g1 b).2 (.inl hj)) hj'; omega
    | 1, j + 2 => have := h2 0 (j + 1) b ((g1 b).2 (.inr hj)) hj'; omega
    | j + 2, 0 => have := h2 (j + 1) 0 b hj ((g1 b).2 (.inl hj')); omega
    | j + 2, 1 => have := h2 (j + 1) 0 b hj ((g1 b).2 (.inr hj')); omega
    | i + 2, j + 2 => have := h2 (i + 1) (j + 1) b hj hj'; omega
  · match j with
    | 0 => exact h3 0 b ((g1 b).2 (.inl hj))
    | 1 => exact h3 0 b ((g1 b).2 (.inr hj))
    | j + 2 => exact h3 (j + 1) b hj
theorem Sat.fact_ (h : Sat w0 w Rs) {p : Prop} (i : Nat) (hi : Rs[i]? = some (fact p)) : p := by
  obtain ⟨F, h1, _⟩ := h.at_ hi
  exact h1.1
theorem Sat.more (h : Sat w0 w Rs) {p : Prop} (hp : p) : Sat w0 w (SX.fact p :: Rs) :=
  h.new _ rfl rfl rfl (Nat.le_refl _) (fun _ _ => rfl) ⟨fun _ => False, ⟨hp, fun _ h => h⟩, fun _ h => h.elim⟩

/-- A row that is not empty, opened: its block. -/
theorem Sat.openRow (h : Sat w0 w Rs) {v : Value} {T : TypeId} {sz : Nat} {xs : List Value} (i : Nat) (hi : Rs[i]? = some (SX.row v T sz xs)) (hx : xs ≠ []) :
    ∃ g n cap cur, v = .slice (some ⟨g, 0, none⟩) n cap ∧ xs.length = n * sz ∧ n ≤ cap ∧ cap ≤ maxLen ∧ (xs ++ cur).length = cap * sz ∧ Sat w0 w (Rs.set i (SX.blk g (xs ++ cur) T)) := by
  obtain ⟨n, h1, h2⟩ := h.row i hi
  rcases h2 with ⟨rfl, rfl⟩ | ⟨g, cap, cur, rfl, hb, hg, h3, h4, h5, h6⟩
  · exact absurd (List.eq_nil_of_length_eq_zero (by simpa using h1)) hx
  · have hcur : xs ++ cur.toList.drop (n * sz) = cur.toList := by rw [← h6]; exact List.take_append_drop _ _
    refine ⟨g, n, cap, cur.toList.drop (n * sz), rfl, h1, h3, h4, by rw [hcur]; simpa using h5, h.turn hi _ fun F hF => ⟨fun k => ?_, ?_⟩⟩
    · rw [hF.1 k]
      simp [Value.ownBlock, eq_comm]
    · rw [hcur]
      simpa using hg
/-- And shut again. -/
theorem Sat.shutRow (h : Sat w0 w Rs) {g n cap : Nat} {T : TypeId} {sz : Nat} {xs cur : List Value} (i : Nat) (hi : Rs[i]? = some (SX.blk g (xs ++ cur) T)) (hn : xs.length = n * sz) (hc : n ≤ cap) (hm : cap ≤ maxLen) (hl : (xs ++ cur).length = cap * sz) :
    Sat w0 w (Rs.set i (SX.row (.slice (some ⟨g, 0, none⟩) n cap) T sz xs)) := by
  refine h.turn hi _ fun F hF => ⟨fun k => ?_, n, hn, .inr ⟨g, cap, (xs ++ cur).toArray, rfl, Nat.zero_le _, hF.2, hc, hm, by simpa using hl, ?_⟩⟩
  · rw [hF.1 k]
    simp [Value.ownBlock, eq_comm]
  · rw [← hn]
    simp
end
end SX
end Go.Proofs.Ytmeejdeafmgdnaa
