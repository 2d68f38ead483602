/- What the claim FnExactLintProgram rests on, part 24 of 29; the last part proves it: for every input the law answers true, and its arguments read behind the call as before it. No condition. -/
import Derived.Sort.OwnSortedInts
import Derived.Test.YtpenhegoilccoaaQLintProgram5
import Derived.Test.YtpenhegoilccoaaQLintProgram17
import Derived.Test.YtpenhegoilccoaaQLintProgram20
set_option linter.unusedVariables false
namespace Go.Proofs.Ytpenhegoilccoaa.SX
open Go.RowKit Go.Sort
theorem sort_sat {w0 w : World} {Rs : List Asn} {s : Sl} {T : TypeId} {l : List Int} (hS : Sat w0 w (SX.row s.v T 1 (encI l) :: Rs)) (hl : l.length ≤ 1000000) :
    Calls Try.prog 161 #[s.v] w (Ret fun r w' => r = .tuple #[] ∧ Sat w0 w' (SX.row s.v T 1 (encI (l.mergeSort fun x y => decide (x ≤ y))) :: Rs)) := by
  obtain ⟨n, hx, hrow⟩ := hS.row 0 rfl
  rw [encI_length, Nat.mul_one] at hx
  subst hx
  rcases hrow with ⟨hv, hl0⟩ | ⟨g, cap, cur, hv, _, hg, hn, hcap, hsz, htk⟩
  · have h0 : l = [] := List.eq_nil_of_length_eq_zero hl0
    subst h0;have hc := Any.slices_Sort_int_none asc189 none 0 w;rw [hv];refine Calls.mono hc fun e w' h => ?_;obtain ⟨rfl, rfl⟩ := h;exact ⟨rfl, by rw [List.mergeSort_nil, ← hv]; exact hS⟩
  · rw [Nat.mul_one] at htk
    have hH := holds_of_blockI hg htk;have hc := Any.slices_Sort_int asc189 g 0 cap l w hH (Array.getElem?_eq_some_iff.1 hg).1 (by omega);rw [hv];refine Calls.mono hc fun e w' h => ?_;obtain ⟨rfl, q, os, rfl⟩ := h;refine ⟨rfl, ?_⟩;have hlen : (l.mergeSort fun x y => decide (x ≤ y)).length = l.length := List.length_mergeSort _;have hgr := grownBy_sortedI (w := w) (g := g) (n := q) (os := os) (l.mergeSort fun x y => decide (x ≤ y)).toArray;have hown := ownsRow_sortedI (base := 0) (n := q) (os := os) (ss := l) hlen (Nat.zero_le _) hg hn hcap hsz;rw [← hv];refine hS.upd (i := 0) rfl _ hgr.1 hgr.2 hgr.3 hgr.4 fun F hF => ⟨F, ⟨hF.1, l.length, by rw [hv]; exact hown⟩, fun _ hb => .inl hb, fun k hk hF' => hgr.5 k hk fun e => hF' ((hF.1 k).2 (by rw [hv]; simp only [Value.ownBlock, Option.map_some]; exact Eq.symm e))⟩
theorem compact_sat {w0 w : World} {Rs : List Asn} {s : Sl} {T : TypeId} {l : List Int} (hS : Sat w0 w (SX.row s.v T 1 (encI l) :: Rs)) (hl : l.length ≤ 1000000) :
    Calls Try.prog 162 #[s.v] w (Ret fun r w' => ∃ o : Sl, r = o.v ∧ Sat w0 w' (SX.row o.v T 1 (encI (Lib.compact l)) :: Rs)) := by
  obtain ⟨n, hx, hrow⟩ := hS.row 0 rfl
  rw [encI_length, Nat.mul_one] at hx
  subst hx
  rcases hrow with ⟨hv, hl0⟩ | ⟨g, cap, cur, hv, _, hg, hn, hcap, hsz, htk⟩
  · have h0 : l = [] := List.eq_nil_of_length_eq_zero hl0
    subst h0;have hc := Any.slices_Compact_int_empty asc20 none 0 w;rw [hv];refine Calls.mono hc fun e w' h => ?_;obtain ⟨rfl, rfl⟩ := h;exact ⟨s, hv.symm, hS⟩
  · rw [Nat.mul_one] at htk
    have hH := holds_of_blockI hg htk;have hc := Any.slices_Compact_int asc20 g 0 cap l w hH (by omega) hn;rw [hv];refine Calls.mono hc fun e w' h => ?_;obtain ⟨rfl, q, rfl⟩ := h;have hle := Lib.compact_length_le l;refine ⟨⟨some ⟨g, 0, none⟩, (Lib.compact l).length, cap⟩, rfl, ?_⟩
    generalize hd : (Lib.compact l ++ List.replicate (l.length - (Lib.compact l).length) 0) = d
    have hdl : d.length = l.length := by rw [← hd]; simp only [List.length_append, List.length_replicate]; omega
    have hgr := grownBy_sortedI (w := w) (g := g) (n := q) (os := #[]) d.toArray;have hhp := heap_sortedI (n := q) (os := #[]) d.toArray hg;rw [grow_empty] at hgr hhp;have htk2 := take_putCellsI cur d (by omega);refine hS.upd (i := 0) rfl _ hgr.1 hgr.2 hgr.3 hgr.4 fun F hF => ⟨F, ⟨fun k => (hF.1 k).trans (by rw [hv]; rfl), (Lib.compact l).length, by simp [encI], .inr ⟨g, cap, _, rfl, Nat.zero_le _, hhp, by omega, hcap, by simp [putCells, hsz], ?_⟩⟩, fun _ hb => .inl hb, fun k hk hF' => hgr.5 k hk fun e => hF' ((hF.1 k).2 (by rw [hv]; simp only [Value.ownBlock, Option.map_some]; exact Eq.symm e))⟩;have h1 := congrArg (List.take (Lib.compact l).length) htk2;rw [List.take_take, Nat.min_eq_left (by omega)] at h1;rw [Nat.mul_one, h1, ← hd, List.map_append, List.take_left' (by simp)]
    rfl
def asc (l : List Int) : List Int := Lib.compact (l.mergeSort fun x y => decide (x ≤ y))
theorem asc_le (l : List Int) : (asc l).length ≤ l.length := Nat.le_trans (Lib.compact_length_le _) (Nat.le_of_eq (List.length_mergeSort _))
def IncI (l : List Int) : Prop := l.Pairwise fun x y => x < y
theorem IncI.ext : ∀ {l k : List Int}, IncI l → IncI k → (∀ x, x ∈ l ↔ x ∈ k) → l = k := by
  intro l
  induction l with
  | nil =>
    intro k _ _ h;cases k with
    | nil => rfl
    | cons y k => exact absurd ((h y).2 (by simp)) (by simp)
  | cons x l ih =>
    intro k hl hk h;cases k with
    | nil => exact absurd ((h x).1 (by simp)) (by simp)
    | cons y k =>
      obtain ⟨l1, l2⟩ := List.pairwise_cons.1 hl;obtain ⟨k1, k2⟩ := List.pairwise_cons.1 hk
      have hxy : x = y := by
        rcases List.mem_cons.1 ((h x).1 (by simp)) with e | e
        · exact e
        · rcases List.mem_cons.1 ((h y).2 (by simp)) with e2 | e2
          · exact e2.symm
          · have := l1 y e2; have := k1 x e; omega
      subst hxy;refine congrArg (x :: ·) (ih l2 k2 fun z => ?_)
      constructor
      · intro hz
        rcases List.mem_cons.1 ((h z).1 (List.mem_cons_of_mem _ hz)) with e | e
        · subst e; have := l1 z hz; omega
        · exact e
      · intro hz
        rcases List.mem_cons.1 ((h z).2 (List.mem_cons_of_mem _ hz)) with e | e
        · subst e; have := k1 z hz; omega
        · exact e
theorem compact_inc {l : List Int} (h : l.Pairwise fun x y => x ≤ y) : IncI (Lib.compact l) ∧ ∀ x, x ∈ Lib.compact l ↔ x ∈ l := by
  have hle : ∀ i j : Nat, i ≤ j → j < l.length → l[i]! ≤ l[j]! := by
    intro i j hij hj;rw [getElem!_pos l i (by omega), getElem!_pos l j hj]
    rcases Nat.lt_or_ge i j with h1 | h1
    · exact List.pairwise_iff_getElem.1 h i j (by omega) hj h1
    · have : i = j := by omega
      subst this; exact Int.le_refl _
  have main : ∀ m, m ≤ l.length → IncI (Lib.compactUpTo l.toArray m) ∧ ∀ x, x ∈ Lib.compactUpTo l.toArray m ↔ ∃ j, j < m ∧ l[j]! = x := by
    intro m
    induction m with
    | zero => intro _; exact ⟨by simp [Lib.compactUpTo, IncI], fun x => by simp [Lib.compactUpTo]⟩
    | succ m ih =>
      intro hm;obtain ⟨h1, h2⟩ := ih (by omega);rw [Lib.compactUpTo_succ];have he : l.toArray[m]! = l[m]! := by simp
      by_cases hk : Lib.keeps l.toArray m = true
      · rw [if_pos hk, he]
        have hlt : ∀ x ∈ Lib.compactUpTo l.toArray m, x < l[m]! := by
          intro x hx;obtain ⟨j, hj, rfl⟩ := (h2 x).1 hx;have h3 : m ≠ 0 := by omega
          have h4 : l[m]! ≠ l[m - 1]! := by
            have := hk;simp only [Lib.keeps, h3, List.getElem!_toArray] at this
            simpa using this
          have h5 := hle j (m - 1) (by omega) (by omega);have h6 := hle (m - 1) m (by omega) (by omega)
          omega
        refine ⟨List.pairwise_append.2 ⟨h1, List.pairwise_singleton _ _, fun x hx y hy => by rw [List.mem_singleton.1 hy]; exact hlt x hx⟩, fun x => ?_⟩;rw [List.mem_append, h2, List.mem_singleton]
        constructor
        · rintro (⟨j, hj, e⟩ | e)
          · exact ⟨j, by omega, e⟩
          · exact ⟨m, by omega, e.symm⟩
        · rintro ⟨j, hj, e⟩
          by_cases e2 : j = m
          · subst e2; exact .inr e.symm
          · exact .inl ⟨j, by omega, e⟩
      · rw [if_neg hk, List.append_nil]
        refine ⟨h1, fun x => ?_⟩;rw [h2]
        have h3 : m ≠ 0 ∧ l[m]! = l[m - 1]! := by
          have := hk;simp only [Lib.keeps, List.getElem!_toArray] at this
          by_cases h0 : m = 0
          · subst h0; simp at this
          · refine ⟨h0, ?_⟩; simpa [h0] using this
        constructor
        · rintro ⟨j, hj, e⟩; exact ⟨j, by omega, e⟩
        · rintro ⟨j, hj, e⟩
          by_cases e2 : j = m
          · subst e2; exact ⟨j - 1, by omega, by rw [← h3.2]; exact e⟩
          · exact ⟨j, by omega, e⟩
  have := main l.length (Nat.le_refl _)
  refine ⟨this.1, fun x => (this.2 x).trans ?_⟩
  constructor
  · rintro ⟨j, hj, rfl⟩; rw [getElem!_pos l j hj]; exact List.getElem_mem hj
  · intro hx
    obtain ⟨j, hj, e⟩ := List.getElem_of_mem hx;exact ⟨j, hj, by rw [getElem!_pos l j hj]; exact e⟩
theorem asc_inc (l : List Int) : IncI (asc l) := by
 refine (compact_inc ?_).1
 have := List.pairwise_mergeSort (le := fun x y : Int => decide (x ≤ y)) (fun a b c h1 h2 => by simp only [decide_eq_true_eq] at *; omega) (fun a b => by simp only [Bool.or_eq_true, decide_eq_true_eq]; omega) l
 exact this.imp fun h => of_decide_eq_true h
theorem asc_mem (l : List Int) (x : Int) : x ∈ asc l ↔ x ∈ l := by
 have := List.pairwise_mergeSort (le := fun x y : Int => decide (x ≤ y)) (fun a b c h1 h2 => by simp only [decide_eq_true_eq] at *; omega) (fun a b => by simp only [Bool.or_eq_true, decide_eq_true_eq]; omega) l
 exact ((compact_inc (this.imp fun h => of_decide_eq_true h)).2 x).trans List.mem_mergeSort
def put1 : List Int → Int → List Int
 | [], x => [x]
 | y :: l, x => if y < x then y :: put1 l x else if y = x then y :: l else x :: y :: l
theorem put1_mem (x y : Int) : ∀ l : List Int, y ∈ put1 l x ↔ y ∈ l ∨ y = x
  | [] => by simp [put1]
  | z :: l => by
    unfold put1
    split
    · rw [List.mem_cons, put1_mem x y l, List.mem_cons]; exact or_assoc.symm
    · split
      · rename_i h; subst h; constructor
        · exact .inl
        · rintro (h | h)
          · exact h
          · rw [h]; exact List.mem_cons_self
      · simp only [List.mem_cons]; constructor
        · rintro (h | h)
          · exact .inr h
          · exact .inl h
        · rintro (h | h)
          · exact .inr h
          · exact .inl h
theorem put1_inc (x : Int) : ∀ l : List Int, IncI l → IncI (put1 l x)
  | [], _ => by simp [put1, IncI]
  | z :: l, h => by
    obtain ⟨h1, h2⟩ := List.pairwise_cons.1 h
    unfold put1
    split
    · rename_i hz
      refine List.pairwise_cons.2 ⟨fun y hy => ?_, put1_inc x l h2⟩
      rcases (put1_mem x y l).1 hy with hy | hy
      · exact h1 y hy
      · rw [hy]; exact hz
    · split
      · exact h
      · refine List.pairwise_cons.2 ⟨fun y hy => ?_, h⟩
        rcases List.mem_cons.1 hy with hy | hy
        · rw [hy]; omega
        · have := h1 y hy; omega
theorem put1_len (x : Int) : ∀ l : List Int, (put1 l x).length ≤ l.length + 1
 | [] => Nat.le_refl _
 | z :: l => by
  have := put1_len x l
  unfold put1
  split
  · simp only [List.length_cons]; omega
  · split <;> simp only [List.length_cons] <;> omega
theorem put1_at {x y : Int} : ∀ {L : List Int} {k : Nat}, (∀ j : Nat, j < k → ∃ y, L[j]? = some y ∧ y < x) → L[k]? = some y → y = x → put1 L x = L
 | [], k, _, hy, _ => by simp at hy
 | z :: L, 0, _, hy, e => by
  simp only [List.getElem?_cons_zero, Option.some.injEq] at hy
  subst hy; subst e
  simp [put1]
 | z :: L, k + 1, h, hy, e => by
  obtain ⟨z', hz, hl⟩ := h 0 (by omega)
  simp only [List.getElem?_cons_zero, Option.some.injEq] at hz
  subst hz
  unfold put1
  rw [if_pos hl, put1_at (k := k) (fun j hj => by simpa using h (j + 1) (by omega)) (by simpa using hy) e]
theorem put1_new {x : Int} : ∀ {L : List Int} {k : Nat}, k ≤ L.length → (∀ j : Nat, j < k → ∃ y, L[j]? = some y ∧ y < x) → (∀ y, L[k]? = some y → ¬ y < x ∧ ¬ y = x) → put1 L x = L.take k ++ [x] ++ L.drop k
  | [], k, hk, _, _ => by obtain rfl : k = 0 := by simpa using hk
                          rfl
  | z :: L, 0, _, _, h2 => by
    obtain ⟨h3, h4⟩ := h2 z rfl;unfold put1;rw [if_neg h3, if_neg h4]; rfl
  | z :: L, k + 1, hk, h, h2 => by
    obtain ⟨z', hz, hl⟩ := h 0 (by omega);simp only [List.getElem?_cons_zero, Option.some.injEq] at hz;subst hz;unfold put1;rw [if_pos hl, put1_new (k := k) (by simpa using hk) (fun j hj => by simpa using h (j + 1) (by omega)) (fun y hy => h2 y (by simpa using hy))]
    rfl
theorem put1_next {L : List Int} {x y : Int} {k : Nat} (h1 : ∀ j : Nat, j < k → ∃ y, L[j]? = some y ∧ y < x) (hy : L[k]? = some y) (h : y < x) : ∀ j : Nat, j < k + 1 → ∃ y, L[j]? = some y ∧ y < x := fun j hj => by
 by_cases e : j = k
 · subst e; exact ⟨y, hy, h⟩
 · exact h1 j (by omega)
def putL (o l : List Int) : List Int := l.foldl put1 o
theorem putL_inc : ∀ (l : List Int) {o : List Int}, IncI o → IncI (putL o l)
 | [], _, h => h
 | x :: l, o, h => putL_inc l (put1_inc x o h)
theorem putL_mem (y : Int) : ∀ (l o : List Int), y ∈ putL o l ↔ y ∈ o ∨ y ∈ l
 | [], o => by simp [putL]
 | x :: l, o => by show y ∈ putL (put1 o x) l ↔ _; rw [putL_mem y l, put1_mem, List.mem_cons, or_assoc]
theorem putL_asc (l : List Int) : putL [] l = asc l := IncI.ext (putL_inc l List.Pairwise.nil) (asc_inc l) fun x => by rw [putL_mem, asc_mem]; simp
theorem blkRow {w0 w : World} {Rs : List Asn} (h : Sat w0 w Rs) {b : Nat} {cs : List Value} {T : TypeId} (sz n i : Nat) (hi : Rs[i]? = some (SX.blk b cs T)) (hl : cs.length = n * sz) (hn : n ≤ 1000000) : Sat w0 w (Rs.set i (SX.row (.slice (some ⟨b, 0, none⟩) n n) T sz cs)) := by
 refine h.turn hi _ fun F hF => ⟨fun k => ?_, n, hl, .inr ⟨b, n, cs.toArray, rfl, Nat.zero_le _, hF.2, Nat.le_refl _, by simp only [maxLen]; omega, by simpa using hl, by simp [← hl]⟩⟩
 rw [hF.1 k]
 simp [Value.ownBlock, eq_comm]
end Go.Proofs.Ytpenhegoilccoaa.SX
