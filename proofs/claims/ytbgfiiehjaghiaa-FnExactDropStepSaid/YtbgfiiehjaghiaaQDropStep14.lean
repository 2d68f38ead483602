/- What the claim FnExactDropStep rests on, part 14 of 23; the last part proves it: for every input the law answers true, and its arguments read behind the call as before it. No condition. -/
import Derived.Lib.SliceRun
import Derived.KernelRfl
import Derived.WalkKit
import Derived.Test.YtbgfiiehjaghiaaQDropStep8
import Derived.Test.YtbgfiiehjaghiaaQDropStep9
import Derived.Test.YtbgfiiehjaghiaaQDropStep10
import Derived.Test.YtbgfiiehjaghiaaQDropStep11
import Derived.Test.YtbgfiiehjaghiaaQDropStep12
set_option linter.unusedSimpArgs false
set_option linter.unusedVariables false
set_option maxRecDepth 100000
set_option maxHeartbeats 8000000
namespace Go.Proofs.Ytbgfiiehjaghiaa.G
open Go.RowKit Go.Proofs.YtbgfiiehjaghiaaW.PrintWords Go.Proofs.YtbgfiiehjaghiaaW.PrintLast Go.Proofs.YtbgfiiehjaghiaaW.PrintMore
abbrev ST := S68
abbrev LT := S151
def tot {α : Type} : List (List α) → Nat
 | [] => 0
 | b :: l => b.length + tot l
theorem tot_append {α : Type} (l m : List (List α)) : tot (l ++ m) = tot l + tot m := by
 induction l with
 | nil => simp [tot]
 | cons b l ih => simp [tot, ih]; omega
theorem tot_mem {α : Type} {b : List α} {l : List (List α)} (h : b ∈ l) : b.length ≤ tot l := by
 induction l with
 | nil => cases h
 | cons c l ih =>
  rcases List.mem_cons.1 h with rfl | h
  · simp [tot]
  · have := ih h; simp [tot]; omega
theorem tot_map {α β : Type} (f : α → β) (l : List (List α)) : tot (l.map (·.map f)) = tot l := by
 induction l with
 | nil => rfl
 | cons b l ih => simp [tot, ih]
def szL (left : Int) : List (List LT) → Int
 | [] => left
 | b :: l => if left - (b.length : Int) < 0 then -1 else szL (left - (b.length : Int)) l
def szP (l : List (List LT)) (left : Int) : Int := if left - (l.length : Int) < 0 then -1 else szL (left - (l.length : Int)) l
theorem szL_ok (l : List (List LT)) : ∀ left, 0 ≤ left → 0 ≤ szL left l → (tot l : Int) + szL left l = left := by
  induction l with
  | nil => intro left h0 h; simp [tot, szL]
  | cons b l ih =>
    intro left h0 h;simp only [szL] at h ⊢
    by_cases hb : left - (b.length : Int) < 0
    · rw [if_pos hb] at h; omega
    · rw [if_neg hb] at h ⊢
      have := ih _ (by omega) h;simp only [tot]
      omega
theorem szP_ok (l : List (List LT)) (left : Int) (h : 0 ≤ szP l left) : (l.length : Int) + tot l + szP l left = left := by
  unfold szP at h ⊢
  by_cases hb : left - (l.length : Int) < 0
  · rw [if_pos hb] at h; omega
  · rw [if_neg hb] at h ⊢
    have := szL_ok l _ (by omega) h
    omega
theorem szL_le (l : List (List LT)) : ∀ left, 0 ≤ left → szL left l ≤ left ∧ -1 ≤ szL left l := by
 induction l with
 | nil => intro left h; simp [szL]; omega
 | cons b l ih =>
  intro left h
  simp only [szL]
  by_cases hb : left - (b.length : Int) < 0
  · rw [if_pos hb]; omega
  · rw [if_neg hb]; have := ih (left - (b.length : Int)) (by omega); omega
theorem szP_le (l : List (List LT)) (left : Int) (h : 0 ≤ left) : szP l left ≤ left ∧ -1 ≤ szP l left := by
 unfold szP
 by_cases hb : left - (l.length : Int) < 0
 · rw [if_pos hb]; omega
 · rw [if_neg hb]; have := szL_le l (left - (l.length : Int)) (by omega); omega
theorem szStepSS_l0 (l : List (List LT)) (hl : ∀ b ∈ l, b.length ≤ 9223372036854775807) (hn : l.length ≤ 1048576) : ∀ d i, i + d = l.length → ∀ left : Int, 0 ≤ left → left ≤ 1048576 → ∀ k, d < k → laws_szStepSS.l0 k l left (i : Int) = some (szL left (l.drop i)) := by
  intro d
  induction d with
  | zero =>
    intro i hi left h0 h1 k hk;obtain ⟨k, rfl⟩ : ∃ m, k = m + 1 := ⟨k - 1, by omega⟩;have : i = l.length := by omega
    subst this;simp only [laws_szStepSS.l0];rw [if_neg (by omega), List.drop_length]
    rfl
  | succ d ih =>
    intro i hi left h0 h1 k hk;obtain ⟨k, rfl⟩ : ∃ m, k = m + 1 := ⟨k - 1, by omega⟩;have hlt : i < l.length := by omega
    have hb := hl l[i] (List.getElem_mem _);have hrd : rd_L2 l (i : Int) = l[i] := by simp [rd_L2, List.getD, hlt]
    simp only [laws_szStepSS.l0];rw [if_pos (by omega), if_pos (by omega), hrd, List.drop_eq_getElem_cons hlt];simp only [szL, laws_szStepS.f];rw [w64 (x := left - _) (by omega) (by omega)]
    by_cases hc : left - ((l[i]).length : Int) < 0
    · rw [if_pos hc, if_pos hc]; simp
    · rw [if_neg hc, if_neg hc]
      simp only [Option.bind_some];rw [if_neg hc, w64 (by omega) (by omega), show ((i : Int) + 1) = ((i + 1 : Nat) : Int) from rfl];exact ih (i + 1) (by omega) _ (by omega) (by omega) k (by omega)
theorem szProgram_f (l : List (List LT)) (hl : ∀ b ∈ l, b.length ≤ 9223372036854775807) (hn : l.length ≤ 9223372036854775807) (left : Int) (h0 : 0 ≤ left) (h1 : left ≤ 1048576) (k : Nat) (hk : 1048576 < k) : laws_szProgram.f k l left = some (szP l left) := by
  have key : laws_szStepSS.f k l left = some (szP l left) := by
    unfold laws_szStepSS.f szP;rw [w64 (by omega) (by omega)]
    by_cases hc : left - (l.length : Int) < 0
    · rw [if_pos hc, if_pos hc]
    · rw [if_neg hc, if_neg hc]
      have := szStepSS_l0 l hl (by omega) l.length 0 (by omega) (left - (l.length : Int)) (by omega) (by omega) k (by omega)
      simpa using this
  unfold laws_szProgram.f
  rw [key]
  have := szP_le l left h0
  simp only [Option.bind_some]
  by_cases hc : szP l left < 0
  · rw [if_pos hc]; congr 1; omega
  · rw [if_neg hc]
theorem eqStepS_l0 (l : List ST) (hn : l.length ≤ 1048576) : ∀ d i, i + d = l.length → ∀ k, d < k → laws_eqStepS.l0 k l l (i : Int) = some true := by
 intro d
 induction d with
 | zero =>
  intro i hi k hk
  obtain ⟨k, rfl⟩ : ∃ m, k = m + 1 := ⟨k - 1, by omega⟩
  simp only [laws_eqStepS.l0]
  rw [if_neg (by omega)]
 | succ d ih =>
  intro i hi k hk
  obtain ⟨k, rfl⟩ : ∃ m, k = m + 1 := ⟨k - 1, by omega⟩
  simp only [laws_eqStepS.l0, laws_eqStep.f]
  rw [if_pos (by omega), if_pos (by omega), if_pos (by omega)]
  simp only [if_true, Option.bind_some]
  rw [w64 (by omega) (by omega), show ((i : Int) + 1) = ((i + 1 : Nat) : Int) from rfl]
  exact ih (i + 1) (by omega) k (by omega)
theorem eqStepS_f (l : List ST) (hn : l.length ≤ 1048576) (k : Nat) (hk : 1048576 < k) : laws_eqStepS.f k l l = some true := by
 unfold laws_eqStepS.f
 rw [if_pos rfl]
 exact eqStepS_l0 l hn l.length 0 (by omega) k (by omega)
theorem eqStepSS_l0 (l : List (List ST)) (hl : ∀ b ∈ l, b.length ≤ 1048576) (hn : l.length ≤ 1048576) : ∀ d i, i + d = l.length → ∀ k, 1048577 + d < k → laws_eqStepSS.l0 k l l (i : Int) = some true := by
 intro d
 induction d with
 | zero =>
  intro i hi k hk
  obtain ⟨k, rfl⟩ : ∃ m, k = m + 1 := ⟨k - 1, by omega⟩
  simp only [laws_eqStepSS.l0]
  rw [if_neg (by omega)]
 | succ d ih =>
  intro i hi k hk
  obtain ⟨k, rfl⟩ : ∃ m, k = m + 1 := ⟨k - 1, by omega⟩
  have hlt : i < l.length := by omega
  have hrd : rd_L4 l (i : Int) = l[i] := by simp [rd_L4, List.getD, hlt]
  simp only [laws_eqStepSS.l0]
  rw [if_pos (by omega), if_pos (by omega), if_pos (by omega), hrd, eqStepS_f _ (hl _ (List.getElem_mem _)) k (by omega)]
  simp only [if_true, Option.bind_some]
  rw [w64 (by omega) (by omega), show ((i : Int) + 1) = ((i + 1 : Nat) : Int) from rfl]
  exact ih (i + 1) (by omega) k (by omega)
theorem eqProgram_f (l : List (List ST)) (hl : ∀ b ∈ l, b.length ≤ 1048576) (hn : l.length ≤ 1048576) (k : Nat) (hk : 2097153 < k) : laws_eqProgram.f k l l = some true := by
 unfold laws_eqProgram.f laws_eqStepSS.f
 rw [if_pos rfl]
 have := eqStepSS_l0 l hl hn l.length 0 (by omega) k (by omega)
 simp only [Int.natCast_zero] at this
 rw [show (0 : Int) = ((0 : Nat) : Int) from rfl, eqStepSS_l0 l hl hn l.length 0 (by omega) k (by omega)]
 rfl
def mkS (a : Int) (n : Nat) : List ST := (List.range n).map fun (j : Nat) => ⟨a + 3 * (j : Int), a + 3 * (j : Int) + 1, a + 3 * (j : Int) + 2⟩
theorem mkS_length (a : Int) (n : Nat) : (mkS a n).length = n := by simp [mkS]
theorem mkS_succ (a : Int) (n : Nat) : mkS a (n + 1) = mkS a n ++ [⟨a + 3 * (n : Int), a + 3 * (n : Int) + 1, a + 3 * (n : Int) + 2⟩] := by simp [mkS, List.range_succ]
theorem set_mid {α : Type} (P : List α) (x y : α) (Q : List α) : (P ++ x :: Q).set P.length y = P ++ y :: Q := by simp
theorem rd_mid (P : List ST) (x : ST) (Q : List ST) : rd_T68 (P ++ x :: Q) (P.length : Int) = x := by simp [rd_T68, List.getD]
theorem markStepS_l0 (l : List ST) (a : Int) (h0 : 0 ≤ a) (hn : l.length ≤ 4194304) (ha : a ≤ 1073741824) : ∀ d i, i + d = l.length → ∀ k, d < k → laws_markStepS.l0 k (mkS a i ++ l.drop i) (a + 3 * (i : Int)) (i : Int) = some (a + 3 * (l.length : Int), mkS a l.length) := by
 intro d
 induction d with
 | zero =>
  intro i hi k hk
  obtain ⟨k, rfl⟩ : ∃ m, k = m + 1 := ⟨k - 1, by omega⟩
  have : i = l.length := by omega
  subst this
  simp only [laws_markStepS.l0]
  rw [if_neg (by simp [mkS_length]), List.drop_length, List.append_nil]
 | succ d ih =>
  intro i hi k hk
  obtain ⟨k, rfl⟩ : ∃ m, k = m + 1 := ⟨k - 1, by omega⟩
  have hlt : i < l.length := by omega
  simp only [laws_markStepS.l0]
  rw [if_pos (by simp [mkS_length]; omega), if_pos (by omega), List.drop_eq_getElem_cons hlt]
  simp only [Option.bind_some]
  have hi2 : (i : Int).toNat = (mkS a i).length := by rw [mkS_length]; omega
  have hi3 : (i : Int) = ((mkS a i).length : Int) := by rw [mkS_length]
  rw [hi2, set_mid, set_mid, set_mid]
  rw [w64 (x := a + 3 * (i : Int) + 1) (by omega) (by omega), w64 (x := a + 3 * (i : Int) + 1 + 1) (by omega) (by omega), w64 (x := a + 3 * (i : Int) + 1 + 1 + 1) (by omega) (by omega), w64 (x := (i : Int) + 1) (by omega) (by omega)]
  have key := ih (i + 1) (by omega) k (by omega)
  rw [mkS_succ] at key
  rw [hi3]
  simp only [rd_mid]
  rw [← hi3]
  rw [List.append_assoc, List.cons_append, List.nil_append] at key
  rw [show a + 3 * (i : Int) + 1 + 1 + 1 = a + 3 * ((i + 1 : Nat) : Int) by omega, show (i : Int) + 1 = ((i + 1 : Nat) : Int) from rfl, show a + 3 * (i : Int) + 1 + 1 = a + 3 * (i : Int) + 2 by omega]
  exact key
theorem markStepS_f (l : List ST) (a : Int) (h0 : 0 ≤ a) (hn : l.length ≤ 4194304) (ha : a ≤ 1073741824) (k : Nat) (hk : l.length < k) : laws_markStepS.f k l a = some (a + 3 * (l.length : Int), mkS a l.length) := by
 have := markStepS_l0 l a h0 hn ha l.length 0 (by omega) k (by omega)
 unfold laws_markStepS.f
 simpa [mkS] using this
theorem heldStepS_l0 (a : Int) (n : Nat) (h0 : 0 ≤ a) (hn : n ≤ 4194304) (ha : a ≤ 1073741824) : ∀ d i, i + d = n → ∀ k, d < k → laws_heldStepS.l0 k (mkS a n) (a + 3 * (i : Int)) (i : Int) = some (a + 3 * (n : Int)) := by
 intro d
 induction d with
 | zero =>
  intro i hi k hk
  obtain ⟨k, rfl⟩ : ∃ m, k = m + 1 := ⟨k - 1, by omega⟩
  have : i = n := by omega
  subst this
  simp only [laws_heldStepS.l0]
  rw [if_neg (by simp [mkS_length])]
 | succ d ih =>
  intro i hi k hk
  obtain ⟨k, rfl⟩ : ∃ m, k = m + 1 := ⟨k - 1, by omega⟩
  have hrd : rd_T68 (mkS a n) (i : Int) = ⟨a + 3 * (i : Int), a + 3 * (i : Int) + 1, a + 3 * (i : Int) + 2⟩ := by
   simp [rd_T68, mkS, List.getD, show i < n by omega]
  simp only [laws_heldStepS.l0, hrd]
  rw [w64 (x := a + 3 * (i : Int) + 1) (by omega) (by omega), w64 (x := a + 3 * (i : Int) + 1 + 1) (by omega) (by omega), w64 (x := a + 3 * (i : Int) + 1 + 1 + 1) (by omega) (by omega), w64 (x := (i : Int) + 1) (by omega) (by omega)]
  rw [if_pos (by rw [mkS_length]; omega), if_pos (by omega)]
  simp only [if_true]
  rw [if_pos (by omega), show a + 3 * (i : Int) + 1 + 1 + 1 = a + 3 * ((i + 1 : Nat) : Int) by omega, show (i : Int) + 1 = ((i + 1 : Nat) : Int) from rfl]
  exact ih (i + 1) (by omega) k (by omega)
theorem heldStepS_f (a : Int) (n : Nat) (h0 : 0 ≤ a) (hn : n ≤ 4194304) (ha : a ≤ 1073741824) (k : Nat) (hk : n < k) : laws_heldStepS.f k (mkS a n) a = some (a + 3 * (n : Int)) := by
 have := heldStepS_l0 a n h0 hn ha n 0 (by omega) k (by omega)
 unfold laws_heldStepS.f
 simpa using this
def mkSS (a : Int) : List (List ST) → List (List ST)
 | [] => []
 | b :: l => mkS a b.length :: mkSS (a + 3 * (b.length : Int)) l
theorem mkSS_length (a : Int) (l : List (List ST)) : (mkSS a l).length = l.length := by
 induction l generalizing a with
 | nil => rfl
 | cons b l ih => simp [mkSS, ih]
theorem mkSS_snoc (a : Int) (l : List (List ST)) (b : List ST) : mkSS a (l ++ [b]) = mkSS a l ++ [mkS (a + 3 * (tot l : Int)) b.length] := by
 induction l generalizing a with
 | nil => simp [mkSS, tot]
 | cons c l ih =>
  simp only [List.cons_append, mkSS, ih, tot]
  congr 4
  omega
theorem heldStepSS_l0 (l : List (List ST)) : ∀ (P : List (List ST)) (a : Int), 0 ≤ a → P.length + l.length ≤ 4194304 → a + 3 * (tot l : Int) ≤ 1073741824 → tot l ≤ 4194304 → ∀ k, 4194304 + l.length < k → laws_heldStepSS.l0 k (P ++ mkSS a l) a (P.length : Int) = some (a + 3 * (tot l : Int)) := by
 induction l with
 | nil =>
  intro P a h0 hn ha ht k hk
  obtain ⟨k, rfl⟩ : ∃ m, k = m + 1 := ⟨k - 1, by omega⟩
  simp only [laws_heldStepSS.l0, mkSS, List.append_nil, tot]
  rw [if_neg (by omega)]
  simp
 | cons b l ih =>
  intro P a h0 hn ha ht k hk
  obtain ⟨k, rfl⟩ : ∃ m, k = m + 1 := ⟨k - 1, by omega⟩
  simp only [tot, List.length_cons] at hn ha ht hk ⊢
  have hrd : rd_L4 (P ++ mkSS a (b :: l)) (P.length : Int) = mkS a b.length := by simp [rd_L4, mkSS, List.getD]
  simp only [laws_heldStepSS.l0, hrd]
  rw [if_pos (by simp [mkSS]; omega), if_pos (by omega), heldStepS_f a b.length h0 (by omega) (by omega) k (by omega)]
  simp only [Option.bind_some]
  rw [if_neg (by omega), w64 (by omega) (by omega)]
  have := ih (P ++ [mkS a b.length]) (a + 3 * (b.length : Int)) (by omega) (by simp; omega) (by omega) (by omega) k (by omega)
  rw [List.append_assoc] at this
  simp only [List.singleton_append, List.length_append, List.length_singleton, Int.natCast_add, Int.natCast_one] at this
  simp only [mkSS]
  rw [this]
  congr 1
  omega
theorem heldProgram_f (l : List (List ST)) (hn : l.length ≤ 4194304) (ht : tot l ≤ 4194304) (k : Nat) (hk : 8388608 < k) : laws_heldProgram.f k (mkSS 1 l) 1 = some (1 + 3 * (tot l : Int)) := by
 have := heldStepSS_l0 l [] 1 (by omega) (by simp; omega) (by omega) ht k (by omega)
 unfold laws_heldProgram.f laws_heldStepSS.f
 simp only [List.nil_append, List.length_nil, Int.natCast_zero] at this
 rw [this]
 simp only [Option.bind_some]
 rw [if_neg (by omega)]
end Go.Proofs.Ytbgfiiehjaghiaa.G
namespace Go.Proofs.Ytbgfiiehjaghiaa.G
open Go.RowKit Go.Proofs.Ytbgfiiehjaghiaa.SX Go.Proofs.YtbgfiiehjaghiaaW.PrintWords Go.Proofs.YtbgfiiehjaghiaaW.PrintLast Go.Proofs.YtbgfiiehjaghiaaW.PrintMore
theorem sl_list {α : Type} (us : List (Value × α)) (h : ∀ x ∈ us, ∃ z : Sl, x.1 = z.v) : ∃ vs : List Sl, us.map (·.1) = vs.map Sl.v := by
 induction us with
 | nil => exact ⟨[], rfl⟩
 | cons x us ih =>
  obtain ⟨vs, h1⟩ := ih fun y hy => h y (List.mem_cons_of_mem _ hy)
  obtain ⟨z, h2⟩ := h x List.mem_cons_self
  exact ⟨z :: vs, by rw [List.map_cons, List.map_cons, h1, h2]⟩
theorem map_set_same {α β : Type} (us : List (α × β)) (i : Nat) (x y : α × β) (hx : us[i]? = some x) (h : y.1 = x.1) : (us.set i y).map (·.1) = us.map (·.1) := by
  apply List.ext_getElem?
  intro j
  rw [List.map_set, List.getElem?_set]
  split
  · rename_i hj
    subst hj;have h3 : (us.map (·.1))[i]? = some x.1 := by rw [List.getElem?_map, hx]; rfl
    rw [h3, h];rw [if_pos (List.getElem?_eq_some_iff.1 h3).1]
  · rfl
theorem _root_.Go.Proofs.Ytbgfiiehjaghiaa.SX.Sat.kdTurn {w0 w : World} {Rs : List Asn} {α : Type} {d : Kd α} {e : Nat} {v : Value} {l : List α} (h : Sat w0 w (kdP w0.heap.size d e v l :: Rs)) :
    ∃ F : Nat → Prop, d.R e w w0.heap.size F v l ∧ ∀ (w' : World) (l' : List α), Below w0.heap.size w0 w' → Kept w w' F → d.R e w' w0.heap.size (fun k => F k ∨ w.heap.size ≤ k) v l' → Sat w0 w' (kdP w0.heap.size d e v l' :: Rs) := by
  obtain ⟨hb, F, h1, h2, h3⟩ := h
  obtain ⟨g1, g2⟩ := h1 0 _ rfl
  refine ⟨F 0, g2, fun w' l' hb' hk hR => ?_⟩
  refine ⟨hb', fun j b => match j with | 0 => F 0 b ∨ (w.heap.size ≤ b ∧ b < w'.heap.size) | j + 1 => F (j + 1) b, fun j S hj => ?_, fun i j b hi hj => ?_, fun j b hj => ?_⟩
  · match j with
    | 0 =>
      simp at hj
      subst hj;refine ⟨fun k hk2 => ?_, Kd.R_mono (Kd.R_bound hR) fun k hk2 => ?_⟩
      · rcases hk2 with h | h
        · have := g1 k h; have := hk.1; omega
        · exact h.2
      · rcases hk2.1 with h | h
        · exact .inl h
        · exact .inr ⟨h, hk2.2.2.1⟩
    | j + 1 =>
      refine S.loc w w' _ hk.1 (h1 (j + 1) S hj) fun b hF => hk.2 b (h3 _ b hF).2 fun h0 => ?_;have := h2 _ _ b hF h0
      omega
  · match i, j with
    | 0, 0 => rfl
    | 0, j + 1 =>
      rcases hi with h | h
      · exact h2 _ _ b h hj
      · have := (h3 _ b hj).2; omega
    | i + 1, 0 =>
      rcases hj with h | h
      · exact h2 _ _ b hi h
      · have := (h3 _ b hi).2; omega
    | i + 1, j + 1 => exact h2 _ _ b hi hj
  · have hs : w.heap.size ≤ w'.heap.size := hk.1
    have hs0 : w0.heap.size ≤ w.heap.size := hb.size
    match j with
    | 0 =>
      rcases hj with h | h
      · have := h3 _ b h; omega
      · omega
    | j + 1 => have := h3 _ b hj; omega
theorem markStepS_sat {w0 w : World} {Rs : List Asn} {s : Sl} {l : List ST} {a : Int} (hS : Sat w0 w (kdP w0.heap.size k68 68 s.v l :: Rs)) (h0 : 0 ≤ a) (hn : l.length ≤ 4194304) (ha : a ≤ 1073741824) :
  Calls Try.prog 104 #[.slice s.A s.n s.c, .int .i64 a] w (Ret fun r w' => r = .int .i64 (a + 3 * (l.length : Int)) ∧ Sat w0 w' (kdP w0.heap.size k68 68 s.v (mkS a l.length) :: Rs)) := by
 obtain ⟨F, hR, hT⟩ := hS.kdTurn
 refine (laws_markStepS.calls (l.length + 1) F s.v l a _ _ w0 w hS.below hR (markStepS_f l a h0 hn ha _ (by omega))).mono ?_
 rintro e w' ⟨rfl, h1, h2, h3⟩
 exact ⟨rfl, hT w' _ h2 h3 h1⟩
theorem code61 : Try.f61.body = some (Code.seq (Code.region 0 (jY Try.f61 0) false) (Code.seq (Code.seq (Code.region 1 (jY Try.f61 1) false) (Code.block 0 (Code.loop (Code.seq (Code.seq (Code.region 2 (jY Try.f61 2) false) (Code.cond (Operand.tmp 9) Code.skip (Code.exit 0))) (Code.seq (Code.block 1 (Code.region 4 (jY Try.f61 4) false)) (Code.region 3 (jY Try.f61 3) false)))))) (Code.seq (Code.region 5 (jY Try.f61 5) false) Code.ret))) := by kernel_rfl
theorem markStepSS_sat (w0 w : World) (Rs : List Asn) (s0 : Sl) (l : List (List S68)) (x0 : Int) (hS0 : Sat w0 w (kdS w0.heap.size k68 68 69 s0 l :: Rs)) (h0 : 0 ≤ x0) (hn : l.length ≤ 4194304) (ht : tot l ≤ 4194304) (ha1 : x0 ≤ 1048576) :
  Calls Try.prog 61 #[.slice s0.A s0.n s0.c, .int .i64 x0] w (Ret fun r w' => r = .int .i64 (x0 + 3 * (tot l : Int)) ∧ Sat w0 w' (kdS w0.heap.size k68 68 69 s0 (mkSS x0 l) :: Rs)) := by
 have hlen0 : s0.n = l.length := (hS0.rdS 0 rfl).len
 obtain ⟨us, hus, hso, hS⟩ := hS0.openS
 obtain ⟨vs, hfs⟩ : ∃ vs : List Sl, us.map (·.1) = vs.map Sl.v := sl_list us hso
 rw [show us.map Prod.fst = vs.map Sl.v from hfs] at hS
 refine enter (n := 19) Try.func61 code61 (by kernel_rfl) (Nat.le_of_ble_eq_true rfl) (fun a ha => ?_)
 replace ha : Has 19 [(0, .slice s0.A s0.n s0.c), (1, .int .i64 x0)] a := ha
 refine wp_seq ?_
 refine p_begin ?_
 refine p_val (v := .int .i64 0) ha (by decide) (jW ha (At.here (by kernel_rfl : ((jY Try.f61 0)[0]?).map spec = some ((Op.assign (Operand.const (Value.int IntKind.i64 0))), some 4, 3, none))) (by kernel_rfl) (fun _ => by kernel_rfl)) (fun a1 ha2 => ?_)
 refine jK ?_
 have ha3 := ha2.keeps [0, 1, 4] [(0, .slice s0.A s0.n s0.c), (1, .int .i64 x0), (4, .int .i64 0)] rfl
 clear ha2 ha a
 refine jQ (wp_seq (wp_seq ?_))
 refine p_begin ?_
 refine p_val (v := .int .i64 0) ha3 (by decide) (jW ha3 (At.here (by kernel_rfl : ((jY Try.f61 1)[0]?).map spec = some ((Op.assign (Operand.const (Value.int IntKind.i64 0))), some 5, 3, none))) (by kernel_rfl) (fun _ => by kernel_rfl)) (fun a4 ha5 => ?_)
 refine jK ?_
 have ha6 := ha5.keeps [0, 1, 4, 5] [(0, .slice s0.A s0.n s0.c), (1, .int .i64 x0), (4, .int .i64 0), (5, .int .i64 0)] rfl
 clear ha5 ha3 a1
 refine jQ (wp_block ?_)
 have e0 : x0 = x0 + 3 * (tot (l.take 0) : Int) := by simp [tot]
 have ha7 : Has 19 [(0, .slice s0.A s0.n s0.c), (1, .int .i64 (x0 + 3 * (tot (l.take 0) : Int))), (5, .int .i64 ((0 : Nat) : Int))] a4 := by have hh := ha6.keeps [0, 1, 5] _ rfl; rw [← e0]; exact hh
 refine wp_loop_ghost (fun n_ a_ w_ => ∃ (i : Nat) (us : List (Value × List S68)), n_ = l.length - i ∧ (i ≤ l.length) ∧ (us.map (·.2) = mkSS x0 (l.take i) ++ l.drop i) ∧ (us.map (·.1) = vs.map Sl.v) ∧ Has 19 [(0, .slice s0.A s0.n s0.c), (1, .int .i64 (x0 + 3 * (tot (l.take i) : Int))), (5, .int .i64 (i : Int))] a_ ∧ Sat w0 w_ ((SX.row (.slice s0.A s0.n s0.c) 69 1 (vs.map Sl.v)) :: (jV (us.map fun (x : Value × List S68) => kdP w0.heap.size k68 68 x.1 x.2)) :: Rs)) _ ⟨0, us, rfl, Nat.zero_le _, by simpa [mkSS] using hus, hfs, ha7.keeps [0, 1, 5] _ rfl, hS⟩ ?_
 rintro n_ a8 w9 ⟨i, us, rfl, hi, hus, hfs, ha10, hS11⟩
 refine wp_seq (wp_seq ?_)
 refine p_begin ?_
 refine p_val (v := .int .i64 (i : Int)) ha10 (by decide) (jW ha10 (At.here (by kernel_rfl : ((jY Try.f61 2)[0]?).map spec = some ((Op.move (Operand.tmp 5)), some 6, 3, none))) (by kernel_rfl) (fun _ => by kernel_rfl)) (fun a12 ha13 => ?_)
 refine p_val (v := .slice s0.A s0.n s0.c) ha13 (by decide) (jW ha13 (At.here (by kernel_rfl : ((jY Try.f61 2)[1]?).map spec = some ((Op.move (Operand.tmp 0)), some 7, 26, none))) (by kernel_rfl) (fun _ => by kernel_rfl)) (fun a14 ha15 => ?_)
 refine p_val (v := .int .i64 (s0.n : Int)) ha15 (by decide) (jW ha15 (At.here (by kernel_rfl : ((jY Try.f61 2)[2]?).map spec = some ((Op.call { callee := (Callee.builtin Builtin.len), args := #[(Operand.tmp 7)], argTypes := #[26] }), some 8, 3, none))) (by kernel_rfl) (fun _ => by kernel_rfl)) (fun a16 ha17 => ?_)
 refine p_val (v := .bool (decide ((i : Int) < (s0.n : Int)))) ha17 (by decide) (jW ha17 (At.here (by kernel_rfl : ((jY Try.f61 2)[3]?).map spec = some ((Op.binOp BinOp.lss 3 (Operand.tmp 6) (Operand.tmp 8) 3), some 9, 4, none))) (by kernel_rfl) (fun _ => by kernel_rfl)) (fun a18 ha19 => ?_)
 refine jK ?_
 have ha20 := ha19.keeps [0, 1, 5, 6, 7, 8, 9] [(0, .slice s0.A s0.n s0.c), (1, .int .i64 (x0 + 3 * (tot (l.take i) : Int))), (5, .int .i64 (i : Int)), (6, .int .i64 (i : Int)), (7, .slice s0.A s0.n s0.c), (8, .int .i64 (s0.n : Int)), (9, .bool (decide ((i : Int) < (s0.n : Int))))] rfl
 clear ha19 ha17 a16 ha15 a14 ha13 a12 ha10 a8
 refine jQ ?_
 by_cases c21 : (i : Int) < (s0.n : Int)
 ·
  have ha22 : Has 19 [(0, .slice s0.A s0.n s0.c), (1, .int .i64 (x0 + 3 * (tot (l.take i) : Int))), (5, .int .i64 (i : Int)), (6, .int .i64 (i : Int)), (7, .slice s0.A s0.n s0.c), (8, .int .i64 (s0.n : Int)), (9, .bool true)] a18 := by have hh : Has 19 [(0, .slice s0.A s0.n s0.c), (1, .int .i64 (x0 + 3 * (tot (l.take i) : Int))), (5, .int .i64 (i : Int)), (6, .int .i64 (i : Int)), (7, .slice s0.A s0.n s0.c), (8, .int .i64 (s0.n : Int)), (9, .bool (decide ((i : Int) < (s0.n : Int))))] a18 := ha20.keeps [0, 1, 5, 6, 7, 8, 9] _ rfl; simp only [decide_eq_true c21, Bool.not_true, Bool.not_false] at hh; exact hh
  have hlt : i < l.length := by have := c21; omega
  obtain ⟨b, hb⟩ : ∃ b, l[i]? = some b := ⟨_, List.getElem?_eq_getElem hlt⟩
  have htake : l.take (i + 1) = l.take i ++ [b] := by rw [List.take_add_one, hb]; rfl
  have hdrop : l.drop i = b :: l.drop (i + 1) := by rw [List.drop_eq_getElem_cons hlt, (List.getElem?_eq_some_iff.1 hb).2]
  have htl : tot (l.take i) + b.length ≤ tot l := by have h1 : tot l = tot (l.take i) + tot (l.drop i) := (by rw [← tot_append, List.take_append_drop]); rw [h1, hdrop]; simp only [tot]; omega
  have hb1 : b.length ≤ 4194304 := by omega
  have hmi : (mkSS x0 (l.take i)).length = i := by rw [mkSS_length, List.length_take]; omega
  have hlv : vs.length = l.length := by have h1 := congrArg List.length hus; have h2 := congrArg List.length hfs; simp [mkSS_length] at h1 h2; omega
  obtain ⟨x, hx, hxb⟩ : ∃ x, us[i]? = some x ∧ x.2 = b := by
   have h3 : (us.map (·.2))[i]? = some b := by rw [hus, List.getElem?_append_right (by omega), hmi, Nat.sub_self, hdrop]; rfl
   rw [List.getElem?_map] at h3;exact Option.map_eq_some_iff.1 h3
  obtain ⟨z, hz, hxz⟩ : ∃ z : Sl, (vs.map Sl.v)[i]? = some z.v ∧ x.1 = z.v := by
   have h3 : (us.map (·.1))[i]? = some x.1 := by rw [List.getElem?_map, hx]; rfl
   rw [hfs] at h3;obtain ⟨z, h4, h5⟩ := List.mem_map.1 (List.mem_of_getElem? h3);exact ⟨z, by rw [h3, h5], h5.symm⟩
  obtain rfl : x = (z.v, b) := Prod.ext hxz hxb
  have hus2 : (us.set i (z.v, mkS (x0 + 3 * (tot (l.take i) : Int)) b.length)).map (·.2) = mkSS x0 (l.take (i + 1)) ++ l.drop (i + 1) := by
   rw [List.map_set, hus, htake, mkSS_snoc, hdrop, List.append_assoc];have := set_mid (mkSS x0 (l.take i)) b (mkS (x0 + 3 * (tot (l.take i) : Int)) b.length) (l.drop (i + 1));rw [hmi] at this;exact this
  have hfs2 : (us.set i (z.v, mkS (x0 + 3 * (tot (l.take i) : Int)) b.length)).map (·.1) = vs.map Sl.v := (map_set_same us i _ (z.v, mkS (x0 + 3 * (tot (l.take i) : Int)) b.length) hx rfl).trans hfs
  refine jH ha22 rfl rfl ?_
  refine wp_skip (jQ (wp_seq (wp_block ?_)))
  refine p_begin ?_
  refine p_val (v := .slice s0.A s0.n s0.c) ha22 (by decide) (jW ha22 (At.here (by kernel_rfl : ((jY Try.f61 4)[0]?).map spec = some ((Op.move (Operand.tmp 0)), some 12, 26, none))) (by kernel_rfl) (fun _ => by kernel_rfl)) (fun a23 ha24 => ?_)
  refine p_val (v := .int .i64 (i : Int)) ha24 (by decide) (jW ha24 (At.here (by kernel_rfl : ((jY Try.f61 4)[1]?).map spec = some ((Op.move (Operand.tmp 5)), some 13, 3, none))) (by kernel_rfl) (fun _ => by kernel_rfl)) (fun a25 ha26 => ?_)
  refine p_val (v := .pointer (some ⟨bk s0, of_ s0 + i * 1, none⟩)) ha26 (by decide) (qW (s := s0) (el := 69) (sz := 1) (j := i) ha26 (At.here (by kernel_rfl : ((jY Try.f61 4)[2]?).map spec = some ((Op.indexAddr 26 (Operand.tmp 12) (Operand.tmp 13)), some 14, 0, none))) rfl rfl (by kernel_rfl) (by kernel_rfl) (((hS11).rdV (T := 69) (s := s0) 0 rfl).cells i (by rw [List.length_map, hlv]; exact hlt)).1 rfl (by rw [hlen0]; exact hlt)) (fun a27 ha28 => ?_)
  refine p_val (v := .slice z.A z.n z.c) ha28 (by decide) (xX (v := .slice z.A z.n z.c) (p := ⟨bk s0, of_ s0 + i * 1, none⟩) ha28 (At.here (by kernel_rfl : ((jY Try.f61 4)[3]?).map spec = some ((Op.load 69 (Operand.tmp 14)), some 15, 69, none))) rfl (by kernel_rfl) (fun w' hw => by rw [hw, Nat.mul_one]; exact (((hS11).rdV (T := 69) (s := s0) 0 rfl).cells i (by rw [List.length_map, hlv]; exact hlt)).2.trans hz)) (fun a29 ha30 => ?_)
  refine p_val (v := .int .i64 (x0 + 3 * (tot (l.take i) : Int))) ha30 (by decide) (jW ha30 (At.here (by kernel_rfl : ((jY Try.f61 4)[4]?).map spec = some ((Op.move (Operand.tmp 1)), some 16, 3, none))) (by kernel_rfl) (fun _ => by kernel_rfl)) (fun a31 ha32 => ?_)
  have hS37 : Sat w0 w9 ((kdP w0.heap.size k68 68 z.v b) :: (jV ((us.eraseIdx i).map fun (x : Value × List S68) => kdP w0.heap.size k68 68 x.1 x.2)) :: (SX.row (.slice s0.A s0.n s0.c) 69 1 (vs.map Sl.v)) :: Rs) := Sat.takeAt (g := fun (x : Value × List S68) => kdP w0.heap.size k68 68 x.1 x.2) hx (hS11.pickR (l := [SX.row (.slice s0.A s0.n s0.c) 69 1 (vs.map Sl.v), jV (us.map fun (x : Value × List S68) => kdP w0.heap.size k68 68 x.1 x.2)]) [1, 0] (by decide) [jV (us.map fun (x : Value × List S68) => kdP w0.heap.size k68 68 x.1 x.2), SX.row (.slice s0.A s0.n s0.c) 69 1 (vs.map Sl.v)] rfl)
  refine jU (o_ret (Post := fun r w' => r = .int .i64 (x0 + 3 * (tot (l.take i) : Int) + 3 * (b.length : Int)) ∧ Sat w0 w' ((kdP w0.heap.size k68 68 z.v (mkS (x0 + 3 * (tot (l.take i) : Int)) b.length)) :: (jV ((us.eraseIdx i).map fun (x : Value × List S68) => kdP w0.heap.size k68 68 x.1 x.2)) :: (SX.row (.slice s0.A s0.n s0.c) 69 1 (vs.map Sl.v)) :: Rs)) ha32 (by decide) (At.here (by kernel_rfl : ((jY Try.f61 4)[5]?).map spec = some ((Op.call { callee := (Callee.value (Operand.func 104)), args := #[(Operand.tmp 15), (Operand.tmp 16)], argTypes := #[69, 3] }), some 17, 3, none))) rfl Try.func104 (by kernel_rfl) (markStepS_sat hS37 (by omega) hb1 (by omega)) (fun v38 w35 a33 hp39 ha34 => ?_))
  obtain ⟨rfl, hS36⟩ := hp39
  have ha40 : Has 19 [(0, .slice s0.A s0.n s0.c), (1, .int .i64 (x0 + 3 * (tot (l.take i) : Int))), (5, .int .i64 (i : Int)), (6, .int .i64 (i : Int)), (7, .slice s0.A s0.n s0.c), (8, .int .i64 (s0.n : Int)), (9, .bool true), (12, .slice s0.A s0.n s0.c), (13, .int .i64 (i : Int)), (14, .pointer (some ⟨bk s0, of_ s0 + i * 1, none⟩)), (15, .slice z.A z.n z.c), (16, .int .i64 (x0 + 3 * (tot (l.take i) : Int))), (17, .int .i64 (x0 + 3 * (tot (l.take i) : Int) + 3 * (b.length : Int)))] a33 := ha34.keeps [0, 1, 5, 6, 7, 8, 9, 12, 13, 14, 15, 16, 17] _ rfl
  refine p_val (v := .int .i64 (x0 + 3 * (tot (l.take i) : Int) + 3 * (b.length : Int))) ha40 (by decide) (jW ha40 (At.here (by kernel_rfl : ((jY Try.f61 4)[6]?).map spec = some ((Op.assign (Operand.tmp 17)), some 1, 3, none))) (by kernel_rfl) (fun _ => by kernel_rfl)) (fun a41 ha42 => ?_)
  refine jK ?_
  have ha43 := ha42.keeps [0, 5, 6, 7, 8, 9, 12, 13, 14, 15, 16, 17, 1] [(0, .slice s0.A s0.n s0.c), (5, .int .i64 (i : Int)), (6, .int .i64 (i : Int)), (7, .slice s0.A s0.n s0.c), (8, .int .i64 (s0.n : Int)), (9, .bool true), (12, .slice s0.A s0.n s0.c), (13, .int .i64 (i : Int)), (14, .pointer (some ⟨bk s0, of_ s0 + i * 1, none⟩)), (15, .slice z.A z.n z.c), (16, .int .i64 (x0 + 3 * (tot (l.take i) : Int))), (17, .int .i64 (x0 + 3 * (tot (l.take i) : Int) + 3 * (b.length : Int))), (1, .int .i64 (x0 + 3 * (tot (l.take i) : Int) + 3 * (b.length : Int)))] rfl
  clear ha42 ha40 a33 ha34 hS37 ha32 a31 hS11 ha30 a29 ha28 a27 ha26 a25 ha24 a23 ha22 a18 ha20
  refine in_n (jQ ?_)
  refine p_begin ?_
  refine p_val (v := .int .i64 (i : Int)) ha43 (by decide) (jW ha43 (At.here (by kernel_rfl : ((jY Try.f61 3)[0]?).map spec = some ((Op.move (Operand.tmp 5)), some 10, 3, none))) (by kernel_rfl) (fun _ => by kernel_rfl)) (fun a44 ha45 => ?_)
  refine p_val (v := .int .i64 ((i : Int) + 1)) ha45 (by decide) ((jW (v := .int .i64 (IntKind.i64.wrap ((i : Int) + 1))) ha45 (At.here (by kernel_rfl : ((jY Try.f61 3)[1]?).map spec = some ((Op.binOp BinOp.add 3 (Operand.tmp 10) (Operand.const (Value.int IntKind.i64 1)) 3), some 11, 3, none))) (by kernel_rfl) (fun _ => by kernel_rfl)).as (by rw [wrap_i64 (by omega) (by omega)])) (fun a46 ha47 => ?_)
  refine p_val (v := .int .i64 ((i : Int) + 1)) ha47 (by decide) (jW ha47 (At.here (by kernel_rfl : ((jY Try.f61 3)[2]?).map spec = some ((Op.assign (Operand.tmp 11)), some 5, 3, none))) (by kernel_rfl) (fun _ => by kernel_rfl)) (fun a48 ha49 => ?_)
  refine jK ?_
  have ha50 := ha49.keeps [0, 6, 7, 8, 9, 12, 13, 14, 15, 16, 17, 1, 10, 11, 5] [(0, .slice s0.A s0.n s0.c), (6, .int .i64 (i : Int)), (7, .slice s0.A s0.n s0.c), (8, .int .i64 (s0.n : Int)), (9, .bool true), (12, .slice s0.A s0.n s0.c), (13, .int .i64 (i : Int)), (14, .pointer (some ⟨bk s0, of_ s0 + i * 1, none⟩)), (15, .slice z.A z.n z.c), (16, .int .i64 (x0 + 3 * (tot (l.take i) : Int))), (17, .int .i64 (x0 + 3 * (tot (l.take i) : Int) + 3 * (b.length : Int))), (1, .int .i64 (x0 + 3 * (tot (l.take i) : Int) + 3 * (b.length : Int))), (10, .int .i64 (i : Int)), (11, .int .i64 ((i : Int) + 1)), (5, .int .i64 ((i : Int) + 1))] rfl
  clear ha49 ha47 a46 ha45 a44 ha43 a41
  refine jQ ?_
  have hS51 : Sat w0 w35 ((kdP w0.heap.size k68 68 z.v (mkS (x0 + 3 * (tot (l.take i) : Int)) b.length)) :: (jV ((us.eraseIdx i).map fun (x : Value × List S68) => kdP w0.heap.size k68 68 x.1 x.2)) :: (SX.row (.slice s0.A s0.n s0.c) 69 1 (vs.map Sl.v)) :: Rs) := hS36.pickR (l := [kdP w0.heap.size k68 68 z.v (mkS (x0 + 3 * (tot (l.take i) : Int)) b.length), jV ((us.eraseIdx i).map fun (x : Value × List S68) => kdP w0.heap.size k68 68 x.1 x.2), SX.row (.slice s0.A s0.n s0.c) 69 1 (vs.map Sl.v)]) [0, 1, 2] (by decide) [kdP w0.heap.size k68 68 z.v (mkS (x0 + 3 * (tot (l.take i) : Int)) b.length), jV ((us.eraseIdx i).map fun (x : Value × List S68) => kdP w0.heap.size k68 68 x.1 x.2), SX.row (.slice s0.A s0.n s0.c) 69 1 (vs.map Sl.v)] rfl
  have hS52 : Sat w0 w35 ((jV ((us.set i (z.v, mkS (x0 + 3 * (tot (l.take i) : Int)) b.length)).map fun (x : Value × List S68) => kdP w0.heap.size k68 68 x.1 x.2)) :: (SX.row (.slice s0.A s0.n s0.c) 69 1 (vs.map Sl.v)) :: Rs) := Sat.putAt (g := fun (x : Value × List S68) => kdP w0.heap.size k68 68 x.1 x.2) (y := (z.v, mkS (x0 + 3 * (tot (l.take i) : Int)) b.length)) hx hS51
  have hS53 : Sat w0 w35 ((SX.row (.slice s0.A s0.n s0.c) 69 1 (vs.map Sl.v)) :: (jV ((us.set i (z.v, mkS (x0 + 3 * (tot (l.take i) : Int)) b.length)).map fun (x : Value × List S68) => kdP w0.heap.size k68 68 x.1 x.2)) :: Rs) := hS52.pickR (l := [jV ((us.set i (z.v, mkS (x0 + 3 * (tot (l.take i) : Int)) b.length)).map fun (x : Value × List S68) => kdP w0.heap.size k68 68 x.1 x.2), SX.row (.slice s0.A s0.n s0.c) 69 1 (vs.map Sl.v)]) [1, 0] (by decide) [SX.row (.slice s0.A s0.n s0.c) 69 1 (vs.map Sl.v), jV ((us.set i (z.v, mkS (x0 + 3 * (tot (l.take i) : Int)) b.length)).map fun (x : Value × List S68) => kdP w0.heap.size k68 68 x.1 x.2)] rfl
  have e1 : x0 + 3 * (tot (l.take i) : Int) + 3 * (b.length : Int) = x0 + 3 * (tot (l.take (i + 1)) : Int) := by rw [htake, tot_append]; simp only [tot]; omega
  have ha54 : Has 19 [(0, .slice s0.A s0.n s0.c), (1, .int .i64 (x0 + 3 * (tot (l.take (i + 1)) : Int))), (5, .int .i64 ((i + 1 : Nat) : Int))] a48 := by have hh := ha50.keeps [0, 1, 5] _ rfl; rw [← e1]; exact hh
  exact ⟨_, by omega, i + 1, (us.set i (z.v, mkS (x0 + 3 * (tot (l.take i) : Int)) b.length)), rfl, by omega, hus2, hfs2, ha54.keeps [0, 1, 5] _ rfl, hS53⟩
 have ha55 : Has 19 [(0, .slice s0.A s0.n s0.c), (1, .int .i64 (x0 + 3 * (tot (l.take i) : Int))), (5, .int .i64 (i : Int)), (6, .int .i64 (i : Int)), (7, .slice s0.A s0.n s0.c), (8, .int .i64 (s0.n : Int)), (9, .bool false)] a18 := by have hh : Has 19 [(0, .slice s0.A s0.n s0.c), (1, .int .i64 (x0 + 3 * (tot (l.take i) : Int))), (5, .int .i64 (i : Int)), (6, .int .i64 (i : Int)), (7, .slice s0.A s0.n s0.c), (8, .int .i64 (s0.n : Int)), (9, .bool (decide ((i : Int) < (s0.n : Int))))] a18 := ha20.keeps [0, 1, 5, 6, 7, 8, 9] _ rfl; simp only [decide_eq_false c21, Bool.not_true, Bool.not_false] at hh; exact hh
 have hend : i = l.length := by have := c21; omega
 refine jG ha55 rfl rfl ?_
 refine wp_exit (qU (qU (in_x (jQ (wp_seq ?_)))))
 refine p_begin ?_
 refine p_val (v := .int .i64 (x0 + 3 * (tot (l.take i) : Int))) ha55 (by decide) (jW ha55 (At.here (by kernel_rfl : ((jY Try.f61 5)[0]?).map spec = some ((Op.move (Operand.tmp 1)), some 18, 3, none))) (by kernel_rfl) (fun _ => by kernel_rfl)) (fun a56 ha57 => ?_)
 refine p_val (v := .int .i64 (x0 + 3 * (tot (l.take i) : Int))) ha57 (by decide) (jW ha57 (At.here (by kernel_rfl : ((jY Try.f61 5)[1]?).map spec = some ((Op.assign (Operand.tmp 18)), some 4, 3, none))) (by kernel_rfl) (fun _ => by kernel_rfl)) (fun a58 ha59 => ?_)
 refine jK ?_
 have ha60 := ha59.keeps [4] [(4, .int .i64 (x0 + 3 * (tot (l.take i) : Int)))] rfl
 clear ha59 ha57 a56 ha55 a18 ha20
 refine jQ (wp_ret ?_)
 refine end_tmp (t := 4) ha60 (by kernel_rfl) rfl ?_
 rw [hend, List.take_length, List.drop_length, List.append_nil] at hus
 refine ⟨by rw [hend, List.take_length], Sat.shutS us hus (fun x hx => ?_) (by rw [hfs]; exact hS11)⟩
 have := List.mem_map_of_mem (f := Prod.fst) hx
 rw [hfs] at this
 obtain ⟨z, _, hz⟩ := List.mem_map.1 this
 exact ⟨z, hz.symm⟩
abbrev RdP (w : World) (s : Sl) (l : List (List ST)) : Prop := RdS k68 68 w s l
abbrev RdA (w : World) (s : Sl) (l : List (List LT)) : Prop := RdS k151 151 w s l
abbrev prg (B : Nat) (s : Sl) (l : List (List ST)) : Asn := kdS B k68 68 69 s l
structure Fits {α : Type} (l : List (List α)) : Prop where
 len : l.length ≤ 1048576
 tot : tot l ≤ 1048576
theorem Fits.each {α : Type} {l : List (List α)} (h : Fits l) : ∀ b ∈ l, b.length ≤ 1048576 := fun b hb => Nat.le_trans (tot_mem hb) h.tot
def toP (l : List (List LT)) : List (List ST) := l.map (·.map toS)
theorem toP_fits {l : List (List LT)} (h : Fits l) : Fits (toP l) := ⟨by rw [toP, List.length_map]; exact h.len, by rw [toP, tot_map]; exact h.tot⟩
theorem kdS_lower {α : Type} {B B' : Nat} {d : Kd α} {e e' : Nat} {s : Sl} {l : List (List α)} (hB : B' ≤ B) (w : World) (F : Nat → Prop) (h : (kdS B d e e' s l).says w F) : (kdS B' d e e' s l).says w F := by
 obtain ⟨us, G, g1, g2, g3⟩ := h
 refine ⟨us, G, g1, g2, fun i R hi => ?_⟩
 match i with
 | 0 => exact g3 0 R hi
 | 1 =>
  simp at hi
  subst hi
  obtain ⟨H, h1, h2, h3⟩ := g3 1 _ rfl
  refine ⟨H, by simpa using h1, by simpa using h2, fun j R hj => ?_⟩
  rw [List.getElem?_map] at hj
  obtain ⟨x, hx, rfl⟩ := Option.map_eq_some_iff.1 hj
  obtain ⟨q1, q2⟩ := h3 j (kdP B d e x.1 x.2) (by rw [List.getElem?_map, hx]; rfl)
  exact ⟨q1, Kd.R_lower q2 hB⟩
 | n + 2 => simp at hi
section
variable {w0 w : World} {Rs : List Asn}
theorem toStepSS_sat {s0 : Sl} {l0 : List (List LT)} (hS : Sat w0 w Rs) (hr : RdA w s0 l0) (hf : Fits l0) :
  Calls Try.prog 57 #[.slice s0.A s0.n s0.c] w (Ret fun r w' => ∃ s : Sl, r = s.v ∧ Sat w0 w' (prg w0.heap.size s (toP l0) :: Rs)) := by
 refine (toss_sat w s0 l0 hr.len hr.le hr.rd hf.len hf.each).mono ?_
 intro e w' h
 cases e with
 | returned v =>
  obtain ⟨s, us, rfl, h1, h2, h3⟩ := h
  refine ⟨s, rfl, ?_⟩
  have h4 : Sat w w' (prg w.heap.size s (toP l0) :: []) := Sat.shutS us h1 h2 h3
  have h5 : Sat w0 w' (prg w.heap.size s (toP l0) :: Rs) := hS.comp h4
  exact h5.turn (i := 0) rfl (prg w0.heap.size s (toP l0)) (kdS_lower hS.below.size w')
 | _ => exact h.elim
theorem szProgram_sat {s0 : Sl} {l0 : List (List LT)} {left : Int} (hS : Sat w0 w Rs) (hr : RdA w s0 l0) (h0 : 0 ≤ left) (h1 : left ≤ 1048576) :
  Calls Try.prog 15 #[.agg #[.slice s0.A s0.n s0.c], .int .i64 left] w (Ret fun r w' => r = .int .i64 (szP l0 left) ∧ Sat w0 w' Rs) := by
 have hb : ∀ b ∈ l0, b.length ≤ 9223372036854775807 := by
  intro b hb
  obtain ⟨j, hj⟩ := List.getElem?_of_mem hb
  obtain ⟨_, A', c', _, _, hC⟩ := rows_cells hr.rd j b hj
  exact hC.2.1
 have := laws_szProgram.calls 1048577 s0.A s0.c l0 left _ w hr.rd hr.le (szProgram_f l0 hb hr.rd.2.1 left h0 h1 _ (by omega))
 rw [← hr.len] at this
 refine this.mono ?_
 rintro e w' ⟨rfl, hb⟩
 exact ⟨rfl, hS.comp (Ps := []) ⟨hb, fun _ _ => False, fun i R h => by simp at h, fun _ _ _ h => h.elim, fun _ _ h => h.elim⟩⟩
theorem Sat.skip {w' : World} (hS : Sat w0 w Rs) (hb : Below w.heap.size w w') : Sat w0 w' Rs := hS.comp (Ps := []) ⟨hb, fun _ _ => False, fun i R h => by simp at h, fun _ _ _ h => h.elim, fun _ _ h => h.elim⟩
theorem eqProgram_sat {s t : Sl} {l : List (List ST)} (hS : Sat w0 w Rs) (hr : RdP w s l) (ht : RdP w t l) (hf : Fits l) :
  Calls Try.prog 19 #[.agg #[.slice s.A s.n s.c], .agg #[.slice t.A t.n t.c]] w (Ret fun r w' => r = .bool true ∧ Sat w0 w' Rs) := by
 have := laws_eqProgram.calls 2097154 s.A s.c l t.A t.c l true w hr.rd hr.le ht.rd ht.le (eqProgram_f l hf.each hf.len _ (by omega))
 rw [← hr.len] at this
 rw [show (Value.slice t.A s.n t.c) = .slice t.A t.n t.c by rw [hr.len, ht.len]] at this
 refine this.mono ?_
 rintro e w' ⟨rfl, hb⟩
 exact ⟨rfl, Sat.skip hS hb⟩
theorem heldProgram_sat {s : Sl} {l : List (List ST)} (hS : Sat w0 w Rs) (hr : RdP w s (mkSS 1 l)) (hf : Fits l) :
  Calls Try.prog 21 #[.agg #[.slice s.A s.n s.c], .int .i64 1] w (Ret fun r w' => r = .int .i64 (1 + 3 * (tot l : Int)) ∧ Sat w0 w' Rs) := by
 have := laws_heldProgram.calls 8388609 s.A s.c (mkSS 1 l) 1 _ w hr.rd hr.le (heldProgram_f l (by have := hf.len; omega) (by have := hf.tot; omega) _ (by omega))
 rw [← hr.len] at this
 refine this.mono ?_
 rintro e w' ⟨rfl, hb⟩
 exact ⟨rfl, Sat.skip hS hb⟩
end
theorem code17 : Try.f17.body = some (Code.seq (Code.region 0 (jY Try.f17 0) false) (Code.seq (Code.region 1 (jY Try.f17 1) false) (Code.seq (Code.region 2 (jY Try.f17 2) false) (Code.seq (Code.region 3 (jY Try.f17 3) false) Code.ret)))) := by kernel_rfl
theorem toProgram_sat0 {w0 : World} {s0 : Sl} {l0 : List (List LT)} (hr : RdA w0 s0 l0) (hf : Fits l0) :
  Calls Try.prog 17 #[.agg #[.slice s0.A s0.n s0.c]] w0 (Ret fun r w' => ∃ s : Sl, r = .agg #[s.v] ∧ Sat w0 w' [prg w0.heap.size s (toP l0)]) := by
 have Rs : List Asn := []
 have hS : Sat w0 w0 [] := Sat.start w0
 refine enter (n := 9) Try.func17 code17 (by kernel_rfl) (Nat.le_of_ble_eq_true rfl) (fun a ha => ?_)
 replace ha : Has 9 [(0, .agg #[.slice s0.A s0.n s0.c])] a := ha
 refine wp_seq ?_
 refine p_begin ?_
 refine jU (o_new (cs := [.slice s0.A s0.n s0.c]) (T := 24) (fun b => .pointer (some ⟨b, 0, none⟩)) ha (by decide) (At.here (by kernel_rfl : ((jY Try.f17 0)[0]?).map spec = some ((Op.box 24 (Operand.tmp 0)), some 1, 0, none))) (by kernel_rfl) hS (fun _ => by kernel_rfl) (fun b5 w3 a1 hb6 (hS4 : Sat w0 w3 ((SX.blk b5 [.slice s0.A s0.n s0.c] 24) :: [])) ha2 => ?_))
 refine jU (o_new (cs := [.slice none 0 0]) (T := 28) (fun b => .pointer (some ⟨b, 0, none⟩)) ha2 (by decide) (At.here (by kernel_rfl : ((jY Try.f17 0)[1]?).map spec = some ((Op.alloc 28), some 2, 0, none))) (by kernel_rfl) hS4 (fun _ => by kernel_rfl) (fun b11 w9 a7 hb12 (hS10 : Sat w0 w9 ((SX.blk b11 [.slice none 0 0] 28) :: (SX.blk b5 [.slice s0.A s0.n s0.c] 24) :: [])) ha8 => ?_))
 refine jK ?_
 have ha13 := ha8.keeps [1, 2] [(1, .pointer (some ⟨b5, 0, none⟩)), (2, .pointer (some ⟨b11, 0, none⟩))] rfl
 clear ha8 hS4 ha2 a1 hS ha a
 refine jQ (wp_seq ?_)
 refine p_begin ?_
 refine jU (o_new (cs := [.slice none 0 0]) (T := 28) (fun b => .pointer (some ⟨b, 0, none⟩)) ha13 (by decide) (At.here (by kernel_rfl : ((jY Try.f17 1)[0]?).map spec = some ((Op.alloc 28), some 3, 0, none))) (by kernel_rfl) hS10 (fun _ => by kernel_rfl) (fun b18 w16 a14 hb19 (hS17 : Sat w0 w16 ((SX.blk b18 [.slice none 0 0] 28) :: (SX.blk b11 [.slice none 0 0] 28) :: (SX.blk b5 [.slice s0.A s0.n s0.c] 24) :: [])) ha15 => ?_))
 refine jK ?_
 have ha20 := ha15.keeps [1, 2, 3] [(1, .pointer (some ⟨b5, 0, none⟩)), (2, .pointer (some ⟨b11, 0, none⟩)), (3, .pointer (some ⟨b18, 0, none⟩))] rfl
 clear ha15 hS10 ha13 a7
 refine jQ (wp_seq ?_)
 refine p_begin ?_
 refine p_val (v := .pointer (some ⟨b5, 0, none⟩)) ha20 (by decide) (jW ha20 (At.here (by kernel_rfl : ((jY Try.f17 2)[0]?).map spec = some ((Op.fieldAddr 24 (Operand.tmp 1) 0), some 4, 0, none))) (by kernel_rfl) (fun _ => by kernel_rfl)) (fun a21 ha22 => ?_)
 refine p_val (v := .slice s0.A s0.n s0.c) ha22 (by decide) (v_load (cs := [.slice s0.A s0.n s0.c]) (T := 24) ha22 (At.here (by kernel_rfl : ((jY Try.f17 2)[1]?).map spec = some ((Op.load 22 (Operand.tmp 4)), some 5, 22, none))) rfl (by kernel_rfl) (fun _ hw => by rw [hw]; exact hS17.blk 2 rfl) rfl) (fun a23 ha24 => ?_)
 refine jU (o_ret (Post := fun r w' => ∃ s1 : Sl, r = s1.v ∧ Sat w0 w' ((prg w0.heap.size s1 (toP l0)) :: (SX.blk b18 [.slice none 0 0] 28) :: (SX.blk b11 [.slice none 0 0] 28) :: (SX.blk b5 [.slice s0.A s0.n s0.c] 24) :: [])) ha24 (by decide) (At.here (by kernel_rfl : ((jY Try.f17 2)[2]?).map spec = some ((Op.call { callee := (Callee.value (Operand.func 57)), args := #[(Operand.tmp 5)], argTypes := #[22] }), some 6, 26, none))) rfl Try.func57 (by kernel_rfl) (toStepSS_sat hS17 (hr.sat hS17) hf) (fun v29 w27 a25 hp30 ha26 => ?_))
 obtain ⟨s1, rfl, hS28⟩ := hp30
 have ha31 : Has 9 [(1, .pointer (some ⟨b5, 0, none⟩)), (2, .pointer (some ⟨b11, 0, none⟩)), (3, .pointer (some ⟨b18, 0, none⟩)), (4, .pointer (some ⟨b5, 0, none⟩)), (5, .slice s0.A s0.n s0.c), (6, .slice s1.A s1.n s1.c)] a25 := ha26.keeps [1, 2, 3, 4, 5, 6] _ rfl
 refine p_val (v := .pointer (some ⟨b18, 0, none⟩)) ha31 (by decide) (jW ha31 (At.here (by kernel_rfl : ((jY Try.f17 2)[3]?).map spec = some ((Op.fieldAddr 28 (Operand.tmp 3) 0), some 7, 0, none))) (by kernel_rfl) (fun _ => by kernel_rfl)) (fun a32 ha33 => ?_)
 refine jU (o_store (cs := [.slice none 0 0]) (cs' := [.slice s1.A s1.n s1.c]) 1 ha33 (At.here (by kernel_rfl : ((jY Try.f17 2)[4]?).map spec = some ((Op.store 26 (Operand.tmp 7) (Operand.tmp 6)), none, 0, none))) rfl rfl rfl (by kernel_rfl) hS28 rfl (by simp) rfl (fun w36 a34 (hS37 : Sat w0 w36 ((prg w0.heap.size s1 (toP l0)) :: (SX.blk b18 [.slice s1.A s1.n s1.c] 28) :: (SX.blk b11 [.slice none 0 0] 28) :: (SX.blk b5 [.slice s0.A s0.n s0.c] 24) :: [])) ha35 => ?_))
 refine jK ?_
 have ha38 := ha35.keeps [2, 3] [(2, .pointer (some ⟨b11, 0, none⟩)), (3, .pointer (some ⟨b18, 0, none⟩))] rfl
 clear ha35 hS28 ha33 a32 ha31 a25 ha26 hS17 ha24 a23 ha22 a21 ha20 a14
 refine jQ (wp_seq ?_)
 refine p_begin ?_
 refine p_val (v := .agg #[.slice s1.A s1.n s1.c]) ha38 (by decide) (v_loadAgg (vs := [.slice s1.A s1.n s1.c]) (cs := [.slice s1.A s1.n s1.c]) (T := 28) ha38 (At.here (by kernel_rfl : ((jY Try.f17 3)[0]?).map spec = some ((Op.load 28 (Operand.tmp 3)), some 8, 28, none))) rfl (by kernel_rfl) (fun _ hw => by rw [hw]; exact hS37.blk 1 rfl) rfl) (fun a39 ha40 => ?_)
 refine jU (yK (vs := [.slice s1.A s1.n s1.c]) (cs := [.slice none 0 0]) (cs' := [.slice s1.A s1.n s1.c]) 2 ha40 (At.here (by kernel_rfl : ((jY Try.f17 3)[1]?).map spec = some ((Op.store 28 (Operand.tmp 2) (Operand.tmp 8)), none, 0, none))) rfl rfl rfl (by kernel_rfl) hS37 rfl (by simp) rfl (fun w43 a41 (hS44 : Sat w0 w43 ((prg w0.heap.size s1 (toP l0)) :: (SX.blk b18 [.slice s1.A s1.n s1.c] 28) :: (SX.blk b11 [.slice s1.A s1.n s1.c] 28) :: (SX.blk b5 [.slice s0.A s0.n s0.c] 24) :: [])) ha42 => ?_))
 refine jK ?_
 have ha45 := ha42.keeps [2] [(2, .pointer (some ⟨b11, 0, none⟩))] rfl
 clear ha42 hS37 ha40 a39 ha38 a34
 refine jQ (wp_ret (qK ha45 (by kernel_rfl) (yJ (t := 2) (ty := 28) (i := 2) (cs := [.slice s1.A s1.n s1.c]) ha45 rfl hS44 rfl (by kernel_rfl)) ?_))
 have hS46 : Sat w0 w43 ((prg w0.heap.size s1 (toP l0)) :: []) := hS44.pickR (l := [prg w0.heap.size s1 (toP l0), SX.blk b18 [.slice s1.A s1.n s1.c] 28, SX.blk b11 [.slice s1.A s1.n s1.c] 28, SX.blk b5 [.slice s0.A s0.n s0.c] 24]) [0] (by decide) [prg w0.heap.size s1 (toP l0)] rfl
 exact ⟨s1, rfl, hS46⟩
theorem code20 : Try.f20.body = some (Code.seq (Code.region 0 (jY Try.f20 0) false) (Code.seq (Code.region 1 (jY Try.f20 1) false) (Code.seq (Code.region 2 (jY Try.f20 2) false) Code.ret))) := by kernel_rfl
theorem markProgram_sat {w0 w : World} {Rs : List Asn} {s : Sl} {l : List (List ST)} {x0 : Int} (hS : Sat w0 w (prg w0.heap.size s l :: Rs)) (hf : Fits l) (h0 : 0 ≤ x0) (h1 : x0 ≤ 1048576) :
  Calls Try.prog 20 #[.agg #[.slice s.A s.n s.c], .int .i64 x0] w (Ret fun r w' => r = .int .i64 (x0 + 3 * (tot l : Int)) ∧ Sat w0 w' (prg w0.heap.size s (mkSS x0 l) :: Rs)) := by
 refine enter (n := 10) Try.func20 code20 (by kernel_rfl) (Nat.le_of_ble_eq_true rfl) (fun a ha => ?_)
 replace ha : Has 10 [(0, .agg #[.slice s.A s.n s.c]), (1, .int .i64 x0)] a := ha
 refine wp_seq ?_
 refine p_begin ?_
 refine jU (o_new (cs := [.slice s.A s.n s.c]) (T := 28) (fun b => .pointer (some ⟨b, 0, none⟩)) ha (by decide) (At.here (by kernel_rfl : ((jY Try.f20 0)[0]?).map spec = some ((Op.box 28 (Operand.tmp 0)), some 2, 0, none))) (by kernel_rfl) hS (fun _ => by kernel_rfl) (fun b5 w3 a1 hb6 (hS4 : Sat w0 w3 ((SX.blk b5 [.slice s.A s.n s.c] 28) :: (prg w0.heap.size s l) :: Rs)) ha2 => ?_))
 refine p_val (v := .int .i64 0) ha2 (by decide) (jW ha2 (At.here (by kernel_rfl : ((jY Try.f20 0)[1]?).map spec = some ((Op.assign (Operand.const (Value.int IntKind.i64 0))), some 4, 3, none))) (by kernel_rfl) (fun _ => by kernel_rfl)) (fun a7 ha8 => ?_)
 refine jK ?_
 have ha9 := ha8.keeps [1, 2, 4] [(1, .int .i64 x0), (2, .pointer (some ⟨b5, 0, none⟩)), (4, .int .i64 0)] rfl
 clear ha8 ha2 a1 hS ha a
 refine jQ (wp_seq ?_)
 refine p_begin ?_
 refine p_val (v := .pointer (some ⟨b5, 0, none⟩)) ha9 (by decide) (jW ha9 (At.here (by kernel_rfl : ((jY Try.f20 1)[0]?).map spec = some ((Op.fieldAddr 28 (Operand.tmp 2) 0), some 5, 0, none))) (by kernel_rfl) (fun _ => by kernel_rfl)) (fun a10 ha11 => ?_)
 refine p_val (v := .slice s.A s.n s.c) ha11 (by decide) (v_load (cs := [.slice s.A s.n s.c]) (T := 28) ha11 (At.here (by kernel_rfl : ((jY Try.f20 1)[1]?).map spec = some ((Op.load 26 (Operand.tmp 5)), some 6, 26, none))) rfl (by kernel_rfl) (fun _ hw => by rw [hw]; exact hS4.blk 0 rfl) rfl) (fun a12 ha13 => ?_)
 refine p_val (v := .int .i64 x0) ha13 (by decide) (jW ha13 (At.here (by kernel_rfl : ((jY Try.f20 1)[2]?).map spec = some ((Op.move (Operand.tmp 1)), some 7, 3, none))) (by kernel_rfl) (fun _ => by kernel_rfl)) (fun a14 ha15 => ?_)
 have hS20 : Sat w0 w3 ((prg w0.heap.size s l) :: (SX.blk b5 [.slice s.A s.n s.c] 28) :: Rs) := hS4.pickR (l := [SX.blk b5 [.slice s.A s.n s.c] 28, prg w0.heap.size s l]) [1, 0] (by decide) [prg w0.heap.size s l, SX.blk b5 [.slice s.A s.n s.c] 28] rfl
 refine jU (o_ret (Post := fun r w' => r = .int .i64 (x0 + 3 * (tot l : Int)) ∧ Sat w0 w' ((prg w0.heap.size s (mkSS x0 l)) :: (SX.blk b5 [.slice s.A s.n s.c] 28) :: Rs)) ha15 (by decide) (At.here (by kernel_rfl : ((jY Try.f20 1)[3]?).map spec = some ((Op.call { callee := (Callee.value (Operand.func 61)), args := #[(Operand.tmp 6), (Operand.tmp 7)], argTypes := #[26, 3] }), some 8, 3, none))) rfl Try.func61 (by kernel_rfl) (markStepSS_sat w0 _ _ s l x0 hS20 h0 (by have := hf.len; omega) (by have := hf.tot; omega) h1) (fun v21 w18 a16 hp22 ha17 => ?_))
 obtain ⟨rfl, hS19⟩ := hp22
 have ha23 : Has 10 [(1, .int .i64 x0), (2, .pointer (some ⟨b5, 0, none⟩)), (4, .int .i64 0), (5, .pointer (some ⟨b5, 0, none⟩)), (6, .slice s.A s.n s.c), (7, .int .i64 x0), (8, .int .i64 (x0 + 3 * (tot l : Int)))] a16 := ha17.keeps [1, 2, 4, 5, 6, 7, 8] _ rfl
 refine p_val (v := .int .i64 (x0 + 3 * (tot l : Int))) ha23 (by decide) (jW ha23 (At.here (by kernel_rfl : ((jY Try.f20 1)[4]?).map spec = some ((Op.assign (Operand.tmp 8)), some 1, 3, none))) (by kernel_rfl) (fun _ => by kernel_rfl)) (fun a24 ha25 => ?_)
 refine jK ?_
 have ha26 := ha25.keeps [4, 1] [(4, .int .i64 0), (1, .int .i64 (x0 + 3 * (tot l : Int)))] rfl
 clear ha25 ha23 a16 ha17 hS20 ha15 a14 hS4 ha13 a12 ha11 a10 ha9 a7
 refine jQ (wp_seq ?_)
 refine p_begin ?_
 refine p_val (v := .int .i64 (x0 + 3 * (tot l : Int))) ha26 (by decide) (jW ha26 (At.here (by kernel_rfl : ((jY Try.f20 2)[0]?).map spec = some ((Op.move (Operand.tmp 1)), some 9, 3, none))) (by kernel_rfl) (fun _ => by kernel_rfl)) (fun a27 ha28 => ?_)
 refine p_val (v := .int .i64 (x0 + 3 * (tot l : Int))) ha28 (by decide) (jW ha28 (At.here (by kernel_rfl : ((jY Try.f20 2)[1]?).map spec = some ((Op.assign (Operand.tmp 9)), some 4, 3, none))) (by kernel_rfl) (fun _ => by kernel_rfl)) (fun a29 ha30 => ?_)
 refine jK ?_
 have ha31 := ha30.keeps [4] [(4, .int .i64 (x0 + 3 * (tot l : Int)))] rfl
 clear ha30 ha28 a27 ha26 a24
 refine jQ (wp_ret (qK ha31 (by kernel_rfl) (xZ (t := 4) ha31 rfl) ?_))
 have hS32 : Sat w0 w18 ((prg w0.heap.size s (mkSS x0 l)) :: Rs) := hS19.pickR (l := [prg w0.heap.size s (mkSS x0 l), SX.blk b5 [.slice s.A s.n s.c] 28]) [0] (by decide) [prg w0.heap.size s (mkSS x0 l)] rfl
 exact ⟨rfl, hS32⟩
theorem toProgram_sat {w0 w : World} {Rs : List Asn} {s0 : Sl} {l0 : List (List LT)} (hS : Sat w0 w Rs) (hr : RdA w s0 l0) (hf : Fits l0) :
  Calls Try.prog 17 #[.agg #[.slice s0.A s0.n s0.c]] w (Ret fun r w' => ∃ s : Sl, r = .agg #[s.v] ∧ Sat w0 w' (prg w0.heap.size s (toP l0) :: Rs)) := by
 refine (toProgram_sat0 hr hf).mono ?_
 intro e w' h
 cases e with
 | returned v =>
  obtain ⟨s, rfl, h4⟩ := h
  have h5 : Sat w0 w' (prg w.heap.size s (toP l0) :: Rs) := hS.comp h4
  exact ⟨s, rfl, h5.turn (i := 0) rfl (prg w0.heap.size s (toP l0)) (kdS_lower hS.below.size w')⟩
 | _ => exact h.elim
def cT (x : ST) : List Value := [.int .i64 x.f0, .int .i64 x.f1, .int .i64 x.f2]
def encS3 (l : List ST) : List Value := l.flatMap cT
theorem cT_len (x : ST) : (cT x).length = 3 := rfl
theorem encS3_length (l : List ST) : (encS3 l).length = l.length * 3 := flat_length cT_len l
theorem reps_cells {w : World} {base : Nat} {ok : Nat → Prop} : ∀ {l : List ST} {inner : List Value}, Reps (k68.M w base ok) 3 l inner → inner = encS3 l := by
 intro l
 induction l with
 | nil => intro inner h; exact List.eq_nil_of_length_eq_zero (by have := h.1; simpa using this)
 | cons x l ih =>
  intro inner h
  have h0 := k68_openM (h.2 0 x rfl)
  have h1 : Reps (k68.M w base ok) 3 l (inner.drop 3) := by
   refine ⟨by rw [List.length_drop, h.1, List.length_cons]; omega, fun j p hj => ?_⟩;have := h.2 (j + 1) p (by simpa using hj);rw [List.drop_drop, show 3 + j * 3 = (j + 1) * 3 by omega];exact this
  rw [Nat.zero_mul, List.drop_zero] at h0
  rw [← List.take_append_drop 3 inner, h0, ih h1]
  rfl
theorem cells_reps (w : World) (base : Nat) (ok : Nat → Prop) (l : List ST) : Reps (k68.M w base ok) 3 l (encS3 l) := by
  refine ⟨encS3_length l, fun j p hj => ?_⟩
  have : ((encS3 l).drop (j * 3)).take 3 = cT p := by
    apply List.ext_getElem?
    intro o;rw [List.getElem?_take]
    by_cases ho : o < 3
    · rw [if_pos ho, List.getElem?_drop]
      exact flat_get cT_len hj ho
    · rw [if_neg ho, List.getElem?_eq_none (by rw [cT_len]; omega)]
  rw [this]
  exact k68_mkM w base ok p
section
variable {w0 w : World} {Rs : List Asn} {s : Sl} {l : List ST}
theorem toRow (h : Sat w0 w (kdP w0.heap.size k68 68 s.v l :: Rs)) : Sat w0 w (SX.row s.v 68 3 (encS3 l) :: Rs) := by
  obtain ⟨hb, F, h1, h2, h3⟩ := h
  obtain ⟨g1, g2, inner, ho, hr⟩ := h1 0 _ rfl
  have hi := reps_cells hr
  subst hi
  refine ⟨hb, fun j b => match j with | 0 => s.v.ownBlock = some b | j + 1 => F (j + 1) b, fun j S hj => ?_, fun i j b hi hj => ?_, fun j b hj => ?_⟩
  · match j with
    | 0 =>
      simp at hj
      subst hj;exact ⟨fun k => Iff.rfl, _, own_weaken ho (Nat.zero_le _)⟩
    | j + 1 => exact h1 (j + 1) S hj
  · have hz : ∀ b, s.v.ownBlock = some b → F 0 b := fun b hb => g2 b hb
    match i, j with
    | 0, 0 => rfl
    | 0, j + 1 => exact h2 _ _ b (hz b hi) hj
    | i + 1, 0 => exact h2 _ _ b hi (hz b hj)
    | i + 1, j + 1 => exact h2 _ _ b hi hj
  · match j with
    | 0 => exact h3 0 b (g2 b hj)
    | j + 1 => exact h3 _ b hj
theorem ofRow (h : Sat w0 w (SX.row s.v 68 3 (encS3 l) :: Rs)) : Sat w0 w (kdP w0.heap.size k68 68 s.v l :: Rs) := by
 have hb0 := h.below
 obtain ⟨F, hF, hlow⟩ : ∃ F : Nat → Prop, (SX.row s.v 68 3 (encS3 l)).says w F ∧ ∀ b, F b → w0.heap.size ≤ b ∧ b < w.heap.size := by
  obtain ⟨_, G, g1, _, g3⟩ := h
  exact ⟨G 0, g1 0 _ rfl, fun b hb => g3 0 b hb⟩
 refine h.turn (i := 0) rfl (kdP w0.heap.size k68 68 s.v l) fun F' hF' => ?_
 obtain ⟨e1, n, hn⟩ := hF'
 have hl : n = l.length := by
  have := hn.1
  rw [encS3_length] at this
  omega
 subst hl
 have hbase : ∀ k, s.v.ownBlock = some k → w0.heap.size ≤ k ∧ k < w.heap.size := fun k hk => hlow k ((hF.1 k).2 hk)
 refine ⟨fun k hk => (hbase k ((e1 k).1 hk)).2, fun k hk => (e1 k).2 hk, encS3 l, ?_, cells_reps _ _ _ _⟩
 refine ⟨hn.1, ?_⟩
 rcases hn.2 with h' | ⟨g, cap, cur, e, _, rest⟩
 · exact .inl h'
 · exact .inr ⟨g, cap, cur, e, (hbase g (by rw [e]; rfl)).1, rest⟩
end
end Go.Proofs.Ytbgfiiehjaghiaa.G
namespace Go.Proofs.Ytbgfiiehjaghiaa.G
open Go.RowKit Go.Lib Go.Proofs.Ytbgfiiehjaghiaa.SX Go.Proofs.YtbgfiiehjaghiaaW.PrintWords Go.Proofs.YtbgfiiehjaghiaaW.PrintLast Go.Proofs.YtbgfiiehjaghiaaW.PrintMore
theorem in_eq (x lo hi : Int) : impl_in.f x lo hi = some (decide (lo ≤ x) && decide (x ≤ hi)) := by
 unfold impl_in.f
 by_cases h : lo ≤ x <;> simp [h]
def encT (x : S68) : List Value := [.int .i64 x.f0, .int .i64 x.f1, .int .i64 x.f2]
theorem inner_at (w : World) (B : Nat) (A : Option Addr) (n c : Nat) (hn : 1 ≤ n ∧ n ≤ 6) (hB : B < w.heap.size) (hcell : w.cell? ⟨B, 0, none⟩ = some (.slice A n c)) :
    ∀ W, Below w.heap.size w W → ∀ x : S68, Calls Try.prog 110 #[.agg (encT x).toArray, .pointer (some ⟨B, 0, none⟩)] W (Ret fun r w' => r = .bool (!(stepB (n : Int) x.f0 x.f1 x.f2)) ∧ Below W.heap.size W w') := by
  intro W hb x
  have hc : W.cell? ⟨B, 0, none⟩ = some (.slice A n c) := (hb.cell (p := ⟨B, 0, none⟩) hB).trans hcell
  have hlt : B < W.heap.size := Nat.lt_of_lt_of_le hB hb.size
  show Calls Try.prog 110 #[.agg #[.int .i64 x.f0, .int .i64 x.f1, .int .i64 x.f2], .pointer (some ⟨B, 0, none⟩)] W _
  refine Calls.mono (R := fun e w' => e = .returned (.bool (!(stepB (n : Int) x.f0 x.f1 x.f2))) ∧ Below W.heap.size W w') ?_ (by rintro e w' ⟨rfl, h⟩; exact ⟨rfl, h⟩)
  have hs : ∀ W', Calls Try.prog 111 #[.agg #[.int .i64 x.f0, .int .i64 x.f1, .int .i64 x.f2], .int .i64 (n : Int)] W' fun e w' => e = .returned (.bool (stepB (n : Int) x.f0 x.f1 x.f2)) ∧ Below W'.heap.size W' w' :=
    fun W' => (isStep_sat (k := x.f0) (xa := x.f1) (xb := x.f2) (Sat.start W') (by omega) (by omega)).mono fun e w' h => by
      cases e with
      | returned r => exact ⟨congrArg _ h.1, h.2.below⟩
      | _ => exact h.elim
  have hc' : (W.alloc (.cells #[.int .i64 x.f0, .int .i64 x.f1, .int .i64 x.f2] 68)).cell? ⟨B, 0, none⟩ = some (.slice A n c) := Lib.cell?_alloc_some _ hc
  obtain ⟨r, hr⟩ : ∃ r, r = stepB (n : Int) x.f0 x.f1 x.f2 := ⟨_, rfl⟩
  rw [← hr] at hs
  go_enter Try.func110, Try.ntmps110
  go_wp2_with (go_at_call 111; refine (hs _).mono ?_; rintro e w' ⟨rfl, hw'⟩)
  go_ret
  refine ⟨by rw [← hr]; rfl, ((Below.refl _ W).alloc (Nat.le_refl _) _).trans (hw'.mono (by simp))⟩
theorem contains_step (w0 : World) (s0 : Sl) (p : S68 → Bool) (l0 : List S68) (cap : Value) (hbig : l0.length ≤ 1000000) (hrd : ∀ w', Below w0.heap.size w0 w' → RdL Try.prog 68 3 (fun x => .agg (encT x).toArray) w' s0 l0)
    (hp : ∀ w', Below w0.heap.size w0 w' → ∀ x ∈ l0, Calls Try.prog 110 #[.agg (encT x).toArray, cap] w' (Ret fun r w'' => r = .bool (p x) ∧ Below w'.heap.size w' w'')) :
    Calls Try.prog 109 #[.slice s0.A s0.n s0.c, .func (.func 110) #[] #[cap]] w0 fun e w' => e = .returned (.bool (l0.any p)) ∧ Below w0.heap.size w0 w' := by
  have hi : Calls Try.prog 131 #[.slice s0.A s0.n s0.c, .func (.func 110) #[] #[cap]] w0 fun e w' => ∃ q : Int, e = .returned (.int .i64 q) ∧ decide (q ≥ 0) = l0.any p ∧ Below w0.heap.size w0 w' :=
    (indexStep w0 s0 _ p l0 cap hbig hrd hp).mono fun e w' hp => by
      cases e with
      | returned r => obtain ⟨⟨q, rfl, h⟩, hb⟩ := hp; exact ⟨q, rfl, h, hb⟩
      | panicked c => exact hp.elim
      | outgrown => exact hp.elim
  clear hrd hp
  generalize l0.any p = r at hi ⊢
  go_enter Try.func109, Try.ntmps109
  go_wp2_with (go_at_call 131; refine hi.mono ?_; rintro e w' ⟨q, rfl, hq, hb⟩)
  go_ret
  exact ⟨by rw [← hq]; rfl, hb⟩
theorem rdl_step {w : World} {s : Sl} {l : List S68} (hn : s.n = l.length) (hc : l.length ≤ s.c) (hr : Kd.C k68 w s.A l.length l) : RdL Try.prog 68 3 (fun x => .agg (encT x).toArray) w s l := by
 refine ⟨hn, hc, fun j x hj => ?_⟩
 obtain ⟨_, _, h3⟩ := hr
 have hjl : j < l.length := (List.getElem?_eq_some_iff.1 hj).1
 obtain ⟨ad, hA, hcells⟩ := h3 (by omega)
 have key : ∀ (j : Nat) (x : S68), l[j]? = some x → ∀ i u, (encT x)[i]? = some u → w.cell? (ad.add (j * 3 + i)) = some u := fun j x hj i u hu => by
  obtain ⟨cs, _, hk, hu'⟩ := hcells j x hj
  rw [k68_open hk] at hu'
  exact hu' i u hu
 have h0 := key 0 _ (List.getElem?_eq_getElem (by omega)) 0 _ rfl
 have hspot := spot_of_cell h0
 obtain ⟨b, off, sp⟩ := ad
 subst hspot
 have e1 : bk s = b := by simp [bk, hA]
 have e2 : of_ s = off := by simp [of_, hA]
 rw [e1, e2]
 refine ⟨hA, run_loadVar_agg (vs := encT x) (by kernel_rfl) fun i u hu => ?_⟩
 have := key j x hj i u hu
 rw [add0] at this ⊢
 rw [Nat.add_assoc]
 exact this
theorem outer_at (W : World) (B : Nat) (A : Option Addr) (n c : Nat) (hn : 1 ≤ n ∧ n ≤ 6) (hB : B < W.heap.size) (hcell : W.cell? ⟨B, 0, none⟩ = some (.slice A n c)) (s1 : Sl) (l : List S68) (h1 : s1.n = l.length) (h2 : l.length ≤ s1.c) (hr : Kd.C k68 W s1.A l.length l) :
    Calls Try.prog 108 #[.slice s1.A s1.n s1.c, .pointer (some ⟨B, 0, none⟩)] W fun e w' => e = .returned (.bool (!(bodyB (n : Int) l))) ∧ Below W.heap.size W w' := by
  have hb : ¬ l.length > 8 → Calls Try.prog 109 #[.slice s1.A s1.n s1.c, .func (.func 110) #[] #[.pointer (some ⟨B, 0, none⟩)]] W fun e w' => e = .returned (.bool (l.any fun s => !(stepB (n : Int) s.f0 s.f1 s.f2))) ∧ Below W.heap.size W w' := fun h8 =>
    contains_step W s1 _ l _ (by omega) (fun w' hb => rdl_step h1 h2 (Kd.C_below hr hb)) (fun w' hb x _ => inner_at W B A n c hn hB hcell w' hb x)
  have hbody : (!(bodyB (n : Int) l)) = if l.length > 8 then true else (l.any fun s => !(stepB (n : Int) s.f0 s.f1 s.f2)) := by
    unfold bodyB
    by_cases h8 : l.length > 8
    · rw [if_pos h8, decide_eq_false (by omega)]; rfl
    · rw [if_neg h8, decide_eq_true (by omega), Bool.true_and, List.all_eq_not_any_not, Bool.not_not]
  rw [hbody]
  obtain ⟨A1, n1, c1⟩ := s1
  simp only at h1 h2 hb ⊢
  subst h1
  clear hr hbody hcell
  generalize (l.any fun s => !(stepB (n : Int) s.f0 s.f1 s.f2)) = r at hb ⊢
  generalize l.length = m at *
  go_enter Try.func108, Try.ntmps108
  by_cases h8 : m > 8
  · go_wp2
    all_goals (go_ret; first | exact ⟨rfl, Below.refl _ _⟩ | (exfalso; omega))
  · have hb' := hb h8
    go_wp2_with (go_at_call 109; refine hb'.mono ?_; rintro e w' ⟨rfl, hw'⟩)
    all_goals (go_ret; refine ⟨?_, hw'⟩; have h9 : decide (8 < (m : Int)) = false := decide_eq_false (by omega); simp [h9])
theorem contains_body (w0 : World) (s0 : Sl) (enc : Nat → Value) (p : Nat → Bool) (l0 : List Nat) (cap : Value) (hbig : l0.length ≤ 1000000) (hrd : ∀ w', Below w0.heap.size w0 w' → RdL Try.prog 69 1 enc w' s0 l0)
    (hp : ∀ w', Below w0.heap.size w0 w' → ∀ x ∈ l0, Calls Try.prog 108 #[enc x, cap] w' (Ret fun r w'' => r = .bool (p x) ∧ Below w'.heap.size w' w'')) :
    Calls Try.prog 107 #[.slice s0.A s0.n s0.c, .func (.func 108) #[] #[cap]] w0 fun e w' => e = .returned (.bool (l0.any p)) ∧ Below w0.heap.size w0 w' := by
  have hi : Calls Try.prog 130 #[.slice s0.A s0.n s0.c, .func (.func 108) #[] #[cap]] w0 fun e w' => ∃ q : Int, e = .returned (.int .i64 q) ∧ decide (q ≥ 0) = l0.any p ∧ Below w0.heap.size w0 w' :=
    (indexBody w0 s0 _ p l0 cap hbig hrd hp).mono fun e w' hp => by
      cases e with
      | returned r => obtain ⟨⟨q, rfl, h⟩, hb⟩ := hp; exact ⟨q, rfl, h, hb⟩
      | panicked c => exact hp.elim
      | outgrown => exact hp.elim
  clear hrd hp
  generalize l0.any p = r at hi ⊢
  go_enter Try.func107, Try.ntmps107
  go_wp2_with (go_at_call 130; refine hi.mono ?_; rintro e w' ⟨q, rfl, hq, hb⟩)
  go_ret
  exact ⟨by rw [← hq]; rfl, hb⟩
theorem bodies_cells {w : World} {s : Sl} {L : List (List S68)} (hr : Kd.C (Kd.slice 68 k68) w s.A L.length L) (j : Nat) (b : List S68) (hj : L[j]? = some b) :
  s.A = some ⟨bk s, of_ s, none⟩ ∧ ∃ A' c', w.cell? ⟨bk s, of_ s + j, none⟩ = some (.slice A' b.length c') ∧ b.length ≤ c' ∧ Kd.C k68 w A' b.length b := by
 obtain ⟨_, _, h3⟩ := hr
 have hjl : j < L.length := (List.getElem?_eq_some_iff.1 hj).1
 obtain ⟨ad, hA, hcells⟩ := h3 (by omega)
 have key : ∀ (j : Nat) (b : List S68), L[j]? = some b → ∃ A' c', w.cell? (ad.add j) = some (.slice A' b.length c') ∧ b.length ≤ c' ∧ Kd.C k68 w A' b.length b := fun j b hj => by
  obtain ⟨cs, _, ⟨A', c', rfl, h4, h5⟩, hu⟩ := hcells j b hj
  have := hu 0 _ rfl
  exact ⟨A', c', by simpa [Kd.slice] using this, h4, h5⟩
 obtain ⟨A0, c0, h0, _⟩ := key 0 _ (List.getElem?_eq_getElem (by omega))
 have hspot := spot_of_cell h0
 obtain ⟨bb, off, sp⟩ := ad
 subst hspot
 have e1 : bk s = bb := by simp [bk, hA]
 have e2 : of_ s = off := by simp [of_, hA]
 rw [e1, e2]
 obtain ⟨A', c', h6, h7, h8⟩ := key j b hj
 rw [add0] at h6
 exact ⟨hA, A', c', h6, h7, h8⟩
def bodyV (w : World) (s : Sl) (j : Nat) : Value := (w.cell? ⟨bk s, of_ s + j, none⟩).getD undef
theorem impl_IsProgram.calls (A0_0 : Option Addr) (c0_0 : Nat) (l0_0 : List (List (S68))) (r : Bool) (w : World) (hr0_0 : Kd.C (Kd.slice 68 k68) w A0_0 l0_0.length l0_0) (hc0_0 : l0_0.length ≤ c0_0) (h : impl_IsProgram.f l0_0 = some r) :
    Calls Try.prog 64 #[.agg #[.slice A0_0 l0_0.length c0_0]] w fun e w' => e = .returned (.bool r) ∧ Below w.heap.size w w' := by
  have hr : programB l0_0 = r := by simpa [impl_IsProgram.f] using h
  have hb1 : Below w.heap.size w (w.alloc (.cells #[.slice A0_0 l0_0.length c0_0] 28)) := (Below.refl _ w).alloc (Nat.le_refl _) _
  have hcell1 : (w.alloc (.cells #[.slice A0_0 l0_0.length c0_0] 28)).cell? ⟨w.heap.size, 0, none⟩ = some (.slice A0_0 l0_0.length c0_0) := by simp
  have hcon : (1 ≤ l0_0.length ∧ l0_0.length ≤ 6) → ∀ W, Below (w.heap.size + 1) (w.alloc (.cells #[.slice A0_0 l0_0.length c0_0] 28)) W →
      Calls Try.prog 107 #[.slice A0_0 l0_0.length c0_0, .func (.func 108) #[] #[.pointer (some ⟨w.heap.size, 0, none⟩)]] W fun e w' => e = .returned (.bool !(l0_0.all (bodyB (l0_0.length : Int)))) ∧ Below W.heap.size W w' := by
    intro hn W hW;have hsz : w.heap.size + 1 ≤ W.heap.size := by have := hW.size; simpa using this
    have hwW : Below w.heap.size w W := hb1.trans (hW.mono (by omega));have hC : Kd.C (Kd.slice 68 k68) W A0_0 l0_0.length l0_0 := Kd.C_below hr0_0 hwW;have hcellW : W.cell? ⟨w.heap.size, 0, none⟩ = some (.slice A0_0 l0_0.length c0_0) := (hW.cell (p := ⟨w.heap.size, 0, none⟩) (by simp)).trans hcell1
    have hany : ((List.range l0_0.length).any fun j => !(bodyB (l0_0.length : Int) (l0_0.getD j []))) = !(l0_0.all (bodyB (l0_0.length : Int))) := by
      rw [List.all_eq_not_any_not, Bool.not_not]
      generalize (l0_0.length : Int) = q
      apply Bool.eq_iff_iff.2
      simp only [List.any_eq_true, List.mem_range]
      constructor
      · rintro ⟨j, hj, hp⟩
        exact ⟨l0_0[j], List.getElem_mem hj, by simpa [List.getD, hj] using hp⟩
      · rintro ⟨b, hb, hp⟩
        obtain ⟨j, hj, rfl⟩ := List.getElem_of_mem hb;exact ⟨j, hj, by simpa [List.getD, hj] using hp⟩
    have hb : ∀ (j : Nat) (hj : j < l0_0.length), ∃ A' c', W.cell? ⟨bk ⟨A0_0, l0_0.length, c0_0⟩, of_ ⟨A0_0, l0_0.length, c0_0⟩ + j, none⟩ = some (.slice A' l0_0[j].length c') ∧ l0_0[j].length ≤ c' ∧ Kd.C k68 W A' l0_0[j].length l0_0[j] := fun j hj => (bodies_cells (s := ⟨A0_0, l0_0.length, c0_0⟩) hC j _ (List.getElem?_eq_getElem hj)).2;rw [← hany];refine contains_body W ⟨A0_0, l0_0.length, c0_0⟩ (bodyV W ⟨A0_0, l0_0.length, c0_0⟩) _ (List.range l0_0.length) _ (by simp; omega) (fun w' hw' => ⟨by simp, by simpa using hc0_0, fun j x hj => ?_⟩) (fun w' hw' j hj => ?_)
    · obtain ⟨hjl, rfl⟩ : j < l0_0.length ∧ j = x := by
        obtain ⟨h1, h2⟩ := List.getElem?_eq_some_iff.1 hj;exact ⟨by simpa using h1, by simpa using h2⟩
      obtain ⟨A', c', h6, _⟩ := hb j hjl;refine ⟨(bodies_cells (s := ⟨A0_0, l0_0.length, c0_0⟩) hC j _ (List.getElem?_eq_getElem hjl)).1, ?_⟩;have h7 := pw_cell_below hw' h6;rw [Nat.mul_one];have := run_loadVar_cell (P := Try.prog) (w := w') (t := 69) (by kernel_rfl) h7;rw [this]
      simp [bodyV, h6]
    · have hjl : j < l0_0.length := List.mem_range.1 hj
      obtain ⟨A', c', h6, h7, h8⟩ := hb j hjl;have hv : bodyV W ⟨A0_0, l0_0.length, c0_0⟩ j = .slice A' l0_0[j].length c' := by simp [bodyV, h6]
      have hd : l0_0.getD j [] = l0_0[j] := by simp [List.getD, hjl]
      rw [hv, hd];refine (outer_at w' w.heap.size A0_0 l0_0.length c0_0 hn (by have := hw'.size; omega) (pw_cell_below hw' hcellW) ⟨A', l0_0[j].length, c'⟩ l0_0[j] rfl h7 (Kd.C_below h8 hw')).mono ?_
      rintro e w'' ⟨rfl, hb'⟩
      exact ⟨rfl, hb'⟩
  subst hr
  unfold programB
  have hin : ∀ W, Calls Try.prog 69 #[.int .i64 (l0_0.length : Int), .int .i64 1, .int .i64 6] W fun e w' => e = .returned (.bool (decide (1 ≤ l0_0.length) && decide (l0_0.length ≤ 6))) ∧ Drawn0 W w' := fun W => impl_in.calls _ _ _ _ W (by rw [in_eq]; congr 2 <;> (apply decide_eq_decide.2; omega))
  generalize hB : (l0_0.all (bodyB (l0_0.length : Int))) = rb at hcon ⊢
  clear hr0_0 h hcell1
  generalize l0_0.length = m at *
  by_cases hn : 1 ≤ m ∧ m ≤ 6
  · have hcon' := hcon hn
    rw [decide_eq_true hn.1, decide_eq_true hn.2] at hin;rw [decide_eq_true hn.1, decide_eq_true hn.2]
    go_enter Try.func64, Try.ntmps64
    go_wp2_with (first | (go_at_call 69; refine (hin _).mono ?_; rintro e w' ⟨rfl, ⟨q, rfl⟩⟩) | (go_at_call 107; refine (hcon' _ ?hw).mono ?_; rotate_left; rintro e w' ⟨rfl, hw'⟩))
    case hw => exact ⟨rfl, rfl, rfl, Nat.le_refl _, fun _ _ => rfl⟩
    go_ret
    exact ⟨by simp, Below.trans (B := w.heap.size) (b := (w.alloc (.cells #[.slice A0_0 m c0_0] 28)).drewN q) (hb1.trans ⟨rfl, rfl, rfl, Nat.le_refl _, fun _ _ => rfl⟩) (hw'.mono (show w.heap.size ≤ _ by simp))⟩
  · have hf : (decide (1 ≤ m) && decide (m ≤ 6)) = false := by by_cases h1 : 1 ≤ m <;> simp [h1] ; omega
    rw [hf] at hin;rw [hf]
    go_enter Try.func64, Try.ntmps64
    go_wp2_with (go_at_call 69; refine (hin _).mono ?_; rintro e w' ⟨rfl, ⟨q, rfl⟩⟩)
    all_goals (go_ret; exact ⟨rfl, hb1.trans ⟨rfl, rfl, rfl, Nat.le_refl _, fun _ _ => rfl⟩⟩)
end Go.Proofs.Ytbgfiiehjaghiaa.G
namespace Go.Proofs.Ytbgfiiehjaghiaa.G
open Go.RowKit Go.Proofs.YtbgfiiehjaghiaaW.PrintWords Go.Proofs.YtbgfiiehjaghiaaW.PrintLast Go.Proofs.YtbgfiiehjaghiaaW.PrintMore
theorem w64b {x : Int} (h0 : -9223372036854775808 ≤ x) (h1 : x ≤ 9223372036854775807) : wrap64 x = x := by unfold wrap64; omega
theorem and_if (x : Bool) (y : Bool) : (if x = true then some y else some false) = some (x && y) := by cases x <;> rfl
theorem beqz (b : Int) : (b == 0) = decide (b = 0) := by by_cases h : b = 0 <;> simp [h]
theorem l1In_f (a lo hi : Int) : spec_l1In.f a lo hi = some (decide (lo ≤ a) && decide (a ≤ hi)) := by
 unfold spec_l1In.f
 by_cases h : lo ≤ a
 · rw [if_pos h]; simp [h]
 · rw [if_neg (by omega)]; simp [h]
theorem l2Reg_f (a : Int) : spec_l2Reg.f a = some (regB a) := by simp [spec_l2Reg.f, l1In_f, regB]
theorem l2Number_f (a : Int) : spec_l2Number.f a = some (numB a) := by simp [spec_l2Number.f, l1In_f, numB]
theorem l2Function_f (l : List (List S68)) (hl : l.length ≤ 1048576) (a : Int) : spec_l2Function.f l a = some (decide (0 ≤ a) && decide (a ≤ (l.length : Int) - 1)) := by
 simp [spec_l2Function.f, l1In_f, w64b (x := (l.length : Int) - 1) (by omega) (by omega)]
theorem l2Step_f (l : List (List S68)) (hl : l.length ≤ 1048576) (kd a b : Int) (k : Nat) (hk : 2 ≤ k) : spec_l2Step.f k l kd a b = some (stepB (l.length : Int) kd a b) := by
  obtain ⟨k, rfl⟩ : ∃ m, k = m + 2 := ⟨k - 2, by omega⟩
  by_cases h : 1 ≤ kd ∧ kd ≤ 13
  · have hd : kd = 1 ∨ kd = 2 ∨ kd = 3 ∨ kd = 4 ∨ kd = 5 ∨ kd = 6 ∨ kd = 7 ∨ kd = 8 ∨ kd = 9 ∨ kd = 10 ∨ kd = 11 ∨ kd = 12 ∨ kd = 13 := by omega
    rcases hd with rfl | rfl | rfl | rfl | rfl | rfl | rfl | rfl | rfl | rfl | rfl | rfl | rfl <;>
      simp only [spec_l2Step.f, spec_l2Step.j0, spec_l2Step.j1, l1In_f, l2Reg_f, l2Number_f, l2Function_f l hl, Option.bind_some, and_if, stepB] <;> simp [beqz] <;> (try (by_cases h0 : a = 0 <;> simp [h0]))
  · have h1 : kd ≠ 1 ∧ kd ≠ 2 ∧ kd ≠ 3 ∧ kd ≠ 4 ∧ kd ≠ 5 ∧ kd ≠ 6 ∧ kd ≠ 7 ∧ kd ≠ 8 ∧ kd ≠ 9 ∧ kd ≠ 10 ∧ kd ≠ 11 ∧ kd ≠ 12 ∧ kd ≠ 13 := by omega
    obtain ⟨h1, h2, h3, h4, h5, h6, h7, h8, h9, h10, h11, h12, h13⟩ := h1
    have hs : stepB (l.length : Int) kd a b = false := by
      unfold stepB
      have : (decide (1 ≤ kd) && decide (kd ≤ 13)) = false := by
        by_cases h0 : 1 ≤ kd
        · have : ¬ kd ≤ 13 := fun h' => h ⟨h0, h'⟩
          simp [this]
        · simp [h0]
      rw [this, Bool.false_and, Bool.false_and]
    rw [hs]
    simp [spec_l2Step.f, spec_l2Step.j0, spec_l2Step.j1, h1, h2, h3, h4, h5, h6, h7, h8, h9, h10, h11, h12, h13]
def stB (l : List (List S68)) (s : S68) : Bool := stepB (l.length : Int) s.f0 s.f1 s.f2
theorem l2Program_l1 (l : List (List S68)) (hl : l.length ≤ 1048576) (f : Nat) (hf : f < l.length) (hb : (l[f]).length ≤ 8) (M : Nat) (R : Bool) (hR : ∀ k, M < k → spec_l2Program.l0 k ((f : Int) + 1) l = some R) :
  ∀ d i, i + d = (l[f]).length → ∀ k, M + d + 4 < k → spec_l2Program.l1 k (f : Int) (i : Int) l = some (((l[f]).drop i).all (stB l) && R) := by
 have hrd : rd_L4 l (f : Int) = l[f] := by simp [rd_L4, List.getD, hf]
 intro d
 induction d with
 | zero =>
  intro i hi k hk
  obtain ⟨k, rfl⟩ : ∃ m, k = m + 1 := ⟨k - 1, by omega⟩
  have : i = (l[f]).length := by omega
  subst this
  simp only [spec_l2Program.l1, hrd]
  rw [if_pos (by omega), if_pos (by omega), if_neg (by omega), w64b (by omega) (by omega), hR k (by omega), List.drop_length]
  simp
 | succ d ih =>
  intro i hi k hk
  obtain ⟨k, rfl⟩ : ∃ m, k = m + 1 := ⟨k - 1, by omega⟩
  have hlt : i < (l[f]).length := by omega
  have hrt : rd_T68 l[f] (i : Int) = (l[f])[i] := by simp [rd_T68, List.getD, hlt]
  simp only [spec_l2Program.l1, hrd, hrt]
  rw [if_pos (by omega), if_pos (by omega), if_pos (by omega), if_pos (by omega), l2Step_f l hl _ _ _ k (by omega), List.drop_eq_getElem_cons hlt, List.all_cons]
  simp only [Option.bind_some]
  rw [w64b (by omega) (by omega)]
  have := ih (i + 1) (by omega) k (by omega)
  rw [show ((i : Int) + 1) = ((i + 1 : Nat) : Int) from rfl, this, and_if, Bool.and_assoc]
  rfl
theorem l2Program_l0 (l : List (List S68)) (hl : l.length ≤ 6) : ∀ d f, f + d = l.length → ∀ k, d * 16 < k → spec_l2Program.l0 k (f : Int) l = some ((l.drop f).all (bodyB (l.length : Int))) := by
  intro d
  induction d with
  | zero =>
    intro f hf k hk;obtain ⟨k, rfl⟩ : ∃ m, k = m + 1 := ⟨k - 1, by omega⟩;have : f = l.length := by omega
    subst this;simp only [spec_l2Program.l0];rw [if_neg (by omega), List.drop_length]
    rfl
  | succ d ih =>
    intro f hf k hk;obtain ⟨k, rfl⟩ : ∃ m, k = m + 1 := ⟨k - 1, by omega⟩;have hlt : f < l.length := by omega
    have hrd : rd_L4 l (f : Int) = l[f] := by simp [rd_L4, List.getD, hlt]
    simp only [spec_l2Program.l0, hrd];rw [if_pos (by omega), if_pos (by omega), List.drop_eq_getElem_cons hlt, List.all_cons]
    by_cases hb : ((l[f]).length : Int) > 8
    · rw [if_pos hb]
      have : bodyB (l.length : Int) l[f] = false := by unfold bodyB; simp; intro h; omega
      rw [this, Bool.false_and]
    · rw [if_neg hb]
      have := l2Program_l1 l (by omega) f hlt (by omega) (d * 16) _ (fun k hk => by have := ih (f + 1) (by omega) k hk; rw [show ((f : Int) + 1) = ((f + 1 : Nat) : Int) from rfl]; exact this) (l[f]).length 0 (by omega) k (by omega);rw [show (0 : Int) = ((0 : Nat) : Int) from rfl, this, List.drop_zero];have e : bodyB (l.length : Int) l[f] = (l[f]).all (stB l) := by unfold bodyB; rw [decide_eq_true (by omega : (l[f]).length ≤ 8), Bool.true_and]; rfl
      rw [e]
theorem l2Program_f (l : List (List S68)) (hl : l.length ≤ 1048576) (k : Nat) (hk : 100 < k) : spec_l2Program.f k l = some (programB l) := by
  unfold spec_l2Program.f programB
  rw [l1In_f]
  simp only [Option.bind_some]
  by_cases h : 1 ≤ l.length ∧ l.length ≤ 6
  · have e1 : (decide ((1 : Int) ≤ (l.length : Int)) && decide ((l.length : Int) ≤ 6)) = true := by simp; omega
    have e2 : (decide (1 ≤ l.length) && decide (l.length ≤ 6)) = true := by simp; omega
    rw [e1, e2, if_pos rfl, Bool.true_and];have := l2Program_l0 l h.2 l.length 0 (by omega) k (by omega);rw [show (0 : Int) = ((0 : Nat) : Int) from rfl, this, List.drop_zero]
  · have e1 : (decide ((1 : Int) ≤ (l.length : Int)) && decide ((l.length : Int) ≤ 6)) = false := by simp; omega
    have e2 : (decide (1 ≤ l.length) && decide (l.length ≤ 6)) = false := by simp; omega
    rw [e1, e2, if_neg (by decide), Bool.false_and]
def impl_isFunction.f (l0_0 : List (List (S68))) (a1 : Int) : Option (Bool) := (impl_IsProgram.f l0_0).bind fun t212 => (if t212 = true then ((impl_in.f a1 0 (wrap64 ((l0_0.length : Int) - 1))).bind fun t213 => (some t213)) else (some false))
theorem impl_isFunction.calls (A0_0 : Option Addr) (c0_0 : Nat) (l0_0 : List (List (S68))) (a1 : Int) (r : Bool) (w : World) (hr0_0 : Kd.C (Kd.slice 68 k68) w A0_0 l0_0.length l0_0) (hc0_0 : l0_0.length ≤ c0_0) (h : impl_isFunction.f l0_0 a1 = some r) :
    Calls Try.prog 68 #[.agg #[.slice A0_0 l0_0.length c0_0], .int .i64 a1] w fun e w' => e = .returned (.bool r) ∧ Below w.heap.size w w' := by
  have hu28 := Try.underlying28
  have HR0_0 := Aside0.mk hr0_0
  have HC0_0 := Aside0.mk hc0_0
  clear hr0_0 hc0_0
  have HB := Aside0.mk (Below.refl w.heap.size w)
  have H : ((impl_IsProgram.f l0_0).bind fun t212 => (if t212 = true then ((impl_in.f a1 0 (wrap64 ((l0_0.length : Int) - 1))).bind fun t213 => (some t213)) else (some false))) = some r := h
  clear h
  replace H := Option.bind_eq_some_iff.mp H
  obtain ⟨t212, A30, H⟩ := H
  replace H : (if t212 = true then ((impl_in.f a1 0 (wrap64 ((l0_0.length : Int) - 1))).bind fun t213 => (some t213)) else (some false)) = some r := H
  have A3 := Aside0.mk A30
  clear A30
  by_cases c4 : t212 = true
  · subst c4
    have H1 : ((impl_in.f a1 0 (wrap64 ((l0_0.length : Int) - 1))).bind fun t213 => (some t213)) = some r := by rw [if_pos rfl] at H; exact H
    clear H;have H := H1;clear H1;replace H := Option.bind_eq_some_iff.mp H;obtain ⟨t213, A50, H⟩ := H;replace H : (some t213) = some r := H;have A5 := Aside0.mk A50;clear A50;obtain rfl := Option.some.inj H
    go_enter Try.func68, Try.ntmps68
    go_wp2_with (first | ((with_reducible refine gate_dst (N := 2) rfl ?_); (try (refine gate_guard (by rfl) ?_; dsimp only)); refine box_event ?hg (N := 2) ?hd (cs := #[.slice A0_0 l0_0.length c0_0]) (t := 28) ?hr ?_; (case hd => rfl); (case hg => rfl); (case hr => first | (go_simp; done) | (go_simp; rfl)); intro gb211 hg w6 hbox hb; have n0_ := Aside0.mk (below_step (by repeat (first | (with_reducible first | exact HB.out | apply below_alloc | apply jJ | apply below_drew1) | exact HB.out)) hb); have n1_ := Aside0.mk (hbox); have n2_ := Aside0.mk ((by rw [hg]; exact (below_size (by repeat (first | (with_reducible first | exact HB.out | apply below_alloc | apply jJ | apply below_drew1) | exact HB.out))) : w.heap.size ≤ gb211)); have n3_ := Aside0.mk ((by rw [hg]; exact (below_size (by repeat (first | (with_reducible first | exact HB.out | apply below_alloc | apply jJ | apply below_drew1) | exact HB.out))) : w.heap.size ≤ gb211)); clear HB; have HB := n0_; have BK211 := n1_; have GW211 := n2_; have GE211 := n3_; clear n0_ n1_ n2_ n3_; clear hb hbox hg; have hcz7_0 : w6.cell? ⟨gb211, 0, none⟩ = some (.slice A0_0 l0_0.length c0_0) := (blk_cell BK211.out 0).trans rfl; have hfz7_0 := blk_frozen BK211.out 0) | ((with_reducible refine gate_callee (f := 64) rfl ?_); refine goesL_ (some 6) rfl rfl Try.func64 (by kernel_rfl) rfl #[.agg #[.slice A0_0 l0_0.length c0_0]] rfl (by (try simp only [List.map_toArray, List.map_cons, List.map_nil]); first | done | rfl | (simp only [List.length_drop, List.length_take]; rfl)) ?_; (with_reducible refine (impl_IsProgram.calls _ _ l0_0 true _ ?side1 ?side2 A3.out).mono ?_); (case side1 => repeat (first | exact (Kd.C_below HR0_0.out HB.out) | (with_reducible refine Kd.C_alloc ?_ _) | (with_reducible refine Kd.C_drewN ?_ _) | (with_reducible refine Kd.C_drew ?_))); (case side2 => exact HC0_0.out); rintro e w8 ⟨rfl, hb⟩; refine ⟨_, rfl, ?_⟩; have n0_ := Aside0.mk (blk_below (g := gb211) (o := .cells #[.slice A0_0 l0_0.length c0_0] 28 (0, 0)) (by (with_reducible repeat (first | refine blk_drewN ?_ _ | refine blk_drew ?_ | refine blk_alloc ?_ _)); exact BK211.out) hb); have n1_ := Aside0.mk (below_step (by repeat (first | (with_reducible first | exact HB.out | apply below_alloc | apply jJ | apply below_drew1 | refine below_set ?_ GE211.out) | exact HB.out)) hb); clear BK211; clear HB; have BK211 := n0_; have HB := n1_; clear n0_ n1_; (try clear hb); (try clear hb2); (try clear hk); (try clear hi); have hcz9_0 : w8.cell? ⟨gb211, 0, none⟩ = some (.slice A0_0 l0_0.length c0_0) := (blk_cell BK211.out 0).trans rfl; have hfz9_0 := blk_frozen BK211.out 0) | (go_at_call 69; (with_reducible refine (impl_in.calls a1 0 (wrap64 ((l0_0.length : Int) - 1)) t213 _ A5.out).mono ?_); rintro e w' ⟨rfl, ⟨nd, rfl⟩⟩))
    go_ret
    exact ⟨by first | rfl | (simp [errW_none, errW_some] <;> rfl) | (simp [*, errW_none, errW_some] <;> rfl), by repeat (first | (with_reducible first | exact HB.out | apply below_alloc | apply jJ | apply below_drew1 | refine below_set ?_ GE211.out) | exact HB.out)⟩
  · replace c4 := Bool.eq_false_iff.mpr c4
    subst c4;have H1 : (some false) = some r := by rw [if_neg (show ¬ (false = true) by decide)] at H; exact H
    clear H;have H := H1;clear H1;obtain rfl := Option.some.inj H
    go_enter Try.func68, Try.ntmps68
    go_wp2_with (first | ((with_reducible refine gate_dst (N := 2) rfl ?_); (try (refine gate_guard (by rfl) ?_; dsimp only)); refine box_event ?hg (N := 2) ?hd (cs := #[.slice A0_0 l0_0.length c0_0]) (t := 28) ?hr ?_; (case hd => rfl); (case hg => rfl); (case hr => first | (go_simp; done) | (go_simp; rfl)); intro gb211 hg w10 hbox hb; have n0_ := Aside0.mk (below_step (by repeat (first | (with_reducible first | exact HB.out | apply below_alloc | apply jJ | apply below_drew1) | exact HB.out)) hb); have n1_ := Aside0.mk (hbox); have n2_ := Aside0.mk ((by rw [hg]; exact (below_size (by repeat (first | (with_reducible first | exact HB.out | apply below_alloc | apply jJ | apply below_drew1) | exact HB.out))) : w.heap.size ≤ gb211)); have n3_ := Aside0.mk ((by rw [hg]; exact (below_size (by repeat (first | (with_reducible first | exact HB.out | apply below_alloc | apply jJ | apply below_drew1) | exact HB.out))) : w.heap.size ≤ gb211)); clear HB; have HB := n0_; have BK211 := n1_; have GW211 := n2_; have GE211 := n3_; clear n0_ n1_ n2_ n3_; clear hb hbox hg; have hcz11_0 : w10.cell? ⟨gb211, 0, none⟩ = some (.slice A0_0 l0_0.length c0_0) := (blk_cell BK211.out 0).trans rfl; have hfz11_0 := blk_frozen BK211.out 0) | ((with_reducible refine gate_callee (f := 64) rfl ?_); refine goesL_ (some 6) rfl rfl Try.func64 (by kernel_rfl) rfl #[.agg #[.slice A0_0 l0_0.length c0_0]] rfl (by (try simp only [List.map_toArray, List.map_cons, List.map_nil]); first | done | rfl | (simp only [List.length_drop, List.length_take]; rfl)) ?_; (with_reducible refine (impl_IsProgram.calls _ _ l0_0 false _ ?side1 ?side2 A3.out).mono ?_); (case side1 => repeat (first | exact (Kd.C_below HR0_0.out HB.out) | (with_reducible refine Kd.C_alloc ?_ _) | (with_reducible refine Kd.C_drewN ?_ _) | (with_reducible refine Kd.C_drew ?_))); (case side2 => exact HC0_0.out); rintro e w12 ⟨rfl, hb⟩; refine ⟨_, rfl, ?_⟩; have n0_ := Aside0.mk (blk_below (g := gb211) (o := .cells #[.slice A0_0 l0_0.length c0_0] 28 (0, 0)) (by (with_reducible repeat (first | refine blk_drewN ?_ _ | refine blk_drew ?_ | refine blk_alloc ?_ _)); exact BK211.out) hb); have n1_ := Aside0.mk (below_step (by repeat (first | (with_reducible first | exact HB.out | apply below_alloc | apply jJ | apply below_drew1 | refine below_set ?_ GE211.out) | exact HB.out)) hb); clear BK211; clear HB; have BK211 := n0_; have HB := n1_; clear n0_ n1_; (try clear hb); (try clear hb2); (try clear hk); (try clear hi)))
    go_ret
    exact ⟨by first | rfl | (simp [errW_none, errW_some] <;> rfl) | (simp [*, errW_none, errW_some] <;> rfl), by repeat (first | (with_reducible first | exact HB.out | apply below_alloc | apply jJ | apply below_drew1 | refine below_set ?_ GE211.out) | exact HB.out)⟩
def impl_hasNext.f (l0_0 : List (List (S68))) (a1 : Int) (a2 : Int) : Option (Bool) := (impl_isFunction.f l0_0 a1).bind fun t215 => (if t215 = true then (if 0 ≤ a1 then (if a1 < (l0_0.length : Int) then ((impl_in.f a2 0 (wrap64 (((rd_L4 l0_0 a1).length : Int) - 2))).bind fun t217 => (some t217)) else (none)) else (none)) else (some false))
end Go.Proofs.Ytbgfiiehjaghiaa.G
namespace Go.Proofs.Ytbgfiiehjaghiaa.G
open Go.RowKit Go.Proofs.Ytbgfiiehjaghiaa.SX Go.Proofs.YtbgfiiehjaghiaaW.PrintWords Go.Proofs.YtbgfiiehjaghiaaW.PrintLast Go.Proofs.YtbgfiiehjaghiaaW.PrintMore
def cSl (z : Sl) : List Value := [z.v]
def encSl (l : List Sl) : List Value := l.flatMap cSl
theorem cSl_len (x : Sl) : (cSl x).length = 1 := rfl
theorem encSl_length (l : List Sl) : (encSl l).length = l.length * 1 := flat_length cSl_len l
theorem encSl_map (l : List Sl) : encSl l = l.map Sl.v := by induction l with | nil => rfl | cons x l ih => simp [encSl, cSl] at ih ⊢; exact ih
def holeA (B : Nat) (l : List (List ST)) (vs : List Sl) (f : Nat) : Asn := exA fun us : { us : List (Value × List ST) // us.map (·.2) = l ∧ us.map (·.1) = vs.map Sl.v } => jV ((us.1.eraseIdx f).map fun x => kdP B k68 68 x.1 x.2)
section
variable {w0 w : World} {Rs : List Asn} {s z : Sl} {l : List (List ST)} {vs : List Sl} {f : Nat} {b : List ST}
theorem openFn (h : Sat w0 w (prg w0.heap.size s l :: Rs)) (hb : l[f]? = some b) :
  ∃ (vs : List Sl) (z : Sl), vs.length = l.length ∧ vs[f]? = some z ∧ Sat w0 w (SX.row s.v 69 1 (encSl vs) :: SX.row z.v 68 3 (encS3 b) :: holeA w0.heap.size l vs f :: Rs) := by
 obtain ⟨us, h1, h2, h3⟩ := h.openS
 obtain ⟨vs, hv⟩ := sl_list us h2
 have hl : us.length = l.length := by rw [← h1, List.length_map]
 have hvl : vs.length = l.length := by rw [← hl]; have := congrArg List.length hv; simpa using this.symm
 have hf : f < l.length := (List.getElem?_eq_some_iff.1 hb).1
 obtain ⟨x, hx, hx2⟩ : ∃ x, us[f]? = some x ∧ x.2 = b := by
  have h4 : (us.map (·.2))[f]? = some b := by rw [h1, hb]
  rw [List.getElem?_map] at h4
  exact Option.map_eq_some_iff.1 h4
 obtain ⟨z, hz, hxz⟩ : ∃ z : Sl, vs[f]? = some z ∧ x.1 = z.v := by
  have h4 : (vs.map Sl.v)[f]? = some x.1 := by rw [← hv, List.getElem?_map, hx]; rfl
  rw [List.getElem?_map] at h4
  obtain ⟨z, h5, h6⟩ := Option.map_eq_some_iff.1 h4
  exact ⟨z, h5, h6.symm⟩
 refine ⟨vs, z, hvl, hz, ?_⟩
 rw [show us.map Prod.fst = vs.map Sl.v from hv] at h3
 have h4 : Sat w0 w (jV (us.map fun x => kdP w0.heap.size k68 68 x.1 x.2) :: SX.row s.v 69 1 (vs.map Sl.v) :: Rs) := h3.perm (List.Perm.swap _ _ _)
 have h5 := Sat.takeAt (g := fun x : Value × List ST => kdP w0.heap.size k68 68 x.1 x.2) hx h4
 rw [hxz, hx2] at h5
 have h6 := toRow h5
 have h7 := h6.perm (List.Perm.cons _ (List.Perm.swap _ _ _))
 have h8 := h7.perm (List.Perm.swap _ _ _)
 rw [encSl_map]
 exact h8.shut (R := fun us : { us : List (Value × List ST) // us.map (·.2) = l ∧ us.map (·.1) = vs.map Sl.v } => jV ((us.1.eraseIdx f).map fun x => kdP w0.heap.size k68 68 x.1 x.2)) ⟨us, h1, hv⟩ 2 rfl
theorem shutFn {z' : Sl} (hf : f < l.length) (h : Sat w0 w (SX.row s.v 69 1 (encSl (vs.set f z')) :: SX.row z'.v 68 3 (encS3 b) :: holeA w0.heap.size l vs f :: Rs)) : Sat w0 w (prg w0.heap.size s (l.set f b) :: Rs) := by
  obtain ⟨⟨us, h1, h2⟩, h3⟩ := h.open_ 2 rfl
  have hl : us.length = l.length := by rw [← h1, List.length_map]
  obtain ⟨x, hx⟩ : ∃ x, us[f]? = some x := ⟨_, List.getElem?_eq_getElem (by omega)⟩
  have h4 : Sat w0 w (SX.row z'.v 68 3 (encS3 b) :: SX.row s.v 69 1 (encSl (vs.set f z')) :: jV ((us.eraseIdx f).map fun x => kdP w0.heap.size k68 68 x.1 x.2) :: Rs) := Sat.perm h3 (List.Perm.swap _ _ _)
  have h5 := ofRow h4
  have h6 := h5.perm (List.Perm.cons _ (List.Perm.swap _ _ _))
  have h7 := Sat.putAt (g := fun x : Value × List ST => kdP w0.heap.size k68 68 x.1 x.2) (y := (z'.v, b)) hx h6
  refine Sat.shutS (us.set f (z'.v, b)) (by rw [List.map_set, h1]) (fun y hy => ?_) ?_
  · have hy1 : y.1 ∈ ((us.set f (z'.v, b)).map (·.1)) := List.mem_map_of_mem hy
    rw [List.map_set, h2, ← List.map_set] at hy1;obtain ⟨q, _, hq⟩ := List.mem_map.1 hy1;exact ⟨q, hq.symm⟩
  · rw [show (us.set f (z'.v, b)).map Prod.fst = encSl (vs.set f z') by rw [List.map_set, show us.map Prod.fst = vs.map Sl.v from h2, encSl_map, List.map_set]]
    exact h7.perm (List.Perm.swap _ _ _)
def okF (l : List (List ST)) (f : Int) : Bool := programB l && (decide (0 ≤ f) && decide (f ≤ (l.length : Int) - 1))
theorem okF_lt {l : List (List ST)} {f : Int} (h : okF l f = true) : 0 ≤ f ∧ f < (l.length : Int) := by
 simp only [okF, Bool.and_eq_true, decide_eq_true_eq] at h
 omega
theorem copied_l0 (l : List (List ST)) (hl : l.length ≤ 1048576) (hb : ∀ b ∈ l, b.length ≤ 1048576) : ∀ d i, i + d = l.length → ∀ k, d < k → impl_Program_copied.l0 k l (l.length : Int) (i : Int) (l.take i) = some l := by
 intro d
 induction d with
 | zero =>
  intro i hi k hk
  obtain ⟨k, rfl⟩ : ∃ m, k = m + 1 := ⟨k - 1, by omega⟩
  have : i = l.length := by omega
  subst this
  simp only [impl_Program_copied.l0]
  rw [if_neg (by omega), List.take_length]
 | succ d ih =>
  intro i hi k hk
  obtain ⟨k, rfl⟩ : ∃ m, k = m + 1 := ⟨k - 1, by omega⟩
  have hlt : i < l.length := by omega
  have hrd : rd_L4 l (i : Int) = l[i] := by simp [rd_L4, List.getD, hlt]
  simp only [impl_Program_copied.l0, hrd, impl_Step_102.f, Option.bind_some, List.nil_append]
  rw [if_pos (by omega), if_pos (by omega), if_pos (by omega), if_pos (by have := hb _ (List.getElem_mem hlt); simp; omega)]
  simp only [Option.bind_some]
  rw [if_pos (by rw [List.length_take]; omega), w64b (by omega) (by omega), show ((i : Int) + 1) = ((i + 1 : Nat) : Int) from rfl]
  have := ih (i + 1) (by omega) k (by omega)
  rw [List.take_add_one, List.getElem?_eq_getElem hlt] at this
  exact this
theorem copied_sat (hS : Sat w0 w Rs) (hr : RdP w s l) (hf : Fits l) :
  Calls Try.prog 59 #[.agg #[.slice s.A s.n s.c]] w (Ret fun r w' => ∃ s' : Sl, r = .agg #[s'.v] ∧ Sat w0 w' (prg w0.heap.size s' l :: Rs)) := by
 have hq : impl_Program_copied.f (l.length + 1) l = some l := by
  have := copied_l0 l hf.len hf.each l.length 0 (by omega) (l.length + 1) (by omega)
  unfold impl_Program_copied.f
  simpa using this
 have := impl_Program_copied.calls (l.length + 1) s.A s.c l l w hr.rd hr.le hq
 rw [← hr.len] at this
 refine this.mono ?_
 rintro e w' ⟨v, rfl, h1, h2⟩
 obtain ⟨s', rfl, h3⟩ := hS.madeS h2 h1
 exact ⟨s', rfl, h3⟩
theorem isFunction_sat {f : Int} (hS : Sat w0 w Rs) (hr : RdP w s l) (hf : Fits l) :
  Calls Try.prog 68 #[.agg #[.slice s.A s.n s.c], .int .i64 f] w (Ret fun r w' => r = .bool (okF l f) ∧ Sat w0 w' Rs) := by
 have hi : ∀ a lo hi : Int, impl_in.f a lo hi = some (decide (lo ≤ a) && decide (a ≤ hi)) := by
  intro a lo hi
  unfold impl_in.f
  by_cases h : lo ≤ a <;> simp [h]
 have := impl_isFunction.calls s.A s.c l f (okF l f) w hr.rd hr.le (by
  simp only [impl_isFunction.f, impl_IsProgram.f, hi, w64b (x := (l.length : Int) - 1) (by have := hf.len; omega) (by have := hf.len; omega), Option.bind_some, and_if]; rfl)
 rw [← hr.len] at this
 refine this.mono ?_
 rintro e w' ⟨rfl, hb⟩
 exact ⟨rfl, Sat.skip hS hb⟩
end
section
def cur (g : ST → ST) (b : List ST) (i : Nat) : List ST := (b.take i).map g ++ b.drop i
variable {g : ST → ST} {b : List ST} {i : Nat} {x : ST}
theorem cur_get (hx : b[i]? = some x) : (cur g b i)[i]? = some x := by
 have hi := (List.getElem?_eq_some_iff.1 hx).1
 have hl : ((b.take i).map g).length = i := by rw [List.length_map, List.length_take]; omega
 unfold cur
 rw [List.getElem?_append_right (by omega), hl, Nat.sub_self, List.getElem?_drop, Nat.add_zero, hx]
theorem cur_succ (hx : b[i]? = some x) : cur g b (i + 1) = (b.take i).map g ++ g x :: b.drop (i + 1) := by
 unfold cur
 rw [List.take_add_one, hx, List.map_append, List.append_assoc]
 rfl
theorem cur_set (hx : b[i]? = some x) : (cur g b i).set i (g x) = cur g b (i + 1) := by
 have hi := (List.getElem?_eq_some_iff.1 hx).1
 have hl : ((b.take i).map g).length = i := by rw [List.length_map, List.length_take]; omega
 rw [cur_succ hx]
 unfold cur
 have e : b.drop i = x :: b.drop (i + 1) := by rw [List.drop_eq_getElem_cons hi, (List.getElem?_eq_some_iff.1 hx).2]
 have := set_mid ((b.take i).map g) x (g x) (b.drop (i + 1))
 rw [hl] at this
 rw [e]
 exact this
theorem cur_same (hx : b[i]? = some x) (hg : g x = x) : cur g b i = cur g b (i + 1) := by
  have h1 := cur_set (g := g) hx
  rw [← h1, hg]
  have h2 := cur_get (g := g) hx
  exact List.ext_getElem? fun j => by
    rw [List.getElem?_set]
    split
    · rename_i hj
      subst hj;rw [if_pos (List.getElem?_eq_some_iff.1 h2).1, h2]
    · rfl
theorem cur_zero : cur g b 0 = b := by simp [cur]
theorem cur_end : cur g b b.length = b.map g := by simp [cur]
end
section
variable {w0 w : World} {Rs : List Asn} {s z : Sl} {l : List (List ST)} {vs : List Sl} {f : Nat} {b : List ST}
theorem nilPrg (h : Sat w0 w Rs) : Sat w0 w (prg w0.heap.size ⟨none, 0, 0⟩ [] :: Rs) := by
 obtain ⟨s, e, h1⟩ := h.madeS (Below.refl _ _) (Kd.S_nil (Kd.slice 68 k68) 69 w w.heap.size (fun _ => True))
 obtain ⟨A, n, c⟩ := s
 simp only [Sl.v, Value.slice.injEq] at e
 obtain ⟨rfl, rfl, rfl⟩ := e
 exact h1
theorem liftPB {F : Nat} {args : Array Value} {L : List (List ST)} {bo : Bool} (hS : Sat w0 w Rs) (h : Calls Try.prog F args w (Ret fun r w' => ∃ s : Sl, r = .tuple #[.agg #[s.v], .bool bo] ∧ Sat w w' [prg w.heap.size s L])) :
  Calls Try.prog F args w (Ret fun r w' => ∃ s : Sl, r = .tuple #[.agg #[s.v], .bool bo] ∧ Sat w0 w' (prg w0.heap.size s L :: Rs)) := by
 refine h.mono ?_
 intro e w' h
 cases e with
 | returned v =>
  obtain ⟨s, rfl, h4⟩ := h
  have h5 : Sat w0 w' (prg w.heap.size s L :: Rs) := hS.comp h4
  exact ⟨s, rfl, h5.turn (i := 0) rfl (prg w0.heap.size s L) (kdS_lower hS.below.size w')⟩
 | _ => exact h.elim
end
end Go.Proofs.Ytbgfiiehjaghiaa.G
namespace Go.Proofs.Ytbgfiiehjaghiaa.G
open Go.RowKit Go.Proofs.YtbgfiiehjaghiaaW.PrintWords Go.Proofs.YtbgfiiehjaghiaaW.PrintLast Go.Proofs.YtbgfiiehjaghiaaW.PrintMore
def spec_l9Place.f (k : Nat) (l0_0 : List (List (S68))) (a1 : Int) (a2 : Int) : Option (Bool) := (spec_l2Program.f k l0_0).bind fun t381 => (if t381 = true then ((spec_l2Function.f l0_0 a1).bind fun t382 => (if t382 = true then (if 0 ≤ a1 then (if a1 < (l0_0.length : Int) then ((spec_l1In.f a2 0 (wrap64 (((rd_L4 l0_0 a1).length : Int) - 1))).bind fun t384 => (some t384)) else (none)) else (none)) else (some false))) else (some false))
def cmp_isNaN_int.f (a0 : Int) : Option (Bool) := some (a0 != a0)
def cmp_Less_int.f (a0 : Int) (a1 : Int) : Option (Bool) := (cmp_isNaN_int.f a0).bind fun t448 => (if t448 = true then ((cmp_isNaN_int.f a1).bind fun t449 => (if t449 = true then (some (decide (a0 < a1))) else (some true))) else (some (decide (a0 < a1))))
end Go.Proofs.Ytbgfiiehjaghiaa.G
