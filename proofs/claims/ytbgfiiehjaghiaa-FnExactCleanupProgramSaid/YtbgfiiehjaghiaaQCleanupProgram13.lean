/- What the claim FnExactCleanupProgram rests on, part 13 of 18; the last part proves it: for every input the law answers true, and its arguments read behind the call as before it. No condition. -/
import Derived.Lib.SliceRun
import Derived.KernelRfl
import Derived.WalkKit
import Derived.Test.YtbgfiiehjaghiaaQCleanupProgram7
import Derived.Test.YtbgfiiehjaghiaaQCleanupProgram8
import Derived.Test.YtbgfiiehjaghiaaQCleanupProgram9
import Derived.Test.YtbgfiiehjaghiaaQCleanupProgram10
import Derived.Test.YtbgfiiehjaghiaaQCleanupProgram11
set_option linter.unusedSimpArgs false
set_option linter.unusedVariables false
set_option maxRecDepth 20000
set_option maxHeartbeats 1000000
namespace Go.Proofs.Ytbgfiiehjaghiaa.G
open Go.RowKit Go.Proofs.YtbgfiiehjaghiaaW.PrintWords Go.Proofs.YtbgfiiehjaghiaaW.PrintLast Go.Proofs.YtbgfiiehjaghiaaW.PrintMore
abbrev ST := S68
def tot {α : Type} : List (List α) → Nat
 | [] => 0
 | b :: l => b.length + tot l
theorem tot_append {α : Type} (l m : List (List α)) : tot (l ++ m) = tot l + tot m := by
 induction l with
 | nil => simp [tot]
 | cons b l ih => simp [tot, ih]; omega
theorem tot_mem {α : Type} {b : List α} {l : List (List α)} (h : b ∈ l) : b.length ≤ tot l := by
 induction l with
 | nil => cases h
 | cons c l ih =>
  rcases List.mem_cons.1 h with rfl | h
  · simp [tot]
  · have := ih h; simp [tot]; omega
theorem eqStepS_l0 (l : List ST) (hn : l.length ≤ 1048576) : ∀ d i, i + d = l.length → ∀ k, d < k → laws_eqStepS.l0 k l l (i : Int) = some true := by
 intro d
 induction d with
 | zero =>
  intro i hi k hk
  obtain ⟨k, rfl⟩ : ∃ m, k = m + 1 := ⟨k - 1, by omega⟩
  simp only [laws_eqStepS.l0]
  rw [if_neg (by omega)]
 | succ d ih =>
  intro i hi k hk
  obtain ⟨k, rfl⟩ : ∃ m, k = m + 1 := ⟨k - 1, by omega⟩
  simp only [laws_eqStepS.l0, laws_eqStep.f]
  rw [if_pos (by omega), if_pos (by omega), if_pos (by omega)]
  simp only [if_true, Option.bind_some]
  rw [w64 (by omega) (by omega), show ((i : Int) + 1) = ((i + 1 : Nat) : Int) from rfl]
  exact ih (i + 1) (by omega) k (by omega)
theorem eqStepS_f (l : List ST) (hn : l.length ≤ 1048576) (k : Nat) (hk : 1048576 < k) : laws_eqStepS.f k l l = some true := by
 unfold laws_eqStepS.f
 rw [if_pos rfl]
 exact eqStepS_l0 l hn l.length 0 (by omega) k (by omega)
theorem eqStepSS_l0 (l : List (List ST)) (hl : ∀ b ∈ l, b.length ≤ 1048576) (hn : l.length ≤ 1048576) : ∀ d i, i + d = l.length → ∀ k, 1048577 + d < k → laws_eqStepSS.l0 k l l (i : Int) = some true := by
 intro d
 induction d with
 | zero =>
  intro i hi k hk
  obtain ⟨k, rfl⟩ : ∃ m, k = m + 1 := ⟨k - 1, by omega⟩
  simp only [laws_eqStepSS.l0]
  rw [if_neg (by omega)]
 | succ d ih =>
  intro i hi k hk
  obtain ⟨k, rfl⟩ : ∃ m, k = m + 1 := ⟨k - 1, by omega⟩
  have hlt : i < l.length := by omega
  have hrd : rd_L4 l (i : Int) = l[i] := by simp [rd_L4, List.getD, hlt]
  simp only [laws_eqStepSS.l0]
  rw [if_pos (by omega), if_pos (by omega), if_pos (by omega), hrd, eqStepS_f _ (hl _ (List.getElem_mem _)) k (by omega)]
  simp only [if_true, Option.bind_some]
  rw [w64 (by omega) (by omega), show ((i : Int) + 1) = ((i + 1 : Nat) : Int) from rfl]
  exact ih (i + 1) (by omega) k (by omega)
theorem eqProgram_f (l : List (List ST)) (hl : ∀ b ∈ l, b.length ≤ 1048576) (hn : l.length ≤ 1048576) (k : Nat) (hk : 2097153 < k) : laws_eqProgram.f k l l = some true := by
 unfold laws_eqProgram.f laws_eqStepSS.f
 rw [if_pos rfl]
 have := eqStepSS_l0 l hl hn l.length 0 (by omega) k (by omega)
 simp only [Int.natCast_zero] at this
 rw [show (0 : Int) = ((0 : Nat) : Int) from rfl, eqStepSS_l0 l hl hn l.length 0 (by omega) k (by omega)]
 rfl
def mkS (a : Int) (n : Nat) : List ST := (List.range n).map fun (j : Nat) => ⟨a + 3 * (j : Int), a + 3 * (j : Int) + 1, a + 3 * (j : Int) + 2⟩
theorem mkS_length (a : Int) (n : Nat) : (mkS a n).length = n := by simp [mkS]
theorem mkS_succ (a : Int) (n : Nat) : mkS a (n + 1) = mkS a n ++ [⟨a + 3 * (n : Int), a + 3 * (n : Int) + 1, a + 3 * (n : Int) + 2⟩] := by simp [mkS, List.range_succ]
theorem set_mid {α : Type} (P : List α) (x y : α) (Q : List α) : (P ++ x :: Q).set P.length y = P ++ y :: Q := by simp
theorem rd_mid (P : List ST) (x : ST) (Q : List ST) : rd_T68 (P ++ x :: Q) (P.length : Int) = x := by simp [rd_T68, List.getD]
theorem markStepS_l0 (l : List ST) (a : Int) (h0 : 0 ≤ a) (hn : l.length ≤ 4194304) (ha : a ≤ 1073741824) : ∀ d i, i + d = l.length → ∀ k, d < k → laws_markStepS.l0 k (mkS a i ++ l.drop i) (a + 3 * (i : Int)) (i : Int) = some (a + 3 * (l.length : Int), mkS a l.length) := by
 intro d
 induction d with
 | zero =>
  intro i hi k hk
  obtain ⟨k, rfl⟩ : ∃ m, k = m + 1 := ⟨k - 1, by omega⟩
  have : i = l.length := by omega
  subst this
  simp only [laws_markStepS.l0]
  rw [if_neg (by simp [mkS_length]), List.drop_length, List.append_nil]
 | succ d ih =>
  intro i hi k hk
  obtain ⟨k, rfl⟩ : ∃ m, k = m + 1 := ⟨k - 1, by omega⟩
  have hlt : i < l.length := by omega
  simp only [laws_markStepS.l0]
  rw [if_pos (by simp [mkS_length]; omega), if_pos (by omega), List.drop_eq_getElem_cons hlt]
  simp only [Option.bind_some]
  have hi2 : (i : Int).toNat = (mkS a i).length := by rw [mkS_length]; omega
  have hi3 : (i : Int) = ((mkS a i).length : Int) := by rw [mkS_length]
  rw [hi2, set_mid, set_mid, set_mid]
  rw [w64 (x := a + 3 * (i : Int) + 1) (by omega) (by omega), w64 (x := a + 3 * (i : Int) + 1 + 1) (by omega) (by omega), w64 (x := a + 3 * (i : Int) + 1 + 1 + 1) (by omega) (by omega), w64 (x := (i : Int) + 1) (by omega) (by omega)]
  have key := ih (i + 1) (by omega) k (by omega)
  rw [mkS_succ] at key
  rw [hi3]
  simp only [rd_mid]
  rw [← hi3]
  rw [List.append_assoc, List.cons_append, List.nil_append] at key
  rw [show a + 3 * (i : Int) + 1 + 1 + 1 = a + 3 * ((i + 1 : Nat) : Int) by omega, show (i : Int) + 1 = ((i + 1 : Nat) : Int) from rfl, show a + 3 * (i : Int) + 1 + 1 = a + 3 * (i : Int) + 2 by omega]
  exact key
theorem markStepS_f (l : List ST) (a : Int) (h0 : 0 ≤ a) (hn : l.length ≤ 4194304) (ha : a ≤ 1073741824) (k : Nat) (hk : l.length < k) : laws_markStepS.f k l a = some (a + 3 * (l.length : Int), mkS a l.length) := by
 have := markStepS_l0 l a h0 hn ha l.length 0 (by omega) k (by omega)
 unfold laws_markStepS.f
 simpa [mkS] using this
theorem heldStepS_l0 (a : Int) (n : Nat) (h0 : 0 ≤ a) (hn : n ≤ 4194304) (ha : a ≤ 1073741824) : ∀ d i, i + d = n → ∀ k, d < k → laws_heldStepS.l0 k (mkS a n) (a + 3 * (i : Int)) (i : Int) = some (a + 3 * (n : Int)) := by
 intro d
 induction d with
 | zero =>
  intro i hi k hk
  obtain ⟨k, rfl⟩ : ∃ m, k = m + 1 := ⟨k - 1, by omega⟩
  have : i = n := by omega
  subst this
  simp only [laws_heldStepS.l0]
  rw [if_neg (by simp [mkS_length])]
 | succ d ih =>
  intro i hi k hk
  obtain ⟨k, rfl⟩ : ∃ m, k = m + 1 := ⟨k - 1, by omega⟩
  have hrd : rd_T68 (mkS a n) (i : Int) = ⟨a + 3 * (i : Int), a + 3 * (i : Int) + 1, a + 3 * (i : Int) + 2⟩ := by
   simp [rd_T68, mkS, List.getD, show i < n by omega]
  simp only [laws_heldStepS.l0, hrd]
  rw [w64 (x := a + 3 * (i : Int) + 1) (by omega) (by omega), w64 (x := a + 3 * (i : Int) + 1 + 1) (by omega) (by omega), w64 (x := a + 3 * (i : Int) + 1 + 1 + 1) (by omega) (by omega), w64 (x := (i : Int) + 1) (by omega) (by omega)]
  rw [if_pos (by rw [mkS_length]; omega), if_pos (by omega)]
  simp only [if_true]
  rw [if_pos (by omega), show a + 3 * (i : Int) + 1 + 1 + 1 = a + 3 * ((i + 1 : Nat) : Int) by omega, show (i : Int) + 1 = ((i + 1 : Nat) : Int) from rfl]
  exact ih (i + 1) (by omega) k (by omega)
theorem heldStepS_f (a : Int) (n : Nat) (h0 : 0 ≤ a) (hn : n ≤ 4194304) (ha : a ≤ 1073741824) (k : Nat) (hk : n < k) : laws_heldStepS.f k (mkS a n) a = some (a + 3 * (n : Int)) := by
 have := heldStepS_l0 a n h0 hn ha n 0 (by omega) k (by omega)
 unfold laws_heldStepS.f
 simpa using this
def mkSS (a : Int) : List (List ST) → List (List ST)
 | [] => []
 | b :: l => mkS a b.length :: mkSS (a + 3 * (b.length : Int)) l
theorem mkSS_length (a : Int) (l : List (List ST)) : (mkSS a l).length = l.length := by
 induction l generalizing a with
 | nil => rfl
 | cons b l ih => simp [mkSS, ih]
theorem mkSS_snoc (a : Int) (l : List (List ST)) (b : List ST) : mkSS a (l ++ [b]) = mkSS a l ++ [mkS (a + 3 * (tot l : Int)) b.length] := by
 induction l generalizing a with
 | nil => simp [mkSS, tot]
 | cons c l ih =>
  simp only [List.cons_append, mkSS, ih, tot]
  congr 4
  omega
theorem heldStepSS_l0 (l : List (List ST)) : ∀ (P : List (List ST)) (a : Int), 0 ≤ a → P.length + l.length ≤ 4194304 → a + 3 * (tot l : Int) ≤ 1073741824 → tot l ≤ 4194304 → ∀ k, 4194304 + l.length < k → laws_heldStepSS.l0 k (P ++ mkSS a l) a (P.length : Int) = some (a + 3 * (tot l : Int)) := by
 induction l with
 | nil =>
  intro P a h0 hn ha ht k hk
  obtain ⟨k, rfl⟩ : ∃ m, k = m + 1 := ⟨k - 1, by omega⟩
  simp only [laws_heldStepSS.l0, mkSS, List.append_nil, tot]
  rw [if_neg (by omega)]
  simp
 | cons b l ih =>
  intro P a h0 hn ha ht k hk
  obtain ⟨k, rfl⟩ : ∃ m, k = m + 1 := ⟨k - 1, by omega⟩
  simp only [tot, List.length_cons] at hn ha ht hk ⊢
  have hrd : rd_L4 (P ++ mkSS a (b :: l)) (P.length : Int) = mkS a b.length := by simp [rd_L4, mkSS, List.getD]
  simp only [laws_heldStepSS.l0, hrd]
  rw [if_pos (by simp [mkSS]; omega), if_pos (by omega), heldStepS_f a b.length h0 (by omega) (by omega) k (by omega)]
  simp only [Option.bind_some]
  rw [if_neg (by omega), w64 (by omega) (by omega)]
  have := ih (P ++ [mkS a b.length]) (a + 3 * (b.length : Int)) (by omega) (by simp; omega) (by omega) (by omega) k (by omega)
  rw [List.append_assoc] at this
  simp only [List.singleton_append, List.length_append, List.length_singleton, Int.natCast_add, Int.natCast_one] at this
  simp only [mkSS]
  rw [this]
  congr 1
  omega
theorem heldProgram_f (l : List (List ST)) (hn : l.length ≤ 4194304) (ht : tot l ≤ 4194304) (k : Nat) (hk : 8388608 < k) : laws_heldProgram.f k (mkSS 1 l) 1 = some (1 + 3 * (tot l : Int)) := by
 have := heldStepSS_l0 l [] 1 (by omega) (by simp; omega) (by omega) ht k (by omega)
 unfold laws_heldProgram.f laws_heldStepSS.f
 simp only [List.nil_append, List.length_nil, Int.natCast_zero] at this
 rw [this]
 simp only [Option.bind_some]
 rw [if_neg (by omega)]
end Go.Proofs.Ytbgfiiehjaghiaa.G
namespace Go.Proofs.Ytbgfiiehjaghiaa.G
open Go.RowKit Go.Proofs.Ytbgfiiehjaghiaa.SX Go.Proofs.YtbgfiiehjaghiaaW.PrintWords Go.Proofs.YtbgfiiehjaghiaaW.PrintLast Go.Proofs.YtbgfiiehjaghiaaW.PrintMore
theorem sl_list {α : Type} (us : List (Value × α)) (h : ∀ x ∈ us, ∃ z : Sl, x.1 = z.v) : ∃ vs : List Sl, us.map (·.1) = vs.map Sl.v := by
 induction us with
 | nil => exact ⟨[], rfl⟩
 | cons x us ih =>
  obtain ⟨vs, h1⟩ := ih fun y hy => h y (List.mem_cons_of_mem _ hy)
  obtain ⟨z, h2⟩ := h x List.mem_cons_self
  exact ⟨z :: vs, by rw [List.map_cons, List.map_cons, h1, h2]⟩
theorem map_set_same {α β : Type} (us : List (α × β)) (i : Nat) (x y : α × β) (hx : us[i]? = some x) (h : y.1 = x.1) : (us.set i y).map (·.1) = us.map (·.1) := by
  apply List.ext_getElem?
  intro j
  rw [List.map_set, List.getElem?_set]
  split
  · rename_i hj
    subst hj;have h3 : (us.map (·.1))[i]? = some x.1 := by rw [List.getElem?_map, hx]; rfl
    rw [h3, h];rw [if_pos (List.getElem?_eq_some_iff.1 h3).1]
  · rfl
theorem _root_.Go.Proofs.Ytbgfiiehjaghiaa.SX.Sat.kdTurn {w0 w : World} {Rs : List Asn} {α : Type} {d : Kd α} {e : Nat} {v : Value} {l : List α} (h : Sat w0 w (kdP w0.heap.size d e v l :: Rs)) :
    ∃ F : Nat → Prop, d.R e w w0.heap.size F v l ∧ ∀ (w' : World) (l' : List α), Below w0.heap.size w0 w' → Kept w w' F → d.R e w' w0.heap.size (fun k => F k ∨ w.heap.size ≤ k) v l' → Sat w0 w' (kdP w0.heap.size d e v l' :: Rs) := by
  obtain ⟨hb, F, h1, h2, h3⟩ := h
  obtain ⟨g1, g2⟩ := h1 0 _ rfl
  refine ⟨F 0, g2, fun w' l' hb' hk hR => ?_⟩
  refine ⟨hb', fun j b => match j with | 0 => F 0 b ∨ (w.heap.size ≤ b ∧ b < w'.heap.size) | j + 1 => F (j + 1) b, fun j S hj => ?_, fun i j b hi hj => ?_, fun j b hj => ?_⟩
  · match j with
    | 0 =>
      simp at hj
      subst hj;refine ⟨fun k hk2 => ?_, Kd.R_mono (Kd.R_bound hR) fun k hk2 => ?_⟩
      · rcases hk2 with h | h
        · have := g1 k h; have := hk.1; omega
        · exact h.2
      · rcases hk2.1 with h | h
        · exact .inl h
        · exact .inr ⟨h, hk2.2.2.1⟩
    | j + 1 =>
      refine S.loc w w' _ hk.1 (h1 (j + 1) S hj) fun b hF => hk.2 b (h3 _ b hF).2 fun h0 => ?_;have := h2 _ _ b hF h0
      omega
  · match i, j with
    | 0, 0 => rfl
    | 0, j + 1 =>
      rcases hi with h | h
      · exact h2 _ _ b h hj
      · have := (h3 _ b hj).2; omega
    | i + 1, 0 =>
      rcases hj with h | h
      · exact h2 _ _ b hi h
      · have := (h3 _ b hi).2; omega
    | i + 1, j + 1 => exact h2 _ _ b hi hj
  · have hs : w.heap.size ≤ w'.heap.size := hk.1
    have hs0 : w0.heap.size ≤ w.heap.size := hb.size
    match j with
    | 0 =>
      rcases hj with h | h
      · have := h3 _ b h; omega
      · omega
    | j + 1 => have := h3 _ b hj; omega
theorem markStepS_sat {w0 w : World} {Rs : List Asn} {s : Sl} {l : List ST} {a : Int} (hS : Sat w0 w (kdP w0.heap.size k68 68 s.v l :: Rs)) (h0 : 0 ≤ a) (hn : l.length ≤ 4194304) (ha : a ≤ 1073741824) :
  Calls Try.prog 104 #[.slice s.A s.n s.c, .int .i64 a] w (Ret fun r w' => r = .int .i64 (a + 3 * (l.length : Int)) ∧ Sat w0 w' (kdP w0.heap.size k68 68 s.v (mkS a l.length) :: Rs)) := by
 obtain ⟨F, hR, hT⟩ := hS.kdTurn
 refine (laws_markStepS.calls (l.length + 1) F s.v l a _ _ w0 w hS.below hR (markStepS_f l a h0 hn ha _ (by omega))).mono ?_
 rintro e w' ⟨rfl, h1, h2, h3⟩
 exact ⟨rfl, hT w' _ h2 h3 h1⟩
theorem code61 : Try.f61.body = some (Code.seq (Code.region 0 (jW Try.f61 0) false) (Code.seq (Code.seq (Code.region 1 (jW Try.f61 1) false) (Code.block 0 (Code.loop (Code.seq (Code.seq (Code.region 2 (jW Try.f61 2) false) (Code.cond (Operand.tmp 9) Code.skip (Code.exit 0))) (Code.seq (Code.block 1 (Code.region 4 (jW Try.f61 4) false)) (Code.region 3 (jW Try.f61 3) false)))))) (Code.seq (Code.region 5 (jW Try.f61 5) false) Code.ret))) := by kernel_rfl
theorem markStepSS_sat (w0 w : World) (Rs : List Asn) (s0 : Sl) (l : List (List S68)) (x0 : Int) (hS0 : Sat w0 w (kdS w0.heap.size k68 68 69 s0 l :: Rs)) (h0 : 0 ≤ x0) (hn : l.length ≤ 4194304) (ht : tot l ≤ 4194304) (ha1 : x0 ≤ 1048576) :
  Calls Try.prog 61 #[.slice s0.A s0.n s0.c, .int .i64 x0] w (Ret fun r w' => r = .int .i64 (x0 + 3 * (tot l : Int)) ∧ Sat w0 w' (kdS w0.heap.size k68 68 69 s0 (mkSS x0 l) :: Rs)) := by
 have hlen0 : s0.n = l.length := (hS0.rdS 0 rfl).len
 obtain ⟨us, hus, hso, hS⟩ := hS0.openS
 obtain ⟨vs, hfs⟩ : ∃ vs : List Sl, us.map (·.1) = vs.map Sl.v := sl_list us hso
 rw [show us.map Prod.fst = vs.map Sl.v from hfs] at hS
 refine enter (n := 19) Try.func61 code61 (by kernel_rfl) (Nat.le_of_ble_eq_true rfl) (fun a ha => ?_)
 replace ha : Has 19 [(0, .slice s0.A s0.n s0.c), (1, .int .i64 x0)] a := ha
 refine wp_seq ?_
 refine p_begin ?_
 refine p_val (v := .int .i64 0) ha (by decide) (jV ha (At.here (by kernel_rfl : ((jW Try.f61 0)[0]?).map spec = some ((Op.assign (Operand.const (Value.int IntKind.i64 0))), some 4, 3, none))) (by kernel_rfl) (fun _ => by kernel_rfl)) (fun a1 ha2 => ?_)
 refine jZ ?_
 have ha3 := ha2.keeps [0, 1, 4] [(0, .slice s0.A s0.n s0.c), (1, .int .i64 x0), (4, .int .i64 0)] rfl
 clear ha2 ha a
 refine jQ (wp_seq (wp_seq ?_))
 refine p_begin ?_
 refine p_val (v := .int .i64 0) ha3 (by decide) (jV ha3 (At.here (by kernel_rfl : ((jW Try.f61 1)[0]?).map spec = some ((Op.assign (Operand.const (Value.int IntKind.i64 0))), some 5, 3, none))) (by kernel_rfl) (fun _ => by kernel_rfl)) (fun a4 ha5 => ?_)
 refine jZ ?_
 have ha6 := ha5.keeps [0, 1, 4, 5] [(0, .slice s0.A s0.n s0.c), (1, .int .i64 x0), (4, .int .i64 0), (5, .int .i64 0)] rfl
 clear ha5 ha3 a1
 refine jQ (wp_block ?_)
 have e0 : x0 = x0 + 3 * (tot (l.take 0) : Int) := by simp [tot]
 have ha7 : Has 19 [(0, .slice s0.A s0.n s0.c), (1, .int .i64 (x0 + 3 * (tot (l.take 0) : Int))), (5, .int .i64 ((0 : Nat) : Int))] a4 := by have hh := ha6.keeps [0, 1, 5] _ rfl; rw [← e0]; exact hh
 refine wp_loop_ghost (fun n_ a_ w_ => ∃ (i : Nat) (us : List (Value × List S68)), n_ = l.length - i ∧ (i ≤ l.length) ∧ (us.map (·.2) = mkSS x0 (l.take i) ++ l.drop i) ∧ (us.map (·.1) = vs.map Sl.v) ∧ Has 19 [(0, .slice s0.A s0.n s0.c), (1, .int .i64 (x0 + 3 * (tot (l.take i) : Int))), (5, .int .i64 (i : Int))] a_ ∧ Sat w0 w_ ((SX.row (.slice s0.A s0.n s0.c) 69 1 (vs.map Sl.v)) :: (jK (us.map fun (x : Value × List S68) => kdP w0.heap.size k68 68 x.1 x.2)) :: Rs)) _ ⟨0, us, rfl, Nat.zero_le _, by simpa [mkSS] using hus, hfs, ha7.keeps [0, 1, 5] _ rfl, hS⟩ ?_
 rintro n_ a8 w9 ⟨i, us, rfl, hi, hus, hfs, ha10, hS11⟩
 refine wp_seq (wp_seq ?_)
 refine p_begin ?_
 refine p_val (v := .int .i64 (i : Int)) ha10 (by decide) (jV ha10 (At.here (by kernel_rfl : ((jW Try.f61 2)[0]?).map spec = some ((Op.move (Operand.tmp 5)), some 6, 3, none))) (by kernel_rfl) (fun _ => by kernel_rfl)) (fun a12 ha13 => ?_)
 refine p_val (v := .slice s0.A s0.n s0.c) ha13 (by decide) (jV ha13 (At.here (by kernel_rfl : ((jW Try.f61 2)[1]?).map spec = some ((Op.move (Operand.tmp 0)), some 7, 26, none))) (by kernel_rfl) (fun _ => by kernel_rfl)) (fun a14 ha15 => ?_)
 refine p_val (v := .int .i64 (s0.n : Int)) ha15 (by decide) (jV ha15 (At.here (by kernel_rfl : ((jW Try.f61 2)[2]?).map spec = some ((Op.call { callee := (Callee.builtin Builtin.len), args := #[(Operand.tmp 7)], argTypes := #[26] }), some 8, 3, none))) (by kernel_rfl) (fun _ => by kernel_rfl)) (fun a16 ha17 => ?_)
 refine p_val (v := .bool (decide ((i : Int) < (s0.n : Int)))) ha17 (by decide) (jV ha17 (At.here (by kernel_rfl : ((jW Try.f61 2)[3]?).map spec = some ((Op.binOp BinOp.lss 3 (Operand.tmp 6) (Operand.tmp 8) 3), some 9, 4, none))) (by kernel_rfl) (fun _ => by kernel_rfl)) (fun a18 ha19 => ?_)
 refine jZ ?_
 have ha20 := ha19.keeps [0, 1, 5, 6, 7, 8, 9] [(0, .slice s0.A s0.n s0.c), (1, .int .i64 (x0 + 3 * (tot (l.take i) : Int))), (5, .int .i64 (i : Int)), (6, .int .i64 (i : Int)), (7, .slice s0.A s0.n s0.c), (8, .int .i64 (s0.n : Int)), (9, .bool (decide ((i : Int) < (s0.n : Int))))] rfl
 clear ha19 ha17 a16 ha15 a14 ha13 a12 ha10 a8
 refine jQ ?_
 by_cases c21 : (i : Int) < (s0.n : Int)
 ·
  have ha22 : Has 19 [(0, .slice s0.A s0.n s0.c), (1, .int .i64 (x0 + 3 * (tot (l.take i) : Int))), (5, .int .i64 (i : Int)), (6, .int .i64 (i : Int)), (7, .slice s0.A s0.n s0.c), (8, .int .i64 (s0.n : Int)), (9, .bool true)] a18 := by have hh : Has 19 [(0, .slice s0.A s0.n s0.c), (1, .int .i64 (x0 + 3 * (tot (l.take i) : Int))), (5, .int .i64 (i : Int)), (6, .int .i64 (i : Int)), (7, .slice s0.A s0.n s0.c), (8, .int .i64 (s0.n : Int)), (9, .bool (decide ((i : Int) < (s0.n : Int))))] a18 := ha20.keeps [0, 1, 5, 6, 7, 8, 9] _ rfl; simp only [decide_eq_true c21, Bool.not_true, Bool.not_false] at hh; exact hh
  have hlt : i < l.length := by have := c21; omega
  obtain ⟨b, hb⟩ : ∃ b, l[i]? = some b := ⟨_, List.getElem?_eq_getElem hlt⟩
  have htake : l.take (i + 1) = l.take i ++ [b] := by rw [List.take_add_one, hb]; rfl
  have hdrop : l.drop i = b :: l.drop (i + 1) := by rw [List.drop_eq_getElem_cons hlt, (List.getElem?_eq_some_iff.1 hb).2]
  have htl : tot (l.take i) + b.length ≤ tot l := by have h1 : tot l = tot (l.take i) + tot (l.drop i) := (by rw [← tot_append, List.take_append_drop]); rw [h1, hdrop]; simp only [tot]; omega
  have hb1 : b.length ≤ 4194304 := by omega
  have hmi : (mkSS x0 (l.take i)).length = i := by rw [mkSS_length, List.length_take]; omega
  have hlv : vs.length = l.length := by have h1 := congrArg List.length hus; have h2 := congrArg List.length hfs; simp [mkSS_length] at h1 h2; omega
  obtain ⟨x, hx, hxb⟩ : ∃ x, us[i]? = some x ∧ x.2 = b := by
   have h3 : (us.map (·.2))[i]? = some b := by rw [hus, List.getElem?_append_right (by omega), hmi, Nat.sub_self, hdrop]; rfl
   rw [List.getElem?_map] at h3;exact Option.map_eq_some_iff.1 h3
  obtain ⟨z, hz, hxz⟩ : ∃ z : Sl, (vs.map Sl.v)[i]? = some z.v ∧ x.1 = z.v := by
   have h3 : (us.map (·.1))[i]? = some x.1 := by rw [List.getElem?_map, hx]; rfl
   rw [hfs] at h3;obtain ⟨z, h4, h5⟩ := List.mem_map.1 (List.mem_of_getElem? h3);exact ⟨z, by rw [h3, h5], h5.symm⟩
  obtain rfl : x = (z.v, b) := Prod.ext hxz hxb
  have hus2 : (us.set i (z.v, mkS (x0 + 3 * (tot (l.take i) : Int)) b.length)).map (·.2) = mkSS x0 (l.take (i + 1)) ++ l.drop (i + 1) := by
   rw [List.map_set, hus, htake, mkSS_snoc, hdrop, List.append_assoc];have := set_mid (mkSS x0 (l.take i)) b (mkS (x0 + 3 * (tot (l.take i) : Int)) b.length) (l.drop (i + 1));rw [hmi] at this;exact this
  have hfs2 : (us.set i (z.v, mkS (x0 + 3 * (tot (l.take i) : Int)) b.length)).map (·.1) = vs.map Sl.v := (map_set_same us i _ (z.v, mkS (x0 + 3 * (tot (l.take i) : Int)) b.length) hx rfl).trans hfs
  refine qX ha22 rfl rfl ?_
  refine wp_skip (jQ (wp_seq (wp_block ?_)))
  refine p_begin ?_
  refine p_val (v := .slice s0.A s0.n s0.c) ha22 (by decide) (jV ha22 (At.here (by kernel_rfl : ((jW Try.f61 4)[0]?).map spec = some ((Op.move (Operand.tmp 0)), some 12, 26, none))) (by kernel_rfl) (fun _ => by kernel_rfl)) (fun a23 ha24 => ?_)
  refine p_val (v := .int .i64 (i : Int)) ha24 (by decide) (jV ha24 (At.here (by kernel_rfl : ((jW Try.f61 4)[1]?).map spec = some ((Op.move (Operand.tmp 5)), some 13, 3, none))) (by kernel_rfl) (fun _ => by kernel_rfl)) (fun a25 ha26 => ?_)
  refine p_val (v := .pointer (some ⟨bk s0, of_ s0 + i * 1, none⟩)) ha26 (by decide) (xW (s := s0) (el := 69) (sz := 1) (j := i) ha26 (At.here (by kernel_rfl : ((jW Try.f61 4)[2]?).map spec = some ((Op.indexAddr 26 (Operand.tmp 12) (Operand.tmp 13)), some 14, 0, none))) rfl rfl (by kernel_rfl) (by kernel_rfl) (((hS11).rdV (T := 69) (s := s0) 0 rfl).cells i (by rw [List.length_map, hlv]; exact hlt)).1 rfl (by rw [hlen0]; exact hlt)) (fun a27 ha28 => ?_)
  refine p_val (v := .slice z.A z.n z.c) ha28 (by decide) (xU (v := .slice z.A z.n z.c) (p := ⟨bk s0, of_ s0 + i * 1, none⟩) ha28 (At.here (by kernel_rfl : ((jW Try.f61 4)[3]?).map spec = some ((Op.load 69 (Operand.tmp 14)), some 15, 69, none))) rfl (by kernel_rfl) (fun w' hw => by rw [hw, Nat.mul_one]; exact (((hS11).rdV (T := 69) (s := s0) 0 rfl).cells i (by rw [List.length_map, hlv]; exact hlt)).2.trans hz)) (fun a29 ha30 => ?_)
  refine p_val (v := .int .i64 (x0 + 3 * (tot (l.take i) : Int))) ha30 (by decide) (jV ha30 (At.here (by kernel_rfl : ((jW Try.f61 4)[4]?).map spec = some ((Op.move (Operand.tmp 1)), some 16, 3, none))) (by kernel_rfl) (fun _ => by kernel_rfl)) (fun a31 ha32 => ?_)
  have hS37 : Sat w0 w9 ((kdP w0.heap.size k68 68 z.v b) :: (jK ((us.eraseIdx i).map fun (x : Value × List S68) => kdP w0.heap.size k68 68 x.1 x.2)) :: (SX.row (.slice s0.A s0.n s0.c) 69 1 (vs.map Sl.v)) :: Rs) := Sat.takeAt (g := fun (x : Value × List S68) => kdP w0.heap.size k68 68 x.1 x.2) hx (hS11.pickR (l := [SX.row (.slice s0.A s0.n s0.c) 69 1 (vs.map Sl.v), jK (us.map fun (x : Value × List S68) => kdP w0.heap.size k68 68 x.1 x.2)]) [1, 0] (by decide) [jK (us.map fun (x : Value × List S68) => kdP w0.heap.size k68 68 x.1 x.2), SX.row (.slice s0.A s0.n s0.c) 69 1 (vs.map Sl.v)] rfl)
  refine jU (o_ret (Post := fun r w' => r = .int .i64 (x0 + 3 * (tot (l.take i) : Int) + 3 * (b.length : Int)) ∧ Sat w0 w' ((kdP w0.heap.size k68 68 z.v (mkS (x0 + 3 * (tot (l.take i) : Int)) b.length)) :: (jK ((us.eraseIdx i).map fun (x : Value × List S68) => kdP w0.heap.size k68 68 x.1 x.2)) :: (SX.row (.slice s0.A s0.n s0.c) 69 1 (vs.map Sl.v)) :: Rs)) ha32 (by decide) (At.here (by kernel_rfl : ((jW Try.f61 4)[5]?).map spec = some ((Op.call { callee := (Callee.value (Operand.func 104)), args := #[(Operand.tmp 15), (Operand.tmp 16)], argTypes := #[69, 3] }), some 17, 3, none))) rfl Try.func104 (by kernel_rfl) (markStepS_sat hS37 (by omega) hb1 (by omega)) (fun v38 w35 a33 hp39 ha34 => ?_))
  obtain ⟨rfl, hS36⟩ := hp39
  have ha40 : Has 19 [(0, .slice s0.A s0.n s0.c), (1, .int .i64 (x0 + 3 * (tot (l.take i) : Int))), (5, .int .i64 (i : Int)), (6, .int .i64 (i : Int)), (7, .slice s0.A s0.n s0.c), (8, .int .i64 (s0.n : Int)), (9, .bool true), (12, .slice s0.A s0.n s0.c), (13, .int .i64 (i : Int)), (14, .pointer (some ⟨bk s0, of_ s0 + i * 1, none⟩)), (15, .slice z.A z.n z.c), (16, .int .i64 (x0 + 3 * (tot (l.take i) : Int))), (17, .int .i64 (x0 + 3 * (tot (l.take i) : Int) + 3 * (b.length : Int)))] a33 := ha34.keeps [0, 1, 5, 6, 7, 8, 9, 12, 13, 14, 15, 16, 17] _ rfl
  refine p_val (v := .int .i64 (x0 + 3 * (tot (l.take i) : Int) + 3 * (b.length : Int))) ha40 (by decide) (jV ha40 (At.here (by kernel_rfl : ((jW Try.f61 4)[6]?).map spec = some ((Op.assign (Operand.tmp 17)), some 1, 3, none))) (by kernel_rfl) (fun _ => by kernel_rfl)) (fun a41 ha42 => ?_)
  refine jZ ?_
  have ha43 := ha42.keeps [0, 5, 6, 7, 8, 9, 12, 13, 14, 15, 16, 17, 1] [(0, .slice s0.A s0.n s0.c), (5, .int .i64 (i : Int)), (6, .int .i64 (i : Int)), (7, .slice s0.A s0.n s0.c), (8, .int .i64 (s0.n : Int)), (9, .bool true), (12, .slice s0.A s0.n s0.c), (13, .int .i64 (i : Int)), (14, .pointer (some ⟨bk s0, of_ s0 + i * 1, none⟩)), (15, .slice z.A z.n z.c), (16, .int .i64 (x0 + 3 * (tot (l.take i) : Int))), (17, .int .i64 (x0 + 3 * (tot (l.take i) : Int) + 3 * (b.length : Int))), (1, .int .i64 (x0 + 3 * (tot (l.take i) : Int) + 3 * (b.length : Int)))] rfl
  clear ha42 ha40 a33 ha34 hS37 ha32 a31 hS11 ha30 a29 ha28 a27 ha26 a25 ha24 a23 ha22 a18 ha20
  refine in_n (jQ ?_)
  refine p_begin ?_
  refine p_val (v := .int .i64 (i : Int)) ha43 (by decide) (jV ha43 (At.here (by kernel_rfl : ((jW Try.f61 3)[0]?).map spec = some ((Op.move (Operand.tmp 5)), some 10, 3, none))) (by kernel_rfl) (fun _ => by kernel_rfl)) (fun a44 ha45 => ?_)
  refine p_val (v := .int .i64 ((i : Int) + 1)) ha45 (by decide) ((jV (v := .int .i64 (IntKind.i64.wrap ((i : Int) + 1))) ha45 (At.here (by kernel_rfl : ((jW Try.f61 3)[1]?).map spec = some ((Op.binOp BinOp.add 3 (Operand.tmp 10) (Operand.const (Value.int IntKind.i64 1)) 3), some 11, 3, none))) (by kernel_rfl) (fun _ => by kernel_rfl)).as (by rw [wrap_i64 (by omega) (by omega)])) (fun a46 ha47 => ?_)
  refine p_val (v := .int .i64 ((i : Int) + 1)) ha47 (by decide) (jV ha47 (At.here (by kernel_rfl : ((jW Try.f61 3)[2]?).map spec = some ((Op.assign (Operand.tmp 11)), some 5, 3, none))) (by kernel_rfl) (fun _ => by kernel_rfl)) (fun a48 ha49 => ?_)
  refine jZ ?_
  have ha50 := ha49.keeps [0, 6, 7, 8, 9, 12, 13, 14, 15, 16, 17, 1, 10, 11, 5] [(0, .slice s0.A s0.n s0.c), (6, .int .i64 (i : Int)), (7, .slice s0.A s0.n s0.c), (8, .int .i64 (s0.n : Int)), (9, .bool true), (12, .slice s0.A s0.n s0.c), (13, .int .i64 (i : Int)), (14, .pointer (some ⟨bk s0, of_ s0 + i * 1, none⟩)), (15, .slice z.A z.n z.c), (16, .int .i64 (x0 + 3 * (tot (l.take i) : Int))), (17, .int .i64 (x0 + 3 * (tot (l.take i) : Int) + 3 * (b.length : Int))), (1, .int .i64 (x0 + 3 * (tot (l.take i) : Int) + 3 * (b.length : Int))), (10, .int .i64 (i : Int)), (11, .int .i64 ((i : Int) + 1)), (5, .int .i64 ((i : Int) + 1))] rfl
  clear ha49 ha47 a46 ha45 a44 ha43 a41
  refine jQ ?_
  have hS51 : Sat w0 w35 ((kdP w0.heap.size k68 68 z.v (mkS (x0 + 3 * (tot (l.take i) : Int)) b.length)) :: (jK ((us.eraseIdx i).map fun (x : Value × List S68) => kdP w0.heap.size k68 68 x.1 x.2)) :: (SX.row (.slice s0.A s0.n s0.c) 69 1 (vs.map Sl.v)) :: Rs) := hS36.pickR (l := [kdP w0.heap.size k68 68 z.v (mkS (x0 + 3 * (tot (l.take i) : Int)) b.length), jK ((us.eraseIdx i).map fun (x : Value × List S68) => kdP w0.heap.size k68 68 x.1 x.2), SX.row (.slice s0.A s0.n s0.c) 69 1 (vs.map Sl.v)]) [0, 1, 2] (by decide) [kdP w0.heap.size k68 68 z.v (mkS (x0 + 3 * (tot (l.take i) : Int)) b.length), jK ((us.eraseIdx i).map fun (x : Value × List S68) => kdP w0.heap.size k68 68 x.1 x.2), SX.row (.slice s0.A s0.n s0.c) 69 1 (vs.map Sl.v)] rfl
  have hS52 : Sat w0 w35 ((jK ((us.set i (z.v, mkS (x0 + 3 * (tot (l.take i) : Int)) b.length)).map fun (x : Value × List S68) => kdP w0.heap.size k68 68 x.1 x.2)) :: (SX.row (.slice s0.A s0.n s0.c) 69 1 (vs.map Sl.v)) :: Rs) := Sat.putAt (g := fun (x : Value × List S68) => kdP w0.heap.size k68 68 x.1 x.2) (y := (z.v, mkS (x0 + 3 * (tot (l.take i) : Int)) b.length)) hx hS51
  have hS53 : Sat w0 w35 ((SX.row (.slice s0.A s0.n s0.c) 69 1 (vs.map Sl.v)) :: (jK ((us.set i (z.v, mkS (x0 + 3 * (tot (l.take i) : Int)) b.length)).map fun (x : Value × List S68) => kdP w0.heap.size k68 68 x.1 x.2)) :: Rs) := hS52.pickR (l := [jK ((us.set i (z.v, mkS (x0 + 3 * (tot (l.take i) : Int)) b.length)).map fun (x : Value × List S68) => kdP w0.heap.size k68 68 x.1 x.2), SX.row (.slice s0.A s0.n s0.c) 69 1 (vs.map Sl.v)]) [1, 0] (by decide) [SX.row (.slice s0.A s0.n s0.c) 69 1 (vs.map Sl.v), jK ((us.set i (z.v, mkS (x0 + 3 * (tot (l.take i) : Int)) b.length)).map fun (x : Value × List S68) => kdP w0.heap.size k68 68 x.1 x.2)] rfl
  have e1 : x0 + 3 * (tot (l.take i) : Int) + 3 * (b.length : Int) = x0 + 3 * (tot (l.take (i + 1)) : Int) := by rw [htake, tot_append]; simp only [tot]; omega
  have ha54 : Has 19 [(0, .slice s0.A s0.n s0.c), (1, .int .i64 (x0 + 3 * (tot (l.take (i + 1)) : Int))), (5, .int .i64 ((i + 1 : Nat) : Int))] a48 := by have hh := ha50.keeps [0, 1, 5] _ rfl; rw [← e1]; exact hh
  exact ⟨_, by omega, i + 1, (us.set i (z.v, mkS (x0 + 3 * (tot (l.take i) : Int)) b.length)), rfl, by omega, hus2, hfs2, ha54.keeps [0, 1, 5] _ rfl, hS53⟩
 have ha55 : Has 19 [(0, .slice s0.A s0.n s0.c), (1, .int .i64 (x0 + 3 * (tot (l.take i) : Int))), (5, .int .i64 (i : Int)), (6, .int .i64 (i : Int)), (7, .slice s0.A s0.n s0.c), (8, .int .i64 (s0.n : Int)), (9, .bool false)] a18 := by have hh : Has 19 [(0, .slice s0.A s0.n s0.c), (1, .int .i64 (x0 + 3 * (tot (l.take i) : Int))), (5, .int .i64 (i : Int)), (6, .int .i64 (i : Int)), (7, .slice s0.A s0.n s0.c), (8, .int .i64 (s0.n : Int)), (9, .bool (decide ((i : Int) < (s0.n : Int))))] a18 := ha20.keeps [0, 1, 5, 6, 7, 8, 9] _ rfl; simp only [decide_eq_false c21, Bool.not_true, Bool.not_false] at hh; exact hh
 have hend : i = l.length := by have := c21; omega
 refine jG ha55 rfl rfl ?_
 refine wp_exit (qH (qH (in_x (jQ (wp_seq ?_)))))
 refine p_begin ?_
 refine p_val (v := .int .i64 (x0 + 3 * (tot (l.take i) : Int))) ha55 (by decide) (jV ha55 (At.here (by kernel_rfl : ((jW Try.f61 5)[0]?).map spec = some ((Op.move (Operand.tmp 1)), some 18, 3, none))) (by kernel_rfl) (fun _ => by kernel_rfl)) (fun a56 ha57 => ?_)
 refine p_val (v := .int .i64 (x0 + 3 * (tot (l.take i) : Int))) ha57 (by decide) (jV ha57 (At.here (by kernel_rfl : ((jW Try.f61 5)[1]?).map spec = some ((Op.assign (Operand.tmp 18)), some 4, 3, none))) (by kernel_rfl) (fun _ => by kernel_rfl)) (fun a58 ha59 => ?_)
 refine jZ ?_
 have ha60 := ha59.keeps [4] [(4, .int .i64 (x0 + 3 * (tot (l.take i) : Int)))] rfl
 clear ha59 ha57 a56 ha55 a18 ha20
 refine jQ (wp_ret ?_)
 refine end_tmp (t := 4) ha60 (by kernel_rfl) rfl ?_
 rw [hend, List.take_length, List.drop_length, List.append_nil] at hus
 refine ⟨by rw [hend, List.take_length], Sat.shutS us hus (fun x hx => ?_) (by rw [hfs]; exact hS11)⟩
 have := List.mem_map_of_mem (f := Prod.fst) hx
 rw [hfs] at this
 obtain ⟨z, _, hz⟩ := List.mem_map.1 this
 exact ⟨z, hz.symm⟩
abbrev RdP (w : World) (s : Sl) (l : List (List ST)) : Prop := RdS k68 68 w s l
abbrev prg (B : Nat) (s : Sl) (l : List (List ST)) : Asn := kdS B k68 68 69 s l
structure Fits {α : Type} (l : List (List α)) : Prop where
 len : l.length ≤ 1048576
 tot : tot l ≤ 1048576
theorem Fits.each {α : Type} {l : List (List α)} (h : Fits l) : ∀ b ∈ l, b.length ≤ 1048576 := fun b hb => Nat.le_trans (tot_mem hb) h.tot
theorem kdS_lower {α : Type} {B B' : Nat} {d : Kd α} {e e' : Nat} {s : Sl} {l : List (List α)} (hB : B' ≤ B) (w : World) (F : Nat → Prop) (h : (kdS B d e e' s l).says w F) : (kdS B' d e e' s l).says w F := by
 obtain ⟨us, G, g1, g2, g3⟩ := h
 refine ⟨us, G, g1, g2, fun i R hi => ?_⟩
 match i with
 | 0 => exact g3 0 R hi
 | 1 =>
  simp at hi
  subst hi
  obtain ⟨H, h1, h2, h3⟩ := g3 1 _ rfl
  refine ⟨H, by simpa using h1, by simpa using h2, fun j R hj => ?_⟩
  rw [List.getElem?_map] at hj
  obtain ⟨x, hx, rfl⟩ := Option.map_eq_some_iff.1 hj
  obtain ⟨q1, q2⟩ := h3 j (kdP B d e x.1 x.2) (by rw [List.getElem?_map, hx]; rfl)
  exact ⟨q1, Kd.R_lower q2 hB⟩
 | n + 2 => simp at hi
section
variable {w0 w : World} {Rs : List Asn}
theorem Sat.skip {w' : World} (hS : Sat w0 w Rs) (hb : Below w.heap.size w w') : Sat w0 w' Rs := hS.comp (Ps := []) ⟨hb, fun _ _ => False, fun i R h => by simp at h, fun _ _ _ h => h.elim, fun _ _ h => h.elim⟩
theorem eqProgram_sat {s t : Sl} {l : List (List ST)} (hS : Sat w0 w Rs) (hr : RdP w s l) (ht : RdP w t l) (hf : Fits l) :
  Calls Try.prog 19 #[.agg #[.slice s.A s.n s.c], .agg #[.slice t.A t.n t.c]] w (Ret fun r w' => r = .bool true ∧ Sat w0 w' Rs) := by
 have := laws_eqProgram.calls 2097154 s.A s.c l t.A t.c l true w hr.rd hr.le ht.rd ht.le (eqProgram_f l hf.each hf.len _ (by omega))
 rw [← hr.len] at this
 rw [show (Value.slice t.A s.n t.c) = .slice t.A t.n t.c by rw [hr.len, ht.len]] at this
 refine this.mono ?_
 rintro e w' ⟨rfl, hb⟩
 exact ⟨rfl, Sat.skip hS hb⟩
theorem heldProgram_sat {s : Sl} {l : List (List ST)} (hS : Sat w0 w Rs) (hr : RdP w s (mkSS 1 l)) (hf : Fits l) :
  Calls Try.prog 21 #[.agg #[.slice s.A s.n s.c], .int .i64 1] w (Ret fun r w' => r = .int .i64 (1 + 3 * (tot l : Int)) ∧ Sat w0 w' Rs) := by
 have := laws_heldProgram.calls 8388609 s.A s.c (mkSS 1 l) 1 _ w hr.rd hr.le (heldProgram_f l (by have := hf.len; omega) (by have := hf.tot; omega) _ (by omega))
 rw [← hr.len] at this
 refine this.mono ?_
 rintro e w' ⟨rfl, hb⟩
 exact ⟨rfl, Sat.skip hS hb⟩
end
theorem code20 : Try.f20.body = some (Code.seq (Code.region 0 (jW Try.f20 0) false) (Code.seq (Code.region 1 (jW Try.f20 1) false) (Code.seq (Code.region 2 (jW Try.f20 2) false) Code.ret))) := by kernel_rfl
theorem markProgram_sat {w0 w : World} {Rs : List Asn} {s : Sl} {l : List (List ST)} {x0 : Int} (hS : Sat w0 w (prg w0.heap.size s l :: Rs)) (hf : Fits l) (h0 : 0 ≤ x0) (h1 : x0 ≤ 1048576) :
  Calls Try.prog 20 #[.agg #[.slice s.A s.n s.c], .int .i64 x0] w (Ret fun r w' => r = .int .i64 (x0 + 3 * (tot l : Int)) ∧ Sat w0 w' (prg w0.heap.size s (mkSS x0 l) :: Rs)) := by
 refine enter (n := 10) Try.func20 code20 (by kernel_rfl) (Nat.le_of_ble_eq_true rfl) (fun a ha => ?_)
 replace ha : Has 10 [(0, .agg #[.slice s.A s.n s.c]), (1, .int .i64 x0)] a := ha
 refine wp_seq ?_
 refine p_begin ?_
 refine jU (o_new (cs := [.slice s.A s.n s.c]) (T := 28) (fun b => .pointer (some ⟨b, 0, none⟩)) ha (by decide) (At.here (by kernel_rfl : ((jW Try.f20 0)[0]?).map spec = some ((Op.box 28 (Operand.tmp 0)), some 2, 0, none))) (by kernel_rfl) hS (fun _ => by kernel_rfl) (fun b5 w3 a1 hb6 (hS4 : Sat w0 w3 ((SX.blk b5 [.slice s.A s.n s.c] 28) :: (prg w0.heap.size s l) :: Rs)) ha2 => ?_))
 refine p_val (v := .int .i64 0) ha2 (by decide) (jV ha2 (At.here (by kernel_rfl : ((jW Try.f20 0)[1]?).map spec = some ((Op.assign (Operand.const (Value.int IntKind.i64 0))), some 4, 3, none))) (by kernel_rfl) (fun _ => by kernel_rfl)) (fun a7 ha8 => ?_)
 refine jZ ?_
 have ha9 := ha8.keeps [1, 2, 4] [(1, .int .i64 x0), (2, .pointer (some ⟨b5, 0, none⟩)), (4, .int .i64 0)] rfl
 clear ha8 ha2 a1 hS ha a
 refine jQ (wp_seq ?_)
 refine p_begin ?_
 refine p_val (v := .pointer (some ⟨b5, 0, none⟩)) ha9 (by decide) (jV ha9 (At.here (by kernel_rfl : ((jW Try.f20 1)[0]?).map spec = some ((Op.fieldAddr 28 (Operand.tmp 2) 0), some 5, 0, none))) (by kernel_rfl) (fun _ => by kernel_rfl)) (fun a10 ha11 => ?_)
 refine p_val (v := .slice s.A s.n s.c) ha11 (by decide) (v_load (cs := [.slice s.A s.n s.c]) (T := 28) ha11 (At.here (by kernel_rfl : ((jW Try.f20 1)[1]?).map spec = some ((Op.load 26 (Operand.tmp 5)), some 6, 26, none))) rfl (by kernel_rfl) (fun _ hw => by rw [hw]; exact hS4.blk 0 rfl) rfl) (fun a12 ha13 => ?_)
 refine p_val (v := .int .i64 x0) ha13 (by decide) (jV ha13 (At.here (by kernel_rfl : ((jW Try.f20 1)[2]?).map spec = some ((Op.move (Operand.tmp 1)), some 7, 3, none))) (by kernel_rfl) (fun _ => by kernel_rfl)) (fun a14 ha15 => ?_)
 have hS20 : Sat w0 w3 ((prg w0.heap.size s l) :: (SX.blk b5 [.slice s.A s.n s.c] 28) :: Rs) := hS4.pickR (l := [SX.blk b5 [.slice s.A s.n s.c] 28, prg w0.heap.size s l]) [1, 0] (by decide) [prg w0.heap.size s l, SX.blk b5 [.slice s.A s.n s.c] 28] rfl
 refine jU (o_ret (Post := fun r w' => r = .int .i64 (x0 + 3 * (tot l : Int)) ∧ Sat w0 w' ((prg w0.heap.size s (mkSS x0 l)) :: (SX.blk b5 [.slice s.A s.n s.c] 28) :: Rs)) ha15 (by decide) (At.here (by kernel_rfl : ((jW Try.f20 1)[3]?).map spec = some ((Op.call { callee := (Callee.value (Operand.func 61)), args := #[(Operand.tmp 6), (Operand.tmp 7)], argTypes := #[26, 3] }), some 8, 3, none))) rfl Try.func61 (by kernel_rfl) (markStepSS_sat w0 _ _ s l x0 hS20 h0 (by have := hf.len; omega) (by have := hf.tot; omega) h1) (fun v21 w18 a16 hp22 ha17 => ?_))
 obtain ⟨rfl, hS19⟩ := hp22
 have ha23 : Has 10 [(1, .int .i64 x0), (2, .pointer (some ⟨b5, 0, none⟩)), (4, .int .i64 0), (5, .pointer (some ⟨b5, 0, none⟩)), (6, .slice s.A s.n s.c), (7, .int .i64 x0), (8, .int .i64 (x0 + 3 * (tot l : Int)))] a16 := ha17.keeps [1, 2, 4, 5, 6, 7, 8] _ rfl
 refine p_val (v := .int .i64 (x0 + 3 * (tot l : Int))) ha23 (by decide) (jV ha23 (At.here (by kernel_rfl : ((jW Try.f20 1)[4]?).map spec = some ((Op.assign (Operand.tmp 8)), some 1, 3, none))) (by kernel_rfl) (fun _ => by kernel_rfl)) (fun a24 ha25 => ?_)
 refine jZ ?_
 have ha26 := ha25.keeps [4, 1] [(4, .int .i64 0), (1, .int .i64 (x0 + 3 * (tot l : Int)))] rfl
 clear ha25 ha23 a16 ha17 hS20 ha15 a14 hS4 ha13 a12 ha11 a10 ha9 a7
 refine jQ (wp_seq ?_)
 refine p_begin ?_
 refine p_val (v := .int .i64 (x0 + 3 * (tot l : Int))) ha26 (by decide) (jV ha26 (At.here (by kernel_rfl : ((jW Try.f20 2)[0]?).map spec = some ((Op.move (Operand.tmp 1)), some 9, 3, none))) (by kernel_rfl) (fun _ => by kernel_rfl)) (fun a27 ha28 => ?_)
 refine p_val (v := .int .i64 (x0 + 3 * (tot l : Int))) ha28 (by decide) (jV ha28 (At.here (by kernel_rfl : ((jW Try.f20 2)[1]?).map spec = some ((Op.assign (Operand.tmp 9)), some 4, 3, none))) (by kernel_rfl) (fun _ => by kernel_rfl)) (fun a29 ha30 => ?_)
 refine jZ ?_
 have ha31 := ha30.keeps [4] [(4, .int .i64 (x0 + 3 * (tot l : Int)))] rfl
 clear ha30 ha28 a27 ha26 a24
 refine jQ (wp_ret (xY ha31 (by kernel_rfl) (qV (t := 4) ha31 rfl) ?_))
 have hS32 : Sat w0 w18 ((prg w0.heap.size s (mkSS x0 l)) :: Rs) := hS19.pickR (l := [prg w0.heap.size s (mkSS x0 l), SX.blk b5 [.slice s.A s.n s.c] 28]) [0] (by decide) [prg w0.heap.size s (mkSS x0 l)] rfl
 exact ⟨rfl, hS32⟩
def cT (x : ST) : List Value := [.int .i64 x.f0, .int .i64 x.f1, .int .i64 x.f2]
def encS3 (l : List ST) : List Value := l.flatMap cT
theorem cT_len (x : ST) : (cT x).length = 3 := rfl
theorem encS3_length (l : List ST) : (encS3 l).length = l.length * 3 := flat_length cT_len l
theorem cells_reps (w : World) (base : Nat) (ok : Nat → Prop) (l : List ST) : Reps (k68.M w base ok) 3 l (encS3 l) := by
  refine ⟨encS3_length l, fun j p hj => ?_⟩
  have : ((encS3 l).drop (j * 3)).take 3 = cT p := by
    apply List.ext_getElem?
    intro o;rw [List.getElem?_take]
    by_cases ho : o < 3
    · rw [if_pos ho, List.getElem?_drop]
      exact flat_get cT_len hj ho
    · rw [if_neg ho, List.getElem?_eq_none (by rw [cT_len]; omega)]
  rw [this]
  exact k68_mkM w base ok p
section
variable {w0 w : World} {Rs : List Asn} {s : Sl} {l : List ST}
theorem ofRow (h : Sat w0 w (SX.row s.v 68 3 (encS3 l) :: Rs)) : Sat w0 w (kdP w0.heap.size k68 68 s.v l :: Rs) := by
 have hb0 := h.below
 obtain ⟨F, hF, hlow⟩ : ∃ F : Nat → Prop, (SX.row s.v 68 3 (encS3 l)).says w F ∧ ∀ b, F b → w0.heap.size ≤ b ∧ b < w.heap.size := by
  obtain ⟨_, G, g1, _, g3⟩ := h
  exact ⟨G 0, g1 0 _ rfl, fun b hb => g3 0 b hb⟩
 refine h.turn (i := 0) rfl (kdP w0.heap.size k68 68 s.v l) fun F' hF' => ?_
 obtain ⟨e1, n, hn⟩ := hF'
 have hl : n = l.length := by
  have := hn.1
  rw [encS3_length] at this
  omega
 subst hl
 have hbase : ∀ k, s.v.ownBlock = some k → w0.heap.size ≤ k ∧ k < w.heap.size := fun k hk => hlow k ((hF.1 k).2 hk)
 refine ⟨fun k hk => (hbase k ((e1 k).1 hk)).2, fun k hk => (e1 k).2 hk, encS3 l, ?_, cells_reps _ _ _ _⟩
 refine ⟨hn.1, ?_⟩
 rcases hn.2 with h' | ⟨g, cap, cur, e, _, rest⟩
 · exact .inl h'
 · exact .inr ⟨g, cap, cur, e, (hbase g (by rw [e]; rfl)).1, rest⟩
end
end Go.Proofs.Ytbgfiiehjaghiaa.G
namespace Go.Proofs.Ytbgfiiehjaghiaa.G
open Go.RowKit Go.Lib Go.Proofs.Ytbgfiiehjaghiaa.SX Go.Proofs.YtbgfiiehjaghiaaW.PrintWords Go.Proofs.YtbgfiiehjaghiaaW.PrintLast Go.Proofs.YtbgfiiehjaghiaaW.PrintMore
theorem in_eq (x lo hi : Int) : impl_in.f x lo hi = some (decide (lo ≤ x) && decide (x ≤ hi)) := by
 unfold impl_in.f
 by_cases h : lo ≤ x <;> simp [h]
end Go.Proofs.Ytbgfiiehjaghiaa.G
namespace Go.Proofs.Ytbgfiiehjaghiaa.G
open Go.RowKit Go.Proofs.YtbgfiiehjaghiaaW.PrintWords Go.Proofs.YtbgfiiehjaghiaaW.PrintLast Go.Proofs.YtbgfiiehjaghiaaW.PrintMore
def impl_isFunction.f (l0_0 : List (List (S68))) (a1 : Int) : Option (Bool) := (impl_IsProgram.f l0_0).bind fun t212 => (if t212 = true then ((impl_in.f a1 0 (wrap64 ((l0_0.length : Int) - 1))).bind fun t213 => (some t213)) else (some false))
def impl_hasNext.f (l0_0 : List (List (S68))) (a1 : Int) (a2 : Int) : Option (Bool) := (impl_isFunction.f l0_0 a1).bind fun t215 => (if t215 = true then (if 0 ≤ a1 then (if a1 < (l0_0.length : Int) then ((impl_in.f a2 0 (wrap64 (((rd_L4 l0_0 a1).length : Int) - 2))).bind fun t217 => (some t217)) else (none)) else (none)) else (some false))
end Go.Proofs.Ytbgfiiehjaghiaa.G
namespace Go.Proofs.Ytbgfiiehjaghiaa.G
open Go.RowKit Go.Proofs.Ytbgfiiehjaghiaa.SX Go.Proofs.YtbgfiiehjaghiaaW.PrintWords Go.Proofs.YtbgfiiehjaghiaaW.PrintLast Go.Proofs.YtbgfiiehjaghiaaW.PrintMore
section
def cur (g : ST → ST) (b : List ST) (i : Nat) : List ST := (b.take i).map g ++ b.drop i
variable {g : ST → ST} {b : List ST} {i : Nat} {x : ST}
end
section
variable {w0 w : World} {Rs : List Asn} {s z : Sl} {l : List (List ST)} {vs : List Sl} {f : Nat} {b : List ST}
theorem nilPrg (h : Sat w0 w Rs) : Sat w0 w (prg w0.heap.size ⟨none, 0, 0⟩ [] :: Rs) := by
 obtain ⟨s, e, h1⟩ := h.madeS (Below.refl _ _) (Kd.S_nil (Kd.slice 68 k68) 69 w w.heap.size (fun _ => True))
 obtain ⟨A, n, c⟩ := s
 simp only [Sl.v, Value.slice.injEq] at e
 obtain ⟨rfl, rfl, rfl⟩ := e
 exact h1
theorem liftPB {F : Nat} {args : Array Value} {L : List (List ST)} {bo : Bool} (hS : Sat w0 w Rs) (h : Calls Try.prog F args w (Ret fun r w' => ∃ s : Sl, r = .tuple #[.agg #[s.v], .bool bo] ∧ Sat w w' [prg w.heap.size s L])) :
  Calls Try.prog F args w (Ret fun r w' => ∃ s : Sl, r = .tuple #[.agg #[s.v], .bool bo] ∧ Sat w0 w' (prg w0.heap.size s L :: Rs)) := by
 refine h.mono ?_
 intro e w' h
 cases e with
 | returned v =>
  obtain ⟨s, rfl, h4⟩ := h
  have h5 : Sat w0 w' (prg w.heap.size s L :: Rs) := hS.comp h4
  exact ⟨s, rfl, h5.turn (i := 0) rfl (prg w0.heap.size s L) (kdS_lower hS.below.size w')⟩
 | _ => exact h.elim
end
end Go.Proofs.Ytbgfiiehjaghiaa.G
