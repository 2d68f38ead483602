/- What the claim FnExactLintProgram rests on, part 14 of 29; the last part proves it: for every input the law answers true, and its arguments read behind the call as before it. No condition. -/
import Derived.Test.YtpenhegoilccoaaProg
import Derived.Test.YtpenhegoilccoaaQLintProgram10
import Derived.Test.YtpenhegoilccoaaQLintProgram11
set_option linter.unusedSimpArgs false
set_option linter.unusedVariables false
set_option maxRecDepth 20000
set_option maxHeartbeats 1000000
namespace Go.Proofs.Ytpenhegoilccoaa.G
open Go.RowKit Go.Proofs.Ytpenhegoilccoaa.SX Go.Proofs.YtpenhegoilccoaaW.PrintWords Go.Proofs.YtpenhegoilccoaaW.PrintLast Go.Proofs.YtpenhegoilccoaaW.PrintMore
theorem w64 {x : Int} (h0 : -9223372036854775808 ≤ x) (h1 : x ≤ 9223372036854775807) : wrap64 x = x := by unfold wrap64; omega
def toS (x : S165) : S72 := ⟨x.f0, x.f1, x.f2⟩
theorem toStepS_l0 (l : List S165) (hl : l.length ≤ 1048576) : ∀ d i, i + d = l.length → ∀ k, d < k → laws_toStepS.l0 k l ((l.take i).map toS ++ List.replicate d z72) (i : Int) = some (l.map toS) := by
 intro d
 induction d with
 | zero =>
  intro i hi k hk
  obtain ⟨k, rfl⟩ : ∃ m, k = m + 1 := ⟨k - 1, by omega⟩
  have : i = l.length := by omega
  subst this
  simp only [laws_toStepS.l0]
  rw [if_neg (by omega)]
  simp
 | succ d ih =>
  intro i hi k hk
  obtain ⟨k, rfl⟩ : ∃ m, k = m + 1 := ⟨k - 1, by omega⟩
  have hlt : i < l.length := by omega
  have hrd : rd_T165 l (i : Int) = l[i] := by simp [rd_T165, List.getD, hlt]
  simp only [laws_toStepS.l0, laws_toStep.f, Option.bind_some]
  rw [if_pos (by omega), if_pos (by omega), if_pos (by simp; omega), hrd, w64 (by omega) (by omega), show ((i : Int) + 1) = ((i + 1 : Nat) : Int) from rfl]
  have e : ((l.take i).map toS ++ List.replicate (d + 1) z72).set (i : Int).toNat ⟨l[i].f0, l[i].f1, l[i].f2⟩ = (l.take (i + 1)).map toS ++ List.replicate d z72 := by
   have h1 : (i : Int).toNat = i := by omega
   have h2 : ((l.take i).map toS).length = i := by rw [List.length_map, List.length_take]; omega
   rw [h1, List.set_append_right _ _ (by omega), h2, Nat.sub_self, List.replicate_succ, List.set_cons_zero, List.take_succ_eq_append_getElem hlt, List.map_append, List.append_assoc]
   rfl
  rw [e]
  exact ih (i + 1) (by omega) k (by omega)
theorem toStepS_f (l : List S165) (hl : l.length ≤ 1048576) (k : Nat) (hk : l.length < k) : laws_toStepS.f k l = some (l.map toS) := by
 have := toStepS_l0 l hl l.length 0 (by omega) k hk
 unfold laws_toStepS.f
 rw [if_pos (by omega), if_pos (by omega)]
 simpa using this
end Go.Proofs.Ytpenhegoilccoaa.G
namespace Go.Proofs.Ytpenhegoilccoaa.G
open Go.RowKit Go.Proofs.YtpenhegoilccoaaW.PrintWords Go.Proofs.YtpenhegoilccoaaW.PrintLast Go.Proofs.YtpenhegoilccoaaW.PrintMore
abbrev ST := S72
abbrev LT := S165
def tot {α : Type} : List (List α) → Nat
 | [] => 0
 | b :: l => b.length + tot l
theorem tot_append {α : Type} (l m : List (List α)) : tot (l ++ m) = tot l + tot m := by
 induction l with
 | nil => simp [tot]
 | cons b l ih => simp [tot, ih]; omega
theorem tot_mem {α : Type} {b : List α} {l : List (List α)} (h : b ∈ l) : b.length ≤ tot l := by
 induction l with
 | nil => cases h
 | cons c l ih =>
  rcases List.mem_cons.1 h with rfl | h
  · simp [tot]
  · have := ih h; simp [tot]; omega
theorem tot_map {α β : Type} (f : α → β) (l : List (List α)) : tot (l.map (·.map f)) = tot l := by
 induction l with
 | nil => rfl
 | cons b l ih => simp [tot, ih]
def szL (left : Int) : List (List LT) → Int
 | [] => left
 | b :: l => if left - (b.length : Int) < 0 then -1 else szL (left - (b.length : Int)) l
def szP (l : List (List LT)) (left : Int) : Int := if left - (l.length : Int) < 0 then -1 else szL (left - (l.length : Int)) l
theorem szL_ok (l : List (List LT)) : ∀ left, 0 ≤ left → 0 ≤ szL left l → (tot l : Int) + szL left l = left := by
  induction l with
  | nil => intro left h0 h; simp [tot, szL]
  | cons b l ih =>
    intro left h0 h;simp only [szL] at h ⊢
    by_cases hb : left - (b.length : Int) < 0
    · rw [if_pos hb] at h; omega
    · rw [if_neg hb] at h ⊢
      have := ih _ (by omega) h;simp only [tot]
      omega
theorem szP_ok (l : List (List LT)) (left : Int) (h : 0 ≤ szP l left) : (l.length : Int) + tot l + szP l left = left := by
  unfold szP at h ⊢
  by_cases hb : left - (l.length : Int) < 0
  · rw [if_pos hb] at h; omega
  · rw [if_neg hb] at h ⊢
    have := szL_ok l _ (by omega) h
    omega
theorem szL_le (l : List (List LT)) : ∀ left, 0 ≤ left → szL left l ≤ left ∧ -1 ≤ szL left l := by
 induction l with
 | nil => intro left h; simp [szL]; omega
 | cons b l ih =>
  intro left h
  simp only [szL]
  by_cases hb : left - (b.length : Int) < 0
  · rw [if_pos hb]; omega
  · rw [if_neg hb]; have := ih (left - (b.length : Int)) (by omega); omega
theorem szP_le (l : List (List LT)) (left : Int) (h : 0 ≤ left) : szP l left ≤ left ∧ -1 ≤ szP l left := by
 unfold szP
 by_cases hb : left - (l.length : Int) < 0
 · rw [if_pos hb]; omega
 · rw [if_neg hb]; have := szL_le l (left - (l.length : Int)) (by omega); omega
theorem szStepSS_l0 (l : List (List LT)) (hl : ∀ b ∈ l, b.length ≤ 9223372036854775807) (hn : l.length ≤ 1048576) : ∀ d i, i + d = l.length → ∀ left : Int, 0 ≤ left → left ≤ 1048576 → ∀ k, d < k → laws_szStepSS.l0 k l left (i : Int) = some (szL left (l.drop i)) := by
  intro d
  induction d with
  | zero =>
    intro i hi left h0 h1 k hk;obtain ⟨k, rfl⟩ : ∃ m, k = m + 1 := ⟨k - 1, by omega⟩;have : i = l.length := by omega
    subst this;simp only [laws_szStepSS.l0];rw [if_neg (by omega), List.drop_length]
    rfl
  | succ d ih =>
    intro i hi left h0 h1 k hk;obtain ⟨k, rfl⟩ : ∃ m, k = m + 1 := ⟨k - 1, by omega⟩;have hlt : i < l.length := by omega
    have hb := hl l[i] (List.getElem_mem _);have hrd : rd_L2 l (i : Int) = l[i] := by simp [rd_L2, List.getD, hlt]
    simp only [laws_szStepSS.l0];rw [if_pos (by omega), if_pos (by omega), hrd, List.drop_eq_getElem_cons hlt];simp only [szL, laws_szStepS.f];rw [w64 (x := left - _) (by omega) (by omega)]
    by_cases hc : left - ((l[i]).length : Int) < 0
    · rw [if_pos hc, if_pos hc]; simp
    · rw [if_neg hc, if_neg hc]
      simp only [Option.bind_some];rw [if_neg hc, w64 (by omega) (by omega), show ((i : Int) + 1) = ((i + 1 : Nat) : Int) from rfl];exact ih (i + 1) (by omega) _ (by omega) (by omega) k (by omega)
theorem szProgram_f (l : List (List LT)) (hl : ∀ b ∈ l, b.length ≤ 9223372036854775807) (hn : l.length ≤ 9223372036854775807) (left : Int) (h0 : 0 ≤ left) (h1 : left ≤ 1048576) (k : Nat) (hk : 1048576 < k) : laws_szProgram.f k l left = some (szP l left) := by
  have key : laws_szStepSS.f k l left = some (szP l left) := by
    unfold laws_szStepSS.f szP;rw [w64 (by omega) (by omega)]
    by_cases hc : left - (l.length : Int) < 0
    · rw [if_pos hc, if_pos hc]
    · rw [if_neg hc, if_neg hc]
      have := szStepSS_l0 l hl (by omega) l.length 0 (by omega) (left - (l.length : Int)) (by omega) (by omega) k (by omega)
      simpa using this
  unfold laws_szProgram.f
  rw [key]
  have := szP_le l left h0
  simp only [Option.bind_some]
  by_cases hc : szP l left < 0
  · rw [if_pos hc]; congr 1; omega
  · rw [if_neg hc]
def mkS (a : Int) (n : Nat) : List ST := (List.range n).map fun (j : Nat) => ⟨a + 3 * (j : Int), a + 3 * (j : Int) + 1, a + 3 * (j : Int) + 2⟩
theorem mkS_length (a : Int) (n : Nat) : (mkS a n).length = n := by simp [mkS]
theorem mkS_succ (a : Int) (n : Nat) : mkS a (n + 1) = mkS a n ++ [⟨a + 3 * (n : Int), a + 3 * (n : Int) + 1, a + 3 * (n : Int) + 2⟩] := by simp [mkS, List.range_succ]
theorem set_mid {α : Type} (P : List α) (x y : α) (Q : List α) : (P ++ x :: Q).set P.length y = P ++ y :: Q := by simp
theorem rd_mid (P : List ST) (x : ST) (Q : List ST) : rd_T72 (P ++ x :: Q) (P.length : Int) = x := by simp [rd_T72, List.getD]
theorem markStepS_l0 (l : List ST) (a : Int) (h0 : 0 ≤ a) (hn : l.length ≤ 4194304) (ha : a ≤ 1073741824) : ∀ d i, i + d = l.length → ∀ k, d < k → laws_markStepS.l0 k (mkS a i ++ l.drop i) (a + 3 * (i : Int)) (i : Int) = some (a + 3 * (l.length : Int), mkS a l.length) := by
 intro d
 induction d with
 | zero =>
  intro i hi k hk
  obtain ⟨k, rfl⟩ : ∃ m, k = m + 1 := ⟨k - 1, by omega⟩
  have : i = l.length := by omega
  subst this
  simp only [laws_markStepS.l0]
  rw [if_neg (by simp [mkS_length]), List.drop_length, List.append_nil]
 | succ d ih =>
  intro i hi k hk
  obtain ⟨k, rfl⟩ : ∃ m, k = m + 1 := ⟨k - 1, by omega⟩
  have hlt : i < l.length := by omega
  simp only [laws_markStepS.l0]
  rw [if_pos (by simp [mkS_length]; omega), if_pos (by omega), List.drop_eq_getElem_cons hlt]
  simp only [Option.bind_some]
  have hi2 : (i : Int).toNat = (mkS a i).length := by rw [mkS_length]; omega
  have hi3 : (i : Int) = ((mkS a i).length : Int) := by rw [mkS_length]
  rw [hi2, set_mid, set_mid, set_mid]
  rw [w64 (x := a + 3 * (i : Int) + 1) (by omega) (by omega), w64 (x := a + 3 * (i : Int) + 1 + 1) (by omega) (by omega), w64 (x := a + 3 * (i : Int) + 1 + 1 + 1) (by omega) (by omega), w64 (x := (i : Int) + 1) (by omega) (by omega)]
  have key := ih (i + 1) (by omega) k (by omega)
  rw [mkS_succ] at key
  rw [hi3]
  simp only [rd_mid]
  rw [← hi3]
  rw [List.append_assoc, List.cons_append, List.nil_append] at key
  rw [show a + 3 * (i : Int) + 1 + 1 + 1 = a + 3 * ((i + 1 : Nat) : Int) by omega, show (i : Int) + 1 = ((i + 1 : Nat) : Int) from rfl, show a + 3 * (i : Int) + 1 + 1 = a + 3 * (i : Int) + 2 by omega]
  exact key
theorem markStepS_f (l : List ST) (a : Int) (h0 : 0 ≤ a) (hn : l.length ≤ 4194304) (ha : a ≤ 1073741824) (k : Nat) (hk : l.length < k) : laws_markStepS.f k l a = some (a + 3 * (l.length : Int), mkS a l.length) := by
 have := markStepS_l0 l a h0 hn ha l.length 0 (by omega) k (by omega)
 unfold laws_markStepS.f
 simpa [mkS] using this
def mkSS (a : Int) : List (List ST) → List (List ST)
 | [] => []
 | b :: l => mkS a b.length :: mkSS (a + 3 * (b.length : Int)) l
theorem mkSS_length (a : Int) (l : List (List ST)) : (mkSS a l).length = l.length := by
 induction l generalizing a with
 | nil => rfl
 | cons b l ih => simp [mkSS, ih]
theorem mkSS_snoc (a : Int) (l : List (List ST)) (b : List ST) : mkSS a (l ++ [b]) = mkSS a l ++ [mkS (a + 3 * (tot l : Int)) b.length] := by
 induction l generalizing a with
 | nil => simp [mkSS, tot]
 | cons c l ih =>
  simp only [List.cons_append, mkSS, ih, tot]
  congr 4
  omega
end Go.Proofs.Ytpenhegoilccoaa.G
namespace Go.Proofs.Ytpenhegoilccoaa.G
open Go.RowKit Go.Proofs.Ytpenhegoilccoaa.SX Go.Proofs.YtpenhegoilccoaaW.PrintWords Go.Proofs.YtpenhegoilccoaaW.PrintLast Go.Proofs.YtpenhegoilccoaaW.PrintMore
theorem set_next {α : Type} {us : List (Value × α)} {n i : Nat} {z v : Value} {y : α} (hu : us.length = i) (hi : i < n) : (us.map Prod.fst ++ List.replicate (n - i) z).set i v = ((us ++ [(v, y)]).map Prod.fst ++ List.replicate (n - (i + 1)) z) := by
 have h1 : (us.map Prod.fst).length = i := by simp [hu]
 rw [List.set_append_right _ _ (by omega), h1, Nat.sub_self, show n - i = (n - (i + 1)) + 1 by omega, List.replicate_succ, List.set_cons_zero]
 simp
theorem toStepS_sat {w0 w : World} {Rs : List Asn} {A : Option Addr} {c : Nat} {b : List S165} (hS : Sat w0 w Rs) (hr : Kd.C k165 w A b.length b) (hl : b.length ≤ c) (hb : b.length ≤ 1048576) :
  Calls Try.prog 119 #[.slice A b.length c] w (Ret fun r w' => ∃ s' : Sl, r = s'.v ∧ Sat w0 w' (kdP w0.heap.size k72 72 s'.v (b.map toS) :: Rs)) := by
 refine (laws_toStepS.calls (b.length + 1) A c b _ w hr hl (toStepS_f b hb _ (by omega))).mono ?_
 rintro e w' ⟨v, rfl, hR, hbl⟩
 obtain ⟨A', c', rfl⟩ := Kd.R_slice hR
 exact ⟨⟨A', _, c'⟩, rfl, hS.kdMade hbl hR⟩
theorem code58 : Try.f58.body = some (Code.seq (Code.region 0 (jV Try.f58 0) false) (Code.seq (Code.region 1 (jV Try.f58 1) false) (Code.seq (Code.seq (Code.region 2 (jV Try.f58 2) false) (Code.block 0 (Code.loop (Code.seq (Code.seq (Code.region 3 (jV Try.f58 3) false) (Code.cond (Operand.tmp 11) Code.skip (Code.exit 0))) (Code.seq (Code.block 1 (Code.region 5 (jV Try.f58 5) false)) (Code.region 4 (jV Try.f58 4) false)))))) (Code.seq (Code.region 6 (jV Try.f58 6) false) Code.ret)))) := by kernel_rfl
theorem toss_sat (w0 : World) (s0 : Sl) (l0 : List (List S165)) (hlen0 : s0.n = l0.length) (hle0 : l0.length ≤ s0.c) (hr0 : Kd.C (Kd.slice 165 k165) w0 s0.A l0.length l0) (hlen : l0.length ≤ 1048576) (hall : ∀ b ∈ l0, b.length ≤ 1048576) :
  Calls Try.prog 58 #[.slice s0.A s0.n s0.c] w0 (Ret fun r w' => ∃ (s : Sl) (us : List (Value × List S72)), r = s.v ∧ us.map (·.2) = l0.map (·.map toS) ∧ (∀ x ∈ us, ∃ z : Sl, x.1 = z.v) ∧ Sat w0 w' [SX.row s.v 70 1 (us.map Prod.fst), qW (us.map fun (x : Value × List S72) => kdP w0.heap.size k72 72 x.1 x.2)]) := by
 have hS : Sat w0 w0 [] := Sat.start w0
 refine enter (n := 23) Try.func58 code58 (by kernel_rfl) (Nat.le_of_ble_eq_true rfl) (fun a ha => ?_)
 replace ha : Has 23 [(0, .slice s0.A s0.n s0.c)] a := ha
 refine wp_seq ?_
 refine p_begin ?_
 refine p_val (v := .slice none 0 0) ha (by decide) (jH ha (At.here (by kernel_rfl : ((jV Try.f58 0)[0]?).map spec = some ((Op.assign (Operand.const (Value.slice none 0 0))), some 2, 28, none))) (by kernel_rfl) (fun _ => by kernel_rfl)) (fun a1 ha2 => ?_)
 refine jY ?_
 have ha3 := ha2.keeps [0, 2] [(0, .slice s0.A s0.n s0.c), (2, .slice none 0 0)] rfl
 clear ha2 ha a
 refine jJ (wp_seq ?_)
 refine p_begin ?_
 refine p_val (v := .slice s0.A s0.n s0.c) ha3 (by decide) (jH ha3 (At.here (by kernel_rfl : ((jV Try.f58 1)[0]?).map spec = some ((Op.move (Operand.tmp 0)), some 5, 22, none))) (by kernel_rfl) (fun _ => by kernel_rfl)) (fun a4 ha5 => ?_)
 refine p_val (v := .int .i64 (s0.n : Int)) ha5 (by decide) (jH ha5 (At.here (by kernel_rfl : ((jV Try.f58 1)[1]?).map spec = some ((Op.call { callee := (Callee.builtin Builtin.len), args := #[(Operand.tmp 5)], argTypes := #[22] }), some 6, 3, none))) (by kernel_rfl) (fun _ => by kernel_rfl)) (fun a6 ha7 => ?_)
 refine jW (o_make (el := 70) (m := s0.n) (bytes := 24) (z := .slice none 0 0) ha7 (by decide) (At.here (by kernel_rfl : ((jV Try.f58 1)[2]?).map spec = some ((Op.makeSlice 28 (Operand.tmp 6) (Operand.tmp 6)), some 7, 28, none))) rfl rfl (by kernel_rfl) (by kernel_rfl) rfl (by decide) (by omega) hS (fun g w10 a8 hg (hS11 : Sat w0 w10 ((SX.blk g (List.replicate s0.n (Value.slice none 0 0)) 70) :: [])) ha9 => ?_))
 refine p_val (v := .slice (some ⟨g, 0, none⟩) s0.n s0.n) ha9 (by decide) (jH ha9 (At.here (by kernel_rfl : ((jV Try.f58 1)[3]?).map spec = some ((Op.assign (Operand.tmp 7)), some 3, 28, none))) (by kernel_rfl) (fun _ => by kernel_rfl)) (fun a12 ha13 => ?_)
 refine jY ?_
 have ha14 := ha13.keeps [0, 2, 3] [(0, .slice s0.A s0.n s0.c), (2, .slice none 0 0), (3, .slice (some ⟨g, 0, none⟩) s0.n s0.n)] rfl
 clear ha13 ha9 a8 hS ha7 a6 ha5 a4 ha3 a1
 refine jJ (wp_seq (wp_seq ?_))
 refine p_begin ?_
 refine p_val (v := .int .i64 0) ha14 (by decide) (jH ha14 (At.here (by kernel_rfl : ((jV Try.f58 2)[0]?).map spec = some ((Op.assign (Operand.const (Value.int IntKind.i64 0))), some 4, 3, none))) (by kernel_rfl) (fun _ => by kernel_rfl)) (fun a15 ha16 => ?_)
 refine jY ?_
 have ha17 := ha16.keeps [0, 2, 3, 4] [(0, .slice s0.A s0.n s0.c), (2, .slice none 0 0), (3, .slice (some ⟨g, 0, none⟩) s0.n s0.n), (4, .int .i64 0)] rfl
 clear ha16 ha14 a12
 refine jJ (wp_block ?_)
 have hS18 : Sat w0 w10 ((qW []) :: (SX.blk g (List.replicate s0.n (Value.slice none 0 0)) 70) :: []) := Sat.merge (l := []) hS11
 have hS19 : Sat w0 w10 ((SX.blk g (List.replicate s0.n (Value.slice none 0 0)) 70) :: (qW []) :: []) := hS18.pickR (l := [qW [], SX.blk g (List.replicate s0.n (Value.slice none 0 0)) 70]) [1, 0] (by decide) [SX.blk g (List.replicate s0.n (Value.slice none 0 0)) 70, qW []] rfl
 have hS20 : Sat w0 w10 ((SX.blk g (([] : List (Value × List S72)).map Prod.fst ++ List.replicate (l0.length - 0) (Value.slice none 0 0)) 70) :: (qW (([] : List (Value × List S72)).map fun x => kdP w0.heap.size k72 72 x.1 x.2)) :: []) := by have hh := hS19; rw [hlen0] at hh; exact hh
 refine wp_loop_ghost (fun n_ a_ w_ => ∃ (i : Nat) (us : List (Value × List S72)), n_ = l0.length - i ∧ (i ≤ l0.length) ∧ (us.map (·.2) = (l0.take i).map (·.map toS)) ∧ (∀ x ∈ us, ∃ s : Sl, x.1 = s.v) ∧ Has 23 [(0, .slice s0.A s0.n s0.c), (3, .slice (some ⟨g, 0, none⟩) s0.n s0.n), (4, .int .i64 (i : Int))] a_ ∧ Sat w0 w_ ((SX.blk g (us.map Prod.fst ++ List.replicate (l0.length - i) (Value.slice none 0 0)) 70) :: (qW (us.map fun (x : Value × List S72) => kdP w0.heap.size k72 72 x.1 x.2)) :: [])) _ ⟨0, [], rfl, Nat.zero_le _, rfl, (fun x hx => by cases hx), ha17.keeps [0, 3, 4] _ rfl, hS20⟩ ?_
 rintro n_ a21 w22 ⟨i, us, rfl, hi, hus, hso, ha23, hS24⟩
 refine wp_seq (wp_seq ?_)
 refine p_begin ?_
 refine p_val (v := .int .i64 (i : Int)) ha23 (by decide) (jH ha23 (At.here (by kernel_rfl : ((jV Try.f58 3)[0]?).map spec = some ((Op.move (Operand.tmp 4)), some 8, 3, none))) (by kernel_rfl) (fun _ => by kernel_rfl)) (fun a25 ha26 => ?_)
 refine p_val (v := .slice s0.A s0.n s0.c) ha26 (by decide) (jH ha26 (At.here (by kernel_rfl : ((jV Try.f58 3)[1]?).map spec = some ((Op.move (Operand.tmp 0)), some 9, 22, none))) (by kernel_rfl) (fun _ => by kernel_rfl)) (fun a27 ha28 => ?_)
 refine p_val (v := .int .i64 (s0.n : Int)) ha28 (by decide) (jH ha28 (At.here (by kernel_rfl : ((jV Try.f58 3)[2]?).map spec = some ((Op.call { callee := (Callee.builtin Builtin.len), args := #[(Operand.tmp 9)], argTypes := #[22] }), some 10, 3, none))) (by kernel_rfl) (fun _ => by kernel_rfl)) (fun a29 ha30 => ?_)
 refine p_val (v := .bool (decide ((i : Int) < (s0.n : Int)))) ha30 (by decide) (jH ha30 (At.here (by kernel_rfl : ((jV Try.f58 3)[3]?).map spec = some ((Op.binOp BinOp.lss 3 (Operand.tmp 8) (Operand.tmp 10) 3), some 11, 4, none))) (by kernel_rfl) (fun _ => by kernel_rfl)) (fun a31 ha32 => ?_)
 refine jY ?_
 have ha33 := ha32.keeps [0, 3, 4, 8, 9, 10, 11] [(0, .slice s0.A s0.n s0.c), (3, .slice (some ⟨g, 0, none⟩) s0.n s0.n), (4, .int .i64 (i : Int)), (8, .int .i64 (i : Int)), (9, .slice s0.A s0.n s0.c), (10, .int .i64 (s0.n : Int)), (11, .bool (decide ((i : Int) < (s0.n : Int))))] rfl
 clear ha32 ha30 a29 ha28 a27 ha26 a25 ha23 a21
 refine jJ ?_
 by_cases c34 : (i : Int) < (s0.n : Int)
 ·
  have ha35 : Has 23 [(0, .slice s0.A s0.n s0.c), (3, .slice (some ⟨g, 0, none⟩) s0.n s0.n), (4, .int .i64 (i : Int)), (8, .int .i64 (i : Int)), (9, .slice s0.A s0.n s0.c), (10, .int .i64 (s0.n : Int)), (11, .bool true)] a31 := by have hh : Has 23 [(0, .slice s0.A s0.n s0.c), (3, .slice (some ⟨g, 0, none⟩) s0.n s0.n), (4, .int .i64 (i : Int)), (8, .int .i64 (i : Int)), (9, .slice s0.A s0.n s0.c), (10, .int .i64 (s0.n : Int)), (11, .bool (decide ((i : Int) < (s0.n : Int))))] a31 := ha33.keeps [0, 3, 4, 8, 9, 10, 11] _ rfl; simp only [decide_eq_true c34, Bool.not_true, Bool.not_false] at hh; exact hh
  have hlt : i < l0.length := by have := c34; omega
  obtain ⟨b, hb⟩ : ∃ b, l0[i]? = some b := ⟨_, List.getElem?_eq_getElem hlt⟩
  have htake : l0.take (i + 1) = l0.take i ++ [b] := by rw [List.take_add_one, hb]; rfl
  obtain ⟨_, A1, c1, hc1, hl1, hC1⟩ := rows_cells hr0 i b hb
  have hb1 : b.length ≤ 1048576 := hall b (List.mem_of_getElem? hb)
  refine jU ha35 rfl rfl ?_
  refine wp_skip (jJ (wp_seq (wp_block ?_)))
  refine p_begin ?_
  refine p_val (v := .slice (some ⟨g, 0, none⟩) s0.n s0.n) ha35 (by decide) (jH ha35 (At.here (by kernel_rfl : ((jV Try.f58 5)[0]?).map spec = some ((Op.move (Operand.tmp 3)), some 14, 28, none))) (by kernel_rfl) (fun _ => by kernel_rfl)) (fun a36 ha37 => ?_)
  refine p_val (v := .int .i64 (i : Int)) ha37 (by decide) (jH ha37 (At.here (by kernel_rfl : ((jV Try.f58 5)[1]?).map spec = some ((Op.move (Operand.tmp 4)), some 15, 3, none))) (by kernel_rfl) (fun _ => by kernel_rfl)) (fun a38 ha39 => ?_)
  refine p_val (v := .slice s0.A s0.n s0.c) ha39 (by decide) (jH ha39 (At.here (by kernel_rfl : ((jV Try.f58 5)[2]?).map spec = some ((Op.move (Operand.tmp 0)), some 16, 22, none))) (by kernel_rfl) (fun _ => by kernel_rfl)) (fun a40 ha41 => ?_)
  refine p_val (v := .int .i64 (i : Int)) ha41 (by decide) (jH ha41 (At.here (by kernel_rfl : ((jV Try.f58 5)[3]?).map spec = some ((Op.move (Operand.tmp 4)), some 17, 3, none))) (by kernel_rfl) (fun _ => by kernel_rfl)) (fun a42 ha43 => ?_)
  refine p_val (v := .pointer (some ⟨bk s0, of_ s0 + i * 1, none⟩)) ha43 (by decide) (xZ (s := s0) (el := 133) (sz := 1) (j := i) ha43 (At.here (by kernel_rfl : ((jV Try.f58 5)[4]?).map spec = some ((Op.indexAddr 22 (Operand.tmp 16) (Operand.tmp 17)), some 18, 0, none))) rfl rfl (by kernel_rfl) (by kernel_rfl) (rows_cells (Kd.C_below hr0 hS24.below) i b hb).1 rfl (by omega)) (fun a44 ha45 => ?_)
  refine p_val (v := .slice A1 b.length c1) ha45 (by decide) (qV (v := .slice A1 b.length c1) (p := ⟨bk s0, of_ s0 + i * 1, none⟩) ha45 (At.here (by kernel_rfl : ((jV Try.f58 5)[5]?).map spec = some ((Op.load 133 (Operand.tmp 18)), some 19, 133, none))) rfl (by kernel_rfl) (fun w' hw => by rw [hw, Nat.mul_one]; exact pw_cell_below hS24.below hc1)) (fun a46 ha47 => ?_)
  refine jW (o_ret (Post := fun r w' => ∃ s' : Sl, r = s'.v ∧ Sat w0 w' ((kdP w0.heap.size k72 72 s'.v (b.map toS)) :: (SX.blk g (us.map Prod.fst ++ List.replicate (l0.length - i) (Value.slice none 0 0)) 70) :: (qW (us.map fun (x : Value × List S72) => kdP w0.heap.size k72 72 x.1 x.2)) :: [])) ha47 (by decide) (At.here (by kernel_rfl : ((jV Try.f58 5)[6]?).map spec = some ((Op.call { callee := (Callee.value (Operand.func 119)), args := #[(Operand.tmp 19)], argTypes := #[133] }), some 20, 70, none))) rfl Try.func119 (by kernel_rfl) (toStepS_sat hS24 (Kd.C_below hC1 hS24.below) hl1 hb1) (fun v52 w50 a48 hp53 ha49 => ?_))
  obtain ⟨s1, rfl, hS51⟩ := hp53
  have ha54 : Has 23 [(0, .slice s0.A s0.n s0.c), (3, .slice (some ⟨g, 0, none⟩) s0.n s0.n), (4, .int .i64 (i : Int)), (8, .int .i64 (i : Int)), (9, .slice s0.A s0.n s0.c), (10, .int .i64 (s0.n : Int)), (11, .bool true), (14, .slice (some ⟨g, 0, none⟩) s0.n s0.n), (15, .int .i64 (i : Int)), (16, .slice s0.A s0.n s0.c), (17, .int .i64 (i : Int)), (18, .pointer (some ⟨bk s0, of_ s0 + i * 1, none⟩)), (19, .slice A1 b.length c1), (20, .slice s1.A s1.n s1.c)] a48 := ha49.keeps [0, 3, 4, 8, 9, 10, 11, 14, 15, 16, 17, 18, 19, 20] _ rfl
  refine p_val (v := .pointer (some ⟨g, i, none⟩)) ha54 (by decide) ((v_index (el := 70) (sz := 1) (b := g) (off := 0) (q := (i : Int)) ha54 (At.here (by kernel_rfl : ((jV Try.f58 5)[7]?).map spec = some ((Op.indexAddr 28 (Operand.tmp 14) (Operand.tmp 15)), some 21, 0, none))) rfl rfl (by kernel_rfl) (by kernel_rfl) (by omega) (by omega)).as (by simp)) (fun a55 ha56 => ?_)
  have hxs : (us.map Prod.fst ++ List.replicate (l0.length - i) (Value.slice none 0 0)).set i (.slice s1.A s1.n s1.c) = ((us ++ [(s1.v, b.map toS)]).map Prod.fst ++ List.replicate (l0.length - (i + 1)) (Value.slice none 0 0)) := set_next (by have := congrArg List.length hus; simpa [Nat.min_eq_left hi] using this) (by omega)
  refine jW (o_store (cs := (us.map Prod.fst ++ List.replicate (l0.length - i) (Value.slice none 0 0))) (cs' := ((us.map Prod.fst ++ List.replicate (l0.length - i) (Value.slice none 0 0)).set i (.slice s1.A s1.n s1.c))) 1 ha56 (At.here (by kernel_rfl : ((jV Try.f58 5)[8]?).map spec = some ((Op.store 70 (Operand.tmp 21) (Operand.tmp 20)), none, 0, none))) rfl rfl rfl (by kernel_rfl) hS51 rfl (by have := congrArg List.length hus; simp at this ⊢; omega) rfl (fun w59 a57 (hS60 : Sat w0 w59 ((kdP w0.heap.size k72 72 s1.v (b.map toS)) :: (SX.blk g ((us.map Prod.fst ++ List.replicate (l0.length - i) (Value.slice none 0 0)).set i (.slice s1.A s1.n s1.c)) 70) :: (qW (us.map fun (x : Value × List S72) => kdP w0.heap.size k72 72 x.1 x.2)) :: [])) ha58 => ?_))
  refine jY ?_
  have ha61 := ha58.keeps [0, 3, 4, 8, 9, 10, 11, 14, 15, 16, 17, 18, 19, 20, 21] [(0, .slice s0.A s0.n s0.c), (3, .slice (some ⟨g, 0, none⟩) s0.n s0.n), (4, .int .i64 (i : Int)), (8, .int .i64 (i : Int)), (9, .slice s0.A s0.n s0.c), (10, .int .i64 (s0.n : Int)), (11, .bool true), (14, .slice (some ⟨g, 0, none⟩) s0.n s0.n), (15, .int .i64 (i : Int)), (16, .slice s0.A s0.n s0.c), (17, .int .i64 (i : Int)), (18, .pointer (some ⟨bk s0, of_ s0 + i * 1, none⟩)), (19, .slice A1 b.length c1), (20, .slice s1.A s1.n s1.c), (21, .pointer (some ⟨g, i, none⟩))] rfl
  clear ha58 hS51 ha56 a55 ha54 a48 ha49 hS24 ha47 a46 ha45 a44 ha43 a42 ha41 a40 ha39 a38 ha37 a36 ha35 a31 ha33
  refine in_n (jJ ?_)
  refine p_begin ?_
  refine p_val (v := .int .i64 (i : Int)) ha61 (by decide) (jH ha61 (At.here (by kernel_rfl : ((jV Try.f58 4)[0]?).map spec = some ((Op.move (Operand.tmp 4)), some 12, 3, none))) (by kernel_rfl) (fun _ => by kernel_rfl)) (fun a62 ha63 => ?_)
  refine p_val (v := .int .i64 ((i : Int) + 1)) ha63 (by decide) ((jH (v := .int .i64 (IntKind.i64.wrap ((i : Int) + 1))) ha63 (At.here (by kernel_rfl : ((jV Try.f58 4)[1]?).map spec = some ((Op.binOp BinOp.add 3 (Operand.tmp 12) (Operand.const (Value.int IntKind.i64 1)) 3), some 13, 3, none))) (by kernel_rfl) (fun _ => by kernel_rfl)).as (by rw [wrap_i64 (by omega) (by omega)])) (fun a64 ha65 => ?_)
  refine p_val (v := .int .i64 ((i : Int) + 1)) ha65 (by decide) (jH ha65 (At.here (by kernel_rfl : ((jV Try.f58 4)[2]?).map spec = some ((Op.assign (Operand.tmp 13)), some 4, 3, none))) (by kernel_rfl) (fun _ => by kernel_rfl)) (fun a66 ha67 => ?_)
  refine jY ?_
  have ha68 := ha67.keeps [0, 3, 8, 9, 10, 11, 14, 15, 16, 17, 18, 19, 20, 21, 12, 13, 4] [(0, .slice s0.A s0.n s0.c), (3, .slice (some ⟨g, 0, none⟩) s0.n s0.n), (8, .int .i64 (i : Int)), (9, .slice s0.A s0.n s0.c), (10, .int .i64 (s0.n : Int)), (11, .bool true), (14, .slice (some ⟨g, 0, none⟩) s0.n s0.n), (15, .int .i64 (i : Int)), (16, .slice s0.A s0.n s0.c), (17, .int .i64 (i : Int)), (18, .pointer (some ⟨bk s0, of_ s0 + i * 1, none⟩)), (19, .slice A1 b.length c1), (20, .slice s1.A s1.n s1.c), (21, .pointer (some ⟨g, i, none⟩)), (12, .int .i64 (i : Int)), (13, .int .i64 ((i : Int) + 1)), (4, .int .i64 ((i : Int) + 1))] rfl
  clear ha67 ha65 a64 ha63 a62 ha61 a57
  refine jJ ?_
  have hS69 : Sat w0 w59 ((kdP w0.heap.size k72 72 s1.v (b.map toS)) :: (qW (us.map fun (x : Value × List S72) => kdP w0.heap.size k72 72 x.1 x.2)) :: (SX.blk g ((us.map Prod.fst ++ List.replicate (l0.length - i) (Value.slice none 0 0)).set i (.slice s1.A s1.n s1.c)) 70) :: []) := hS60.pickR (l := [kdP w0.heap.size k72 72 s1.v (b.map toS), SX.blk g ((us.map Prod.fst ++ List.replicate (l0.length - i) (Value.slice none 0 0)).set i (.slice s1.A s1.n s1.c)) 70, qW (us.map fun (x : Value × List S72) => kdP w0.heap.size k72 72 x.1 x.2)]) [0, 2, 1] (by decide) [kdP w0.heap.size k72 72 s1.v (b.map toS), qW (us.map fun (x : Value × List S72) => kdP w0.heap.size k72 72 x.1 x.2), SX.blk g ((us.map Prod.fst ++ List.replicate (l0.length - i) (Value.slice none 0 0)).set i (.slice s1.A s1.n s1.c)) 70] rfl
  have hS70 : Sat w0 w59 ((qW ((us ++ [(s1.v, b.map toS)]).map fun (x : Value × List S72) => kdP w0.heap.size k72 72 x.1 x.2)) :: (SX.blk g ((us.map Prod.fst ++ List.replicate (l0.length - i) (Value.slice none 0 0)).set i (.slice s1.A s1.n s1.c)) 70) :: []) := by have hh := Sat.gainLast hS69; simpa using hh
  have hS71 : Sat w0 w59 ((SX.blk g ((us.map Prod.fst ++ List.replicate (l0.length - i) (Value.slice none 0 0)).set i (.slice s1.A s1.n s1.c)) 70) :: (qW ((us ++ [(s1.v, b.map toS)]).map fun (x : Value × List S72) => kdP w0.heap.size k72 72 x.1 x.2)) :: []) := hS70.pickR (l := [qW ((us ++ [(s1.v, b.map toS)]).map fun (x : Value × List S72) => kdP w0.heap.size k72 72 x.1 x.2), SX.blk g ((us.map Prod.fst ++ List.replicate (l0.length - i) (Value.slice none 0 0)).set i (.slice s1.A s1.n s1.c)) 70]) [1, 0] (by decide) [SX.blk g ((us.map Prod.fst ++ List.replicate (l0.length - i) (Value.slice none 0 0)).set i (.slice s1.A s1.n s1.c)) 70, qW ((us ++ [(s1.v, b.map toS)]).map fun (x : Value × List S72) => kdP w0.heap.size k72 72 x.1 x.2)] rfl
  have hS72 : Sat w0 w59 ((SX.blk g ((us ++ [(s1.v, b.map toS)]).map Prod.fst ++ List.replicate (l0.length - (i + 1)) (Value.slice none 0 0)) 70) :: (qW ((us ++ [(s1.v, b.map toS)]).map fun (x : Value × List S72) => kdP w0.heap.size k72 72 x.1 x.2)) :: []) := by rw [← hxs]; exact hS71
  exact ⟨_, by omega, i + 1, (us ++ [(s1.v, b.map toS)]), rfl, by omega, by rw [List.map_append, hus, htake, List.map_append]; rfl, (fun x hx => (List.mem_append.1 hx).elim (hso x) fun hx => ⟨s1, by rw [List.mem_singleton.1 hx]⟩), ha68.keeps [0, 3, 4] _ rfl, hS72⟩
 have ha73 : Has 23 [(0, .slice s0.A s0.n s0.c), (3, .slice (some ⟨g, 0, none⟩) s0.n s0.n), (4, .int .i64 (i : Int)), (8, .int .i64 (i : Int)), (9, .slice s0.A s0.n s0.c), (10, .int .i64 (s0.n : Int)), (11, .bool false)] a31 := by have hh : Has 23 [(0, .slice s0.A s0.n s0.c), (3, .slice (some ⟨g, 0, none⟩) s0.n s0.n), (4, .int .i64 (i : Int)), (8, .int .i64 (i : Int)), (9, .slice s0.A s0.n s0.c), (10, .int .i64 (s0.n : Int)), (11, .bool (decide ((i : Int) < (s0.n : Int))))] a31 := ha33.keeps [0, 3, 4, 8, 9, 10, 11] _ rfl; simp only [decide_eq_false c34, Bool.not_true, Bool.not_false] at hh; exact hh
 have hend : i = l0.length := by have := c34; omega
 refine jK ha73 rfl rfl ?_
 refine wp_exit (qJ (qJ (in_x (jJ (wp_seq ?_)))))
 refine p_begin ?_
 refine p_val (v := .slice (some ⟨g, 0, none⟩) s0.n s0.n) ha73 (by decide) (jH ha73 (At.here (by kernel_rfl : ((jV Try.f58 6)[0]?).map spec = some ((Op.move (Operand.tmp 3)), some 22, 28, none))) (by kernel_rfl) (fun _ => by kernel_rfl)) (fun a74 ha75 => ?_)
 refine p_val (v := .slice (some ⟨g, 0, none⟩) s0.n s0.n) ha75 (by decide) (jH ha75 (At.here (by kernel_rfl : ((jV Try.f58 6)[1]?).map spec = some ((Op.assign (Operand.tmp 22)), some 2, 28, none))) (by kernel_rfl) (fun _ => by kernel_rfl)) (fun a76 ha77 => ?_)
 refine jY ?_
 have ha78 := ha77.keeps [2] [(2, .slice (some ⟨g, 0, none⟩) s0.n s0.n)] rfl
 clear ha77 ha75 a74 ha73 a31 ha33
 refine jJ (wp_ret ?_)
 have hl := congrArg List.length hus
 rw [hend, List.take_length, List.length_map, List.length_map] at hl
 have hh := hS24
 rw [hend, Nat.sub_self, List.replicate_zero] at hh
 refine end_tmp (t := 2) ha78 (by kernel_rfl) rfl ?_
 exact ⟨⟨some ⟨g, 0, none⟩, s0.n, s0.n⟩, us, rfl, by rw [hus, hend, List.take_length], hso, hh.shutRow (g := g) (n := s0.n) (cap := s0.n) (sz := 1) (xs := us.map Prod.fst) (cur := []) 0 rfl (by rw [List.length_map, hl, hlen0, Nat.mul_one]) (Nat.le_refl _) (by simp only [maxLen]; omega) (by rw [List.append_nil, List.length_map, hl, hlen0, Nat.mul_one])⟩
theorem sl_list {α : Type} (us : List (Value × α)) (h : ∀ x ∈ us, ∃ z : Sl, x.1 = z.v) : ∃ vs : List Sl, us.map (·.1) = vs.map Sl.v := by
 induction us with
 | nil => exact ⟨[], rfl⟩
 | cons x us ih =>
  obtain ⟨vs, h1⟩ := ih fun y hy => h y (List.mem_cons_of_mem _ hy)
  obtain ⟨z, h2⟩ := h x List.mem_cons_self
  exact ⟨z :: vs, by rw [List.map_cons, List.map_cons, h1, h2]⟩
theorem map_set_same {α β : Type} (us : List (α × β)) (i : Nat) (x y : α × β) (hx : us[i]? = some x) (h : y.1 = x.1) : (us.set i y).map (·.1) = us.map (·.1) := by
  apply List.ext_getElem?
  intro j
  rw [List.map_set, List.getElem?_set]
  split
  · rename_i hj
    subst hj;have h3 : (us.map (·.1))[i]? = some x.1 := by rw [List.getElem?_map, hx]; rfl
    rw [h3, h];rw [if_pos (List.getElem?_eq_some_iff.1 h3).1]
  · rfl
theorem _root_.Go.Proofs.Ytpenhegoilccoaa.SX.Sat.kdTurn {w0 w : World} {Rs : List Asn} {α : Type} {d : Kd α} {e : Nat} {v : Value} {l : List α} (h : Sat w0 w (kdP w0.heap.size d e v l :: Rs)) :
    ∃ F : Nat → Prop, d.R e w w0.heap.size F v l ∧ ∀ (w' : World) (l' : List α), Below w0.heap.size w0 w' → Kept w w' F → d.R e w' w0.heap.size (fun k => F k ∨ w.heap.size ≤ k) v l' → Sat w0 w' (kdP w0.heap.size d e v l' :: Rs) := by
  obtain ⟨hb, F, h1, h2, h3⟩ := h
  obtain ⟨g1, g2⟩ := h1 0 _ rfl
  refine ⟨F 0, g2, fun w' l' hb' hk hR => ?_⟩
  refine ⟨hb', fun j b => match j with | 0 => F 0 b ∨ (w.heap.size ≤ b ∧ b < w'.heap.size) | j + 1 => F (j + 1) b, fun j S hj => ?_, fun i j b hi hj => ?_, fun j b hj => ?_⟩
  · match j with
    | 0 =>
      simp at hj
      subst hj;refine ⟨fun k hk2 => ?_, Kd.R_mono (Kd.R_bound hR) fun k hk2 => ?_⟩
      · rcases hk2 with h | h
        · have := g1 k h; have := hk.1; omega
        · exact h.2
      · rcases hk2.1 with h | h
        · exact .inl h
        · exact .inr ⟨h, hk2.2.2.1⟩
    | j + 1 =>
      refine S.loc w w' _ hk.1 (h1 (j + 1) S hj) fun b hF => hk.2 b (h3 _ b hF).2 fun h0 => ?_;have := h2 _ _ b hF h0
      omega
  · match i, j with
    | 0, 0 => rfl
    | 0, j + 1 =>
      rcases hi with h | h
      · exact h2 _ _ b h hj
      · have := (h3 _ b hj).2; omega
    | i + 1, 0 =>
      rcases hj with h | h
      · exact h2 _ _ b hi h
      · have := (h3 _ b hi).2; omega
    | i + 1, j + 1 => exact h2 _ _ b hi hj
  · have hs : w.heap.size ≤ w'.heap.size := hk.1
    have hs0 : w0.heap.size ≤ w.heap.size := hb.size
    match j with
    | 0 =>
      rcases hj with h | h
      · have := h3 _ b h; omega
      · omega
    | j + 1 => have := h3 _ b hj; omega
theorem markStepS_sat {w0 w : World} {Rs : List Asn} {s : Sl} {l : List ST} {a : Int} (hS : Sat w0 w (kdP w0.heap.size k72 72 s.v l :: Rs)) (h0 : 0 ≤ a) (hn : l.length ≤ 4194304) (ha : a ≤ 1073741824) :
  Calls Try.prog 133 #[.slice s.A s.n s.c, .int .i64 a] w (Ret fun r w' => r = .int .i64 (a + 3 * (l.length : Int)) ∧ Sat w0 w' (kdP w0.heap.size k72 72 s.v (mkS a l.length) :: Rs)) := by
 obtain ⟨F, hR, hT⟩ := hS.kdTurn
 refine (laws_markStepS.calls (l.length + 1) F s.v l a _ _ w0 w hS.below hR (markStepS_f l a h0 hn ha _ (by omega))).mono ?_
 rintro e w' ⟨rfl, h1, h2, h3⟩
 exact ⟨rfl, hT w' _ h2 h3 h1⟩
theorem code76 : Try.f76.body = some (Code.seq (Code.region 0 (jV Try.f76 0) false) (Code.seq (Code.seq (Code.region 1 (jV Try.f76 1) false) (Code.block 0 (Code.loop (Code.seq (Code.seq (Code.region 2 (jV Try.f76 2) false) (Code.cond (Operand.tmp 9) Code.skip (Code.exit 0))) (Code.seq (Code.block 1 (Code.region 4 (jV Try.f76 4) false)) (Code.region 3 (jV Try.f76 3) false)))))) (Code.seq (Code.region 5 (jV Try.f76 5) false) Code.ret))) := by kernel_rfl
theorem markStepSS_sat (w0 w : World) (Rs : List Asn) (s0 : Sl) (l : List (List S72)) (x0 : Int) (hS0 : Sat w0 w (kdS w0.heap.size k72 72 70 s0 l :: Rs)) (h0 : 0 ≤ x0) (hn : l.length ≤ 4194304) (ht : tot l ≤ 4194304) (ha1 : x0 ≤ 1048576) :
  Calls Try.prog 76 #[.slice s0.A s0.n s0.c, .int .i64 x0] w (Ret fun r w' => r = .int .i64 (x0 + 3 * (tot l : Int)) ∧ Sat w0 w' (kdS w0.heap.size k72 72 70 s0 (mkSS x0 l) :: Rs)) := by
 have hlen0 : s0.n = l.length := (hS0.rdS 0 rfl).len
 obtain ⟨us, hus, hso, hS⟩ := hS0.openS
 obtain ⟨vs, hfs⟩ : ∃ vs : List Sl, us.map (·.1) = vs.map Sl.v := sl_list us hso
 rw [show us.map Prod.fst = vs.map Sl.v from hfs] at hS
 refine enter (n := 19) Try.func76 code76 (by kernel_rfl) (Nat.le_of_ble_eq_true rfl) (fun a ha => ?_)
 replace ha : Has 19 [(0, .slice s0.A s0.n s0.c), (1, .int .i64 x0)] a := ha
 refine wp_seq ?_
 refine p_begin ?_
 refine p_val (v := .int .i64 0) ha (by decide) (jH ha (At.here (by kernel_rfl : ((jV Try.f76 0)[0]?).map spec = some ((Op.assign (Operand.const (Value.int IntKind.i64 0))), some 4, 3, none))) (by kernel_rfl) (fun _ => by kernel_rfl)) (fun a1 ha2 => ?_)
 refine jY ?_
 have ha3 := ha2.keeps [0, 1, 4] [(0, .slice s0.A s0.n s0.c), (1, .int .i64 x0), (4, .int .i64 0)] rfl
 clear ha2 ha a
 refine jJ (wp_seq (wp_seq ?_))
 refine p_begin ?_
 refine p_val (v := .int .i64 0) ha3 (by decide) (jH ha3 (At.here (by kernel_rfl : ((jV Try.f76 1)[0]?).map spec = some ((Op.assign (Operand.const (Value.int IntKind.i64 0))), some 5, 3, none))) (by kernel_rfl) (fun _ => by kernel_rfl)) (fun a4 ha5 => ?_)
 refine jY ?_
 have ha6 := ha5.keeps [0, 1, 4, 5] [(0, .slice s0.A s0.n s0.c), (1, .int .i64 x0), (4, .int .i64 0), (5, .int .i64 0)] rfl
 clear ha5 ha3 a1
 refine jJ (wp_block ?_)
 have e0 : x0 = x0 + 3 * (tot (l.take 0) : Int) := by simp [tot]
 have ha7 : Has 19 [(0, .slice s0.A s0.n s0.c), (1, .int .i64 (x0 + 3 * (tot (l.take 0) : Int))), (5, .int .i64 ((0 : Nat) : Int))] a4 := by have hh := ha6.keeps [0, 1, 5] _ rfl; rw [← e0]; exact hh
 refine wp_loop_ghost (fun n_ a_ w_ => ∃ (i : Nat) (us : List (Value × List S72)), n_ = l.length - i ∧ (i ≤ l.length) ∧ (us.map (·.2) = mkSS x0 (l.take i) ++ l.drop i) ∧ (us.map (·.1) = vs.map Sl.v) ∧ Has 19 [(0, .slice s0.A s0.n s0.c), (1, .int .i64 (x0 + 3 * (tot (l.take i) : Int))), (5, .int .i64 (i : Int))] a_ ∧ Sat w0 w_ ((SX.row (.slice s0.A s0.n s0.c) 70 1 (vs.map Sl.v)) :: (qW (us.map fun (x : Value × List S72) => kdP w0.heap.size k72 72 x.1 x.2)) :: Rs)) _ ⟨0, us, rfl, Nat.zero_le _, by simpa [mkSS] using hus, hfs, ha7.keeps [0, 1, 5] _ rfl, hS⟩ ?_
 rintro n_ a8 w9 ⟨i, us, rfl, hi, hus, hfs, ha10, hS11⟩
 refine wp_seq (wp_seq ?_)
 refine p_begin ?_
 refine p_val (v := .int .i64 (i : Int)) ha10 (by decide) (jH ha10 (At.here (by kernel_rfl : ((jV Try.f76 2)[0]?).map spec = some ((Op.move (Operand.tmp 5)), some 6, 3, none))) (by kernel_rfl) (fun _ => by kernel_rfl)) (fun a12 ha13 => ?_)
 refine p_val (v := .slice s0.A s0.n s0.c) ha13 (by decide) (jH ha13 (At.here (by kernel_rfl : ((jV Try.f76 2)[1]?).map spec = some ((Op.move (Operand.tmp 0)), some 7, 28, none))) (by kernel_rfl) (fun _ => by kernel_rfl)) (fun a14 ha15 => ?_)
 refine p_val (v := .int .i64 (s0.n : Int)) ha15 (by decide) (jH ha15 (At.here (by kernel_rfl : ((jV Try.f76 2)[2]?).map spec = some ((Op.call { callee := (Callee.builtin Builtin.len), args := #[(Operand.tmp 7)], argTypes := #[28] }), some 8, 3, none))) (by kernel_rfl) (fun _ => by kernel_rfl)) (fun a16 ha17 => ?_)
 refine p_val (v := .bool (decide ((i : Int) < (s0.n : Int)))) ha17 (by decide) (jH ha17 (At.here (by kernel_rfl : ((jV Try.f76 2)[3]?).map spec = some ((Op.binOp BinOp.lss 3 (Operand.tmp 6) (Operand.tmp 8) 3), some 9, 4, none))) (by kernel_rfl) (fun _ => by kernel_rfl)) (fun a18 ha19 => ?_)
 refine jY ?_
 have ha20 := ha19.keeps [0, 1, 5, 6, 7, 8, 9] [(0, .slice s0.A s0.n s0.c), (1, .int .i64 (x0 + 3 * (tot (l.take i) : Int))), (5, .int .i64 (i : Int)), (6, .int .i64 (i : Int)), (7, .slice s0.A s0.n s0.c), (8, .int .i64 (s0.n : Int)), (9, .bool (decide ((i : Int) < (s0.n : Int))))] rfl
 clear ha19 ha17 a16 ha15 a14 ha13 a12 ha10 a8
 refine jJ ?_
 by_cases c21 : (i : Int) < (s0.n : Int)
 ·
  have ha22 : Has 19 [(0, .slice s0.A s0.n s0.c), (1, .int .i64 (x0 + 3 * (tot (l.take i) : Int))), (5, .int .i64 (i : Int)), (6, .int .i64 (i : Int)), (7, .slice s0.A s0.n s0.c), (8, .int .i64 (s0.n : Int)), (9, .bool true)] a18 := by have hh : Has 19 [(0, .slice s0.A s0.n s0.c), (1, .int .i64 (x0 + 3 * (tot (l.take i) : Int))), (5, .int .i64 (i : Int)), (6, .int .i64 (i : Int)), (7, .slice s0.A s0.n s0.c), (8, .int .i64 (s0.n : Int)), (9, .bool (decide ((i : Int) < (s0.n : Int))))] a18 := ha20.keeps [0, 1, 5, 6, 7, 8, 9] _ rfl; simp only [decide_eq_true c21, Bool.not_true, Bool.not_false] at hh; exact hh
  have hlt : i < l.length := by have := c21; omega
  obtain ⟨b, hb⟩ : ∃ b, l[i]? = some b := ⟨_, List.getElem?_eq_getElem hlt⟩
  have htake : l.take (i + 1) = l.take i ++ [b] := by rw [List.take_add_one, hb]; rfl
  have hdrop : l.drop i = b :: l.drop (i + 1) := by rw [List.drop_eq_getElem_cons hlt, (List.getElem?_eq_some_iff.1 hb).2]
  have htl : tot (l.take i) + b.length ≤ tot l := by have h1 : tot l = tot (l.take i) + tot (l.drop i) := (by rw [← tot_append, List.take_append_drop]); rw [h1, hdrop]; simp only [tot]; omega
  have hb1 : b.length ≤ 4194304 := by omega
  have hmi : (mkSS x0 (l.take i)).length = i := by rw [mkSS_length, List.length_take]; omega
  have hlv : vs.length = l.length := by have h1 := congrArg List.length hus; have h2 := congrArg List.length hfs; simp [mkSS_length] at h1 h2; omega
  obtain ⟨x, hx, hxb⟩ : ∃ x, us[i]? = some x ∧ x.2 = b := by
   have h3 : (us.map (·.2))[i]? = some b := by rw [hus, List.getElem?_append_right (by omega), hmi, Nat.sub_self, hdrop]; rfl
   rw [List.getElem?_map] at h3;exact Option.map_eq_some_iff.1 h3
  obtain ⟨z, hz, hxz⟩ : ∃ z : Sl, (vs.map Sl.v)[i]? = some z.v ∧ x.1 = z.v := by
   have h3 : (us.map (·.1))[i]? = some x.1 := by rw [List.getElem?_map, hx]; rfl
   rw [hfs] at h3;obtain ⟨z, h4, h5⟩ := List.mem_map.1 (List.mem_of_getElem? h3);exact ⟨z, by rw [h3, h5], h5.symm⟩
  obtain rfl : x = (z.v, b) := Prod.ext hxz hxb
  have hus2 : (us.set i (z.v, mkS (x0 + 3 * (tot (l.take i) : Int)) b.length)).map (·.2) = mkSS x0 (l.take (i + 1)) ++ l.drop (i + 1) := by
   rw [List.map_set, hus, htake, mkSS_snoc, hdrop, List.append_assoc];have := set_mid (mkSS x0 (l.take i)) b (mkS (x0 + 3 * (tot (l.take i) : Int)) b.length) (l.drop (i + 1));rw [hmi] at this;exact this
  have hfs2 : (us.set i (z.v, mkS (x0 + 3 * (tot (l.take i) : Int)) b.length)).map (·.1) = vs.map Sl.v := (map_set_same us i _ (z.v, mkS (x0 + 3 * (tot (l.take i) : Int)) b.length) hx rfl).trans hfs
  refine jU ha22 rfl rfl ?_
  refine wp_skip (jJ (wp_seq (wp_block ?_)))
  refine p_begin ?_
  refine p_val (v := .slice s0.A s0.n s0.c) ha22 (by decide) (jH ha22 (At.here (by kernel_rfl : ((jV Try.f76 4)[0]?).map spec = some ((Op.move (Operand.tmp 0)), some 12, 28, none))) (by kernel_rfl) (fun _ => by kernel_rfl)) (fun a23 ha24 => ?_)
  refine p_val (v := .int .i64 (i : Int)) ha24 (by decide) (jH ha24 (At.here (by kernel_rfl : ((jV Try.f76 4)[1]?).map spec = some ((Op.move (Operand.tmp 5)), some 13, 3, none))) (by kernel_rfl) (fun _ => by kernel_rfl)) (fun a25 ha26 => ?_)
  refine p_val (v := .pointer (some ⟨bk s0, of_ s0 + i * 1, none⟩)) ha26 (by decide) (xZ (s := s0) (el := 70) (sz := 1) (j := i) ha26 (At.here (by kernel_rfl : ((jV Try.f76 4)[2]?).map spec = some ((Op.indexAddr 28 (Operand.tmp 12) (Operand.tmp 13)), some 14, 0, none))) rfl rfl (by kernel_rfl) (by kernel_rfl) (((hS11).rdV (T := 70) (s := s0) 0 rfl).cells i (by rw [List.length_map, hlv]; exact hlt)).1 rfl (by rw [hlen0]; exact hlt)) (fun a27 ha28 => ?_)
  refine p_val (v := .slice z.A z.n z.c) ha28 (by decide) (qV (v := .slice z.A z.n z.c) (p := ⟨bk s0, of_ s0 + i * 1, none⟩) ha28 (At.here (by kernel_rfl : ((jV Try.f76 4)[3]?).map spec = some ((Op.load 70 (Operand.tmp 14)), some 15, 70, none))) rfl (by kernel_rfl) (fun w' hw => by rw [hw, Nat.mul_one]; exact (((hS11).rdV (T := 70) (s := s0) 0 rfl).cells i (by rw [List.length_map, hlv]; exact hlt)).2.trans hz)) (fun a29 ha30 => ?_)
  refine p_val (v := .int .i64 (x0 + 3 * (tot (l.take i) : Int))) ha30 (by decide) (jH ha30 (At.here (by kernel_rfl : ((jV Try.f76 4)[4]?).map spec = some ((Op.move (Operand.tmp 1)), some 16, 3, none))) (by kernel_rfl) (fun _ => by kernel_rfl)) (fun a31 ha32 => ?_)
  have hS37 : Sat w0 w9 ((kdP w0.heap.size k72 72 z.v b) :: (qW ((us.eraseIdx i).map fun (x : Value × List S72) => kdP w0.heap.size k72 72 x.1 x.2)) :: (SX.row (.slice s0.A s0.n s0.c) 70 1 (vs.map Sl.v)) :: Rs) := Sat.takeAt (g := fun (x : Value × List S72) => kdP w0.heap.size k72 72 x.1 x.2) hx (hS11.pickR (l := [SX.row (.slice s0.A s0.n s0.c) 70 1 (vs.map Sl.v), qW (us.map fun (x : Value × List S72) => kdP w0.heap.size k72 72 x.1 x.2)]) [1, 0] (by decide) [qW (us.map fun (x : Value × List S72) => kdP w0.heap.size k72 72 x.1 x.2), SX.row (.slice s0.A s0.n s0.c) 70 1 (vs.map Sl.v)] rfl)
  refine jW (o_ret (Post := fun r w' => r = .int .i64 (x0 + 3 * (tot (l.take i) : Int) + 3 * (b.length : Int)) ∧ Sat w0 w' ((kdP w0.heap.size k72 72 z.v (mkS (x0 + 3 * (tot (l.take i) : Int)) b.length)) :: (qW ((us.eraseIdx i).map fun (x : Value × List S72) => kdP w0.heap.size k72 72 x.1 x.2)) :: (SX.row (.slice s0.A s0.n s0.c) 70 1 (vs.map Sl.v)) :: Rs)) ha32 (by decide) (At.here (by kernel_rfl : ((jV Try.f76 4)[5]?).map spec = some ((Op.call { callee := (Callee.value (Operand.func 133)), args := #[(Operand.tmp 15), (Operand.tmp 16)], argTypes := #[70, 3] }), some 17, 3, none))) rfl Try.func133 (by kernel_rfl) (markStepS_sat hS37 (by omega) hb1 (by omega)) (fun v38 w35 a33 hp39 ha34 => ?_))
  obtain ⟨rfl, hS36⟩ := hp39
  have ha40 : Has 19 [(0, .slice s0.A s0.n s0.c), (1, .int .i64 (x0 + 3 * (tot (l.take i) : Int))), (5, .int .i64 (i : Int)), (6, .int .i64 (i : Int)), (7, .slice s0.A s0.n s0.c), (8, .int .i64 (s0.n : Int)), (9, .bool true), (12, .slice s0.A s0.n s0.c), (13, .int .i64 (i : Int)), (14, .pointer (some ⟨bk s0, of_ s0 + i * 1, none⟩)), (15, .slice z.A z.n z.c), (16, .int .i64 (x0 + 3 * (tot (l.take i) : Int))), (17, .int .i64 (x0 + 3 * (tot (l.take i) : Int) + 3 * (b.length : Int)))] a33 := ha34.keeps [0, 1, 5, 6, 7, 8, 9, 12, 13, 14, 15, 16, 17] _ rfl
  refine p_val (v := .int .i64 (x0 + 3 * (tot (l.take i) : Int) + 3 * (b.length : Int))) ha40 (by decide) (jH ha40 (At.here (by kernel_rfl : ((jV Try.f76 4)[6]?).map spec = some ((Op.assign (Operand.tmp 17)), some 1, 3, none))) (by kernel_rfl) (fun _ => by kernel_rfl)) (fun a41 ha42 => ?_)
  refine jY ?_
  have ha43 := ha42.keeps [0, 5, 6, 7, 8, 9, 12, 13, 14, 15, 16, 17, 1] [(0, .slice s0.A s0.n s0.c), (5, .int .i64 (i : Int)), (6, .int .i64 (i : Int)), (7, .slice s0.A s0.n s0.c), (8, .int .i64 (s0.n : Int)), (9, .bool true), (12, .slice s0.A s0.n s0.c), (13, .int .i64 (i : Int)), (14, .pointer (some ⟨bk s0, of_ s0 + i * 1, none⟩)), (15, .slice z.A z.n z.c), (16, .int .i64 (x0 + 3 * (tot (l.take i) : Int))), (17, .int .i64 (x0 + 3 * (tot (l.take i) : Int) + 3 * (b.length : Int))), (1, .int .i64 (x0 + 3 * (tot (l.take i) : Int) + 3 * (b.length : Int)))] rfl
  clear ha42 ha40 a33 ha34 hS37 ha32 a31 hS11 ha30 a29 ha28 a27 ha26 a25 ha24 a23 ha22 a18 ha20
  refine in_n (jJ ?_)
  refine p_begin ?_
  refine p_val (v := .int .i64 (i : Int)) ha43 (by decide) (jH ha43 (At.here (by kernel_rfl : ((jV Try.f76 3)[0]?).map spec = some ((Op.move (Operand.tmp 5)), some 10, 3, none))) (by kernel_rfl) (fun _ => by kernel_rfl)) (fun a44 ha45 => ?_)
  refine p_val (v := .int .i64 ((i : Int) + 1)) ha45 (by decide) ((jH (v := .int .i64 (IntKind.i64.wrap ((i : Int) + 1))) ha45 (At.here (by kernel_rfl : ((jV Try.f76 3)[1]?).map spec = some ((Op.binOp BinOp.add 3 (Operand.tmp 10) (Operand.const (Value.int IntKind.i64 1)) 3), some 11, 3, none))) (by kernel_rfl) (fun _ => by kernel_rfl)).as (by rw [wrap_i64 (by omega) (by omega)])) (fun a46 ha47 => ?_)
  refine p_val (v := .int .i64 ((i : Int) + 1)) ha47 (by decide) (jH ha47 (At.here (by kernel_rfl : ((jV Try.f76 3)[2]?).map spec = some ((Op.assign (Operand.tmp 11)), some 5, 3, none))) (by kernel_rfl) (fun _ => by kernel_rfl)) (fun a48 ha49 => ?_)
  refine jY ?_
  have ha50 := ha49.keeps [0, 6, 7, 8, 9, 12, 13, 14, 15, 16, 17, 1, 10, 11, 5] [(0, .slice s0.A s0.n s0.c), (6, .int .i64 (i : Int)), (7, .slice s0.A s0.n s0.c), (8, .int .i64 (s0.n : Int)), (9, .bool true), (12, .slice s0.A s0.n s0.c), (13, .int .i64 (i : Int)), (14, .pointer (some ⟨bk s0, of_ s0 + i * 1, none⟩)), (15, .slice z.A z.n z.c), (16, .int .i64 (x0 + 3 * (tot (l.take i) : Int))), (17, .int .i64 (x0 + 3 * (tot (l.take i) : Int) + 3 * (b.length : Int))), (1, .int .i64 (x0 + 3 * (tot (l.take i) : Int) + 3 * (b.length : Int))), (10, .int .i64 (i : Int)), (11, .int .i64 ((i : Int) + 1)), (5, .int .i64 ((i : Int) + 1))] rfl
  clear ha49 ha47 a46 ha45 a44 ha43 a41
  refine jJ ?_
  have hS51 : Sat w0 w35 ((kdP w0.heap.size k72 72 z.v (mkS (x0 + 3 * (tot (l.take i) : Int)) b.length)) :: (qW ((us.eraseIdx i).map fun (x : Value × List S72) => kdP w0.heap.size k72 72 x.1 x.2)) :: (SX.row (.slice s0.A s0.n s0.c) 70 1 (vs.map Sl.v)) :: Rs) := hS36.pickR (l := [kdP w0.heap.size k72 72 z.v (mkS (x0 + 3 * (tot (l.take i) : Int)) b.length), qW ((us.eraseIdx i).map fun (x : Value × List S72) => kdP w0.heap.size k72 72 x.1 x.2), SX.row (.slice s0.A s0.n s0.c) 70 1 (vs.map Sl.v)]) [0, 1, 2] (by decide) [kdP w0.heap.size k72 72 z.v (mkS (x0 + 3 * (tot (l.take i) : Int)) b.length), qW ((us.eraseIdx i).map fun (x : Value × List S72) => kdP w0.heap.size k72 72 x.1 x.2), SX.row (.slice s0.A s0.n s0.c) 70 1 (vs.map Sl.v)] rfl
  have hS52 : Sat w0 w35 ((qW ((us.set i (z.v, mkS (x0 + 3 * (tot (l.take i) : Int)) b.length)).map fun (x : Value × List S72) => kdP w0.heap.size k72 72 x.1 x.2)) :: (SX.row (.slice s0.A s0.n s0.c) 70 1 (vs.map Sl.v)) :: Rs) := Sat.putAt (g := fun (x : Value × List S72) => kdP w0.heap.size k72 72 x.1 x.2) (y := (z.v, mkS (x0 + 3 * (tot (l.take i) : Int)) b.length)) hx hS51
  have hS53 : Sat w0 w35 ((SX.row (.slice s0.A s0.n s0.c) 70 1 (vs.map Sl.v)) :: (qW ((us.set i (z.v, mkS (x0 + 3 * (tot (l.take i) : Int)) b.length)).map fun (x : Value × List S72) => kdP w0.heap.size k72 72 x.1 x.2)) :: Rs) := hS52.pickR (l := [qW ((us.set i (z.v, mkS (x0 + 3 * (tot (l.take i) : Int)) b.length)).map fun (x : Value × List S72) => kdP w0.heap.size k72 72 x.1 x.2), SX.row (.slice s0.A s0.n s0.c) 70 1 (vs.map Sl.v)]) [1, 0] (by decide) [SX.row (.slice s0.A s0.n s0.c) 70 1 (vs.map Sl.v), qW ((us.set i (z.v, mkS (x0 + 3 * (tot (l.take i) : Int)) b.length)).map fun (x : Value × List S72) => kdP w0.heap.size k72 72 x.1 x.2)] rfl
  have e1 : x0 + 3 * (tot (l.take i) : Int) + 3 * (b.length : Int) = x0 + 3 * (tot (l.take (i + 1)) : Int) := by rw [htake, tot_append]; simp only [tot]; omega
  have ha54 : Has 19 [(0, .slice s0.A s0.n s0.c), (1, .int .i64 (x0 + 3 * (tot (l.take (i + 1)) : Int))), (5, .int .i64 ((i + 1 : Nat) : Int))] a48 := by have hh := ha50.keeps [0, 1, 5] _ rfl; rw [← e1]; exact hh
  exact ⟨_, by omega, i + 1, (us.set i (z.v, mkS (x0 + 3 * (tot (l.take i) : Int)) b.length)), rfl, by omega, hus2, hfs2, ha54.keeps [0, 1, 5] _ rfl, hS53⟩
 have ha55 : Has 19 [(0, .slice s0.A s0.n s0.c), (1, .int .i64 (x0 + 3 * (tot (l.take i) : Int))), (5, .int .i64 (i : Int)), (6, .int .i64 (i : Int)), (7, .slice s0.A s0.n s0.c), (8, .int .i64 (s0.n : Int)), (9, .bool false)] a18 := by have hh : Has 19 [(0, .slice s0.A s0.n s0.c), (1, .int .i64 (x0 + 3 * (tot (l.take i) : Int))), (5, .int .i64 (i : Int)), (6, .int .i64 (i : Int)), (7, .slice s0.A s0.n s0.c), (8, .int .i64 (s0.n : Int)), (9, .bool (decide ((i : Int) < (s0.n : Int))))] a18 := ha20.keeps [0, 1, 5, 6, 7, 8, 9] _ rfl; simp only [decide_eq_false c21, Bool.not_true, Bool.not_false] at hh; exact hh
 have hend : i = l.length := by have := c21; omega
 refine jK ha55 rfl rfl ?_
 refine wp_exit (qJ (qJ (in_x (jJ (wp_seq ?_)))))
 refine p_begin ?_
 refine p_val (v := .int .i64 (x0 + 3 * (tot (l.take i) : Int))) ha55 (by decide) (jH ha55 (At.here (by kernel_rfl : ((jV Try.f76 5)[0]?).map spec = some ((Op.move (Operand.tmp 1)), some 18, 3, none))) (by kernel_rfl) (fun _ => by kernel_rfl)) (fun a56 ha57 => ?_)
 refine p_val (v := .int .i64 (x0 + 3 * (tot (l.take i) : Int))) ha57 (by decide) (jH ha57 (At.here (by kernel_rfl : ((jV Try.f76 5)[1]?).map spec = some ((Op.assign (Operand.tmp 18)), some 4, 3, none))) (by kernel_rfl) (fun _ => by kernel_rfl)) (fun a58 ha59 => ?_)
 refine jY ?_
 have ha60 := ha59.keeps [4] [(4, .int .i64 (x0 + 3 * (tot (l.take i) : Int)))] rfl
 clear ha59 ha57 a56 ha55 a18 ha20
 refine jJ (wp_ret ?_)
 refine end_tmp (t := 4) ha60 (by kernel_rfl) rfl ?_
 rw [hend, List.take_length, List.drop_length, List.append_nil] at hus
 refine ⟨by rw [hend, List.take_length], Sat.shutS us hus (fun x hx => ?_) (by rw [hfs]; exact hS11)⟩
 have := List.mem_map_of_mem (f := Prod.fst) hx
 rw [hfs] at this
 obtain ⟨z, _, hz⟩ := List.mem_map.1 this
 exact ⟨z, hz.symm⟩
abbrev RdP (w : World) (s : Sl) (l : List (List ST)) : Prop := RdS k72 72 w s l
abbrev RdA (w : World) (s : Sl) (l : List (List LT)) : Prop := RdS k165 165 w s l
abbrev prg (B : Nat) (s : Sl) (l : List (List ST)) : Asn := kdS B k72 72 70 s l
structure Fits {α : Type} (l : List (List α)) : Prop where
 len : l.length ≤ 1048576
 tot : tot l ≤ 1048576
theorem Fits.each {α : Type} {l : List (List α)} (h : Fits l) : ∀ b ∈ l, b.length ≤ 1048576 := fun b hb => Nat.le_trans (tot_mem hb) h.tot
def toP (l : List (List LT)) : List (List ST) := l.map (·.map toS)
theorem toP_fits {l : List (List LT)} (h : Fits l) : Fits (toP l) := ⟨by rw [toP, List.length_map]; exact h.len, by rw [toP, tot_map]; exact h.tot⟩
theorem kdS_lower {α : Type} {B B' : Nat} {d : Kd α} {e e' : Nat} {s : Sl} {l : List (List α)} (hB : B' ≤ B) (w : World) (F : Nat → Prop) (h : (kdS B d e e' s l).says w F) : (kdS B' d e e' s l).says w F := by
 obtain ⟨us, G, g1, g2, g3⟩ := h
 refine ⟨us, G, g1, g2, fun i R hi => ?_⟩
 match i with
 | 0 => exact g3 0 R hi
 | 1 =>
  simp at hi
  subst hi
  obtain ⟨H, h1, h2, h3⟩ := g3 1 _ rfl
  refine ⟨H, by simpa using h1, by simpa using h2, fun j R hj => ?_⟩
  rw [List.getElem?_map] at hj
  obtain ⟨x, hx, rfl⟩ := Option.map_eq_some_iff.1 hj
  obtain ⟨q1, q2⟩ := h3 j (kdP B d e x.1 x.2) (by rw [List.getElem?_map, hx]; rfl)
  exact ⟨q1, Kd.R_lower q2 hB⟩
 | n + 2 => simp at hi
section
variable {w0 w : World} {Rs : List Asn}
theorem toStepSS_sat {s0 : Sl} {l0 : List (List LT)} (hS : Sat w0 w Rs) (hr : RdA w s0 l0) (hf : Fits l0) :
  Calls Try.prog 58 #[.slice s0.A s0.n s0.c] w (Ret fun r w' => ∃ s : Sl, r = s.v ∧ Sat w0 w' (prg w0.heap.size s (toP l0) :: Rs)) := by
 refine (toss_sat w s0 l0 hr.len hr.le hr.rd hf.len hf.each).mono ?_
 intro e w' h
 cases e with
 | returned v =>
  obtain ⟨s, us, rfl, h1, h2, h3⟩ := h
  refine ⟨s, rfl, ?_⟩
  have h4 : Sat w w' (prg w.heap.size s (toP l0) :: []) := Sat.shutS us h1 h2 h3
  have h5 : Sat w0 w' (prg w.heap.size s (toP l0) :: Rs) := hS.comp h4
  exact h5.turn (i := 0) rfl (prg w0.heap.size s (toP l0)) (kdS_lower hS.below.size w')
 | _ => exact h.elim
theorem szProgram_sat {s0 : Sl} {l0 : List (List LT)} {left : Int} (hS : Sat w0 w Rs) (hr : RdA w s0 l0) (h0 : 0 ≤ left) (h1 : left ≤ 1048576) :
  Calls Try.prog 15 #[.agg #[.slice s0.A s0.n s0.c], .int .i64 left] w (Ret fun r w' => r = .int .i64 (szP l0 left) ∧ Sat w0 w' Rs) := by
 have hb : ∀ b ∈ l0, b.length ≤ 9223372036854775807 := by
  intro b hb
  obtain ⟨j, hj⟩ := List.getElem?_of_mem hb
  obtain ⟨_, A', c', _, _, hC⟩ := rows_cells hr.rd j b hj
  exact hC.2.1
 have := laws_szProgram.calls 1048577 s0.A s0.c l0 left _ w hr.rd hr.le (szProgram_f l0 hb hr.rd.2.1 left h0 h1 _ (by omega))
 rw [← hr.len] at this
 refine this.mono ?_
 rintro e w' ⟨rfl, hb⟩
 exact ⟨rfl, hS.comp (Ps := []) ⟨hb, fun _ _ => False, fun i R h => by simp at h, fun _ _ _ h => h.elim, fun _ _ h => h.elim⟩⟩
theorem Sat.skip {w' : World} (hS : Sat w0 w Rs) (hb : Below w.heap.size w w') : Sat w0 w' Rs := hS.comp (Ps := []) ⟨hb, fun _ _ => False, fun i R h => by simp at h, fun _ _ _ h => h.elim, fun _ _ h => h.elim⟩
end
theorem code17 : Try.f17.body = some (Code.seq (Code.region 0 (jV Try.f17 0) false) (Code.seq (Code.region 1 (jV Try.f17 1) false) (Code.seq (Code.region 2 (jV Try.f17 2) false) (Code.seq (Code.region 3 (jV Try.f17 3) false) Code.ret)))) := by kernel_rfl
theorem toProgram_sat0 {w0 : World} {s0 : Sl} {l0 : List (List LT)} (hr : RdA w0 s0 l0) (hf : Fits l0) :
  Calls Try.prog 17 #[.agg #[.slice s0.A s0.n s0.c]] w0 (Ret fun r w' => ∃ s : Sl, r = .agg #[s.v] ∧ Sat w0 w' [prg w0.heap.size s (toP l0)]) := by
 have Rs : List Asn := []
 have hS : Sat w0 w0 [] := Sat.start w0
 refine enter (n := 9) Try.func17 code17 (by kernel_rfl) (Nat.le_of_ble_eq_true rfl) (fun a ha => ?_)
 replace ha : Has 9 [(0, .agg #[.slice s0.A s0.n s0.c])] a := ha
 refine wp_seq ?_
 refine p_begin ?_
 refine jW (o_new (cs := [.slice s0.A s0.n s0.c]) (T := 24) (fun b => .pointer (some ⟨b, 0, none⟩)) ha (by decide) (At.here (by kernel_rfl : ((jV Try.f17 0)[0]?).map spec = some ((Op.box 24 (Operand.tmp 0)), some 1, 0, none))) (by kernel_rfl) hS (fun _ => by kernel_rfl) (fun b5 w3 a1 hb6 (hS4 : Sat w0 w3 ((SX.blk b5 [.slice s0.A s0.n s0.c] 24) :: [])) ha2 => ?_))
 refine jW (o_new (cs := [.slice none 0 0]) (T := 30) (fun b => .pointer (some ⟨b, 0, none⟩)) ha2 (by decide) (At.here (by kernel_rfl : ((jV Try.f17 0)[1]?).map spec = some ((Op.alloc 30), some 2, 0, none))) (by kernel_rfl) hS4 (fun _ => by kernel_rfl) (fun b11 w9 a7 hb12 (hS10 : Sat w0 w9 ((SX.blk b11 [.slice none 0 0] 30) :: (SX.blk b5 [.slice s0.A s0.n s0.c] 24) :: [])) ha8 => ?_))
 refine jY ?_
 have ha13 := ha8.keeps [1, 2] [(1, .pointer (some ⟨b5, 0, none⟩)), (2, .pointer (some ⟨b11, 0, none⟩))] rfl
 clear ha8 hS4 ha2 a1 hS ha a
 refine jJ (wp_seq ?_)
 refine p_begin ?_
 refine jW (o_new (cs := [.slice none 0 0]) (T := 30) (fun b => .pointer (some ⟨b, 0, none⟩)) ha13 (by decide) (At.here (by kernel_rfl : ((jV Try.f17 1)[0]?).map spec = some ((Op.alloc 30), some 3, 0, none))) (by kernel_rfl) hS10 (fun _ => by kernel_rfl) (fun b18 w16 a14 hb19 (hS17 : Sat w0 w16 ((SX.blk b18 [.slice none 0 0] 30) :: (SX.blk b11 [.slice none 0 0] 30) :: (SX.blk b5 [.slice s0.A s0.n s0.c] 24) :: [])) ha15 => ?_))
 refine jY ?_
 have ha20 := ha15.keeps [1, 2, 3] [(1, .pointer (some ⟨b5, 0, none⟩)), (2, .pointer (some ⟨b11, 0, none⟩)), (3, .pointer (some ⟨b18, 0, none⟩))] rfl
 clear ha15 hS10 ha13 a7
 refine jJ (wp_seq ?_)
 refine p_begin ?_
 refine p_val (v := .pointer (some ⟨b5, 0, none⟩)) ha20 (by decide) (jH ha20 (At.here (by kernel_rfl : ((jV Try.f17 2)[0]?).map spec = some ((Op.fieldAddr 24 (Operand.tmp 1) 0), some 4, 0, none))) (by kernel_rfl) (fun _ => by kernel_rfl)) (fun a21 ha22 => ?_)
 refine p_val (v := .slice s0.A s0.n s0.c) ha22 (by decide) (v_load (cs := [.slice s0.A s0.n s0.c]) (T := 24) ha22 (At.here (by kernel_rfl : ((jV Try.f17 2)[1]?).map spec = some ((Op.load 22 (Operand.tmp 4)), some 5, 22, none))) rfl (by kernel_rfl) (fun _ hw => by rw [hw]; exact hS17.blk 2 rfl) rfl) (fun a23 ha24 => ?_)
 refine jW (o_ret (Post := fun r w' => ∃ s1 : Sl, r = s1.v ∧ Sat w0 w' ((prg w0.heap.size s1 (toP l0)) :: (SX.blk b18 [.slice none 0 0] 30) :: (SX.blk b11 [.slice none 0 0] 30) :: (SX.blk b5 [.slice s0.A s0.n s0.c] 24) :: [])) ha24 (by decide) (At.here (by kernel_rfl : ((jV Try.f17 2)[2]?).map spec = some ((Op.call { callee := (Callee.value (Operand.func 58)), args := #[(Operand.tmp 5)], argTypes := #[22] }), some 6, 28, none))) rfl Try.func58 (by kernel_rfl) (toStepSS_sat hS17 (hr.sat hS17) hf) (fun v29 w27 a25 hp30 ha26 => ?_))
 obtain ⟨s1, rfl, hS28⟩ := hp30
 have ha31 : Has 9 [(1, .pointer (some ⟨b5, 0, none⟩)), (2, .pointer (some ⟨b11, 0, none⟩)), (3, .pointer (some ⟨b18, 0, none⟩)), (4, .pointer (some ⟨b5, 0, none⟩)), (5, .slice s0.A s0.n s0.c), (6, .slice s1.A s1.n s1.c)] a25 := ha26.keeps [1, 2, 3, 4, 5, 6] _ rfl
 refine p_val (v := .pointer (some ⟨b18, 0, none⟩)) ha31 (by decide) (jH ha31 (At.here (by kernel_rfl : ((jV Try.f17 2)[3]?).map spec = some ((Op.fieldAddr 30 (Operand.tmp 3) 0), some 7, 0, none))) (by kernel_rfl) (fun _ => by kernel_rfl)) (fun a32 ha33 => ?_)
 refine jW (o_store (cs := [.slice none 0 0]) (cs' := [.slice s1.A s1.n s1.c]) 1 ha33 (At.here (by kernel_rfl : ((jV Try.f17 2)[4]?).map spec = some ((Op.store 28 (Operand.tmp 7) (Operand.tmp 6)), none, 0, none))) rfl rfl rfl (by kernel_rfl) hS28 rfl (by simp) rfl (fun w36 a34 (hS37 : Sat w0 w36 ((prg w0.heap.size s1 (toP l0)) :: (SX.blk b18 [.slice s1.A s1.n s1.c] 30) :: (SX.blk b11 [.slice none 0 0] 30) :: (SX.blk b5 [.slice s0.A s0.n s0.c] 24) :: [])) ha35 => ?_))
 refine jY ?_
 have ha38 := ha35.keeps [2, 3] [(2, .pointer (some ⟨b11, 0, none⟩)), (3, .pointer (some ⟨b18, 0, none⟩))] rfl
 clear ha35 hS28 ha33 a32 ha31 a25 ha26 hS17 ha24 a23 ha22 a21 ha20 a14
 refine jJ (wp_seq ?_)
 refine p_begin ?_
 refine p_val (v := .agg #[.slice s1.A s1.n s1.c]) ha38 (by decide) (v_loadAgg (vs := [.slice s1.A s1.n s1.c]) (cs := [.slice s1.A s1.n s1.c]) (T := 30) ha38 (At.here (by kernel_rfl : ((jV Try.f17 3)[0]?).map spec = some ((Op.load 30 (Operand.tmp 3)), some 8, 30, none))) rfl (by kernel_rfl) (fun _ hw => by rw [hw]; exact hS37.blk 1 rfl) rfl) (fun a39 ha40 => ?_)
 refine jW (zX (vs := [.slice s1.A s1.n s1.c]) (cs := [.slice none 0 0]) (cs' := [.slice s1.A s1.n s1.c]) 2 ha40 (At.here (by kernel_rfl : ((jV Try.f17 3)[1]?).map spec = some ((Op.store 30 (Operand.tmp 2) (Operand.tmp 8)), none, 0, none))) rfl rfl rfl (by kernel_rfl) hS37 rfl (by simp) rfl (fun w43 a41 (hS44 : Sat w0 w43 ((prg w0.heap.size s1 (toP l0)) :: (SX.blk b18 [.slice s1.A s1.n s1.c] 30) :: (SX.blk b11 [.slice s1.A s1.n s1.c] 30) :: (SX.blk b5 [.slice s0.A s0.n s0.c] 24) :: [])) ha42 => ?_))
 refine jY ?_
 have ha45 := ha42.keeps [2] [(2, .pointer (some ⟨b11, 0, none⟩))] rfl
 clear ha42 hS37 ha40 a39 ha38 a34
 refine jJ (wp_ret (jG ha45 (by kernel_rfl) (zG (t := 2) (ty := 30) (i := 2) (cs := [.slice s1.A s1.n s1.c]) ha45 rfl hS44 rfl (by kernel_rfl)) ?_))
 have hS46 : Sat w0 w43 ((prg w0.heap.size s1 (toP l0)) :: []) := hS44.pickR (l := [prg w0.heap.size s1 (toP l0), SX.blk b18 [.slice s1.A s1.n s1.c] 30, SX.blk b11 [.slice s1.A s1.n s1.c] 30, SX.blk b5 [.slice s0.A s0.n s0.c] 24]) [0] (by decide) [prg w0.heap.size s1 (toP l0)] rfl
 exact ⟨s1, rfl, hS46⟩
theorem code22 : Try.f22.body = some (Code.seq (Code.region 0 (jV Try.f22 0) false) (Code.seq (Code.region 1 (jV Try.f22 1) false) (Code.seq (Code.region 2 (jV Try.f22 2) false) Code.ret))) := by kernel_rfl
theorem markProgram_sat {w0 w : World} {Rs : List Asn} {s : Sl} {l : List (List ST)} {x0 : Int} (hS : Sat w0 w (prg w0.heap.size s l :: Rs)) (hf : Fits l) (h0 : 0 ≤ x0) (h1 : x0 ≤ 1048576) :
  Calls Try.prog 22 #[.agg #[.slice s.A s.n s.c], .int .i64 x0] w (Ret fun r w' => r = .int .i64 (x0 + 3 * (tot l : Int)) ∧ Sat w0 w' (prg w0.heap.size s (mkSS x0 l) :: Rs)) := by
 refine enter (n := 10) Try.func22 code22 (by kernel_rfl) (Nat.le_of_ble_eq_true rfl) (fun a ha => ?_)
 replace ha : Has 10 [(0, .agg #[.slice s.A s.n s.c]), (1, .int .i64 x0)] a := ha
 refine wp_seq ?_
 refine p_begin ?_
 refine jW (o_new (cs := [.slice s.A s.n s.c]) (T := 30) (fun b => .pointer (some ⟨b, 0, none⟩)) ha (by decide) (At.here (by kernel_rfl : ((jV Try.f22 0)[0]?).map spec = some ((Op.box 30 (Operand.tmp 0)), some 2, 0, none))) (by kernel_rfl) hS (fun _ => by kernel_rfl) (fun b5 w3 a1 hb6 (hS4 : Sat w0 w3 ((SX.blk b5 [.slice s.A s.n s.c] 30) :: (prg w0.heap.size s l) :: Rs)) ha2 => ?_))
 refine p_val (v := .int .i64 0) ha2 (by decide) (jH ha2 (At.here (by kernel_rfl : ((jV Try.f22 0)[1]?).map spec = some ((Op.assign (Operand.const (Value.int IntKind.i64 0))), some 4, 3, none))) (by kernel_rfl) (fun _ => by kernel_rfl)) (fun a7 ha8 => ?_)
 refine jY ?_
 have ha9 := ha8.keeps [1, 2, 4] [(1, .int .i64 x0), (2, .pointer (some ⟨b5, 0, none⟩)), (4, .int .i64 0)] rfl
 clear ha8 ha2 a1 hS ha a
 refine jJ (wp_seq ?_)
 refine p_begin ?_
 refine p_val (v := .pointer (some ⟨b5, 0, none⟩)) ha9 (by decide) (jH ha9 (At.here (by kernel_rfl : ((jV Try.f22 1)[0]?).map spec = some ((Op.fieldAddr 30 (Operand.tmp 2) 0), some 5, 0, none))) (by kernel_rfl) (fun _ => by kernel_rfl)) (fun a10 ha11 => ?_)
 refine p_val (v := .slice s.A s.n s.c) ha11 (by decide) (v_load (cs := [.slice s.A s.n s.c]) (T := 30) ha11 (At.here (by kernel_rfl : ((jV Try.f22 1)[1]?).map spec = some ((Op.load 28 (Operand.tmp 5)), some 6, 28, none))) rfl (by kernel_rfl) (fun _ hw => by rw [hw]; exact hS4.blk 0 rfl) rfl) (fun a12 ha13 => ?_)
 refine p_val (v := .int .i64 x0) ha13 (by decide) (jH ha13 (At.here (by kernel_rfl : ((jV Try.f22 1)[2]?).map spec = some ((Op.move (Operand.tmp 1)), some 7, 3, none))) (by kernel_rfl) (fun _ => by kernel_rfl)) (fun a14 ha15 => ?_)
 have hS20 : Sat w0 w3 ((prg w0.heap.size s l) :: (SX.blk b5 [.slice s.A s.n s.c] 30) :: Rs) := hS4.pickR (l := [SX.blk b5 [.slice s.A s.n s.c] 30, prg w0.heap.size s l]) [1, 0] (by decide) [prg w0.heap.size s l, SX.blk b5 [.slice s.A s.n s.c] 30] rfl
 refine jW (o_ret (Post := fun r w' => r = .int .i64 (x0 + 3 * (tot l : Int)) ∧ Sat w0 w' ((prg w0.heap.size s (mkSS x0 l)) :: (SX.blk b5 [.slice s.A s.n s.c] 30) :: Rs)) ha15 (by decide) (At.here (by kernel_rfl : ((jV Try.f22 1)[3]?).map spec = some ((Op.call { callee := (Callee.value (Operand.func 76)), args := #[(Operand.tmp 6), (Operand.tmp 7)], argTypes := #[28, 3] }), some 8, 3, none))) rfl Try.func76 (by kernel_rfl) (markStepSS_sat w0 _ _ s l x0 hS20 h0 (by have := hf.len; omega) (by have := hf.tot; omega) h1) (fun v21 w18 a16 hp22 ha17 => ?_))
 obtain ⟨rfl, hS19⟩ := hp22
 have ha23 : Has 10 [(1, .int .i64 x0), (2, .pointer (some ⟨b5, 0, none⟩)), (4, .int .i64 0), (5, .pointer (some ⟨b5, 0, none⟩)), (6, .slice s.A s.n s.c), (7, .int .i64 x0), (8, .int .i64 (x0 + 3 * (tot l : Int)))] a16 := ha17.keeps [1, 2, 4, 5, 6, 7, 8] _ rfl
 refine p_val (v := .int .i64 (x0 + 3 * (tot l : Int))) ha23 (by decide) (jH ha23 (At.here (by kernel_rfl : ((jV Try.f22 1)[4]?).map spec = some ((Op.assign (Operand.tmp 8)), some 1, 3, none))) (by kernel_rfl) (fun _ => by kernel_rfl)) (fun a24 ha25 => ?_)
 refine jY ?_
 have ha26 := ha25.keeps [4, 1] [(4, .int .i64 0), (1, .int .i64 (x0 + 3 * (tot l : Int)))] rfl
 clear ha25 ha23 a16 ha17 hS20 ha15 a14 hS4 ha13 a12 ha11 a10 ha9 a7
 refine jJ (wp_seq ?_)
 refine p_begin ?_
 refine p_val (v := .int .i64 (x0 + 3 * (tot l : Int))) ha26 (by decide) (jH ha26 (At.here (by kernel_rfl : ((jV Try.f22 2)[0]?).map spec = some ((Op.move (Operand.tmp 1)), some 9, 3, none))) (by kernel_rfl) (fun _ => by kernel_rfl)) (fun a27 ha28 => ?_)
 refine p_val (v := .int .i64 (x0 + 3 * (tot l : Int))) ha28 (by decide) (jH ha28 (At.here (by kernel_rfl : ((jV Try.f22 2)[1]?).map spec = some ((Op.assign (Operand.tmp 9)), some 4, 3, none))) (by kernel_rfl) (fun _ => by kernel_rfl)) (fun a29 ha30 => ?_)
 refine jY ?_
 have ha31 := ha30.keeps [4] [(4, .int .i64 (x0 + 3 * (tot l : Int)))] rfl
 clear ha30 ha28 a27 ha26 a24
 refine jJ (wp_ret (jG ha31 (by kernel_rfl) (qK (t := 4) ha31 rfl) ?_))
 have hS32 : Sat w0 w18 ((prg w0.heap.size s (mkSS x0 l)) :: Rs) := hS19.pickR (l := [prg w0.heap.size s (mkSS x0 l), SX.blk b5 [.slice s.A s.n s.c] 30]) [0] (by decide) [prg w0.heap.size s (mkSS x0 l)] rfl
 exact ⟨rfl, hS32⟩
theorem toProgram_sat {w0 w : World} {Rs : List Asn} {s0 : Sl} {l0 : List (List LT)} (hS : Sat w0 w Rs) (hr : RdA w s0 l0) (hf : Fits l0) :
  Calls Try.prog 17 #[.agg #[.slice s0.A s0.n s0.c]] w (Ret fun r w' => ∃ s : Sl, r = .agg #[s.v] ∧ Sat w0 w' (prg w0.heap.size s (toP l0) :: Rs)) := by
 refine (toProgram_sat0 hr hf).mono ?_
 intro e w' h
 cases e with
 | returned v =>
  obtain ⟨s, rfl, h4⟩ := h
  have h5 : Sat w0 w' (prg w.heap.size s (toP l0) :: Rs) := hS.comp h4
  exact ⟨s, rfl, h5.turn (i := 0) rfl (prg w0.heap.size s (toP l0)) (kdS_lower hS.below.size w')⟩
 | _ => exact h.elim
theorem apart_if (p : Prop) [Decidable p] (b : Bool) : (if p then some b else some false) = some (decide p && b) := by by_cases h : p <;> simp [h]
theorem is_in {w0 w : World} {Rs : List Asn} (hS : Sat w0 w Rs) (x lo hi : Int) : Calls Try.prog 120 #[.int .i64 x, .int .i64 lo, .int .i64 hi] w (Ret fun r w' => r = .bool (decide (lo ≤ x) && decide (x ≤ hi)) ∧ Sat w0 w' Rs) := by
 refine (impl_in.calls x lo hi (decide (lo ≤ x) && decide (x ≤ hi)) w (by unfold impl_in.f; by_cases h : lo ≤ x <;> simp [h])).mono ?_
 rintro e w' ⟨rfl, hd⟩
 obtain ⟨q, rfl⟩ := hd.out
 exact ⟨rfl, hS.grows ⟨rfl, rfl, rfl, Nat.le_refl _, fun _ _ => rfl⟩⟩
theorem is_reg {w0 w : World} {Rs : List Asn} (hS : Sat w0 w Rs) (x : Int) : Calls Try.prog 165 #[.int .i64 x] w (Ret fun r w' => r = .bool (regB x) ∧ Sat w0 w' Rs) := by
 refine (impl_isRegister.calls x (regB x) w (by unfold impl_isRegister.f impl_in.f; simp [regB, apart_if])).mono ?_
 rintro e w' ⟨rfl, hd⟩
 obtain ⟨q, rfl⟩ := hd.out
 exact ⟨rfl, hS.grows ⟨rfl, rfl, rfl, Nat.le_refl _, fun _ _ => rfl⟩⟩
theorem is_num {w0 w : World} {Rs : List Asn} (hS : Sat w0 w Rs) (x : Int) : Calls Try.prog 166 #[.int .i64 x] w (Ret fun r w' => r = .bool (numB x) ∧ Sat w0 w' Rs) := by
 refine (impl_isNumber.calls x (numB x) w (by unfold impl_isNumber.f impl_in.f; simp [numB, apart_if])).mono ?_
 rintro e w' ⟨rfl, hd⟩
 obtain ⟨q, rfl⟩ := hd.out
 exact ⟨rfl, hS.grows ⟨rfl, rfl, rfl, Nat.le_refl _, fun _ _ => rfl⟩⟩
theorem code140 : Try.f140.body = some (Code.seq (cr Try.f140 0 false) (Code.seq (cr Try.f140 1 true) (Code.seq (Code.seq (cr Try.f140 2 false) (Code.block 0 (Code.seq (cr Try.f140 3 false) (Code.cond (Operand.tmp 15) (cr Try.f140 4 false) (Code.seq (cr Try.f140 5 false) (Code.cond (Operand.tmp 20) (cr Try.f140 6 false) (Code.seq (Code.seq (cr Try.f140 7 false) (Code.cond (Operand.tmp 25) Code.skip (cr Try.f140 8 false))) (Code.cond (Operand.tmp 25) (cr Try.f140 9 true) (Code.seq (cr Try.f140 10 false) (Code.cond (Operand.tmp 36) (cr Try.f140 11 true) (Code.seq (cr Try.f140 12 false) (Code.cond (Operand.tmp 44) (cr Try.f140 13 false) Code.skip)))))))))))) (Code.seq (cr Try.f140 14 false) Code.ret)))) := by kernel_rfl
theorem isStep_sat {w0 w : World} {Rs : List Asn} {k xa xb fs : Int} (hS : Sat w0 w Rs) (h1 : 1 ≤ fs) (h2 : fs ≤ 2000000) :
  Calls Try.prog 140 #[.agg #[.int .i64 k, .int .i64 xa, .int .i64 xb], .int .i64 fs] w (Ret fun r w' => r = .bool (stepB fs k xa xb) ∧ Sat w0 w' Rs) := by
 refine enter (n := 58) Try.func140 code140 (by kernel_rfl) (Nat.le_of_ble_eq_true rfl) (fun a ha => ?_)
 replace ha : Has 58 [(0, .agg #[iv k, iv xa, iv xb]), (1, iv fs)] a := ha
 refine wp_seq (jX [0, 1] (jW (qY 2 [iv k, iv xa, iv xb] 72 (ptr · 0) ha hS fun b1 w a hb2 hS ha => ?_)))
 refine jQ [(1, 4, .bool false)] ha fun a ha => ?_
 refine jY (jJ (wp_seq (yX 8 8 (hS.pickN 1 [0]) hS fun w hS => ?_)))
 refine qH (k := 7) [(0, 7, ptr b1 1)] ha (.inr (hS.pickN 1 [0])) fun a ha => ?_
 refine yZ 1 (d := 8) (b := b1) (j := 1) ha (hS.pickN 1 [0]) (fun _ hw => hw.blk 0 rfl) rfl fun a ha => ?_
 refine qH (k := 5) [(3, 10, ptr b1 2)] ha (.inr (hS.pickN 1 [0])) fun a ha => ?_
 refine yZ 4 (d := 11) (b := b1) (j := 2) ha (hS.pickN 1 [0]) (fun _ hw => hw.blk 0 rfl) rfl fun a ha => ?_
 refine qH (k := 3) [(5, 12, .bool (decide (xb = 0)))] ha (.inr (hS.pickN 1 [0])) fun a ha => ?_
 refine xX 2 (qQ 9 (vs := [iv xa]) ha (is_reg hS _) fun v3 w a hp4 ha => ?_)
 obtain ⟨rfl, hS⟩ := hp4
 refine ⟨.inr (hS.pickN 1 [0]), ?_⟩
 refine qH (k := 0) [(6, 5, .bool (regB xa)), (7, 6, .bool (decide (xb = 0)))] ha (.inr (hS.pickN 1 [0])) fun a ha => ?_
 refine yQ (jJ (wp_seq (wp_seq (jX [0, 1] (jQ [(0, 13, ptr b1 0)] ha fun a ha => ?_)))))
 refine qZ (d := 14) (b := b1) (j := 0) ha (hS.blk 0 rfl) rfl fun a ha => ?_
 refine jY (jJ (zQ (J := fun a_ w_ => Has 58 [(1, iv fs), (2, ptr b1 0), (4, .bool false), (5, .bool (if k = 4 ∨ k = 5 then decide (0 ≤ xa) && decide (xa ≤ fs - 1) else if k = 11 then decide (0 ≤ xa) && decide (xa ≤ 8) else if k = 10 then decide (xa = 0) else regB xa)), (6, .bool (if k = 1 then numB xb else if k = 2 ∨ k = 4 ∨ k = 5 ∨ k = 11 then regB xb else decide (xb = 0))), (14, iv k)] a_ ∧ Sat w0 w_ ((SX.blk b1 [iv k, iv xa, iv xb] 72) :: Rs)) ?_ ?_))
 ·
  refine wp_block (wp_seq (jX [0, 1] (jQ [(0, 16, .bool (decide (k = 1))), (1, 15, .bool (decide (k = 1)))] ha fun a ha => ?_)))
  refine jY (jJ ?_)
  by_cases c5 : k = 1
  ·
   refine jU ha rfl (decide_eq_true c5) ?_;refine jX [0, 1, 2, 3] (jQ [(0, 17, ptr b1 2)] ha fun a ha => ?_);refine qZ (d := 18) (b := b1) (j := 2) ha (hS.blk 0 rfl) rfl fun a ha => ?_;refine jW (qQ 19 (vs := [iv xb]) ha (is_num hS _) fun v6 w a hp7 ha => ?_);obtain ⟨rfl, hS⟩ := hp7;refine jQ [(3, 6, .bool (numB xb))] ha fun a ha => ?_;refine jY (in_n ?_);have e8 : (if k = 4 ∨ k = 5 then decide (0 ≤ xa) && decide (xa ≤ fs - 1) else if k = 11 then decide (0 ≤ xa) && decide (xa ≤ 8) else if k = 10 then decide (xa = 0) else regB xa) = (regB xa) := by simp [c5]
   have e9 : (if k = 1 then numB xb else if k = 2 ∨ k = 4 ∨ k = 5 ∨ k = 11 then regB xb else decide (xb = 0)) = (numB xb) := by simp [c5]
   refine jJ ⟨?_, ?_⟩
   · first | (rw [e8, e9]; exact ha.keeps [1, 2, 4, 5, 6, 14] _ rfl) | exact ha.keeps [1, 2, 4, 5, 6, 14] _ rfl
   · first | (rw [e8, e9]; exact hS) | exact hS
  refine jK ha rfl (decide_eq_false c5) ?_
  refine wp_seq (jX [0, 1] (jQ [(0, 21, .bool (decide (k = 2))), (1, 20, .bool (decide (k = 2)))] ha fun a ha => ?_))
  refine jY (jJ ?_)
  by_cases c10 : k = 2
  ·
   refine jU ha rfl (decide_eq_true c10) ?_;refine jX [0, 1, 2, 3] (jQ [(0, 22, ptr b1 2)] ha fun a ha => ?_);refine qZ (d := 23) (b := b1) (j := 2) ha (hS.blk 0 rfl) rfl fun a ha => ?_;refine jW (qQ 24 (vs := [iv xb]) ha (is_reg hS _) fun v11 w a hp12 ha => ?_);obtain ⟨rfl, hS⟩ := hp12;refine jQ [(3, 6, .bool (regB xb))] ha fun a ha => ?_;refine jY (in_n ?_);have e13 : (if k = 4 ∨ k = 5 then decide (0 ≤ xa) && decide (xa ≤ fs - 1) else if k = 11 then decide (0 ≤ xa) && decide (xa ≤ 8) else if k = 10 then decide (xa = 0) else regB xa) = (regB xa) := by simp [c5, c10]
   have e14 : (if k = 1 then numB xb else if k = 2 ∨ k = 4 ∨ k = 5 ∨ k = 11 then regB xb else decide (xb = 0)) = (regB xb) := by simp [c5, c10]
   refine jJ ⟨?_, ?_⟩
   · first | (rw [e13, e14]; exact ha.keeps [1, 2, 4, 5, 6, 14] _ rfl) | exact ha.keeps [1, 2, 4, 5, 6, 14] _ rfl
   · first | (rw [e13, e14]; exact hS) | exact hS
  refine jK ha rfl (decide_eq_false c10) ?_
  refine wp_seq (wp_seq (jX [0, 1] (jQ [(0, 26, .bool (decide (k = 4))), (1, 25, .bool (decide (k = 4)))] ha fun a ha => ?_)))
  refine jY (jJ ?_)
  by_cases c15 : k = 4
  ·
   refine jU ha rfl (decide_eq_true c15) ?_;refine wp_skip (jJ ?_);refine jU ha rfl (decide_eq_true c15) ?_;refine yX 10 10 (hS.pickN 1 [0]) hS fun w hS => ?_;refine qH (k := 9) [(0, 28, ptr b1 1)] ha (.inr (hS.pickN 1 [0])) fun a ha => ?_;refine yZ 1 (d := 29) (b := b1) (j := 1) ha (hS.pickN 1 [0]) (fun _ hw => hw.blk 0 rfl) rfl fun a ha => ?_;refine qH (k := 7) [(2, 30, iv fs)] ha (.inr (hS.pickN 1 [0])) fun a ha => ?_;refine zV 3 31 (fs - 1) ha (.inr (hS.pickN 1 [0])) fun a ha => ?_;refine qH (k := 5) [(5, 33, ptr b1 2)] ha (.inr (hS.pickN 1 [0])) fun a ha => ?_;refine yZ 6 (d := 34) (b := b1) (j := 2) ha (hS.pickN 1 [0]) (fun _ hw => hw.blk 0 rfl) rfl fun a ha => ?_;refine xX 4 (qQ 32 (vs := [iv xa, iv 0, iv (fs - 1)]) ha (is_in hS _ _ _) fun v16 w a hp17 ha => ?_);obtain ⟨rfl, hS⟩ := hp17;refine ⟨.inr (hS.pickN 1 [0]), ?_⟩;refine xX 7 (qQ 35 (vs := [iv xb]) ha (is_reg hS _) fun v18 w a hp19 ha => ?_);obtain ⟨rfl, hS⟩ := hp19;refine ⟨.inr (hS.pickN 1 [0]), ?_⟩;refine qH (k := 0) [(8, 5, .bool (decide ((0 : Int) ≤ xa) && decide (xa ≤ (fs - 1)))), (9, 6, .bool (regB xb))] ha (.inr (hS.pickN 1 [0])) fun a ha => ?_;refine yQ ?_;replace ha := ha.as [(1, iv fs), (2, ptr b1 0), (4, .bool false), (14, iv k), (5, .bool (decide ((0 : Int) ≤ xa) && decide (xa ≤ (fs - 1)))), (6, .bool (regB xb))] rfl;refine in_n ?_;have e20 : (if k = 4 ∨ k = 5 then decide (0 ≤ xa) && decide (xa ≤ fs - 1) else if k = 11 then decide (0 ≤ xa) && decide (xa ≤ 8) else if k = 10 then decide (xa = 0) else regB xa) = (decide ((0 : Int) ≤ xa) && decide (xa ≤ (fs - 1))) := by simp [c5, c10, c15]
   have e21 : (if k = 1 then numB xb else if k = 2 ∨ k = 4 ∨ k = 5 ∨ k = 11 then regB xb else decide (xb = 0)) = (regB xb) := by simp [c5, c10, c15]
   refine jJ ⟨?_, ?_⟩
   · first | (rw [e20, e21]; exact ha.keeps [1, 2, 4, 5, 6, 14] _ rfl) | exact ha.keeps [1, 2, 4, 5, 6, 14] _ rfl
   · first | (rw [e20, e21]; exact hS) | exact hS
  refine jK ha rfl (decide_eq_false c15) ?_
  refine jX [0, 1] (jQ [(0, 27, .bool (decide (k = 5))), (1, 25, .bool (decide (k = 5)))] ha fun a ha => ?_)
  refine jY (jJ ?_)
  by_cases c22 : k = 5
  ·
   refine jU ha rfl (decide_eq_true c22) ?_;refine yX 10 10 (hS.pickN 1 [0]) hS fun w hS => ?_;refine qH (k := 9) [(0, 28, ptr b1 1)] ha (.inr (hS.pickN 1 [0])) fun a ha => ?_;refine yZ 1 (d := 29) (b := b1) (j := 1) ha (hS.pickN 1 [0]) (fun _ hw => hw.blk 0 rfl) rfl fun a ha => ?_;refine qH (k := 7) [(2, 30, iv fs)] ha (.inr (hS.pickN 1 [0])) fun a ha => ?_;refine zV 3 31 (fs - 1) ha (.inr (hS.pickN 1 [0])) fun a ha => ?_;refine qH (k := 5) [(5, 33, ptr b1 2)] ha (.inr (hS.pickN 1 [0])) fun a ha => ?_;refine yZ 6 (d := 34) (b := b1) (j := 2) ha (hS.pickN 1 [0]) (fun _ hw => hw.blk 0 rfl) rfl fun a ha => ?_;refine xX 4 (qQ 32 (vs := [iv xa, iv 0, iv (fs - 1)]) ha (is_in hS _ _ _) fun v23 w a hp24 ha => ?_);obtain ⟨rfl, hS⟩ := hp24;refine ⟨.inr (hS.pickN 1 [0]), ?_⟩;refine xX 7 (qQ 35 (vs := [iv xb]) ha (is_reg hS _) fun v25 w a hp26 ha => ?_);obtain ⟨rfl, hS⟩ := hp26;refine ⟨.inr (hS.pickN 1 [0]), ?_⟩;refine qH (k := 0) [(8, 5, .bool (decide ((0 : Int) ≤ xa) && decide (xa ≤ (fs - 1)))), (9, 6, .bool (regB xb))] ha (.inr (hS.pickN 1 [0])) fun a ha => ?_;refine yQ ?_;replace ha := ha.as [(1, iv fs), (2, ptr b1 0), (4, .bool false), (14, iv k), (5, .bool (decide ((0 : Int) ≤ xa) && decide (xa ≤ (fs - 1)))), (6, .bool (regB xb))] rfl;refine in_n ?_;have e27 : (if k = 4 ∨ k = 5 then decide (0 ≤ xa) && decide (xa ≤ fs - 1) else if k = 11 then decide (0 ≤ xa) && decide (xa ≤ 8) else if k = 10 then decide (xa = 0) else regB xa) = (decide ((0 : Int) ≤ xa) && decide (xa ≤ (fs - 1))) := by simp [c5, c10, c15, c22]
   have e28 : (if k = 1 then numB xb else if k = 2 ∨ k = 4 ∨ k = 5 ∨ k = 11 then regB xb else decide (xb = 0)) = (regB xb) := by simp [c5, c10, c15, c22]
   refine jJ ⟨?_, ?_⟩
   · first | (rw [e27, e28]; exact ha.keeps [1, 2, 4, 5, 6, 14] _ rfl) | exact ha.keeps [1, 2, 4, 5, 6, 14] _ rfl
   · first | (rw [e27, e28]; exact hS) | exact hS
  refine jK ha rfl (decide_eq_false c22) ?_
  refine wp_seq (jX [0, 1] (jQ [(0, 37, .bool (decide (k = 11))), (1, 36, .bool (decide (k = 11)))] ha fun a ha => ?_))
  refine jY ?_
  replace ha := ha.as [(1, iv fs), (2, ptr b1 0), (4, .bool false), (5, .bool (regB xa)), (6, .bool (decide (xb = 0))), (14, iv k), (36, .bool (decide (k = 11)))] rfl
  refine jJ ?_
  by_cases c29 : k = 11
  ·
   refine jU ha rfl (decide_eq_true c29) ?_;refine yX 8 8 (hS.pickN 1 [0]) hS fun w hS => ?_;refine qH (k := 7) [(0, 38, ptr b1 1)] ha (.inr (hS.pickN 1 [0])) fun a ha => ?_;refine yZ 1 (d := 39) (b := b1) (j := 1) ha (hS.pickN 1 [0]) (fun _ hw => hw.blk 0 rfl) rfl fun a ha => ?_;refine qH (k := 5) [(3, 41, ptr b1 2)] ha (.inr (hS.pickN 1 [0])) fun a ha => ?_;refine yZ 4 (d := 42) (b := b1) (j := 2) ha (hS.pickN 1 [0]) (fun _ hw => hw.blk 0 rfl) rfl fun a ha => ?_;refine xX 2 (qQ 40 (vs := [iv xa, iv 0, iv 8]) ha (is_in hS _ _ _) fun v30 w a hp31 ha => ?_);obtain ⟨rfl, hS⟩ := hp31;refine ⟨.inr (hS.pickN 1 [0]), ?_⟩;refine xX 5 (qQ 43 (vs := [iv xb]) ha (is_reg hS _) fun v32 w a hp33 ha => ?_);obtain ⟨rfl, hS⟩ := hp33;refine ⟨.inr (hS.pickN 1 [0]), ?_⟩;refine qH (k := 0) [(6, 5, .bool (decide ((0 : Int) ≤ xa) && decide (xa ≤ 8))), (7, 6, .bool (regB xb))] ha (.inr (hS.pickN 1 [0])) fun a ha => ?_;refine yQ (in_n ?_);have e34 : (if k = 4 ∨ k = 5 then decide (0 ≤ xa) && decide (xa ≤ fs - 1) else if k = 11 then decide (0 ≤ xa) && decide (xa ≤ 8) else if k = 10 then decide (xa = 0) else regB xa) = (decide ((0 : Int) ≤ xa) && decide (xa ≤ 8)) := by simp [c5, c10, c15, c22, c29]
   have e35 : (if k = 1 then numB xb else if k = 2 ∨ k = 4 ∨ k = 5 ∨ k = 11 then regB xb else decide (xb = 0)) = (regB xb) := by simp [c5, c10, c15, c22, c29]
   refine jJ ⟨?_, ?_⟩
   · first | (rw [e34, e35]; exact ha.keeps [1, 2, 4, 5, 6, 14] _ rfl) | exact ha.keeps [1, 2, 4, 5, 6, 14] _ rfl
   · first | (rw [e34, e35]; exact hS) | exact hS
  refine jK ha rfl (decide_eq_false c29) ?_
  refine wp_seq (jX [0, 1] (jQ [(0, 45, .bool (decide (k = 10))), (1, 44, .bool (decide (k = 10)))] ha fun a ha => ?_))
  refine jY (jJ ?_)
  by_cases c36 : k = 10
  ·
   refine jU ha rfl (decide_eq_true c36) ?_;refine jX [0, 1, 2, 3] (jQ [(0, 46, ptr b1 1)] ha fun a ha => ?_);refine qZ (d := 47) (b := b1) (j := 1) ha (hS.blk 0 rfl) rfl fun a ha => ?_;refine jQ [(2, 48, .bool (decide (xa = 0))), (3, 5, .bool (decide (xa = 0)))] ha fun a ha => ?_;refine jY (in_n ?_);have e37 : (if k = 4 ∨ k = 5 then decide (0 ≤ xa) && decide (xa ≤ fs - 1) else if k = 11 then decide (0 ≤ xa) && decide (xa ≤ 8) else if k = 10 then decide (xa = 0) else regB xa) = (decide (xa = 0)) := by simp [c5, c10, c15, c22, c29, c36]
   have e38 : (if k = 1 then numB xb else if k = 2 ∨ k = 4 ∨ k = 5 ∨ k = 11 then regB xb else decide (xb = 0)) = (decide (xb = 0)) := by simp [c5, c10, c15, c22, c29, c36]
   refine jJ ⟨?_, ?_⟩
   · first | (rw [e37, e38]; exact ha.keeps [1, 2, 4, 5, 6, 14] _ rfl) | exact ha.keeps [1, 2, 4, 5, 6, 14] _ rfl
   · first | (rw [e37, e38]; exact hS) | exact hS
  refine jK ha rfl (decide_eq_false c36) ?_
  refine wp_skip (in_n ?_)
  have e39 : (if k = 4 ∨ k = 5 then decide (0 ≤ xa) && decide (xa ≤ fs - 1) else if k = 11 then decide (0 ≤ xa) && decide (xa ≤ 8) else if k = 10 then decide (xa = 0) else regB xa) = (regB xa) := by simp [c5, c10, c15, c22, c29, c36]
  have e40 : (if k = 1 then numB xb else if k = 2 ∨ k = 4 ∨ k = 5 ∨ k = 11 then regB xb else decide (xb = 0)) = (decide (xb = 0)) := by simp [c5, c10, c15, c22, c29, c36]
  refine jJ ⟨?_, ?_⟩
  · first | (rw [e39, e40]; exact ha.keeps [1, 2, 4, 5, 6, 14] _ rfl) | exact ha.keeps [1, 2, 4, 5, 6, 14] _ rfl
  · first | (rw [e39, e40]; exact hS) | exact hS
 rintro a w ⟨ha, hS⟩
 refine wp_seq (jX [0, 1, 2, 3, 4, 5, 6, 7, 8, 9] (jQ [(0, 49, ptr b1 0)] ha fun a ha => ?_))
 refine qZ (d := 50) (b := b1) (j := 0) ha (hS.blk 0 rfl) rfl fun a ha => ?_
 refine jW (qQ 51 (vs := [iv k, iv 1, iv 13]) ha (is_in hS _ _ _) fun v41 w a hp42 ha => ?_)
 obtain ⟨rfl, hS⟩ := hp42
 refine jQ [(3, 52, .bool (decide ((1 : Int) ≤ k) && decide (k ≤ 13)))] ha fun a ha => ?_
 rcases Bool.eq_false_or_eq_true (decide ((1 : Int) ≤ k) && decide (k ≤ 13)) with c43 | c43
 ·
  replace ha := ha.turn 51 (.bool true) rfl (congrArg Value.bool c43)
  replace ha := ha.turn 52 (.bool true) rfl (congrArg Value.bool c43)
  refine jQ [(4, 53, .bool (if k = 4 ∨ k = 5 then decide (0 ≤ xa) && decide (xa ≤ fs - 1) else if k = 11 then decide (0 ≤ xa) && decide (xa ≤ 8) else if k = 10 then decide (xa = 0) else regB xa)), (5, 54, .bool (if k = 4 ∨ k = 5 then decide (0 ≤ xa) && decide (xa ≤ fs - 1) else if k = 11 then decide (0 ≤ xa) && decide (xa ≤ 8) else if k = 10 then decide (xa = 0) else regB xa)), (6, 55, .bool (if k = 4 ∨ k = 5 then decide (0 ≤ xa) && decide (xa ≤ fs - 1) else if k = 11 then decide (0 ≤ xa) && decide (xa ≤ 8) else if k = 10 then decide (xa = 0) else regB xa))] ha fun a ha => ?_
  rcases Bool.eq_false_or_eq_true (if k = 4 ∨ k = 5 then decide (0 ≤ xa) && decide (xa ≤ fs - 1) else if k = 11 then decide (0 ≤ xa) && decide (xa ≤ 8) else if k = 10 then decide (xa = 0) else regB xa) with c44 | c44
  ·
   replace ha := ha.turn 5 (.bool true) rfl (congrArg Value.bool c44);replace ha := ha.turn 53 (.bool true) rfl (congrArg Value.bool c44);replace ha := ha.turn 54 (.bool true) rfl (congrArg Value.bool c44);replace ha := ha.turn 55 (.bool true) rfl (congrArg Value.bool c44);refine jQ [(7, 56, .bool (if k = 1 then numB xb else if k = 2 ∨ k = 4 ∨ k = 5 ∨ k = 11 then regB xb else decide (xb = 0))), (8, 57, .bool (if k = 1 then numB xb else if k = 2 ∨ k = 4 ∨ k = 5 ∨ k = 11 then regB xb else decide (xb = 0))), (9, 4, .bool (if k = 1 then numB xb else if k = 2 ∨ k = 4 ∨ k = 5 ∨ k = 11 then regB xb else decide (xb = 0)))] ha fun a ha => ?_;refine jY (jJ (wp_ret (jG ha (by kernel_rfl) (qK (t := 4) ha rfl) ?_)));have hE : stepB fs k xa xb = (if k = 1 then numB xb else if k = 2 ∨ k = 4 ∨ k = 5 ∨ k = 11 then regB xb else decide (xb = 0)) := by unfold stepB; simp only [c43, c44, Bool.true_and, Bool.and_true, Bool.false_and, Bool.and_false, Bool.and_self]
   rw [hE];exact ⟨rfl, Sat.rest [_] hS⟩
  replace ha := ha.turn 5 (.bool false) rfl (congrArg Value.bool c44)
  replace ha := ha.turn 53 (.bool false) rfl (congrArg Value.bool c44)
  replace ha := ha.turn 54 (.bool false) rfl (congrArg Value.bool c44)
  replace ha := ha.turn 55 (.bool false) rfl (congrArg Value.bool c44)
  refine jQ [(7, 56, undef), (8, 57, .bool false), (9, 4, .bool false)] ha fun a ha => ?_
  refine jY (jJ (wp_ret (jG ha (by kernel_rfl) (qK (t := 4) ha rfl) ?_)))
  have hE : stepB fs k xa xb = false := by unfold stepB; simp only [c43, c44, Bool.true_and, Bool.and_true, Bool.false_and, Bool.and_false, Bool.and_self]
  rw [hE]
  exact ⟨rfl, Sat.rest [_] hS⟩
 replace ha := ha.turn 51 (.bool false) rfl (congrArg Value.bool c43)
 replace ha := ha.turn 52 (.bool false) rfl (congrArg Value.bool c43)
 refine jQ [(4, 53, undef), (5, 54, .bool false), (6, 55, .bool false), (7, 56, undef), (8, 57, .bool false), (9, 4, .bool false)] ha fun a ha => ?_
 refine jY (jJ (wp_ret (jG ha (by kernel_rfl) (qK (t := 4) ha rfl) ?_)))
 have hE : stepB fs k xa xb = false := by unfold stepB; simp only [c43, Bool.true_and, Bool.and_true, Bool.false_and, Bool.and_false, Bool.and_self]
 rw [hE]
 exact ⟨rfl, Sat.rest [_] hS⟩
def cT (x : ST) : List Value := [.int .i64 x.f0, .int .i64 x.f1, .int .i64 x.f2]
end Go.Proofs.Ytpenhegoilccoaa.G
