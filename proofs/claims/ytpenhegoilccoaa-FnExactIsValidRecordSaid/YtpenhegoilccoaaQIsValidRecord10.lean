/- What the claim FnExactIsValidRecord rests on, part 10 of 11; the last part proves it: for every input the law answers true, and its arguments read behind the call as before it. No condition. -/
import Derived.Test.YtpenhegoilccoaaQIsValidRecord8
import Derived.Test.YtpenhegoilccoaaQIsValidRecord9
set_option linter.unusedSimpArgs false
set_option linter.unusedVariables false
namespace Go.Proofs.Ytpenhegoilccoaa.GR
open Go.RowKit Go.Proofs.YtpenhegoilccoaaW.PrintWords Go.Proofs.YtpenhegoilccoaaW.PrintLast Go.Proofs.YtpenhegoilccoaaW.PrintMore
def okB (b : UInt8) : Bool := decide (32 ≤ (b.toNat : Int)) && decide ((b.toNat : Int) ≤ 126) && !decide ((b.toNat : Int) = 35)
theorem bt_drop (s : ByteArray) (i : Nat) (h : i < s.size) : ∃ b, bt s (i : Int) = (b.toNat : Int) ∧ s.data.toList.drop i = b :: s.data.toList.drop (i + 1) := by
  refine ⟨s[i], ?_, ?_⟩
  · unfold bt; simp only [Int.toNat_natCast]; rw [dif_pos h]
  · have h' : i < s.data.toList.length := by simpa using h
    rw [List.drop_eq_getElem_cons h']; rfl
theorem wrap64_of_lt {n : Int} (h0 : -9223372036854775808 ≤ n) (h1 : n < 9223372036854775808) : wrap64 n = n := by unfold wrap64; omega
theorem wrap_small (i : Nat) (h : i < 9223372036854775807) : wrap64 ((i : Int) + 1) = ((i + 1 : Nat) : Int) := by
 rw [wrap64_of_lt (by omega) (by omega)]; omega
theorem drop_size (s : ByteArray) : s.data.toList.drop s.size = [] := List.drop_eq_nil_of_le (by rw [Array.length_toList]; exact Nat.le_refl _)
theorem bytes_eq (s : ByteArray) (lim : Int) (hs : s.size ≤ 9223372036854775807) : ∀ k i : Nat, i ≤ s.size → s.size - i < k →
    spec_l12Bytes.l0 k s lim (i : Int) = some ((s.data.toList.drop i).all okB && decide ((s.size : Int) ≤ lim)) := by
  intro k; induction k with
  | zero => intro i _ h; omega
  | succ k ih =>
    intro i hi hk
    show (if (i : Int) < (s.size : Int) then _ else _) = _
    by_cases hlt : i < s.size
    · obtain ⟨b, hb, hd⟩ := bt_drop s i hlt
      have hb2 : b.toNat < 256 := b.toNat_lt;rw [if_pos (by omega), if_pos (by omega), hb, hd, wrap_small i (by omega), ih (i + 1) (by omega) (by omega), wrap64_of_lt (by omega) (by omega)];unfold spec_l1In.f
      by_cases c1 : 32 ≤ (b.toNat : Int)
      · by_cases c2 : (b.toNat : Int) ≤ 126
        · by_cases c3 : (b.toNat : Int) = 35
          · simp [c1, c2, c3, okB]
          · simp [c1, c2, c3, okB]
        · simp [c1, c2, okB]
      · simp [c1, okB]
    · have : i = s.size := by omega
      subst this;rw [if_neg (by omega), drop_size]; simp
theorem printed_eq (s : ByteArray) (lim : Int) (hs : s.size ≤ 9223372036854775807) : ∀ k i : Nat, i ≤ s.size → s.size - i < k →
    impl_isPrinted.l0 k s lim (s.size : Int) (i : Int) = some ((s.data.toList.drop i).all okB && decide ((s.size : Int) ≤ lim)) := by
  intro k; induction k with
  | zero => intro i _ h; omega
  | succ k ih =>
    intro i hi hk
    show (if (i : Int) < (s.size : Int) then _ else _) = _
    by_cases hlt : i < s.size
    · obtain ⟨b, hb, hd⟩ := bt_drop s i hlt
      rw [if_pos (by omega), if_pos (by omega), if_pos (by omega), hb, hd, wrap_small i (by omega), ih (i + 1) (by omega) (by omega)]
      by_cases c1 : 32 ≤ (b.toNat : Int)
      · by_cases c2 : (b.toNat : Int) ≤ 126
        · by_cases c3 : (b.toNat : Int) = 35
          · simp [c3, okB]
          · have d1 : ¬ (b.toNat : Int) < 32 := by omega
            have d2 : ¬ (b.toNat : Int) > 126 := by omega
            simp [c1, c2, c3, d1, d2, okB]
        · have d1 : ¬ (b.toNat : Int) < 32 := by omega
          have d2 : (b.toNat : Int) > 126 := by omega
          simp [c1, c2, d1, d2, okB]
      · have d1 : (b.toNat : Int) < 32 := by omega
        simp [c1, d1, okB]
    · have : i = s.size := by omega
      subst this;rw [if_neg (by omega), drop_size]; simp
theorem stands_eq (s : ByteArray) (hs : s.size ≤ 9223372036854775807) : ∀ k i : Nat, i ≤ s.size → s.size - i < k →
    spec_l1Stands.l0 k s 64 (i : Int) = some ((s.data.toList.drop i).contains 64) := by
  intro k; induction k with
  | zero => intro i _ h; omega
  | succ k ih =>
    intro i hi hk
    show (if (i : Int) < (s.size : Int) then _ else _) = _
    by_cases hlt : i < s.size
    · obtain ⟨b, hb, hd⟩ := bt_drop s i hlt
      rw [if_pos (by omega), if_pos (by omega), hb, hd, wrap_small i (by omega), ih (i + 1) (by omega) (by omega), List.contains_cons]
      by_cases c1 : (b.toNat : Int) = 64
      · have : b = 64 := by apply UInt8.toNat_inj.mp; simpa using (by omega : b.toNat = 64)
        subst this; simp
      · have : (64 == b) = false := by
          simp only [beq_eq_false_iff_ne, ne_eq]; intro h; subst h; simp at c1
        rw [if_neg c1, this, Bool.false_or]
    · have : i = s.size := by omega
      subst this;rw [if_neg (by omega), drop_size]; rfl
theorem record_true (s1 s2 : ByteArray) (h1 : s1.size ≤ 9223372036854775807) (h2 : s2.size ≤ 9223372036854775807) :
    laws_FnExactIsValidRecord.f (s1.size + s2.size + 1) s1 s2 = some true := by
  have e0 : ((0 : Nat) : Int) = (0 : Int) := rfl
  have a1 := bytes_eq s1 160 h1 (s1.size + s2.size + 1) 0 (by omega) (by omega)
  have a2 := bytes_eq s2 280 h2 (s1.size + s2.size + 1) 0 (by omega) (by omega)
  have b1 := printed_eq s1 160 h1 (s1.size + s2.size + 1) 0 (by omega) (by omega)
  have b2 := printed_eq s2 280 h2 (s1.size + s2.size + 1) 0 (by omega) (by omega)
  have c1 := stands_eq s1 h1 (s1.size + s2.size + 1) 0 (by omega) (by omega)
  rw [e0] at a1 a2 b1 b2 c1
  have hspec : spec_IsValidRecord.f (s1.size + s2.size + 1) s1 s2 = impl_IsValidRecord.f (s1.size + s2.size + 1) s1 s2 := by
    unfold spec_IsValidRecord.f spec_l12Record.f impl_IsValidRecord.f impl_isCommand.f spec_l12Bytes.f spec_l1Stands.f impl_isPrinted.f strings_Contains.f;rw [a1, a2, b1, b2, c1]
    by_cases hn : s1.toList = ([] : List UInt8)
    · simp [hn]
    · simp only [hn, if_false, Option.bind_some, if_true, List.drop_zero]
      cases hA : (s1.data.toList.all okB && decide ((s1.size : Int) ≤ 160)) <;> cases hC : s1.data.toList.contains 64 <;> simp
  obtain ⟨r, hr⟩ : ∃ r, impl_IsValidRecord.f (s1.size + s2.size + 1) s1 s2 = some r := by
    unfold impl_IsValidRecord.f impl_isCommand.f impl_isPrinted.f strings_Contains.f;rw [b1, b2]
    by_cases hn : s1.toList = ([] : List UInt8)
    · simp [hn]
    · simp only [hn, if_false, Option.bind_some, if_true, List.drop_zero]
      cases hA : (s1.data.toList.all okB && decide ((s1.size : Int) ≤ 160)) <;> cases hC : s1.data.toList.contains 64 <;> simp
  unfold laws_FnExactIsValidRecord.f laws_szLogRecord.f laws_toLogRecord.f
  simp only [hspec, hr, Option.bind_some]
  by_cases g1 : wrap64 (1048576 - (s1.size : Int)) < 0
  · rw [if_pos g1]; rfl
  · rw [if_neg g1]
    by_cases g2 : wrap64 (wrap64 (1048576 - (s1.size : Int)) - (s2.size : Int)) < 0
    · rw [if_pos g2]; rfl
    · rw [if_neg g2, Option.bind_some, if_neg g2]; simp
theorem rec_walk (W : World) (x y : ByteArray) (h1 : x.size ≤ maxLen) (h2 : y.size ≤ maxLen) :
  Calls Try.prog 7 #[.agg #[.string x, .string y]] W (SX.Ret fun r w' => r = .bool true ∧ Below W.heap.size W w') := by
 have hm : maxLen ≤ 9223372036854775807 := by decide
 refine (laws_FnExactIsValidRecord.calls _ x y true W (record_true x y (by omega) (by omega))).mono ?_
 rintro e w' ⟨rfl, h⟩
 exact ⟨rfl, h⟩
end Go.Proofs.Ytpenhegoilccoaa.GR
