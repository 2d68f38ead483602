/- What the claim FnExactExchangeSteps rests on, part 17 of 18; the last part proves it: for every input the law answers true, and its arguments read behind the call as before it. No condition. -/
import Derived.Test.YtbgfiiehjaghiaaQExchangeSteps7
import Derived.Test.YtbgfiiehjaghiaaQExchangeSteps8
import Derived.Test.YtbgfiiehjaghiaaQExchangeSteps13
import Derived.Test.YtbgfiiehjaghiaaQExchangeSteps14
import Derived.Test.YtbgfiiehjaghiaaQExchangeSteps16
set_option linter.unusedSimpArgs false
set_option linter.unusedVariables false
set_option maxRecDepth 20000
set_option maxHeartbeats 1000000
namespace Go.Proofs.Ytbgfiiehjaghiaa
namespace SX
open Go.RowKit Go.Proofs.YtbgfiiehjaghiaaW.PrintWords
structure RdE {α : Type} (enc : α → List Value) (sz : Nat) (w : World) (s : Sl) (l : List α) : Prop where
 len : s.n = l.length
 le : l.length ≤ s.c
 big : l.length ≤ 9223372036854775807
 at_ : ∀ (j : Nat) (x : α), l[j]? = some x → s.A = some ⟨bk s, of_ s, none⟩ ∧ ∀ (o : Nat) (u : Value), (enc x)[o]? = some u → w.cell? ⟨bk s, of_ s + j * sz + o, none⟩ = some u
section
variable {α : Type} {enc : α → List Value} {sz : Nat} {w0 w w' : World} {Rs : List Asn} {s : Sl} {l : List α}
theorem RdE.below (h : RdE enc sz w s l) (hb : Below w.heap.size w w') : RdE enc sz w' s l := ⟨h.len, h.le, h.big, fun j x hx => ⟨(h.at_ j x hx).1, fun o u hu => pw_cell_below hb ((h.at_ j x hx).2 o u hu)⟩⟩
theorem RdE.sat (h : RdE enc sz w0 s l) (hS : Sat w0 w Rs) : RdE enc sz w s l := h.below hS.below
end
section
variable {P : Program} {R : Array Oper} {n : Nat} {e : Env} {a : Act} {w : World}
theorem v_loadE {S : World → Prop} {i d : Nat} {t : TypeId} {x : Operand} {ty : TypeId} {b f : Nat} {vs : List Value} (h : Has n e a) (ho : AtW R i (.load t x) (some d) ty a) (hx : ev e x = some (.pointer (some ⟨b, f, none⟩)))
  (ht : aggSize P t = some vs.length) (hb : ∀ w, S w → ∀ (o : Nat) (u : Value), vs[o]? = some u → w.cell? ⟨b, f + o, none⟩ = some u) : Val P R i a S d (.agg vs.toArray) :=
 v_loadL h ho hx fun w hw => run_loadVar_agg ht fun i u hu => by rw [add0]; exact hb w hw i u hu
end
end SX
end Go.Proofs.Ytbgfiiehjaghiaa
namespace Go.Proofs.Ytbgfiiehjaghiaa.G
open Go.RowKit Go.Proofs.Ytbgfiiehjaghiaa.SX Go.Proofs.YtbgfiiehjaghiaaW.PrintWords Go.Proofs.YtbgfiiehjaghiaaW.PrintLast Go.Proofs.YtbgfiiehjaghiaaW.PrintMore
theorem rdL_at {l : List (List ST)} {f : Int} {b : List ST} (h0 : 0 ≤ f) (hb : l[f.toNat]? = some b) : rd_L4 l f = b := by simp [rd_L4, List.getD, hb]
theorem l2Own_l0 (l : List (List ST)) (hl : l.length ≤ 1048576) (hb : ∀ b ∈ l, b.length ≤ 1048576) : ∀ d i, i + d = l.length → ∀ k, d < k → spec_l2Own.l0 k (i : Int) l (l.take i) = some l := by
 intro d
 induction d with
 | zero =>
  intro i hi k hk
  obtain ⟨k, rfl⟩ : ∃ m, k = m + 1 := ⟨k - 1, by omega⟩
  have : i = l.length := by omega
  subst this
  simp only [spec_l2Own.l0]
  rw [if_neg (by omega), List.take_length]
 | succ d ih =>
  intro i hi k hk
  obtain ⟨k, rfl⟩ : ∃ m, k = m + 1 := ⟨k - 1, by omega⟩
  have hlt : i < l.length := by omega
  have hrd : rd_L4 l (i : Int) = l[i] := by simp [rd_L4, List.getD, hlt]
  simp only [spec_l2Own.l0, hrd, Option.bind_some, List.nil_append]
  rw [if_pos (by omega), if_pos (by omega), if_pos (by have := hb _ (List.getElem_mem hlt); simp; omega)]
  rw [if_pos (by rw [List.length_take]; omega), w64b (by omega) (by omega), show ((i : Int) + 1) = ((i + 1 : Nat) : Int) from rfl]
  have := ih (i + 1) (by omega) k (by omega)
  rw [List.take_add_one, List.getElem?_eq_getElem hlt] at this
  exact this
theorem l2Own_f (l : List (List ST)) (hf : Fits l) (k : Nat) (hk : l.length < k) : spec_l2Own.f k l = some l := by
 have := l2Own_l0 l hf.len hf.each l.length 0 (by omega) k hk
 unfold spec_l2Own.f
 simpa using this
theorem tot_set {α : Type} {l : List (List α)} {f : Nat} {b c : List α} (hb : l[f]? = some b) (hc : c.length ≤ b.length) : tot (l.set f c) ≤ tot l := by
 induction l generalizing f with
 | nil => simp at hb
 | cons d l ih =>
  cases f with
  | zero => simp at hb; subst hb; simp [tot]; omega
  | succ f => simp at hb; have := ih hb; simp [tot]; omega
theorem nil_fits {α : Type} : Fits ([] : List (List α)) := ⟨by simp, by simp [tot]⟩
def placeB (m : Int) (l : List (List ST)) (f at_ : Int) : Bool := okF l f && (decide (0 ≤ at_) && decide (at_ ≤ ((l.getD f.toNat []).length : Int) - m))
theorem placeB_ok {m : Int} {l : List (List ST)} {f at_ : Int} (h : placeB m l f at_ = true) : okF l f = true ∧ ∃ b, l[f.toNat]? = some b ∧ 0 ≤ at_ ∧ at_ ≤ (b.length : Int) - m := by
 simp only [placeB, Bool.and_eq_true, decide_eq_true_eq] at h
 have hlt := okF_lt h.1
 obtain ⟨b, hb⟩ : ∃ b, l[f.toNat]? = some b := ⟨_, List.getElem?_eq_getElem (by omega)⟩
 refine ⟨h.1, b, hb, h.2.1, ?_⟩
 have := h.2.2
 simpa only [List.getD, hb, Option.getD_some] using this
theorem in_f (a lo hi : Int) : impl_in.f a lo hi = some (decide (lo ≤ a) && decide (a ≤ hi)) := by
 unfold impl_in.f
 by_cases h : lo ≤ a <;> simp [h]
section
variable {w0 w : World} {Rs : List Asn} {s : Sl} {l : List (List ST)} {f at_ : Int}
theorem hasNext_sat (hS : Sat w0 w Rs) (hr : RdP w s l) (hf : Fits l) :
    Calls Try.prog 58 #[.agg #[.slice s.A s.n s.c], .int .i64 f, .int .i64 at_] w (Ret fun r w' => r = .bool (placeB 2 l f at_) ∧ Sat w0 w' Rs) := by
  have hq : impl_hasNext.f l f at_ = some (placeB 2 l f at_) := by
    simp only [impl_hasNext.f, impl_isFunction.f, impl_IsProgram.f, in_f, w64b (x := (l.length : Int) - 1) (by have := hf.len; omega) (by have := hf.len; omega), Option.bind_some]
    by_cases hp : programB l = true
    · rw [if_pos hp, Option.bind_some]
      by_cases ho : okF l f = true
      · have hlt := okF_lt ho
        obtain ⟨b, hb⟩ : ∃ b, l[f.toNat]? = some b := ⟨_, List.getElem?_eq_getElem (by omega)⟩;have hbl := hf.each b (List.mem_of_getElem? hb);have h2 : (decide (0 ≤ f) && decide (f ≤ (l.length : Int) - 1)) = true := by simpa [okF, hp] using ho
        rw [if_pos h2, if_pos hlt.1, if_pos hlt.2, rdL_at hlt.1 hb, w64b (by omega) (by omega)];unfold placeB;rw [ho, Bool.true_and];simp only [List.getD, hb, Option.getD_some]
      · have h2 : (decide (0 ≤ f) && decide (f ≤ (l.length : Int) - 1)) = false := by
          have h3 := Bool.eq_false_iff.2 ho;rw [okF, hp, Bool.true_and] at h3;exact h3
        rw [h2, if_neg (by decide)];unfold placeB;rw [Bool.eq_false_iff.2 ho]; rfl
    · have h2 : okF l f = false := by rw [okF, Bool.eq_false_iff.2 hp, Bool.false_and]
      rw [Bool.eq_false_iff.2 hp];unfold placeB;rw [h2]; rfl
  have := impl_hasNext.calls s.A s.c l f at_ (placeB 2 l f at_) w hr.rd hr.le hq
  rw [← hr.len] at this
  refine this.mono ?_
  rintro e w' ⟨rfl, hb⟩
  exact ⟨rfl, Sat.skip hS hb⟩
theorem l9Next_sat (hS : Sat w0 w Rs) (hr : RdP w s l) (hf : Fits l) :
    Calls Try.prog 55 #[.agg #[.slice s.A s.n s.c], .int .i64 f, .int .i64 at_] w (Ret fun r w' => r = .bool (placeB 2 l f at_) ∧ Sat w0 w' Rs) := by
  have hq : spec_l9Next.f 1048580 l f at_ = some (placeB 2 l f at_) := by
    simp only [spec_l9Next.f, l2Program_f l hf.len 1048580 (by omega), l2Function_f l hf.len, Option.bind_some]
    by_cases hp : programB l = true
    · rw [if_pos hp]
      by_cases ho : okF l f = true
      · have hlt := okF_lt ho
        obtain ⟨b, hb⟩ : ∃ b, l[f.toNat]? = some b := ⟨_, List.getElem?_eq_getElem (by omega)⟩;have hbl := hf.each b (List.mem_of_getElem? hb);have h2 : (decide (0 ≤ f) && decide (f ≤ (l.length : Int) - 1)) = true := by simpa [okF, hp] using ho
        rw [if_pos h2, if_pos hlt.1, if_pos hlt.2, rdL_at hlt.1 hb, w64b (by omega) (by omega), l1In_f, Option.bind_some];unfold placeB;rw [ho, Bool.true_and];simp only [List.getD, hb, Option.getD_some]
      · have h2 : (decide (0 ≤ f) && decide (f ≤ (l.length : Int) - 1)) = false := by
          have h3 := Bool.eq_false_iff.2 ho;rw [okF, hp, Bool.true_and] at h3;exact h3
        rw [h2, if_neg (by decide)];unfold placeB;rw [Bool.eq_false_iff.2 ho]; rfl
    · have h2 : okF l f = false := by rw [okF, Bool.eq_false_iff.2 hp, Bool.false_and]
      rw [if_neg hp];unfold placeB;rw [h2]; rfl
  have := spec_l9Next.calls 1048580 s.A s.c l f at_ (placeB 2 l f at_) w hr.rd hr.le hq
  rw [← hr.len] at this
  refine this.mono ?_
  rintro e w' ⟨rfl, hb⟩
  exact ⟨rfl, Sat.skip hS hb⟩
theorem l2Own_sat (hS : Sat w0 w Rs) (hr : RdP w s l) (hf : Fits l) :
  Calls Try.prog 56 #[.agg #[.slice s.A s.n s.c]] w (Ret fun r w' => ∃ s' : Sl, r = .agg #[s'.v] ∧ Sat w0 w' (prg w0.heap.size s' l :: Rs)) := by
 have := spec_l2Own.calls 1048580 s.A s.c l l w hr.rd hr.le (l2Own_f l hf 1048580 (by have := hf.len; omega))
 rw [← hr.len] at this
 refine this.mono ?_
 rintro e w' ⟨v, rfl, h1, h2⟩
 obtain ⟨s', rfl, h3⟩ := hS.madeS h2 h1
 exact ⟨s', rfl, h3⟩
end
theorem RdE.ofSteps {w : World} {s : Sl} {b : List ST} (hn : s.n = b.length) (hl : b.length ≤ s.c) (h : Kd.C k68 w s.A b.length b) : RdE cT 3 w s b := by
 obtain ⟨_, hb, h3⟩ := h
 refine ⟨hn, hl, hb, fun j x hx => ?_⟩
 have hj := (List.getElem?_eq_some_iff.1 hx).1
 obtain ⟨ad, hA, hc⟩ := h3 (by omega)
 have hcell : ∀ (j : Nat) (x : ST), b[j]? = some x → ∀ (o : Nat) (u : Value), (cT x)[o]? = some u → w.cell? (ad.add (j * 3 + o)) = some u := fun j x hx o u hu => by
  obtain ⟨cs, _, hk, hu2⟩ := hc j x hx
  obtain rfl := k68_open hk
  exact hu2 o u hu
 have hspot := spot_of_cell (v := .int .i64 (b[0]'(by omega)).f0) (w := w) (ad := ad) (by have := hcell 0 _ (List.getElem?_eq_getElem (by omega)) 0 _ rfl; simpa using this)
 obtain ⟨bb, off, sp⟩ := ad
 subst hspot
 refine ⟨by simp [bk, of_, hA], fun o u hu => ?_⟩
 have := hcell j x hx o u hu
 rw [add0] at this
 simpa [bk, of_, hA, Nat.add_assoc] using this
theorem body_rd {w : World} {s : Sl} {l : List (List ST)} (hr : RdP w s l) {j : Nat} {b : List ST} (hb : l[j]? = some b) : s.A = some ⟨bk s, of_ s, none⟩ ∧ ∃ t : Sl, w.cell? ⟨bk s, of_ s + j, none⟩ = some (.slice t.A t.n t.c) ∧ RdE cT 3 w t b := by
 obtain ⟨h1, A', c', h2, h3, h4⟩ := rows_cells hr.rd j b hb
 exact ⟨h1, ⟨A', b.length, c'⟩, h2, RdE.ofSteps rfl h3 h4⟩
theorem set_other {α : Type} {l : List α} {i j : Nat} {x y : α} (h : l[j]? = some y) (hij : i ≠ j) : (l.set i x)[j]? = some y := by rw [List.getElem?_set_ne hij]; exact h
def swapL (b : List ST) (n : Nat) : List ST := match b[n]?, b[n + 1]? with | some y0, some y1 => (b.set n y1).set (n + 1) y0 | _, _ => b
theorem swapL_at {b : List ST} {n : Nat} {y0 y1 : ST} (h0 : b[n]? = some y0) (h1 : b[n + 1]? = some y1) : swapL b n = (b.set n y1).set (n + 1) y0 := by unfold swapL; rw [h0, h1]
theorem swapL_len (b : List ST) (n : Nat) : (swapL b n).length = b.length := by unfold swapL; split <;> simp
def exchP (l : List (List ST)) (f at_ : Int) : List (List ST) × Bool := if placeB 2 l f at_ = true then (l.set f.toNat (swapL (l.getD f.toNat []) at_.toNat), true) else ([], false)
theorem exchP_no {l : List (List ST)} {f at_ : Int} (h : placeB 2 l f at_ = false) : exchP l f at_ = ([], false) := by unfold exchP; rw [h]; rfl
theorem exchP_yes {l : List (List ST)} {f at_ : Int} {b : List ST} (h : placeB 2 l f at_ = true) (hb : l[f.toNat]? = some b) : exchP l f at_ = (l.set f.toNat (swapL b at_.toNat), true) := by unfold exchP; rw [if_pos h]; simp only [List.getD, hb, Option.getD_some]
theorem exchP_fits {l : List (List ST)} (hf : Fits l) (f at_ : Int) : Fits (exchP l f at_).1 := by
  by_cases ho : placeB 2 l f at_ = true
  · obtain ⟨_, b, hb, _⟩ := placeB_ok ho
    rw [exchP_yes ho hb];exact ⟨by rw [List.length_set]; exact hf.len, Nat.le_trans (tot_set hb (by rw [swapL_len]; exact Nat.le_refl _)) hf.tot⟩
  · rw [exchP_no (Bool.eq_false_iff.2 ho)]; exact nil_fits
theorem code18 : Try.f18.body = some (Code.seq (cr Try.f18 0 false) (Code.seq (Code.seq (cr Try.f18 1 false) (Code.cond (Operand.tmp 14) (Code.seq (cr Try.f18 2 false) Code.ret) Code.skip)) (Code.seq (cr Try.f18 3 false) (Code.seq (cr Try.f18 4 false) (Code.seq (cr Try.f18 5 true) (Code.seq (cr Try.f18 6 false) Code.ret)))))) := by kernel_rfl
theorem impl_ExchangeSteps_sat0 {w0 : World} {s0 : Sl} {l : List (List ST)} {x1 x2 : Int} (hr : RdP w0 s0 l) (hf : Fits l) :
  Calls Try.prog 18 #[.agg #[.slice s0.A s0.n s0.c], iv x1, iv x2] w0 (Ret fun r w' => ∃ s : Sl, r = .tuple #[.agg #[s.v], .bool (exchP l x1 x2).2] ∧ Sat w0 w' [prg w0.heap.size s (exchP l x1 x2).1]) := by
 have hS : Sat w0 w0 [] := Sat.start w0
 refine enter (n := 40) Try.func18 code18 (by kernel_rfl) (Nat.le_of_ble_eq_true rfl) (fun a ha => ?_)
 replace ha : Has 40 [(0, .agg #[.slice s0.A s0.n s0.c]), (1, iv x1), (2, iv x2)] a := ha
 refine wp_seq (jK [0, 1, 2] (jU (xJ 3 [.slice s0.A s0.n s0.c] 28 (ptr · 0) ha hS fun b1 w a hb2 hS ha => ?_)))
 refine jU (xJ 6 [.slice none 0 0] 28 (ptr · 0) ha hS fun b3 w a hb4 hS ha => ?_)
 refine jW [(2, 7, .bool false)] ha fun a ha => ?_
 refine jZ (jQ (wp_seq (wp_seq (jK [0, 1, 2, 3, 4] (qX 10 ha (hS.blk 1 rfl) fun a ha => ?_)))))
 refine jW [(1, 11, iv x1), (2, 12, iv x2)] ha fun a ha => ?_
 refine jU (qJ 13 (vs := [.agg #[.slice s0.A s0.n s0.c], iv x1, iv x2]) ha (hasNext_sat hS (hr.sat hS) hf) fun v5 w a hp6 ha => ?_)
 obtain ⟨rfl, hS⟩ := hp6
 refine jW [(4, 14, .bool (!(placeB 2 l x1 x2)))] ha fun a ha => ?_
 refine jZ (jQ ?_)
 rcases Bool.eq_false_or_eq_true (placeB 2 l x1 x2) with c7 | c7
 ·
  obtain ⟨ho, b, hb, hx2⟩ := placeB_ok c7
  have hx1 := okF_lt ho
  have hb1 : b.length ≤ 1048576 := hf.each b (List.mem_of_getElem? hb)
  obtain ⟨hA0, sb, hcb, hrb⟩ := body_rd hr hb
  obtain ⟨y0, hy0⟩ : ∃ y, b[x2.toNat]? = some y := ⟨_, List.getElem?_eq_getElem (by omega)⟩
  obtain ⟨y1, hy1⟩ : ∃ y, b[x2.toNat + 1]? = some y := ⟨_, List.getElem?_eq_getElem (by omega)⟩
  have hsb := hrb.len
  refine jG ha rfl (yH c7) ?_
  refine wp_skip (jQ (wp_seq (jK [0, 1, 2, 3] (qX 16 ha (hS.blk 1 rfl) fun a ha => ?_))))
  refine jU (qJ 17 (vs := [.agg #[.slice s0.A s0.n s0.c]]) ha (copied_sat hS (hr.sat hS) hf) fun v8 w a hp9 ha => ?_)
  obtain ⟨s1, rfl, hS⟩ := hp9
  refine jU (xJ 8 [.slice none 0 0] 28 (ptr · 0) ha hS fun b10 w a hb11 hS ha => ?_)
  refine jU (o_sa 0 ha (xK (t := 28) (x := 8) (y := 17)) hS fun w a hS ha => ?_)
  refine jZ (jQ (wp_seq ?_))
  replace hS := hS.pickN 4 [1, 0, 2, 3]
  obtain ⟨vs, z, hvl, hz, hS⟩ := openFn hS hb
  replace hS : Sat w0 w ((SX.row (.slice s1.A s1.n s1.c) 69 1 (encSl vs)) :: (SX.row (.slice z.A z.n z.c) 68 3 (encS3 b)) :: (holeA w0.heap.size l vs x1.toNat) :: (SX.blk b10 [.slice s1.A s1.n s1.c] 28) :: (SX.blk b3 [.slice none 0 0] 28) :: (SX.blk b1 [.slice s0.A s0.n s0.c] 28) :: []) := hS
  have hzl : z.n = b.length := hS.rowL (s := z) (enc := cT) 1 cT_len (by decide) rfl
  refine jK [0, 1, 2, 3, 4, 5] (jW [(0, 18, ptr b10 0)] ha fun a ha => ?_)
  refine yK (d := 19) (b := b10) (j := 0) ha (hS.blk 3 rfl) rfl fun a ha => ?_
  refine jW [(2, 20, iv x1)] ha fun a ha => ?_
  refine xW (.pointer (some ⟨bk s1, x1.toNat * 1, none⟩)) ha (qY (s := s1) (el := 69) (sz := 1) (j := x1.toNat) ha (xU (t := 26) (x := 19) (y := 20) (d := 21)) rfl rfl (by kernel_rfl) (by kernel_rfl) (hS.rowA (s := s1) 0 rfl (by have := (List.getElem?_eq_some_iff.1 hz).1; rw [encSl_length]; omega)) ((Int.toNat_of_nonneg hx1.1).symm) (by have h9 := hS.rowL (s := s1) (enc := cSl) 0 cSl_len (by decide) rfl; have := (List.getElem?_eq_some_iff.1 hz).1; omega)) fun a ha => ?_
  refine xW (.slice z.A z.n z.c) ha (qG ha (yY (t := 69) (x := 21) (d := 22) (ty := 69)) rfl (by kernel_rfl) (fun w' hw => by rw [hw]; exact (hS.rdC (s := s1) 0 rfl).cells _ _ ((flat_get (enc := cSl) (o := 0) cSl_len hz (by decide)).trans rfl))) fun a ha => ?_
  refine jW [(5, 9, .slice z.A z.n z.c)] ha fun a ha => ?_
  refine jZ (jQ (wp_seq (yZ 15 18 hS fun w hS => ?_)))
  refine jH (k := 14) [(0, 23, .slice z.A z.n z.c), (1, 24, iv x2), (2, 25, .slice z.A z.n z.c), (3, 26, iv x2)] ha (.inr hS) fun a ha => ?_
  refine yW 4 27 (x2 + 1) ha (.inr hS) fun a ha => ?_
  refine jH (k := 11) [(5, 28, .slice z.A z.n z.c), (6, 29, iv x2)] ha (.inr hS) fun a ha => ?_
  refine yW 7 30 (x2 + 1) ha (.inr hS) fun a ha => ?_
  refine qV 8 (.pointer (some ⟨bk z, (x2.toNat + 1) * 3, none⟩)) ha (qY (s := z) (el := 68) (sz := 3) (j := x2.toNat + 1) ha (xU (t := 69) (x := 28) (y := 30) (d := 31)) rfl rfl (by kernel_rfl) (by kernel_rfl) (hS.rowA (s := z) 1 rfl (by have := (List.getElem?_eq_some_iff.1 hy1).1; rw [encS3_length]; omega)) ((by omega)) (by have h9 := hS.rowL (s := z) (enc := cT) 1 cT_len (by decide) rfl; have := (List.getElem?_eq_some_iff.1 hy1).1; omega)) (.inr hS) fun a ha => ?_
  refine yJ 9 (.agg #[iv y1.f0, iv y1.f1, iv y1.f2]) ha (v_loadL ha (yY (t := 68) (x := 31) (d := 32) (ty := 68)) rfl (fun w' hw => run_loadVar_agg (vs := [iv y1.f0, iv y1.f1, iv y1.f2]) (by kernel_rfl) (fun i u hu => by match i, hu with | 0, hu => rw [add0]; rw [← Option.some.inj hu]; exact (((hw.rdC (s := z) 1 rfl)).cells _ _ ((flat_get (enc := cT) (o := 0) cT_len hy1 (by decide)).trans rfl)) | 1, hu => rw [add0]; rw [← Option.some.inj hu]; exact (((hw.rdC (s := z) 1 rfl)).cells _ _ ((flat_get (enc := cT) (o := 1) cT_len hy1 (by decide)).trans rfl)) | 2, hu => rw [add0]; rw [← Option.some.inj hu]; exact (((hw.rdC (s := z) 1 rfl)).cells _ _ ((flat_get (enc := cT) (o := 2) cT_len hy1 (by decide)).trans rfl)) | n + 3, hu => simp at hu))) hS fun a ha => ?_
  refine jH (k := 6) [(10, 33, .slice z.A z.n z.c), (11, 34, iv x2)] ha (.inr hS) fun a ha => ?_
  refine qV 12 (.pointer (some ⟨bk z, x2.toNat * 3, none⟩)) ha (qY (s := z) (el := 68) (sz := 3) (j := x2.toNat) ha (xU (t := 69) (x := 33) (y := 34) (d := 35)) rfl rfl (by kernel_rfl) (by kernel_rfl) (hS.rowA (s := z) 1 rfl (by have := (List.getElem?_eq_some_iff.1 hy0).1; rw [encS3_length]; omega)) ((Int.toNat_of_nonneg hx2.1).symm) (by have h9 := hS.rowL (s := z) (enc := cT) 1 cT_len (by decide) rfl; have := (List.getElem?_eq_some_iff.1 hy0).1; omega)) (.inr hS) fun a ha => ?_
  refine yJ 13 (.agg #[iv y0.f0, iv y0.f1, iv y0.f2]) ha (v_loadL ha (yY (t := 68) (x := 35) (d := 36) (ty := 68)) rfl (fun w' hw => run_loadVar_agg (vs := [iv y0.f0, iv y0.f1, iv y0.f2]) (by kernel_rfl) (fun i u hu => by match i, hu with | 0, hu => rw [add0]; rw [← Option.some.inj hu]; exact (((hw.rdC (s := z) 1 rfl)).cells _ _ ((flat_get (enc := cT) (o := 0) cT_len hy0 (by decide)).trans rfl)) | 1, hu => rw [add0]; rw [← Option.some.inj hu]; exact (((hw.rdC (s := z) 1 rfl)).cells _ _ ((flat_get (enc := cT) (o := 1) cT_len hy0 (by decide)).trans rfl)) | 2, hu => rw [add0]; rw [← Option.some.inj hu]; exact (((hw.rdC (s := z) 1 rfl)).cells _ _ ((flat_get (enc := cT) (o := 2) cT_len hy0 (by decide)).trans rfl)) | n + 3, hu => simp at hu))) hS fun a ha => ?_
  refine qV 14 (.pointer (some ⟨bk z, x2.toNat * 3, none⟩)) ha (qY (s := z) (el := 68) (sz := 3) (j := x2.toNat) ha (xU (t := 69) (x := 23) (y := 24) (d := 37)) rfl rfl (by kernel_rfl) (by kernel_rfl) (hS.rowA (s := z) 1 rfl (by have := (List.getElem?_eq_some_iff.1 hy0).1; rw [encS3_length]; omega)) ((Int.toNat_of_nonneg hx2.1).symm) (by have h9 := hS.rowL (s := z) (enc := cT) 1 cT_len (by decide) rfl; have := (List.getElem?_eq_some_iff.1 hy0).1; omega)) (.inr hS) fun a ha => ?_
  refine qU 15 (o_storeRowA (s := z) (j := x2.toNat * 3) (xs := encS3 b) (xs' := encS3 (b.set x2.toNat (⟨y1.f0, y1.f1, y1.f2⟩ : ST))) (vs := [iv y1.f0, iv y1.f1, iv y1.f2]) 1 ha (xK (t := 68) (x := 37) (y := 32)) rfl rfl rfl (by kernel_rfl) hS rfl (by have := (List.getElem?_eq_some_iff.1 hy0).1; rw [encS3_length]; simp only [List.length_cons, List.length_nil]; omega) (Nat.succ_pos _) (flat_put (enc := cT) (x' := (⟨y1.f0, y1.f1, y1.f2⟩ : ST)) cT_len hy0) (fun w a (hS : Sat w0 w ((SX.row (.slice s1.A s1.n s1.c) 69 1 (encSl vs)) :: (SX.row (.slice z.A z.n z.c) 68 3 (encS3 (b.set x2.toNat (⟨y1.f0, y1.f1, y1.f2⟩ : ST)))) :: (holeA w0.heap.size l vs x1.toNat) :: (SX.blk b10 [.slice s1.A s1.n s1.c] 28) :: (SX.blk b3 [.slice none 0 0] 28) :: (SX.blk b1 [.slice s0.A s0.n s0.c] 28) :: [])) ha => ?_))
  have hy9 := set_other (i := x2.toNat) (x := (⟨y1.f0, y1.f1, y1.f2⟩ : ST)) hy1 (by omega)
  refine yU (qV 16 (.pointer (some ⟨bk z, (x2.toNat + 1) * 3, none⟩)) ha (qY (s := z) (el := 68) (sz := 3) (j := x2.toNat + 1) ha (xU (t := 69) (x := 25) (y := 27) (d := 38)) rfl rfl (by kernel_rfl) (by kernel_rfl) (hS.rowA (s := z) 1 rfl (by have := (List.getElem?_eq_some_iff.1 hy9).1; rw [encS3_length]; omega)) ((by omega)) (by have h9 := hS.rowL (s := z) (enc := cT) 1 cT_len (by decide) rfl; have := (List.getElem?_eq_some_iff.1 hy9).1; omega)) (.inl (by kernel_rfl)) fun a ha => ?_)
  refine qU 17 (o_storeRowA (s := z) (j := (x2.toNat + 1) * 3) (xs := encS3 (b.set x2.toNat (⟨y1.f0, y1.f1, y1.f2⟩ : ST))) (xs' := encS3 ((b.set x2.toNat (⟨y1.f0, y1.f1, y1.f2⟩ : ST)).set (x2.toNat + 1) (⟨y0.f0, y0.f1, y0.f2⟩ : ST))) (vs := [iv y0.f0, iv y0.f1, iv y0.f2]) 1 ha (xK (t := 68) (x := 38) (y := 36)) rfl rfl rfl (by kernel_rfl) hS rfl (by have := (List.getElem?_eq_some_iff.1 hy9).1; rw [encS3_length]; simp only [List.length_cons, List.length_nil]; omega) (Nat.succ_pos _) (flat_put (enc := cT) (x' := (⟨y0.f0, y0.f1, y0.f2⟩ : ST)) cT_len hy9) (fun w a (hS : Sat w0 w ((SX.row (.slice s1.A s1.n s1.c) 69 1 (encSl vs)) :: (SX.row (.slice z.A z.n z.c) 68 3 (encS3 ((b.set x2.toNat (⟨y1.f0, y1.f1, y1.f2⟩ : ST)).set (x2.toNat + 1) (⟨y0.f0, y0.f1, y0.f2⟩ : ST)))) :: (holeA w0.heap.size l vs x1.toNat) :: (SX.blk b10 [.slice s1.A s1.n s1.c] 28) :: (SX.blk b3 [.slice none 0 0] 28) :: (SX.blk b1 [.slice s0.A s0.n s0.c] 28) :: [])) ha => ?_))
  refine yU (yQ ?_)
  replace ha := ha.as [(6, ptr b3 0), (7, .bool false), (8, ptr b10 0)] rfl
  refine jQ (wp_seq (jK [0, 1, 2] (qX 39 ha (hS.blk 3 rfl) fun a ha => ?_)))
  refine jU (o_sa 4 ha (xK (t := 28) (x := 6) (y := 39)) hS fun w a hS ha => ?_)
  refine jW [(2, 7, .bool true)] ha fun a ha => ?_
  refine jZ (jQ (wp_ret (xG ha (by kernel_rfl) (yV (t := 6) (ty := 28) (i := 4) ha rfl hS rfl (by kernel_rfl)) (xV (t := 7) ha rfl) ?_)))
  replace hS := hS.pickN 6 [0, 1, 2]
  rw [exchP_yes c7 hb, swapL_at hy0 hy1]
  exact ⟨s1, rfl, shutFn' hz (by omega) hS⟩
 refine qQ ha rfl (zJ c7) ?_
 refine wp_seq (jK [0, 1, 2] (jW [(0, 15, .agg #[.slice none 0 0])] ha fun a ha => ?_))
 refine jU (o_sa 0 ha (xK (t := 28) (x := 6) (y := 15)) hS fun w a hS ha => ?_)
 refine jW [(2, 7, .bool false)] ha fun a ha => ?_
 refine jZ (jQ (wp_ret (qW (xG ha (by kernel_rfl) (yV (t := 6) (ty := 28) (i := 0) ha rfl hS rfl (by kernel_rfl)) (xV (t := 7) ha rfl) ?_))))
 rw [exchP_no c7]
 exact ⟨⟨none, 0, 0⟩, rfl, nilPrg (Sat.rest [_, _] hS)⟩
theorem impl_ExchangeSteps_sat {w0 w : World} {Rs : List Asn} {s0 : Sl} {l : List (List ST)} {x1 x2 : Int} (hS : Sat w0 w Rs) (hr : RdP w s0 l) (hf : Fits l) :
  Calls Try.prog 18 #[.agg #[.slice s0.A s0.n s0.c], iv x1, iv x2] w (Ret fun r w' => ∃ s : Sl, r = .tuple #[.agg #[s.v], .bool (exchP l x1 x2).2] ∧ Sat w0 w' (prg w0.heap.size s (exchP l x1 x2).1 :: Rs)) := liftPB hS (impl_ExchangeSteps_sat0 hr hf)
theorem code16 : Try.f16.body = some (Code.seq (cr Try.f16 0 false) (Code.seq (Code.seq (cr Try.f16 1 false) (Code.cond (Operand.tmp 13) (Code.seq (cr Try.f16 2 false) Code.ret) Code.skip)) (Code.seq (cr Try.f16 3 false) (Code.seq (cr Try.f16 4 true) (Code.seq (cr Try.f16 5 true) (Code.seq (cr Try.f16 6 false) Code.ret)))))) := by kernel_rfl
theorem spec_ExchangeSteps_sat0 {w0 : World} {s0 : Sl} {l : List (List ST)} {x1 x2 : Int} (hr : RdP w0 s0 l) (hf : Fits l) :
  Calls Try.prog 16 #[.agg #[.slice s0.A s0.n s0.c], iv x1, iv x2] w0 (Ret fun r w' => ∃ s : Sl, r = .tuple #[.agg #[s.v], .bool (exchP l x1 x2).2] ∧ Sat w0 w' [prg w0.heap.size s (exchP l x1 x2).1]) := by
 have hS : Sat w0 w0 [] := Sat.start w0
 refine enter (n := 50) Try.func16 code16 (by kernel_rfl) (Nat.le_of_ble_eq_true rfl) (fun a ha => ?_)
 replace ha : Has 50 [(0, .agg #[.slice s0.A s0.n s0.c]), (1, iv x1), (2, iv x2)] a := ha
 refine wp_seq (jK [0, 1, 2] (jU (xJ 3 [.slice s0.A s0.n s0.c] 28 (ptr · 0) ha hS fun b1 w a hb2 hS ha => ?_)))
 refine jU (xJ 6 [.slice none 0 0] 28 (ptr · 0) ha hS fun b3 w a hb4 hS ha => ?_)
 refine jW [(2, 7, .bool false)] ha fun a ha => ?_
 refine jZ (jQ (wp_seq (wp_seq (jK [0, 1, 2, 3, 4] (qX 9 ha (hS.blk 1 rfl) fun a ha => ?_)))))
 refine jW [(1, 10, iv x1), (2, 11, iv x2)] ha fun a ha => ?_
 refine jU (qJ 12 (vs := [.agg #[.slice s0.A s0.n s0.c], iv x1, iv x2]) ha (l9Next_sat hS (hr.sat hS) hf) fun v5 w a hp6 ha => ?_)
 obtain ⟨rfl, hS⟩ := hp6
 refine jW [(4, 13, .bool (!(placeB 2 l x1 x2)))] ha fun a ha => ?_
 refine jZ (jQ ?_)
 rcases Bool.eq_false_or_eq_true (placeB 2 l x1 x2) with c7 | c7
 ·
  obtain ⟨ho, b, hb, hx2⟩ := placeB_ok c7
  have hx1 := okF_lt ho
  have hb1 : b.length ≤ 1048576 := hf.each b (List.mem_of_getElem? hb)
  obtain ⟨hA0, sb, hcb, hrb⟩ := body_rd hr hb
  obtain ⟨y0, hy0⟩ : ∃ y, b[x2.toNat]? = some y := ⟨_, List.getElem?_eq_getElem (by omega)⟩
  obtain ⟨y1, hy1⟩ : ∃ y, b[x2.toNat + 1]? = some y := ⟨_, List.getElem?_eq_getElem (by omega)⟩
  have hsb := hrb.len
  refine jG ha rfl (yH c7) ?_
  refine wp_skip (jQ (wp_seq (jK [0, 1, 2, 3] (qX 15 ha (hS.blk 1 rfl) fun a ha => ?_))))
  refine jU (qJ 16 (vs := [.agg #[.slice s0.A s0.n s0.c]]) ha (l2Own_sat hS (hr.sat hS) hf) fun v8 w a hp9 ha => ?_)
  obtain ⟨s1, rfl, hS⟩ := hp9
  refine jU (xJ 8 [.slice none 0 0] 28 (ptr · 0) ha hS fun b10 w a hb11 hS ha => ?_)
  refine jU (o_sa 0 ha (xK (t := 28) (x := 8) (y := 16)) hS fun w a hS ha => ?_)
  refine jZ (jQ (wp_seq ?_))
  replace hS := hS.pickN 4 [1, 0, 2, 3]
  obtain ⟨vs, z, hvl, hz, hS⟩ := openFn hS hb
  replace hS : Sat w0 w ((SX.row (.slice s1.A s1.n s1.c) 69 1 (encSl vs)) :: (SX.row (.slice z.A z.n z.c) 68 3 (encS3 b)) :: (holeA w0.heap.size l vs x1.toNat) :: (SX.blk b10 [.slice s1.A s1.n s1.c] 28) :: (SX.blk b3 [.slice none 0 0] 28) :: (SX.blk b1 [.slice s0.A s0.n s0.c] 28) :: []) := hS
  have hzl : z.n = b.length := hS.rowL (s := z) (enc := cT) 1 cT_len (by decide) rfl
  refine yZ 16 17 hS fun w hS => ?_
  refine jH (k := 16) [(0, 17, ptr b10 0)] ha (.inr hS) fun a ha => ?_
  refine xQ 1 (d := 18) (b := b10) (j := 0) ha hS (fun _ hw => hw.blk 3 rfl) rfl fun a ha => ?_
  refine jH (k := 14) [(2, 19, iv x1)] ha (.inr hS) fun a ha => ?_
  refine qV 3 (.pointer (some ⟨bk s1, x1.toNat * 1, none⟩)) ha (qY (s := s1) (el := 69) (sz := 1) (j := x1.toNat) ha (xU (t := 26) (x := 18) (y := 19) (d := 20)) rfl rfl (by kernel_rfl) (by kernel_rfl) (hS.rowA (s := s1) 0 rfl (by have := (List.getElem?_eq_some_iff.1 hz).1; rw [encSl_length]; omega)) ((Int.toNat_of_nonneg hx1.1).symm) (by have h9 := hS.rowL (s := s1) (enc := cSl) 0 cSl_len (by decide) rfl; have := (List.getElem?_eq_some_iff.1 hz).1; omega)) (.inr hS) fun a ha => ?_
  refine yJ 4 (.slice z.A z.n z.c) ha (qG ha (yY (t := 69) (x := 20) (d := 21) (ty := 69)) rfl (by kernel_rfl) (fun w' hw => ((hw.rdC (s := s1) 0 rfl)).cells _ _ ((flat_get (enc := cSl) (o := 0) cSl_len hz (by decide)).trans rfl))) hS fun a ha => ?_
  refine jH (k := 10) [(5, 22, iv x2), (6, 23, ptr b1 0)] ha (.inr hS) fun a ha => ?_
  refine xQ 7 (d := 24) (b := b1) (j := 0) ha hS (fun _ hw => hw.blk 5 rfl) rfl fun a ha => ?_
  refine jH (k := 8) [(8, 25, iv x1)] ha (.inr hS) fun a ha => ?_
  refine qV 9 (.pointer (some ⟨bk s0, of_ s0 + x1.toNat * 1, none⟩)) ha (qZ (s := s0) (el := 69) (sz := 1) (j := x1.toNat) ha (xU (t := 26) (x := 24) (y := 25) (d := 26)) rfl rfl (by kernel_rfl) (by kernel_rfl) hA0 (Int.toNat_of_nonneg hx1.1).symm (by rw [hr.len]; omega)) (.inr hS) fun a ha => ?_
  refine yJ 10 (.slice sb.A sb.n sb.c) ha (qG ha (yY (t := 69) (x := 26) (d := 27) (ty := 69)) rfl (by kernel_rfl) (fun w' hw => by rw [Nat.mul_one]; exact pw_cell_below (Sat.below hw) hcb)) hS fun a ha => ?_
  refine jH (k := 5) [(11, 28, iv x2)] ha (.inr hS) fun a ha => ?_
  refine yW 12 29 (x2 + 1) ha (.inr hS) fun a ha => ?_
  refine qV 13 (.pointer (some ⟨bk sb, of_ sb + (x2.toNat + 1) * 3, none⟩)) ha (qZ (el := 68) (sz := 3) (j := x2.toNat + 1) ha (xU (t := 69) (x := 27) (y := 29) (d := 30)) rfl rfl (by kernel_rfl) (by kernel_rfl) (RdE.at_ (hrb.sat hS) _ _ hy1).1 ((by omega)) (by rw [((hrb.sat hS)).len]; exact (List.getElem?_eq_some_iff.1 hy1).1)) (.inr hS) fun a ha => ?_
  refine yJ 14 (.agg #[iv y1.f0, iv y1.f1, iv y1.f2]) ha (v_loadE (b := bk sb) (f := of_ sb + (x2.toNat + 1) * 3) (vs := [iv y1.f0, iv y1.f1, iv y1.f2]) ha (yY (t := 68) (x := 30) (d := 31) (ty := 68)) rfl (by kernel_rfl) (fun w' hw o u hu => by exact (RdE.at_ (hrb.sat hw) _ _ hy1).2 o u hu)) hS fun a ha => ?_
  refine qV 15 (.pointer (some ⟨bk z, x2.toNat * 3, none⟩)) ha (qY (s := z) (el := 68) (sz := 3) (j := x2.toNat) ha (xU (t := 69) (x := 21) (y := 22) (d := 32)) rfl rfl (by kernel_rfl) (by kernel_rfl) (hS.rowA (s := z) 1 rfl (by have := (List.getElem?_eq_some_iff.1 hy0).1; rw [encS3_length]; omega)) ((Int.toNat_of_nonneg hx2.1).symm) (by have h9 := hS.rowL (s := z) (enc := cT) 1 cT_len (by decide) rfl; have := (List.getElem?_eq_some_iff.1 hy0).1; omega)) (.inr hS) fun a ha => ?_
  refine qU 16 (o_storeRowA (s := z) (j := x2.toNat * 3) (xs := encS3 b) (xs' := encS3 (b.set x2.toNat (⟨y1.f0, y1.f1, y1.f2⟩ : ST))) (vs := [iv y1.f0, iv y1.f1, iv y1.f2]) 1 ha (xK (t := 68) (x := 32) (y := 31)) rfl rfl rfl (by kernel_rfl) hS rfl (by have := (List.getElem?_eq_some_iff.1 hy0).1; rw [encS3_length]; simp only [List.length_cons, List.length_nil]; omega) (Nat.succ_pos _) (flat_put (enc := cT) (x' := (⟨y1.f0, y1.f1, y1.f2⟩ : ST)) cT_len hy0) (fun w a (hS : Sat w0 w ((SX.row (.slice s1.A s1.n s1.c) 69 1 (encSl vs)) :: (SX.row (.slice z.A z.n z.c) 68 3 (encS3 (b.set x2.toNat (⟨y1.f0, y1.f1, y1.f2⟩ : ST)))) :: (holeA w0.heap.size l vs x1.toNat) :: (SX.blk b10 [.slice s1.A s1.n s1.c] 28) :: (SX.blk b3 [.slice none 0 0] 28) :: (SX.blk b1 [.slice s0.A s0.n s0.c] 28) :: [])) ha => ?_))
  have hy9 := set_other (i := x2.toNat) (x := (⟨y1.f0, y1.f1, y1.f2⟩ : ST)) hy1 (by omega)
  refine yU (yQ ?_)
  replace ha := ha.as [(1, iv x1), (2, iv x2), (3, ptr b1 0), (6, ptr b3 0), (7, .bool false), (8, ptr b10 0)] rfl
  refine jQ (wp_seq (yZ 16 17 hS fun w hS => ?_))
  refine jH (k := 16) [(0, 33, ptr b10 0)] ha (.inr hS) fun a ha => ?_
  refine xQ 1 (d := 34) (b := b10) (j := 0) ha hS (fun _ hw => hw.blk 3 rfl) rfl fun a ha => ?_
  refine jH (k := 14) [(2, 35, iv x1)] ha (.inr hS) fun a ha => ?_
  refine qV 3 (.pointer (some ⟨bk s1, x1.toNat * 1, none⟩)) ha (qY (s := s1) (el := 69) (sz := 1) (j := x1.toNat) ha (xU (t := 26) (x := 34) (y := 35) (d := 36)) rfl rfl (by kernel_rfl) (by kernel_rfl) (hS.rowA (s := s1) 0 rfl (by have := (List.getElem?_eq_some_iff.1 hz).1; rw [encSl_length]; omega)) ((Int.toNat_of_nonneg hx1.1).symm) (by have h9 := hS.rowL (s := s1) (enc := cSl) 0 cSl_len (by decide) rfl; have := (List.getElem?_eq_some_iff.1 hz).1; omega)) (.inr hS) fun a ha => ?_
  refine yJ 4 (.slice z.A z.n z.c) ha (qG ha (yY (t := 69) (x := 36) (d := 37) (ty := 69)) rfl (by kernel_rfl) (fun w' hw => ((hw.rdC (s := s1) 0 rfl)).cells _ _ ((flat_get (enc := cSl) (o := 0) cSl_len hz (by decide)).trans rfl))) hS fun a ha => ?_
  refine jH (k := 11) [(5, 38, iv x2)] ha (.inr hS) fun a ha => ?_
  refine yW 6 39 (x2 + 1) ha (.inr hS) fun a ha => ?_
  refine jH (k := 9) [(7, 40, ptr b1 0)] ha (.inr hS) fun a ha => ?_
  refine xQ 8 (d := 41) (b := b1) (j := 0) ha hS (fun _ hw => hw.blk 5 rfl) rfl fun a ha => ?_
  refine jH (k := 7) [(9, 42, iv x1)] ha (.inr hS) fun a ha => ?_
  refine qV 10 (.pointer (some ⟨bk s0, of_ s0 + x1.toNat * 1, none⟩)) ha (qZ (s := s0) (el := 69) (sz := 1) (j := x1.toNat) ha (xU (t := 26) (x := 41) (y := 42) (d := 43)) rfl rfl (by kernel_rfl) (by kernel_rfl) hA0 (Int.toNat_of_nonneg hx1.1).symm (by rw [hr.len]; omega)) (.inr hS) fun a ha => ?_
  refine yJ 11 (.slice sb.A sb.n sb.c) ha (qG ha (yY (t := 69) (x := 43) (d := 44) (ty := 69)) rfl (by kernel_rfl) (fun w' hw => by rw [Nat.mul_one]; exact pw_cell_below (Sat.below hw) hcb)) hS fun a ha => ?_
  refine jH (k := 4) [(12, 45, iv x2)] ha (.inr hS) fun a ha => ?_
  refine qV 13 (.pointer (some ⟨bk sb, of_ sb + x2.toNat * 3, none⟩)) ha (qZ (el := 68) (sz := 3) (j := x2.toNat) ha (xU (t := 69) (x := 44) (y := 45) (d := 46)) rfl rfl (by kernel_rfl) (by kernel_rfl) (RdE.at_ (hrb.sat hS) _ _ hy0).1 ((Int.toNat_of_nonneg hx2.1).symm) (by rw [((hrb.sat hS)).len]; exact (List.getElem?_eq_some_iff.1 hy0).1)) (.inr hS) fun a ha => ?_
  refine yJ 14 (.agg #[iv y0.f0, iv y0.f1, iv y0.f2]) ha (v_loadE (b := bk sb) (f := of_ sb + x2.toNat * 3) (vs := [iv y0.f0, iv y0.f1, iv y0.f2]) ha (yY (t := 68) (x := 46) (d := 47) (ty := 68)) rfl (by kernel_rfl) (fun w' hw o u hu => by exact (RdE.at_ (hrb.sat hw) _ _ hy0).2 o u hu)) hS fun a ha => ?_
  refine qV 15 (.pointer (some ⟨bk z, (x2.toNat + 1) * 3, none⟩)) ha (qY (s := z) (el := 68) (sz := 3) (j := x2.toNat + 1) ha (xU (t := 69) (x := 37) (y := 39) (d := 48)) rfl rfl (by kernel_rfl) (by kernel_rfl) (hS.rowA (s := z) 1 rfl (by have := (List.getElem?_eq_some_iff.1 hy9).1; rw [encS3_length]; omega)) ((by omega)) (by have h9 := hS.rowL (s := z) (enc := cT) 1 cT_len (by decide) rfl; have := (List.getElem?_eq_some_iff.1 hy9).1; omega)) (.inr hS) fun a ha => ?_
  refine qU 16 (o_storeRowA (s := z) (j := (x2.toNat + 1) * 3) (xs := encS3 (b.set x2.toNat (⟨y1.f0, y1.f1, y1.f2⟩ : ST))) (xs' := encS3 ((b.set x2.toNat (⟨y1.f0, y1.f1, y1.f2⟩ : ST)).set (x2.toNat + 1) (⟨y0.f0, y0.f1, y0.f2⟩ : ST))) (vs := [iv y0.f0, iv y0.f1, iv y0.f2]) 1 ha (xK (t := 68) (x := 48) (y := 47)) rfl rfl rfl (by kernel_rfl) hS rfl (by have := (List.getElem?_eq_some_iff.1 hy9).1; rw [encS3_length]; simp only [List.length_cons, List.length_nil]; omega) (Nat.succ_pos _) (flat_put (enc := cT) (x' := (⟨y0.f0, y0.f1, y0.f2⟩ : ST)) cT_len hy9) (fun w a (hS : Sat w0 w ((SX.row (.slice s1.A s1.n s1.c) 69 1 (encSl vs)) :: (SX.row (.slice z.A z.n z.c) 68 3 (encS3 ((b.set x2.toNat (⟨y1.f0, y1.f1, y1.f2⟩ : ST)).set (x2.toNat + 1) (⟨y0.f0, y0.f1, y0.f2⟩ : ST)))) :: (holeA w0.heap.size l vs x1.toNat) :: (SX.blk b10 [.slice s1.A s1.n s1.c] 28) :: (SX.blk b3 [.slice none 0 0] 28) :: (SX.blk b1 [.slice s0.A s0.n s0.c] 28) :: [])) ha => ?_))
  refine yU (yQ ?_)
  replace ha := ha.as [(6, ptr b3 0), (7, .bool false), (8, ptr b10 0)] rfl
  refine jQ (wp_seq (jK [0, 1, 2] (qX 49 ha (hS.blk 3 rfl) fun a ha => ?_)))
  refine jU (o_sa 4 ha (xK (t := 28) (x := 6) (y := 49)) hS fun w a hS ha => ?_)
  refine jW [(2, 7, .bool true)] ha fun a ha => ?_
  refine jZ (jQ (wp_ret (xG ha (by kernel_rfl) (yV (t := 6) (ty := 28) (i := 4) ha rfl hS rfl (by kernel_rfl)) (xV (t := 7) ha rfl) ?_)))
  replace hS := hS.pickN 6 [0, 1, 2]
  rw [exchP_yes c7 hb, swapL_at hy0 hy1]
  exact ⟨s1, rfl, shutFn' hz (by omega) hS⟩
 refine qQ ha rfl (zJ c7) ?_
 refine wp_seq (jK [0, 1, 2] (jW [(0, 14, .agg #[.slice none 0 0])] ha fun a ha => ?_))
 refine jU (o_sa 0 ha (xK (t := 28) (x := 6) (y := 14)) hS fun w a hS ha => ?_)
 refine jW [(2, 7, .bool false)] ha fun a ha => ?_
 refine jZ (jQ (wp_ret (qW (xG ha (by kernel_rfl) (yV (t := 6) (ty := 28) (i := 0) ha rfl hS rfl (by kernel_rfl)) (xV (t := 7) ha rfl) ?_))))
 rw [exchP_no c7]
 exact ⟨⟨none, 0, 0⟩, rfl, nilPrg (Sat.rest [_, _] hS)⟩
theorem spec_ExchangeSteps_sat {w0 w : World} {Rs : List Asn} {s0 : Sl} {l : List (List ST)} {x1 x2 : Int} (hS : Sat w0 w Rs) (hr : RdP w s0 l) (hf : Fits l) :
  Calls Try.prog 16 #[.agg #[.slice s0.A s0.n s0.c], iv x1, iv x2] w (Ret fun r w' => ∃ s : Sl, r = .tuple #[.agg #[s.v], .bool (exchP l x1 x2).2] ∧ Sat w0 w' (prg w0.heap.size s (exchP l x1 x2).1 :: Rs)) := liftPB hS (spec_ExchangeSteps_sat0 hr hf)
theorem code3 : Try.f3.body = some (Code.seq (cr Try.f3 0 false) (Code.seq (cr Try.f3 1 false) (Code.seq (cr Try.f3 2 false) (Code.seq (Code.seq (cr Try.f3 3 false) (Code.cond (Operand.tmp 22) (Code.seq (cr Try.f3 4 false) Code.ret) Code.skip)) (Code.seq (cr Try.f3 5 false) (Code.seq (cr Try.f3 6 false) (Code.seq (cr Try.f3 7 false) (Code.seq (Code.seq (cr Try.f3 8 false) (Code.cond (Operand.tmp 48) (Code.seq (cr Try.f3 9 false) Code.ret) Code.skip)) (Code.seq (Code.seq (cr Try.f3 10 true) (Code.cond (Operand.tmp 53) (Code.seq (cr Try.f3 11 false) Code.ret) Code.skip)) (Code.seq (cr Try.f3 12 false) (Code.seq (cr Try.f3 13 false) (Code.seq (Code.seq (cr Try.f3 14 false) (Code.cond (Operand.tmp 69) (Code.seq (cr Try.f3 15 false) Code.ret) Code.skip)) (Code.seq (cr Try.f3 16 false) (Code.seq (cr Try.f3 17 false) (Code.seq (cr Try.f3 18 false) (Code.seq (cr Try.f3 19 false) (Code.seq (Code.seq (cr Try.f3 20 false) (Code.cond (Operand.tmp 77) (Code.seq (cr Try.f3 21 false) Code.ret) Code.skip)) (Code.seq (Code.seq (cr Try.f3 22 false) (Code.cond (Operand.tmp 80) (Code.seq (cr Try.f3 23 false) Code.ret) Code.skip)) (Code.seq (cr Try.f3 24 false) (Code.seq (Code.seq (cr Try.f3 25 false) (Code.cond (Operand.tmp 97) (Code.seq (cr Try.f3 26 false) Code.ret) Code.skip)) (Code.seq (cr Try.f3 27 false) (Code.seq (cr Try.f3 28 false) (Code.seq (Code.seq (cr Try.f3 29 false) (Code.cond (Operand.tmp 102) (Code.seq (cr Try.f3 30 false) Code.ret) Code.skip)) (Code.seq (Code.seq (cr Try.f3 31 false) (Code.cond (Operand.tmp 105) (Code.seq (cr Try.f3 32 false) Code.ret) Code.skip)) (Code.seq (cr Try.f3 33 false) Code.ret))))))))))))))))))))))))) := by kernel_rfl
theorem law3_walk (w0 : World) (s0 : Sl) (l0 : List (List LT)) (x1 : Int) (x2 : Int) (hr0 : RdA w0 s0 l0) :
  Calls Try.prog 3 #[.agg #[.slice s0.A s0.n s0.c], iv x1, iv x2] w0 (Ret fun r w' => r = .bool true ∧ Below w0.heap.size w0 w') := by
 have hS : Sat w0 w0 [] := Sat.start w0
 refine enter (n := 106) Try.func3 code3 (by kernel_rfl) (Nat.le_of_ble_eq_true rfl) (fun a ha => ?_)
 replace ha : Has 106 [(0, .agg #[.slice s0.A s0.n s0.c]), (1, iv x1), (2, iv x2)] a := ha
 refine wp_seq (jK [0, 1] (jU (xJ 3 [.slice s0.A s0.n s0.c] 24 (ptr · 0) ha hS fun b1 w a hb2 hS ha => ?_)))
 refine jW [(1, 6, .bool false)] ha fun a ha => ?_
 refine jZ (jQ (wp_seq (jK [0] (jW [(0, 7, iv 1048576)] ha fun a ha => ?_))))
 refine jZ (jQ (wp_seq (jK [0, 1, 2, 3] (qX 18 ha (hS.blk 0 rfl) fun a ha => ?_))))
 refine jW [(1, 19, iv 1048576)] ha fun a ha => ?_
 refine jU (qJ 20 (vs := [.agg #[.slice s0.A s0.n s0.c], iv 1048576]) ha (szProgram_sat hS (hr0.sat hS) (by omega) (by omega)) fun v3 w a hp4 ha => ?_)
 obtain ⟨rfl, hS⟩ := hp4
 refine jW [(3, 7, iv (szP l0 1048576))] ha fun a ha => ?_
 refine jZ (jQ (wp_seq (wp_seq (jK [0, 1] (jW [(0, 21, iv (szP l0 1048576)), (1, 22, .bool (decide ((szP l0 1048576) < 0)))] ha fun a ha => ?_)))))
 refine jZ (jQ ?_)
 by_cases c5 : (szP l0 1048576) < 0
 ·
  refine qQ ha rfl (decide_eq_true c5) ?_
  refine wp_seq (jK [0] (jW [(0, 6, .bool true)] ha fun a ha => ?_))
  refine jZ (jQ (wp_ret (qW (qK ha (by kernel_rfl) (xV (t := 6) ha rfl) ?_))))
  exact ⟨rfl, hS.below⟩
 have hf : Fits l0 := by have h8 : 0 ≤ szP l0 1048576 := (by omega); have h9 := szP_ok l0 1048576 h8; exact ⟨by omega, by omega⟩
 have hfr : Fits (exchP (toP l0) x1 x2).1 := exchP_fits (toP_fits hf) x1 x2
 refine jG ha rfl (decide_eq_false c5) ?_
 refine wp_skip (jQ (wp_seq (jK [0, 1, 2, 3, 4, 5, 6, 7, 8, 9, 10] (qX 24 ha (hS.blk 0 rfl) fun a ha => ?_))))
 refine jU (qJ 25 (vs := [.agg #[.slice s0.A s0.n s0.c]]) ha (toProgram_sat hS (hr0.sat hS) hf) fun v6 w a hp7 ha => ?_)
 obtain ⟨s1, rfl, hS⟩ := hp7
 refine jW [(2, 26, iv x1), (3, 27, iv x2)] ha fun a ha => ?_
 refine jU (qJ 28 (vs := [.agg #[.slice s1.A s1.n s1.c], iv x1, iv x2]) ha (spec_ExchangeSteps_sat hS (hS.rdS 0 rfl) (toP_fits hf)) fun v8 w a hp9 ha => ?_)
 obtain ⟨s2, rfl, hS⟩ := hp9
 refine jW [(5, 23, .tuple #[.agg #[.slice s2.A s2.n s2.c], .bool ((exchP (toP l0) x1 x2).2)]), (6, 29, .agg #[.slice s2.A s2.n s2.c]), (7, 30, .bool ((exchP (toP l0) x1 x2).2))] ha fun a ha => ?_
 refine jU (xJ 8 [.slice none 0 0] 28 (ptr · 0) ha hS fun b10 w a hb11 hS ha => ?_)
 refine jU (o_sa 0 ha (xK (t := 28) (x := 8) (y := 29)) hS fun w a hS ha => ?_)
 refine jW [(10, 9, .bool ((exchP (toP l0) x1 x2).2))] ha fun a ha => ?_
 refine jZ (jQ (wp_seq (jK [0, 1, 2, 3] (qX 31 ha (hS.blk 3 rfl) fun a ha => ?_))))
 refine jU (qJ 32 (vs := [.agg #[.slice s0.A s0.n s0.c]]) ha (toProgram_sat hS (hr0.sat hS) hf) fun v12 w a hp13 ha => ?_)
 obtain ⟨s3, rfl, hS⟩ := hp13
 refine jU (xJ 10 [.slice none 0 0] 28 (ptr · 0) ha hS fun b14 w a hb15 hS ha => ?_)
 refine jU (o_sa 0 ha (xK (t := 28) (x := 10) (y := 32)) hS fun w a hS ha => ?_)
 refine jZ (jQ (wp_seq (jK [0, 1, 2, 3, 4, 5, 6, 7, 8, 9] (qX 34 ha (hS.blk 0 rfl) fun a ha => ?_))))
 refine jW [(1, 35, iv x1), (2, 36, iv x2)] ha fun a ha => ?_
 refine jU (qJ 37 (vs := [.agg #[.slice s3.A s3.n s3.c], iv x1, iv x2]) ha (impl_ExchangeSteps_sat hS (hS.rdS 1 rfl) (toP_fits hf)) fun v16 w a hp17 ha => ?_)
 obtain ⟨s4, rfl, hS⟩ := hp17
 refine jW [(4, 33, .tuple #[.agg #[.slice s4.A s4.n s4.c], .bool ((exchP (toP l0) x1 x2).2)]), (5, 38, .agg #[.slice s4.A s4.n s4.c]), (6, 39, .bool ((exchP (toP l0) x1 x2).2))] ha fun a ha => ?_
 refine jU (xJ 11 [.slice none 0 0] 28 (ptr · 0) ha hS fun b18 w a hb19 hS ha => ?_)
 refine jU (o_sa 0 ha (xK (t := 28) (x := 11) (y := 38)) hS fun w a hS ha => ?_)
 refine jW [(9, 12, .bool ((exchP (toP l0) x1 x2).2))] ha fun a ha => ?_
 refine jZ ?_
 replace ha := ha.as [(1, iv x1), (2, iv x2), (3, ptr b1 0), (6, .bool false), (8, ptr b10 0), (9, .bool ((exchP (toP l0) x1 x2).2)), (10, ptr b14 0), (11, ptr b18 0), (12, .bool ((exchP (toP l0) x1 x2).2))] rfl
 refine jQ (wp_seq (wp_seq (jK [0, 1, 2, 3, 4, 5, 6, 7, 8] (qX 40 ha (hS.blk 0 rfl) fun a ha => ?_))))
 refine qX 41 ha (hS.blk 4 rfl) fun a ha => ?_
 refine jU (qJ 42 (vs := [.agg #[.slice s4.A s4.n s4.c], .agg #[.slice s2.A s2.n s2.c]]) ha (eqProgram_sat hS (hS.rdS 1 rfl) (hS.rdS 5 rfl) hfr) fun v20 w a hp21 ha => ?_)
 obtain ⟨rfl, hS⟩ := hp21
 refine jW [(3, 43, .bool false), (4, 44, .bool false), (5, 45, .bool ((exchP (toP l0) x1 x2).2)), (6, 46, .bool ((exchP (toP l0) x1 x2).2))] ha fun a ha => ?_
 refine xW (.bool false) ha ((jY (v := .bool (!(((exchP (toP l0) x1 x2).2) == ((exchP (toP l0) x1 x2).2)))) ha (AtG.here (gd := 44) ⟨(by kernel_rfl : ((jX Try.f3 8)[7]?).map spec = some ((Op.binOp BinOp.neq 4 (Operand.tmp 45) (Operand.tmp 46) 4), some 47, 4, some (4, false))), by kernel_rfl⟩ ha rfl) (by kernel_rfl) (fun _ => by kernel_rfl)).as (by simp)) fun a ha => ?_
 refine jW [(8, 48, .bool false)] ha fun a ha => ?_
 refine jZ (jQ ?_)
 refine jG ha rfl rfl ?_
 refine wp_skip (jQ (wp_seq (wp_seq (xZ 5 5 (hS.pickN 8 [0, 2, 4, 7]) hS fun w hS => ?_))))
 refine zZ 0 49 ha (hS.pickN 8 [0, 2, 4, 7]) (fun _ hw => hw.blk 1 rfl) fun a ha => ?_
 refine zZ 1 50 ha (hS.pickN 8 [0, 2, 4, 7]) (fun _ hw => hw.blk 3 rfl) fun a ha => ?_
 refine qU 2 (qJ 51 (vs := [.agg #[.slice s0.A s0.n s0.c]]) ha (toProgram_sat hS (hr0.sat hS) hf) fun v22 w a hp23 ha => ?_)
 obtain ⟨s5, rfl, hS⟩ := hp23
 refine ⟨.inr (hS.pickN 9 [1, 3, 5, 8]), ?_⟩
 refine qU 3 (qJ 52 (vs := [.agg #[.slice s3.A s3.n s3.c], .agg #[.slice s5.A s5.n s5.c]]) ha (eqProgram_sat hS (hS.rdS 4 rfl) (hS.rdS 0 rfl) (toP_fits hf)) fun v24 w a hp25 ha => ?_)
 obtain ⟨rfl, hS⟩ := hp25
 refine ⟨.inr (hS.pickN 9 [1, 3, 5, 8]), ?_⟩
 refine jH (k := 0) [(4, 53, .bool false)] ha (.inr (hS.pickN 9 [1, 3, 5, 8])) fun a ha => ?_
 refine yQ (jQ ?_)
 refine jG ha rfl rfl ?_
 refine wp_skip (jQ (wp_seq (jK [0] (jW [(0, 13, iv 1)] ha fun a ha => ?_))))
 refine jZ (jQ (wp_seq (jK [0, 1, 2, 3] (qX 54 ha (hS.blk 3 rfl) fun a ha => ?_))))
 refine jW [(1, 55, iv 1)] ha fun a ha => ?_
 replace hS := hS.pickN 9 [4, 0, 1, 2, 3, 5, 6, 7, 8]
 refine jU (qJ 56 (vs := [.agg #[.slice s3.A s3.n s3.c], iv 1]) ha (markProgram_sat hS (toP_fits hf) (by omega) (by omega)) fun v26 w a hp27 ha => ?_)
 obtain ⟨rfl, hS⟩ := hp27
 refine jW [(3, 13, iv (1 + 3 * (tot (toP l0) : Int)))] ha fun a ha => ?_
 refine jZ ?_
 replace ha := ha.as [(1, iv x1), (2, iv x2), (3, ptr b1 0), (6, .bool false), (8, ptr b10 0), (9, .bool ((exchP (toP l0) x1 x2).2)), (11, ptr b18 0), (12, .bool ((exchP (toP l0) x1 x2).2)), (13, iv (1 + 3 * (tot (toP l0) : Int)))] rfl
 refine jQ (wp_seq (wp_seq (jK [0, 1, 2, 3, 4, 5, 6, 7, 8, 9, 10, 11, 12] (jW [(0, 57, iv (1 + 3 * (tot (toP l0) : Int)))] ha fun a ha => ?_))))
 refine xW (.bool false) ha ((jY (v := .bool (decide (1 + 3 * (tot (toP l0) : Int) < 0))) ha (yG (op := (Op.binOp BinOp.lss 3 (Operand.tmp 57) (Operand.const (Value.int IntKind.i64 0)) 3)) (d := some 58) (ty := 4)) (by kernel_rfl) (fun _ => by kernel_rfl)).as (by rw [decide_eq_false (by omega)])) fun a ha => ?_
 refine jW [(2, 59, .bool false)] ha fun a ha => ?_
 refine qX 60 ha (hS.blk 2 rfl) fun a ha => ?_
 refine qX 61 ha (hS.blk 5 rfl) fun a ha => ?_
 refine jU (qJ 62 (vs := [.agg #[.slice s4.A s4.n s4.c], .agg #[.slice s2.A s2.n s2.c]]) ha (eqProgram_sat hS (hS.rdS 3 rfl) (hS.rdS 6 rfl) hfr) fun v28 w a hp29 ha => ?_)
 obtain ⟨rfl, hS⟩ := hp29
 refine jW [(6, 63, .bool false), (7, 64, .bool false), (8, 65, .bool false), (9, 66, .bool ((exchP (toP l0) x1 x2).2)), (10, 67, .bool ((exchP (toP l0) x1 x2).2))] ha fun a ha => ?_
 refine xW (.bool false) ha ((jY (v := .bool (!(((exchP (toP l0) x1 x2).2) == ((exchP (toP l0) x1 x2).2)))) ha (AtG.here (gd := 65) ⟨(by kernel_rfl : ((jX Try.f3 14)[11]?).map spec = some ((Op.binOp BinOp.neq 4 (Operand.tmp 66) (Operand.tmp 67) 4), some 68, 4, some (8, false))), by kernel_rfl⟩ ha rfl) (by kernel_rfl) (fun _ => by kernel_rfl)).as (by simp)) fun a ha => ?_
 refine jW [(12, 69, .bool false)] ha fun a ha => ?_
 refine jZ (jQ ?_)
 refine jG ha rfl rfl ?_
 refine wp_skip (jQ (wp_seq (jK [0] (jW [(0, 14, iv 1)] ha fun a ha => ?_))))
 refine jZ (jQ (wp_seq (jK [0, 1, 2, 3] (qX 70 ha (hS.blk 2 rfl) fun a ha => ?_))))
 refine jW [(1, 71, iv 1)] ha fun a ha => ?_
 replace hS := hS.pickN 9 [3, 0, 1, 2, 4, 5, 6, 7, 8]
 refine jU (qJ 72 (vs := [.agg #[.slice s4.A s4.n s4.c], iv 1]) ha (markProgram_sat hS hfr (by omega) (by omega)) fun v30 w a hp31 ha => ?_)
 obtain ⟨rfl, hS⟩ := hp31
 refine jW [(3, 14, iv (1 + 3 * (tot ((exchP (toP l0) x1 x2).1) : Int)))] ha fun a ha => ?_
 refine jZ (jQ (wp_seq (jK [0] (jW [(0, 15, iv 1)] ha fun a ha => ?_))))
 refine jZ (jQ (wp_seq (jK [0, 1, 2, 3] (qX 73 ha (hS.blk 3 rfl) fun a ha => ?_))))
 refine jW [(1, 74, iv 1)] ha fun a ha => ?_
 refine jU (qJ 75 (vs := [.agg #[.slice s4.A s4.n s4.c], iv 1]) ha (heldProgram_sat hS (hS.rdS 0 rfl) hfr) fun v32 w a hp33 ha => ?_)
 obtain ⟨rfl, hS⟩ := hp33
 refine jW [(3, 15, iv (1 + 3 * (tot ((exchP (toP l0) x1 x2).1) : Int)))] ha fun a ha => ?_
 refine jZ ?_
 replace ha := ha.as [(1, iv x1), (2, iv x2), (3, ptr b1 0), (6, .bool false), (8, ptr b10 0), (9, .bool ((exchP (toP l0) x1 x2).2)), (11, ptr b18 0), (14, iv (1 + 3 * (tot ((exchP (toP l0) x1 x2).1) : Int))), (15, iv (1 + 3 * (tot ((exchP (toP l0) x1 x2).1) : Int)))] rfl
 refine jQ (wp_seq (wp_seq (jK [0, 1] (jW [(0, 76, iv (1 + 3 * (tot ((exchP (toP l0) x1 x2).1) : Int)))] ha fun a ha => ?_))))
 refine xW (.bool false) ha ((jY (v := .bool (decide (1 + 3 * (tot ((exchP (toP l0) x1 x2).1) : Int) < 0))) ha (yG (op := (Op.binOp BinOp.lss 3 (Operand.tmp 76) (Operand.const (Value.int IntKind.i64 0)) 3)) (d := some 77) (ty := 4)) (by kernel_rfl) (fun _ => by kernel_rfl)).as (by rw [decide_eq_false (by omega)])) fun a ha => ?_
 refine jZ (jQ ?_)
 refine jG ha rfl rfl ?_
 refine wp_skip (jQ (wp_seq (wp_seq (jK [0, 1, 2] (jW [(0, 78, iv (1 + 3 * (tot ((exchP (toP l0) x1 x2).1) : Int))), (1, 79, iv (1 + 3 * (tot ((exchP (toP l0) x1 x2).1) : Int)))] ha fun a ha => ?_)))))
 refine xW (.bool false) ha ((jY (v := .bool (!(decide (1 + 3 * (tot ((exchP (toP l0) x1 x2).1) : Int) = 1 + 3 * (tot ((exchP (toP l0) x1 x2).1) : Int))))) ha (yG (op := (Op.binOp BinOp.neq 3 (Operand.tmp 78) (Operand.tmp 79) 3)) (d := some 80) (ty := 4)) (by kernel_rfl) (fun _ => by kernel_rfl)).as (by simp)) fun a ha => ?_
 refine jZ (jQ ?_)
 refine jG ha rfl rfl ?_
 refine wp_skip (jQ (wp_seq (jK [0, 1, 2, 3, 4, 5, 6, 7, 8, 9, 10] (qX 82 ha (hS.blk 8 rfl) fun a ha => ?_))))
 refine jU (qJ 83 (vs := [.agg #[.slice s0.A s0.n s0.c]]) ha (toProgram_sat hS (hr0.sat hS) hf) fun v34 w a hp35 ha => ?_)
 obtain ⟨s6, rfl, hS⟩ := hp35
 refine jW [(2, 84, iv x1), (3, 85, iv x2)] ha fun a ha => ?_
 refine jU (qJ 86 (vs := [.agg #[.slice s6.A s6.n s6.c], iv x1, iv x2]) ha (impl_ExchangeSteps_sat hS (hS.rdS 0 rfl) (toP_fits hf)) fun v36 w a hp37 ha => ?_)
 obtain ⟨s7, rfl, hS⟩ := hp37
 refine jW [(5, 81, .tuple #[.agg #[.slice s7.A s7.n s7.c], .bool ((exchP (toP l0) x1 x2).2)]), (6, 87, .agg #[.slice s7.A s7.n s7.c]), (7, 88, .bool ((exchP (toP l0) x1 x2).2))] ha fun a ha => ?_
 refine jU (xJ 16 [.slice none 0 0] 28 (ptr · 0) ha hS fun b38 w a hb39 hS ha => ?_)
 refine jU (o_sa 0 ha (xK (t := 28) (x := 16) (y := 87)) hS fun w a hS ha => ?_)
 refine jW [(10, 17, .bool ((exchP (toP l0) x1 x2).2))] ha fun a ha => ?_
 refine jZ (jQ (wp_seq (wp_seq (jK [0, 1, 2, 3, 4, 5, 6, 7, 8] (qX 89 ha (hS.blk 0 rfl) fun a ha => ?_)))))
 refine qX 90 ha (hS.blk 8 rfl) fun a ha => ?_
 refine jU (qJ 91 (vs := [.agg #[.slice s7.A s7.n s7.c], .agg #[.slice s2.A s2.n s2.c]]) ha (eqProgram_sat hS (hS.rdS 1 rfl) (hS.rdS 9 rfl) hfr) fun v40 w a hp41 ha => ?_)
 obtain ⟨rfl, hS⟩ := hp41
 refine jW [(3, 92, .bool false), (4, 93, .bool false), (5, 94, .bool ((exchP (toP l0) x1 x2).2)), (6, 95, .bool ((exchP (toP l0) x1 x2).2))] ha fun a ha => ?_
 refine xW (.bool false) ha ((jY (v := .bool (!(((exchP (toP l0) x1 x2).2) == ((exchP (toP l0) x1 x2).2)))) ha (AtG.here (gd := 93) ⟨(by kernel_rfl : ((jX Try.f3 25)[7]?).map spec = some ((Op.binOp BinOp.neq 4 (Operand.tmp 94) (Operand.tmp 95) 4), some 96, 4, some (4, false))), by kernel_rfl⟩ ha rfl) (by kernel_rfl) (fun _ => by kernel_rfl)).as (by simp)) fun a ha => ?_
 refine jW [(8, 97, .bool false)] ha fun a ha => ?_
 refine jZ ?_
 replace ha := ha.as [(6, .bool false), (11, ptr b18 0), (14, iv (1 + 3 * (tot ((exchP (toP l0) x1 x2).1) : Int))), (15, iv (1 + 3 * (tot ((exchP (toP l0) x1 x2).1) : Int))), (97, .bool false)] rfl
 refine jQ ?_
 refine jG ha rfl rfl ?_
 refine wp_skip (jQ (wp_seq (jK [0] (jW [(0, 15, iv 1)] ha fun a ha => ?_))))
 refine jZ (jQ (wp_seq (jK [0, 1, 2, 3] (qX 98 ha (hS.blk 6 rfl) fun a ha => ?_))))
 refine jW [(1, 99, iv 1)] ha fun a ha => ?_
 refine jU (qJ 100 (vs := [.agg #[.slice s4.A s4.n s4.c], iv 1]) ha (heldProgram_sat hS (hS.rdS 3 rfl) hfr) fun v42 w a hp43 ha => ?_)
 obtain ⟨rfl, hS⟩ := hp43
 refine jW [(3, 15, iv (1 + 3 * (tot ((exchP (toP l0) x1 x2).1) : Int)))] ha fun a ha => ?_
 refine jZ (jQ (wp_seq (wp_seq (jK [0, 1] (jW [(0, 101, iv (1 + 3 * (tot ((exchP (toP l0) x1 x2).1) : Int)))] ha fun a ha => ?_)))))
 refine xW (.bool false) ha ((jY (v := .bool (decide (1 + 3 * (tot ((exchP (toP l0) x1 x2).1) : Int) < 0))) ha (yG (op := (Op.binOp BinOp.lss 3 (Operand.tmp 101) (Operand.const (Value.int IntKind.i64 0)) 3)) (d := some 102) (ty := 4)) (by kernel_rfl) (fun _ => by kernel_rfl)).as (by rw [decide_eq_false (by omega)])) fun a ha => ?_
 refine jZ (jQ ?_)
 refine jG ha rfl rfl ?_
 refine wp_skip (jQ (wp_seq (wp_seq (jK [0, 1, 2] (jW [(0, 103, iv (1 + 3 * (tot ((exchP (toP l0) x1 x2).1) : Int))), (1, 104, iv (1 + 3 * (tot ((exchP (toP l0) x1 x2).1) : Int)))] ha fun a ha => ?_)))))
 refine xW (.bool false) ha ((jY (v := .bool (!(decide (1 + 3 * (tot ((exchP (toP l0) x1 x2).1) : Int) = 1 + 3 * (tot ((exchP (toP l0) x1 x2).1) : Int))))) ha (yG (op := (Op.binOp BinOp.neq 3 (Operand.tmp 103) (Operand.tmp 104) 3)) (d := some 105) (ty := 4)) (by kernel_rfl) (fun _ => by kernel_rfl)).as (by simp)) fun a ha => ?_
 refine jZ (jQ ?_)
 refine jG ha rfl rfl ?_
 refine wp_skip (jQ (wp_seq (jK [0] (jW [(0, 6, .bool true)] ha fun a ha => ?_))))
 refine jZ (jQ (wp_ret (qK ha (by kernel_rfl) (xV (t := 6) ha rfl) ?_)))
 exact ⟨rfl, hS.below⟩
end Go.Proofs.Ytbgfiiehjaghiaa.G
