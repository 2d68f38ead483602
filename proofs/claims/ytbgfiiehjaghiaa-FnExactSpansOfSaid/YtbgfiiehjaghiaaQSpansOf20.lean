/- What the claim FnExactSpansOf rests on, part 20 of 22; the last part proves it: for every input the law answers true, and its arguments read behind the call as before it. No condition. -/
import Derived.Test.YtbgfiiehjaghiaaQSpansOf17
import Derived.Test.YtbgfiiehjaghiaaQSpansOf18
import Derived.Test.YtbgfiiehjaghiaaQSpansOf19
namespace Go.Proofs.YtbgfiiehjaghiaaW.PrintLast
end Go.Proofs.YtbgfiiehjaghiaaW.PrintLast
namespace Go.Proofs.YtbgfiiehjaghiaaW.PrintMore
end Go.Proofs.YtbgfiiehjaghiaaW.PrintMore
set_option linter.unusedSimpArgs false
set_option linter.unusedVariables false
set_option maxRecDepth 20000
set_option maxHeartbeats 1000000
namespace Go.Proofs.Ytbgfiiehjaghiaa.G
open Go.RowKit Go.Proofs.Ytbgfiiehjaghiaa.SX Go.Proofs.YtbgfiiehjaghiaaW.PrintWords Go.Proofs.YtbgfiiehjaghiaaW.PrintLast Go.Proofs.YtbgfiiehjaghiaaW.PrintMore
theorem RdI.drop {w : World} {s : Sl} {l : List Int} (h : RdI w s l) {j : Nat} (hj : j ≤ l.length) : RdI w ⟨tailA s.A j 1 s.c, s.n - j, s.c - j⟩ (l.drop j) := by
 have hl : (l.drop j).length = l.length - j := List.length_drop
 have hn := h.len
 have hle := h.le
 refine ⟨by rw [hl]; show s.n - j = _; omega, by rw [hl]; show _ ≤ s.c - j; omega, ?_⟩
 obtain ⟨_, h2, h3⟩ := h.rd
 refine ⟨rfl, by rw [hl]; omega, fun hp => ?_⟩
 rw [hl] at hp
 obtain ⟨ad, hA, hc⟩ := h3 (by omega)
 have hne : ¬ s.c = j := by omega
 refine ⟨ad.add j, by show tailA s.A j 1 s.c = _; unfold tailA; rw [if_neg hne, hA, Nat.mul_one]; rfl, fun i p hi => ?_⟩
 rw [List.getElem?_drop] at hi
 obtain ⟨c, h4, h5, h6⟩ := hc (j + i) p hi
 refine ⟨c, h4, h5, fun o u hu => ?_⟩
 have h7 := h6 o u hu
 have e : ∀ k : Nat, (ad.add j).add (i * k + o) = ad.add (j + (i * k + o)) := fun k => by
  unfold Addr.add
  (repeat' split) <;> simp_all <;> omega
 have e1 : (Kd.int IntKind.i64).sz = 1 := rfl
 rw [e1] at h7 ⊢
 rw [e, show j + (i * 1 + o) = (j + i) * 1 + o by omega]
 exact h7
def nxI (es : List Int) (j : Nat) (n : Int) : Int := if idxI (es.drop j) n ≥ 0 then idxI (es.drop j) n + (j : Int) else -1
theorem nxI_yes {es : List Int} {j : Nat} {n : Int} (h : idxI (es.drop j) n ≥ 0) : nxI es j n = idxI (es.drop j) n + (j : Int) := if_pos h
theorem nxI_no {es : List Int} {j : Nat} {n : Int} (h : ¬ idxI (es.drop j) n ≥ 0) : nxI es j n = idxI (es.drop j) n := by unfold nxI; rw [if_neg h]; have := (idxI_le (es.drop j) n).1; omega
theorem nxI_at {es : List Int} {j i : Nat} {n : Int} (hji : j < i) (hi : es[i]? = some n) (h0 : ∀ k : Nat, j ≤ k → k < i → es[k]? ≠ some n) : nxI es j n = (i : Int) := by
 have h1 : (es.drop j)[i - j]? = some n := by rw [List.getElem?_drop, show j + (i - j) = i by omega]; exact hi
 have h2 : n ∉ (es.drop j).take (i - j) := fun hm => by
  obtain ⟨k, hk⟩ := List.getElem?_of_mem hm
  rw [List.getElem?_take] at hk
  split at hk
  · rw [List.getElem?_drop] at hk; exact h0 (j + k) (by omega) (by omega) hk
  · cases hk
 have h3 := idxI_yes h1 h2
 rw [nxI_yes (by rw [h3]; omega), h3]
 omega
theorem nxI_none {es : List Int} {j : Nat} {n : Int} (h0 : ∀ k : Nat, j ≤ k → k < es.length → es[k]? ≠ some n) : nxI es j n = -1 := by
 have h2 : n ∉ es.drop j := fun hm => by
  obtain ⟨k, hk⟩ := List.getElem?_of_mem hm
  rw [List.getElem?_drop] at hk
  exact h0 (j + k) (by omega) (List.getElem?_eq_some_iff.1 hk).1 hk
 unfold nxI
 rw [idxI_no h2, if_neg (by decide)]
def spN (es : List Int) (n : Nat) : List (Int × Int) := (List.range n).filterMap fun j : Nat => if 0 < es.getD j 0 then some ((j : Int), nxI es j (-(es.getD j 0))) else none
theorem spN_no {es : List Int} {n : Nat} {x : Int} (hx : es[n]? = some x) (h : ¬ 0 < x) : spN es (n + 1) = spN es n := by
 unfold spN; rw [List.range_succ, List.filterMap_append]; simp [List.getD, hx, h]
theorem spN_yes {es : List Int} {n : Nat} {x : Int} (hx : es[n]? = some x) (h : 0 < x) : spN es (n + 1) = spN es n ++ [((n : Int), nxI es n (-x))] := by
 unfold spN; rw [List.range_succ, List.filterMap_append]; simp [List.getD, hx, h]
theorem spN_len (es : List Int) (n : Nat) : (spN es n).length ≤ n := by
 unfold spN; exact Nat.le_trans (List.length_filterMap_le _ _) (by rw [List.length_range]; exact Nat.le_refl _)
def spanP (es : List Int) : List (Int × Int) × Bool := if entriesB es = true then (spN es es.length, true) else ([], false)
theorem spanP_len (es : List Int) : (spanP es).1.length ≤ 1000000 := by
 unfold spanP
 split
 · rename_i h; have := spN_len es es.length; have := (entries_at h).1; dsimp only; omega
 · exact Nat.zero_le _
theorem ent_num {es : List Int} {x : Int} (h : entriesB es = true) (hx : x ∈ es) : -32767 ≤ x ∧ x ≤ 32767 := by
 unfold entriesB at h
 simp only [Bool.and_eq_true, decide_eq_true_eq, Bool.not_eq_true', badE, List.any_eq_false] at h
 have := h.2 x hx
 simpa [entryB] using this
theorem code90 : Try.f90.body = some (Code.seq (cr Try.f90 0 false) (Code.seq (Code.seq (cr Try.f90 1 false) (Code.block 0 (Code.loop (Code.seq (Code.seq (cr Try.f90 2 false) (Code.cond (Operand.tmp 13) Code.skip (Code.exit 0))) (Code.seq (Code.block 1 (Code.seq (cr Try.f90 4 false) (Code.cond (Operand.tmp 21) (Code.seq (cr Try.f90 5 false) Code.ret) Code.skip))) (cr Try.f90 3 false)))))) (Code.seq (cr Try.f90 6 false) Code.ret))) := by kernel_rfl
theorem nx_sat0 {w0 : World} {se : Sl} {es : List Int} {j : Nat} {n : Int} (hre : RdI w0 se es) (h60 : es.length ≤ 60) (hjl : j < es.length) (hj0 : es[j]? ≠ some n) :
  Calls Try.prog 90 #[.slice se.A se.n se.c, .int .i64 (j : Int), .int .i64 n] w0 (Ret fun r w' => r = .int .i64 (nxI es j n) ∧ Sat w0 w' []) := by
 have hS : Sat w0 w0 [] := Sat.start w0
 have hel := hre.len
 refine enter (n := 23) Try.func90 code90 (by kernel_rfl) (Nat.le_of_ble_eq_true rfl) (fun a ha => ?_)
 replace ha : Has 23 [(0, .slice se.A se.n se.c), (1, iv (j : Int)), (2, iv n)] a := ha
 refine wp_seq (jQ [0] (jX [(0, 6, iv 0)] ha fun a ha => ?_))
 refine jY (jJ (wp_seq (wp_seq (jQ [0, 1, 2] (jX [(0, 8, iv (j : Int))] ha fun a ha => ?_)))))
 refine qK 9 ((j : Int) + 1) ha fun a ha => ?_
 refine jX [(2, 7, iv ((j : Int) + 1))] ha fun a ha => ?_
 refine jY (jJ (wp_block ?_))
 replace ha := ha.turn 7 (iv ((j + 1 : Nat) : Int)) rfl (congrArg iv (by omega))
 refine wp_loop_ghost (fun n_ a_ w_ => ∃ (k : Nat), n_ = es.length - k ∧ (k ≤ es.length) ∧ (j < k) ∧ (∀ q : Nat, j ≤ q → q < k → es[q]? ≠ some n) ∧ Has 23 [(0, .slice se.A se.n se.c), (2, iv n), (6, iv 0), (7, iv (k : Int))] a_ ∧ Sat w0 w_ ([])) _ ⟨j + 1, rfl, by omega, by omega, (fun q h1 h2 => by obtain rfl : q = j := (by omega); exact hj0), ha.keeps [0, 2, 6, 7] _ rfl, hS⟩ ?_
 rintro n_ a w ⟨k, rfl, hk, hjk, hno, ha, hS⟩
 refine wp_seq (wp_seq (jQ [0, 1, 2, 3] (jX [(0, 10, iv (k : Int)), (1, 11, .slice se.A se.n se.c), (2, 12, iv (se.n : Int)), (3, 13, .bool (decide ((k : Int) < (se.n : Int))))] ha fun a ha => ?_)))
 refine jY (jJ ?_)
 by_cases c1 : (k : Int) < (se.n : Int)
 ·
  obtain ⟨x9, hx9⟩ : ∃ x, es[k]? = some x := ⟨_, List.getElem?_eq_getElem (by omega)⟩
  refine jW ha rfl (decide_eq_true c1) ?_
  refine wp_skip (jJ (wp_seq (wp_block (wp_seq (jQ [0, 1, 2, 3, 4, 5] (jX [(0, 16, .slice se.A se.n se.c), (1, 17, iv (k : Int))] ha fun a ha => ?_))))))
  refine jG (.pointer (some ⟨bk se, of_ se + k * 1, none⟩)) ha (qZ (el := 3) (sz := 1) (j := k) ha (qV (t := 37) (x := 16) (y := 17) (d := 18)) rfl rfl (by kernel_rfl) (by kernel_rfl) ((hre.sat hS).at_ ((List.getElem?_eq_some_iff.1 hx9).1)).1 (by rw [((hre.sat hS)).len]; exact (List.getElem?_eq_some_iff.1 hx9).1)) fun a ha => ?_
  refine jG (iv x9) ha (qW (p := ⟨bk se, of_ se + k * 1, none⟩) ha (xJ (t := 3) (x := 18) (d := 19) (ty := 3)) rfl (by kernel_rfl) (fun w' hw => by rw [hw, Nat.mul_one, ← getD_of hx9]; exact ((hre.sat hS).at_ ((List.getElem?_eq_some_iff.1 hx9).1)).2)) fun a ha => ?_
  refine jX [(4, 20, iv n), (5, 21, .bool (decide (x9 = n)))] ha fun a ha => ?_
  refine jY (jJ ?_)
  by_cases c2 : x9 = n
  ·
   refine jW ha rfl (decide_eq_true c2) ?_;refine wp_seq (jQ [0, 1] (jX [(0, 22, iv (k : Int)), (1, 6, iv (k : Int))] ha fun a ha => ?_));refine jY (jJ (wp_ret (in_r (qQ (qQ (in_r (qQ (jV ha (by kernel_rfl) (qJ (t := 6) ha rfl) ?_))))))));have hE : nxI es j n = (k : Int) := nxI_at hjk (by rw [hx9, c2]) hno;rw [hE];exact ⟨rfl, hS⟩
  refine jZ ha rfl (decide_eq_false c2) ?_
  refine wp_skip (in_n (jJ (jQ [0, 1, 2] (jX [(0, 14, iv (k : Int))] ha fun a ha => ?_))))
  refine qK 15 ((k : Int) + 1) ha fun a ha => ?_
  refine jX [(2, 7, iv ((k : Int) + 1))] ha fun a ha => ?_
  refine jY (jJ ?_)
  exact ⟨_, by omega, k + 1, rfl, by omega, by omega, (fun q h1 h2 => if e : q = k then by subst e; rw [hx9]; exact fun h => c2 (Option.some.inj h) else hno q h1 (by omega)), ha.keeps [0, 2, 6, 7] _ rfl, hS⟩
 refine jZ ha rfl (decide_eq_false c1) ?_
 refine wp_exit (jK (jK (in_x (jJ (wp_seq (jQ [0] (jX [(0, 6, iv (-1))] ha fun a ha => ?_)))))))
 refine jY (jJ (wp_ret (jV ha (by kernel_rfl) (qJ (t := 6) ha rfl) ?_)))
 have hE : nxI es j n = (-1) := nxI_none (fun q h1 h2 => hno q h1 (by omega))
 rw [hE]
 exact ⟨rfl, hS⟩
theorem nx_sat {w0 w : World} {Rs : List Asn} {se : Sl} {es : List Int} {j : Nat} {n : Int} (hS : Sat w0 w Rs) (hre : RdI w se es) (h60 : es.length ≤ 60) (hjl : j < es.length) (hj0 : es[j]? ≠ some n) :
  Calls Try.prog 90 #[.slice se.A se.n se.c, .int .i64 (j : Int), .int .i64 n] w (Ret fun r w' => r = .int .i64 (nxI es j n) ∧ Sat w0 w' Rs) := lift0 hS (nx_sat0 hre h60 hjl hj0)
theorem code41 : Try.f41.body = some (Code.seq (cr Try.f41 0 false) (Code.seq (Code.seq (cr Try.f41 1 false) (Code.cond (Operand.tmp 10) (Code.seq (cr Try.f41 2 false) Code.ret) Code.skip)) (Code.seq (cr Try.f41 3 false) (Code.seq (Code.seq (cr Try.f41 4 false) (Code.block 0 (Code.loop (Code.seq (cr Try.f41 5 false) (Code.seq (Code.cond (Operand.tmp 15) Code.skip (Code.exit 0)) (Code.seq (Code.block 1 (Code.seq (cr Try.f41 6 false) (Code.seq (Code.seq (cr Try.f41 7 false) (Code.cond (Operand.tmp 20) (Code.exit 1) Code.skip)) (Code.seq (cr Try.f41 8 false) (Code.seq (Code.seq (cr Try.f41 9 false) (Code.cond (Operand.tmp 28) (cr Try.f41 10 false) Code.skip)) (cr Try.f41 11 false)))))) (cr Try.f41 12 false))))))) (Code.seq (cr Try.f41 13 false) Code.ret))))) := by kernel_rfl
theorem impl_SpansOf_sat0 {w0 : World} {se : Sl} {es : List Int} (hre : RdI w0 se es) :
  Calls Try.prog 41 #[.slice se.A se.n se.c] w0 (Ret fun r w' => ∃ o : Sl, r = .tuple #[.slice o.A o.n o.c, .bool (spanP es).2] ∧ Sat w0 w' [SX.row (.slice o.A o.n o.c) 96 2 (encR (spanP es).1)]) := by
 have hS : Sat w0 w0 [] := Sat.start w0
 have hel := hre.len
 have hbig := hre.big
 refine enter (n := 40) Try.func41 code41 (by kernel_rfl) (Nat.le_of_ble_eq_true rfl) (fun a ha => ?_)
 replace ha : Has 40 [(0, .slice se.A se.n se.c)] a := ha
 refine wp_seq (jQ [0, 1] (jX [(0, 2, .slice none 0 0), (1, 3, .bool false)] ha fun a ha => ?_))
 refine jY (jJ (wp_seq (wp_seq (jQ [0, 1, 2] (jX [(0, 8, .slice se.A se.n se.c)] ha fun a ha => ?_)))))
 refine jU (qY 9 (vs := [.slice se.A se.n se.c]) ha (arE_sat hS (hre.sat hS)) fun v1 w a hp2 ha => ?_)
 obtain ⟨rfl, hS⟩ := hp2
 refine jX [(2, 10, .bool (!((entriesB es))))] ha fun a ha => ?_
 refine jY (jJ ?_)
 rcases Bool.eq_false_or_eq_true (entriesB es) with c3 | c3
 ·
  have he := c3
  have h60 := (entries_at he).1
  refine jZ ha rfl (xQ c3) ?_
  refine wp_skip (jJ (wp_seq (jQ [0, 1] (jU (yJ 11 [] 96 (fun b => .slice (some ⟨b, 0, none⟩) 0 0) ha hS fun b4 w a hb5 hS ha => ?_)))))
  refine jX [(1, 4, .slice (some ⟨b4, 0, none⟩) 0 0)] ha fun a ha => ?_
  refine jY (jJ (wp_seq (wp_seq (jQ [0, 1, 2] (jX [(0, 12, .slice se.A se.n se.c), (1, 13, iv (se.n : Int)), (2, 14, iv 0)] ha fun a ha => ?_)))))
  refine jY (jJ (wp_block ?_))
  replace hS := hS.blk0 2 0 rfl
  replace hS : Sat w0 w ((SX.row (.slice ((⟨some ⟨b4, 0, none⟩, 0, 0⟩ : Sl).A) ((⟨some ⟨b4, 0, none⟩, 0, 0⟩ : Sl).n) ((⟨some ⟨b4, 0, none⟩, 0, 0⟩ : Sl).c)) 96 2 (encR [])) :: []) := hS
  replace hS : Sat w0 w ((SX.row (.slice ((⟨some ⟨b4, 0, none⟩, 0, 0⟩ : Sl).A) ((⟨some ⟨b4, 0, none⟩, 0, 0⟩ : Sl).n) ((⟨some ⟨b4, 0, none⟩, 0, 0⟩ : Sl).c)) 96 2 (encR (spN es 0))) :: []) := by rw [show spN es 0 = [] from rfl]; exact hS
  refine wp_loop_ghost (fun n_ a_ w_ => ∃ (i : Nat) (o : Sl), n_ = es.length - i ∧ (i ≤ es.length) ∧ Has 40 [(0, .slice se.A se.n se.c), (2, .slice none 0 0), (3, .bool false), (12, .slice se.A se.n se.c), (13, iv (se.n : Int)), (4, .slice o.A o.n o.c), (14, iv (i : Int))] a_ ∧ Sat w0 w_ ((SX.row (.slice o.A o.n o.c) 96 2 (encR (spN es i))) :: [])) _ ⟨0, ⟨some ⟨b4, 0, none⟩, 0, 0⟩, rfl, Nat.zero_le _, ha.keeps [0, 2, 3, 12, 13, 4, 14] _ rfl, hS⟩ ?_
  rintro n_ a w ⟨i, o, rfl, hi, ha, hS⟩
  refine wp_seq (jQ [0] (jX [(0, 15, .bool (decide ((i : Int) < (se.n : Int))))] ha fun a ha => ?_))
  refine jY (jJ (wp_seq ?_))
  by_cases c6 : (i : Int) < (se.n : Int)
  ·
   have hlt : i < es.length := by omega
   obtain ⟨x9, hx9⟩ : ∃ x, es[i]? = some x := ⟨_, List.getElem?_eq_getElem hlt⟩;have hvb := ent_num he (List.mem_of_getElem? hx9);refine jW ha rfl (decide_eq_true c6) ?_;refine wp_skip (jJ (wp_seq (wp_block (wp_seq (jQ [0, 1, 2, 3, 4] (jX [(0, 16, iv (i : Int))] ha fun a ha => ?_))))));refine jG (.pointer (some ⟨bk se, of_ se + i * 1, none⟩)) ha (qZ (el := 3) (sz := 1) (j := i) ha (qV (t := 37) (x := 12) (y := 14) (d := 17)) rfl rfl (by kernel_rfl) (by kernel_rfl) ((hre.sat hS).at_ ((List.getElem?_eq_some_iff.1 hx9).1)).1 (by rw [((hre.sat hS)).len]; exact (List.getElem?_eq_some_iff.1 hx9).1)) fun a ha => ?_;refine jG (iv x9) ha (qW (p := ⟨bk se, of_ se + i * 1, none⟩) ha (xJ (t := 3) (x := 17) (d := 18) (ty := 3)) rfl (by kernel_rfl) (fun w' hw => by rw [hw, Nat.mul_one, ← getD_of hx9]; exact ((hre.sat hS).at_ ((List.getElem?_eq_some_iff.1 hx9).1)).2)) fun a ha => ?_;refine jX [(3, 5, iv (i : Int)), (4, 6, iv x9)] ha fun a ha => ?_;refine jY (jJ (wp_seq (wp_seq (jQ [0, 1] (jX [(0, 19, iv x9), (1, 20, .bool (decide (x9 ≤ 0)))] ha fun a ha => ?_)))));refine jY (jJ ?_)
   by_cases c7 : x9 ≤ 0
   ·
    refine jW ha rfl (decide_eq_true c7) ?_;refine wp_exit (jK (in_x (jJ (jQ [0, 1] (qK 38 ((i : Int) + 1) ha fun a ha => ?_)))));refine jX [(1, 14, iv ((i : Int) + 1))] ha fun a ha => ?_;refine jY (jJ ?_);replace hS : Sat w0 w ((SX.row (.slice o.A o.n o.c) 96 2 (encR (spN es i))) :: []) := hS;replace hS : Sat w0 w ((SX.row (.slice o.A o.n o.c) 96 2 (encR (spN es (i + 1)))) :: []) := by rw [spN_no hx9 (by omega)]; exact hS
    exact ⟨_, by omega, i + 1, o, rfl, by omega, ha.keeps [0, 2, 3, 12, 13, 4, 14] _ rfl, hS⟩
   refine jZ ha rfl (decide_eq_false c7) ?_;refine wp_skip (jJ (wp_seq (jQ [0, 1, 2, 3, 4, 5, 6] (jX [(0, 21, .slice se.A se.n se.c), (1, 22, iv (i : Int))] ha fun a ha => ?_))));refine jG (.slice (tailA se.A i 1 se.c) (se.n - i) (se.c - i)) ha (v_dropZ (el := 3) (sz := 1) (j := i) ha (qH (op := (Op.slice 37 (Operand.tmp 21) (some (Operand.tmp 22)) none none)) (d := some 23) (ty := 37)) rfl rfl (by kernel_rfl) (by kernel_rfl) rfl (by omega) (by have := hre.le; omega)) fun a ha => ?_;refine jX [(3, 24, iv x9)] ha fun a ha => ?_;refine jG (iv (-x9)) ha ((qX (v := .int .i64 (IntKind.i64.wrap (0 - x9))) ha (qH (op := (Op.unOp UnOp.neg 3 (Operand.tmp 24))) (d := some 25) (ty := 3)) (by kernel_rfl) (fun _ => by kernel_rfl)).as (by rw [wrap_i64 (by omega) (by omega)]; exact congrArg _ (by omega))) fun a ha => ?_;refine jU (qY 26 (vs := [.slice (tailA se.A i 1 se.c) (se.n - i) (se.c - i), iv (-x9)]) ha (bidx_sat (se := ⟨tailA se.A i 1 se.c, se.n - i, se.c - i⟩) hS (RdI.drop (hre.sat hS) (by omega))) fun v8 w a hp9 ha => ?_);obtain ⟨rfl, hS⟩ := hp9;have hxb := idxI_le (es.drop i) (-x9);rw [List.length_drop] at hxb;refine jX [(6, 7, iv (idxI (es.drop i) (-x9)))] ha fun a ha => ?_;refine jY (jJ (wp_seq (wp_seq (jQ [0, 1] (jX [(0, 27, iv (idxI (es.drop i) (-x9))), (1, 28, .bool (decide ((idxI (es.drop i) (-x9)) ≥ 0)))] ha fun a ha => ?_)))));refine jY (jJ ?_)
   by_cases c10 : (idxI (es.drop i) (-x9)) ≥ 0
   ·
    refine jW ha rfl (decide_eq_true c10) ?_;refine jQ [0, 1, 2, 3] (jX [(0, 29, iv (idxI (es.drop i) (-x9))), (1, 30, iv (i : Int))] ha fun a ha => ?_);refine qK 31 ((idxI (es.drop i) (-x9)) + (i : Int)) ha fun a ha => ?_;refine jX [(3, 7, iv ((idxI (es.drop i) (-x9)) + (i : Int)))] ha fun a ha => ?_;refine jY (jJ (jQ [0, 1, 2, 3, 4, 5, 6] (jX [(0, 32, .slice o.A o.n o.c), (1, 33, iv (i : Int)), (2, 34, iv ((idxI (es.drop i) (-x9)) + (i : Int))), (3, 35, .agg #[iv (i : Int), iv ((idxI (es.drop i) (-x9)) + (i : Int))])] ha fun a ha => ?_)));refine jU (yJ 36 [iv (i : Int), iv ((idxI (es.drop i) (-x9)) + (i : Int))] 96 (fun b => .slice (some ⟨b, 0, none⟩) 1 1) ha hS fun b11 w a hb12 hS ha => ?_);refine jU (o_ap 37 1 0 (encR ((spN es i) ++ [((i : Int), (idxI (es.drop i) (-x9)) + (i : Int))])) ha hS rfl rfl (by rw [encR_length]; have := spN_len es i; simp only [List.length_cons, List.length_nil]; omega) (encR_snoc _ _ _) fun s16 w a hS hn17 ha => ?_);refine jX [(6, 4, .slice s16.A s16.n s16.c)] ha fun a ha => ?_;refine jY (in_n (jJ (jQ [0, 1] (qK 38 ((i : Int) + 1) ha fun a ha => ?_))));refine jX [(1, 14, iv ((i : Int) + 1))] ha fun a ha => ?_;refine jY (jJ ?_);replace hS := hS.pickN 2 [1];replace hS : Sat w0 w ((SX.row (.slice s16.A s16.n s16.c) 96 2 (encR (spN es (i + 1)))) :: []) := by rw [spN_yes hx9 (by omega), nxI_yes c10]; exact hS
    exact ⟨_, by omega, i + 1, s16, rfl, by omega, ha.keeps [0, 2, 3, 12, 13, 4, 14] _ rfl, hS⟩
   refine jZ ha rfl (decide_eq_false c10) ?_;refine wp_skip (jJ (jQ [0, 1, 2, 3, 4, 5, 6] (jX [(0, 32, .slice o.A o.n o.c), (1, 33, iv (i : Int)), (2, 34, iv (idxI (es.drop i) (-x9))), (3, 35, .agg #[iv (i : Int), iv (idxI (es.drop i) (-x9))])] ha fun a ha => ?_)));refine jU (yJ 36 [iv (i : Int), iv (idxI (es.drop i) (-x9))] 96 (fun b => .slice (some ⟨b, 0, none⟩) 1 1) ha hS fun b18 w a hb19 hS ha => ?_);refine jU (o_ap 37 1 0 (encR ((spN es i) ++ [((i : Int), idxI (es.drop i) (-x9))])) ha hS rfl rfl (by rw [encR_length]; have := spN_len es i; simp only [List.length_cons, List.length_nil]; omega) (encR_snoc _ _ _) fun s23 w a hS hn24 ha => ?_);refine jX [(6, 4, .slice s23.A s23.n s23.c)] ha fun a ha => ?_;refine jY (in_n (jJ (jQ [0, 1] (qK 38 ((i : Int) + 1) ha fun a ha => ?_))));refine jX [(1, 14, iv ((i : Int) + 1))] ha fun a ha => ?_;refine jY (jJ ?_);replace hS := hS.pickN 2 [1];replace hS : Sat w0 w ((SX.row (.slice s23.A s23.n s23.c) 96 2 (encR (spN es (i + 1)))) :: []) := by rw [spN_yes hx9 (by omega), nxI_no c10]; exact hS
   exact ⟨_, by omega, i + 1, s23, rfl, by omega, ha.keeps [0, 2, 3, 12, 13, 4, 14] _ rfl, hS⟩
  refine jZ ha rfl (decide_eq_false c6) ?_
  refine wp_exit (jK (jK (in_x (jJ (wp_seq (jQ [0, 1, 2] (jX [(0, 39, .slice o.A o.n o.c), (1, 2, .slice o.A o.n o.c), (2, 3, .bool true)] ha fun a ha => ?_)))))))
  refine jY (jJ (wp_ret (xY ha (by kernel_rfl) (qJ (t := 2) ha rfl) (qJ (t := 3) ha rfl) ?_)))
  have hE : spanP es = (spN es es.length, true) := by unfold spanP; rw [if_pos c3]
  rw [hE]
  have hie : i = es.length := by omega
  rw [hie] at hS
  exact ⟨o, rfl, hS.pickN 1 [0]⟩
 refine jW ha rfl (xX c3) ?_
 refine wp_seq (jQ [0, 1] (jX [(0, 2, .slice none 0 0), (1, 3, .bool false)] ha fun a ha => ?_))
 refine jY (jJ (wp_ret (qQ (xY ha (by kernel_rfl) (qJ (t := 2) ha rfl) (qJ (t := 3) ha rfl) ?_))))
 have hE : spanP es = ([], false) := by unfold spanP; rw [if_neg (by rw [c3]; decide)]
 rw [hE]
 exact ⟨⟨none, 0, 0⟩, rfl, Sat.nilRow (Sat.rest [] hS)⟩
theorem impl_SpansOf_sat {w0 w : World} {Rs : List Asn} {se : Sl} {es : List Int} (hS : Sat w0 w Rs) (hre : RdI w se es) :
  Calls Try.prog 41 #[.slice se.A se.n se.c] w (Ret fun r w' => ∃ o : Sl, r = .tuple #[.slice o.A o.n o.c, .bool (spanP es).2] ∧ Sat w0 w' (SX.row (.slice o.A o.n o.c) 96 2 (encR (spanP es).1) :: Rs)) :=
 (impl_SpansOf_sat0 hre).mono fun e w' h => by
  cases e with
  | returned r => obtain ⟨o0, h1, h2⟩ := h; exact ⟨o0, h1, hS.comp h2⟩
  | _ => exact h.elim
theorem code40 : Try.f40.body = some (Code.seq (cr Try.f40 0 false) (Code.seq (cr Try.f40 1 false) (Code.seq (Code.seq (cr Try.f40 2 false) (Code.cond (Operand.tmp 9) (Code.seq (cr Try.f40 3 false) Code.ret) Code.skip)) (Code.seq (Code.seq (cr Try.f40 4 false) (Code.block 0 (Code.loop (Code.seq (Code.seq (cr Try.f40 5 false) (Code.cond (Operand.tmp 14) Code.skip (Code.exit 0))) (Code.seq (Code.block 1 (Code.seq (cr Try.f40 7 false) (Code.cond (Operand.tmp 21) (cr Try.f40 8 false) Code.skip))) (cr Try.f40 6 false)))))) (Code.seq (cr Try.f40 9 false) Code.ret))))) := by kernel_rfl
theorem spec_SpansOf_sat0 {w0 : World} {se : Sl} {es : List Int} (hre : RdI w0 se es) :
  Calls Try.prog 40 #[.slice se.A se.n se.c] w0 (Ret fun r w' => ∃ o : Sl, r = .tuple #[.slice o.A o.n o.c, .bool (spanP es).2] ∧ Sat w0 w' [SX.row (.slice o.A o.n o.c) 96 2 (encR (spanP es).1)]) := by
 have hS : Sat w0 w0 [] := Sat.start w0
 have hel := hre.len
 have hbig := hre.big
 refine enter (n := 36) Try.func40 code40 (by kernel_rfl) (Nat.le_of_ble_eq_true rfl) (fun a ha => ?_)
 replace ha : Has 36 [(0, .slice se.A se.n se.c)] a := ha
 refine wp_seq (jQ [0, 1] (jX [(0, 2, .slice none 0 0), (1, 3, .bool false)] ha fun a ha => ?_))
 refine jY (jJ (wp_seq (jQ [0, 1] (jU (yJ 6 [] 96 (fun b => .slice (some ⟨b, 0, none⟩) 0 0) ha hS fun b1 w a hb2 hS ha => ?_)))))
 refine jX [(1, 4, .slice (some ⟨b1, 0, none⟩) 0 0)] ha fun a ha => ?_
 refine jY (jJ (wp_seq (wp_seq (jQ [0, 1, 2] (jX [(0, 7, .slice se.A se.n se.c)] ha fun a ha => ?_)))))
 refine jU (qY 8 (vs := [.slice se.A se.n se.c]) ha (good_sat hS (hre.sat hS)) fun v3 w a hp4 ha => ?_)
 obtain ⟨rfl, hS⟩ := hp4
 refine jX [(2, 9, .bool (!((entriesB es))))] ha fun a ha => ?_
 refine jY (jJ ?_)
 rcases Bool.eq_false_or_eq_true (entriesB es) with c5 | c5
 ·
  have he := c5
  have h60 := (entries_at he).1
  refine jZ ha rfl (xQ c5) ?_
  refine wp_skip (jJ (wp_seq (wp_seq (jQ [0] (jX [(0, 5, iv 0)] ha fun a ha => ?_)))))
  refine jY (jJ (wp_block ?_))
  replace hS := hS.blk0 2 0 rfl
  replace hS : Sat w0 w ((SX.row (.slice ((⟨some ⟨b1, 0, none⟩, 0, 0⟩ : Sl).A) ((⟨some ⟨b1, 0, none⟩, 0, 0⟩ : Sl).n) ((⟨some ⟨b1, 0, none⟩, 0, 0⟩ : Sl).c)) 96 2 (encR [])) :: []) := hS
  replace hS : Sat w0 w ((SX.row (.slice ((⟨some ⟨b1, 0, none⟩, 0, 0⟩ : Sl).A) ((⟨some ⟨b1, 0, none⟩, 0, 0⟩ : Sl).n) ((⟨some ⟨b1, 0, none⟩, 0, 0⟩ : Sl).c)) 96 2 (encR (spN es 0))) :: []) := by rw [show spN es 0 = [] from rfl]; exact hS
  refine wp_loop_ghost (fun n_ a_ w_ => ∃ (i : Nat) (o : Sl), n_ = es.length - i ∧ (i ≤ es.length) ∧ Has 36 [(0, .slice se.A se.n se.c), (2, .slice none 0 0), (3, .bool false), (4, .slice o.A o.n o.c), (5, iv (i : Int))] a_ ∧ Sat w0 w_ ((SX.row (.slice o.A o.n o.c) 96 2 (encR (spN es i))) :: [])) _ ⟨0, ⟨some ⟨b1, 0, none⟩, 0, 0⟩, rfl, Nat.zero_le _, ha.keeps [0, 2, 3, 4, 5] _ rfl, hS⟩ ?_
  rintro n_ a w ⟨i, o, rfl, hi, ha, hS⟩
  refine wp_seq (wp_seq (jQ [0, 1, 2, 3] (jX [(0, 11, iv (i : Int)), (1, 12, .slice se.A se.n se.c), (2, 13, iv (se.n : Int)), (3, 14, .bool (decide ((i : Int) < (se.n : Int))))] ha fun a ha => ?_)))
  refine jY (jJ ?_)
  by_cases c6 : (i : Int) < (se.n : Int)
  ·
   have hlt : i < es.length := by omega
   obtain ⟨x9, hx9⟩ : ∃ x, es[i]? = some x := ⟨_, List.getElem?_eq_getElem hlt⟩;have hvb := ent_num he (List.mem_of_getElem? hx9);refine jW ha rfl (decide_eq_true c6) ?_;refine wp_skip (jJ (wp_seq (wp_block (wp_seq (jQ [0, 1, 2, 3, 4] (jX [(0, 17, .slice se.A se.n se.c), (1, 18, iv (i : Int))] ha fun a ha => ?_))))));refine jG (.pointer (some ⟨bk se, of_ se + i * 1, none⟩)) ha (qZ (el := 3) (sz := 1) (j := i) ha (qV (t := 37) (x := 17) (y := 18) (d := 19)) rfl rfl (by kernel_rfl) (by kernel_rfl) ((hre.sat hS).at_ ((List.getElem?_eq_some_iff.1 hx9).1)).1 (by rw [((hre.sat hS)).len]; exact (List.getElem?_eq_some_iff.1 hx9).1)) fun a ha => ?_;refine jG (iv x9) ha (qW (p := ⟨bk se, of_ se + i * 1, none⟩) ha (xJ (t := 3) (x := 19) (d := 20) (ty := 3)) rfl (by kernel_rfl) (fun w' hw => by rw [hw, Nat.mul_one, ← getD_of hx9]; exact ((hre.sat hS).at_ ((List.getElem?_eq_some_iff.1 hx9).1)).2)) fun a ha => ?_;refine jX [(4, 21, .bool (decide (x9 > 0)))] ha fun a ha => ?_;refine jY (jJ ?_)
   by_cases c7 : x9 > 0
   ·
    refine jW ha rfl (decide_eq_true c7) ?_;refine jQ [0, 1, 2, 3, 4, 5, 6, 7, 8, 9, 10, 11, 12, 13] (jX [(0, 22, .slice o.A o.n o.c), (1, 23, iv (i : Int)), (2, 24, .slice se.A se.n se.c), (3, 25, iv (i : Int)), (4, 26, .slice se.A se.n se.c), (5, 27, iv (i : Int))] ha fun a ha => ?_);refine jG (.pointer (some ⟨bk se, of_ se + i * 1, none⟩)) ha (qZ (el := 3) (sz := 1) (j := i) ha (qV (t := 37) (x := 26) (y := 27) (d := 28)) rfl rfl (by kernel_rfl) (by kernel_rfl) ((hre.sat hS).at_ ((List.getElem?_eq_some_iff.1 hx9).1)).1 (by rw [((hre.sat hS)).len]; exact (List.getElem?_eq_some_iff.1 hx9).1)) fun a ha => ?_;refine jG (iv x9) ha (qW (p := ⟨bk se, of_ se + i * 1, none⟩) ha (xJ (t := 3) (x := 28) (d := 29) (ty := 3)) rfl (by kernel_rfl) (fun w' hw => by rw [hw, Nat.mul_one, ← getD_of hx9]; exact ((hre.sat hS).at_ ((List.getElem?_eq_some_iff.1 hx9).1)).2)) fun a ha => ?_;refine jG (iv (-x9)) ha ((qX (v := .int .i64 (IntKind.i64.wrap (0 - x9))) ha (qH (op := (Op.unOp UnOp.neg 3 (Operand.tmp 29))) (d := some 30) (ty := 3)) (by kernel_rfl) (fun _ => by kernel_rfl)).as (by rw [wrap_i64 (by omega) (by omega)]; exact congrArg _ (by omega))) fun a ha => ?_;refine jU (qY 31 (vs := [.slice se.A se.n se.c, iv (i : Int), iv (-x9)]) ha (nx_sat hS (hre.sat hS) h60 (by omega) (by rw [hx9]; exact fun h => by have := Option.some.inj h; omega)) fun v8 w a hp9 ha => ?_);obtain ⟨rfl, hS⟩ := hp9;refine jX [(10, 32, .agg #[iv (i : Int), iv (nxI es i (-x9))])] ha fun a ha => ?_;refine jU (yJ 33 [iv (i : Int), iv (nxI es i (-x9))] 96 (fun b => .slice (some ⟨b, 0, none⟩) 1 1) ha hS fun b10 w a hb11 hS ha => ?_);refine jU (o_ap 34 1 0 (encR ((spN es i) ++ [((i : Int), nxI es i (-x9))])) ha hS rfl rfl (by rw [encR_length]; have := spN_len es i; simp only [List.length_cons, List.length_nil]; omega) (encR_snoc _ _ _) fun s15 w a hS hn16 ha => ?_);refine jX [(13, 4, .slice s15.A s15.n s15.c)] ha fun a ha => ?_;refine jY (in_n (jJ (jQ [0, 1, 2] (jX [(0, 15, iv (i : Int))] ha fun a ha => ?_))));refine qK 16 ((i : Int) + 1) ha fun a ha => ?_;refine jX [(2, 5, iv ((i : Int) + 1))] ha fun a ha => ?_;refine jY (jJ ?_);replace hS := hS.pickN 2 [1];replace hS : Sat w0 w ((SX.row (.slice s15.A s15.n s15.c) 96 2 (encR (spN es (i + 1)))) :: []) := by rw [spN_yes hx9 (by omega)]; exact hS
    exact ⟨_, by omega, i + 1, s15, rfl, by omega, ha.keeps [0, 2, 3, 4, 5] _ rfl, hS⟩
   refine jZ ha rfl (decide_eq_false c7) ?_;refine wp_skip (in_n (jJ (jQ [0, 1, 2] (jX [(0, 15, iv (i : Int))] ha fun a ha => ?_))));refine qK 16 ((i : Int) + 1) ha fun a ha => ?_;refine jX [(2, 5, iv ((i : Int) + 1))] ha fun a ha => ?_;refine jY (jJ ?_);replace hS : Sat w0 w ((SX.row (.slice o.A o.n o.c) 96 2 (encR (spN es i))) :: []) := hS;replace hS : Sat w0 w ((SX.row (.slice o.A o.n o.c) 96 2 (encR (spN es (i + 1)))) :: []) := by rw [spN_no hx9 (by omega)]; exact hS
   exact ⟨_, by omega, i + 1, o, rfl, by omega, ha.keeps [0, 2, 3, 4, 5] _ rfl, hS⟩
  refine jZ ha rfl (decide_eq_false c6) ?_
  refine wp_exit (jK (jK (in_x (jJ (wp_seq (jQ [0, 1, 2] (jX [(0, 35, .slice o.A o.n o.c), (1, 2, .slice o.A o.n o.c), (2, 3, .bool true)] ha fun a ha => ?_)))))))
  refine jY (jJ (wp_ret (xY ha (by kernel_rfl) (qJ (t := 2) ha rfl) (qJ (t := 3) ha rfl) ?_)))
  have hE : spanP es = (spN es es.length, true) := by unfold spanP; rw [if_pos c5]
  rw [hE]
  have hie : i = es.length := by omega
  rw [hie] at hS
  exact ⟨o, rfl, hS.pickN 1 [0]⟩
 refine jW ha rfl (xX c5) ?_
 refine wp_seq (jQ [0, 1, 2] (jX [(0, 10, .slice (some ⟨b1, 0, none⟩) 0 0), (1, 2, .slice (some ⟨b1, 0, none⟩) 0 0), (2, 3, .bool false)] ha fun a ha => ?_))
 refine jY (jJ (wp_ret (qQ (xY ha (by kernel_rfl) (qJ (t := 2) ha rfl) (qJ (t := 3) ha rfl) ?_))))
 have hE : spanP es = ([], false) := by unfold spanP; rw [if_neg (by rw [c5]; decide)]
 rw [hE]
 replace hS := hS.blk0 2 0 rfl
 exact ⟨⟨some ⟨b1, 0, none⟩, 0, 0⟩, rfl, hS.pickN 1 [0]⟩
theorem spec_SpansOf_sat {w0 w : World} {Rs : List Asn} {se : Sl} {es : List Int} (hS : Sat w0 w Rs) (hre : RdI w se es) :
  Calls Try.prog 40 #[.slice se.A se.n se.c] w (Ret fun r w' => ∃ o : Sl, r = .tuple #[.slice o.A o.n o.c, .bool (spanP es).2] ∧ Sat w0 w' (SX.row (.slice o.A o.n o.c) 96 2 (encR (spanP es).1) :: Rs)) :=
 (spec_SpansOf_sat0 hre).mono fun e w' h => by
  cases e with
  | returned r => obtain ⟨o0, h1, h2⟩ := h; exact ⟨o0, h1, hS.comp h2⟩
  | _ => exact h.elim
theorem code11 : Try.f11.body = some (Code.seq (cr Try.f11 0 false) (Code.seq (Code.seq (cr Try.f11 1 false) (Code.cond (Operand.tmp 15) (Code.seq (cr Try.f11 2 false) Code.ret) Code.skip)) (Code.seq (cr Try.f11 3 false) (Code.seq (cr Try.f11 4 false) (Code.seq (cr Try.f11 5 false) (Code.seq (Code.seq (cr Try.f11 6 false) (Code.cond (Operand.tmp 37) (Code.seq (cr Try.f11 7 false) Code.ret) Code.skip)) (Code.seq (Code.seq (cr Try.f11 8 false) (Code.cond (Operand.tmp 42) (Code.seq (cr Try.f11 9 false) Code.ret) Code.skip)) (Code.seq (cr Try.f11 10 false) (Code.seq (cr Try.f11 11 false) (Code.seq (Code.seq (cr Try.f11 12 false) (Code.cond (Operand.tmp 58) (Code.seq (cr Try.f11 13 false) Code.ret) Code.skip)) (Code.seq (cr Try.f11 14 false) (Code.seq (cr Try.f11 15 false) (Code.seq (cr Try.f11 16 false) (Code.seq (cr Try.f11 17 false) (Code.seq (Code.seq (cr Try.f11 18 false) (Code.cond (Operand.tmp 66) (Code.seq (cr Try.f11 19 false) Code.ret) Code.skip)) (Code.seq (Code.seq (cr Try.f11 20 false) (Code.cond (Operand.tmp 69) (Code.seq (cr Try.f11 21 false) Code.ret) Code.skip)) (Code.seq (cr Try.f11 22 false) (Code.seq (Code.seq (cr Try.f11 23 false) (Code.cond (Operand.tmp 84) (Code.seq (cr Try.f11 24 false) Code.ret) Code.skip)) (Code.seq (cr Try.f11 25 false) (Code.seq (cr Try.f11 26 false) (Code.seq (Code.seq (cr Try.f11 27 false) (Code.cond (Operand.tmp 89) (Code.seq (cr Try.f11 28 false) Code.ret) Code.skip)) (Code.seq (Code.seq (cr Try.f11 29 false) (Code.cond (Operand.tmp 92) (Code.seq (cr Try.f11 30 false) Code.ret) Code.skip)) (Code.seq (cr Try.f11 31 false) Code.ret))))))))))))))))))))))) := by kernel_rfl
theorem law11_walk (w0 : World) (res : Sl) (es : List Int) (hres : RdI w0 res es) :
  Calls Try.prog 11 #[.slice res.A res.n res.c] w0 (Ret fun r w' => r = .bool true ∧ Below w0.heap.size w0 w') := by
 have hS : Sat w0 w0 [] := Sat.start w0
 have hnes := hres.len
 have hges := hres.big
 refine enter (n := 93) Try.func11 code11 (by kernel_rfl) (Nat.le_of_ble_eq_true rfl) (fun a ha => ?_)
 replace ha : Has 93 [(0, .slice res.A res.n res.c)] a := ha
 refine wp_seq (jQ [0] (jX [(0, 2, .bool false)] ha fun a ha => ?_))
 refine jY (jJ (wp_seq (wp_seq (jQ [0, 1, 2] (jX [(0, 13, .slice res.A res.n res.c), (1, 14, iv (res.n : Int)), (2, 15, .bool (decide ((res.n : Int) > 1048576)))] ha fun a ha => ?_)))))
 refine jY (jJ ?_)
 by_cases c1 : (res.n : Int) > 1048576
 ·
  refine jW ha rfl (decide_eq_true c1) ?_
  refine wp_seq (jQ [0] (jX [(0, 2, .bool true)] ha fun a ha => ?_))
  refine jY (jJ (wp_ret (qQ (jV ha (by kernel_rfl) (qJ (t := 2) ha rfl) ?_))))
  exact ⟨rfl, hS.below⟩
 refine jZ ha rfl (decide_eq_false c1) ?_
 refine wp_skip (jJ (wp_seq (jQ [0, 1, 2, 3, 4, 5, 6, 7] (jX [(0, 17, .slice res.A res.n res.c)] ha fun a ha => ?_))))
 refine jU (qY 18 (vs := [.slice res.A res.n res.c]) ha (toIntS_sat hS (hres.sat hS) (by omega)) fun v2 w a hp3 ha => ?_)
 obtain ⟨o1, rfl, hS⟩ := hp3
 refine jU (qY 19 (vs := [.slice o1.A o1.n o1.c]) ha (spec_SpansOf_sat hS (hS.rdRow (s := o1) 0 rfl)) fun v4 w a hp5 ha => ?_)
 obtain ⟨o2, rfl, hS⟩ := hp5
 refine jX [(3, 16, .tuple #[.slice o2.A o2.n o2.c, .bool ((spanP es).2)]), (4, 20, .slice o2.A o2.n o2.c), (5, 21, .bool ((spanP es).2)), (6, 3, .slice o2.A o2.n o2.c), (7, 4, .bool ((spanP es).2))] ha fun a ha => ?_
 refine jY (jJ (wp_seq (jQ [0, 1, 2] (jX [(0, 22, .slice res.A res.n res.c)] ha fun a ha => ?_))))
 refine jU (qY 23 (vs := [.slice res.A res.n res.c]) ha (toIntS_sat hS (hres.sat hS) (by omega)) fun v6 w a hp7 ha => ?_)
 obtain ⟨o3, rfl, hS⟩ := hp7
 refine jX [(2, 5, .slice o3.A o3.n o3.c)] ha fun a ha => ?_
 refine jY (jJ (wp_seq (jQ [0, 1, 2, 3, 4, 5, 6] (jX [(0, 25, .slice o3.A o3.n o3.c)] ha fun a ha => ?_))))
 refine jU (qY 26 (vs := [.slice o3.A o3.n o3.c]) ha (impl_SpansOf_sat hS (hS.rdRow (s := o3) 0 rfl)) fun v8 w a hp9 ha => ?_)
 obtain ⟨o4, rfl, hS⟩ := hp9
 refine jX [(2, 24, .tuple #[.slice o4.A o4.n o4.c, .bool ((spanP es).2)]), (3, 27, .slice o4.A o4.n o4.c), (4, 28, .bool ((spanP es).2)), (5, 6, .slice o4.A o4.n o4.c), (6, 7, .bool ((spanP es).2))] ha fun a ha => ?_
 refine jY ?_
 replace ha := ha.as [(0, .slice res.A res.n res.c), (2, .bool false), (3, .slice o2.A o2.n o2.c), (4, .bool ((spanP es).2)), (5, .slice o3.A o3.n o3.c), (6, .slice o4.A o4.n o4.c), (7, .bool ((spanP es).2))] rfl
 refine jJ (wp_seq (wp_seq (jQ [0, 1, 2, 3, 4, 5, 6, 7, 8] (jX [(0, 29, .slice o4.A o4.n o4.c), (1, 30, .slice o2.A o2.n o2.c)] ha fun a ha => ?_))))
 refine jU (qY 31 (vs := [.slice o4.A o4.n o4.c, .slice o2.A o2.n o2.c]) ha (eqIntA2S_sat hS (hS.rdE (s := o4) 0 jH (by decide) rfl) (hS.rdE (s := o2) 2 jH (by decide) rfl)) fun v10 w a hp11 ha => ?_)
 obtain ⟨rfl, hS⟩ := hp11
 refine jX [(3, 32, .bool false), (4, 33, .bool false), (5, 34, .bool ((spanP es).2)), (6, 35, .bool ((spanP es).2))] ha fun a ha => ?_
 refine jG (.bool false) ha ((qX (v := .bool (!(((spanP es).2) == ((spanP es).2)))) ha (AtG.here (gd := 33) ⟨(by kernel_rfl : ((yX Try.f11 6)[7]?).map spec = some ((Op.binOp BinOp.neq 4 (Operand.tmp 34) (Operand.tmp 35) 4), some 36, 4, some (4, false))), by kernel_rfl⟩ ha rfl) (by kernel_rfl) (fun _ => by kernel_rfl)).as (by simp)) fun a ha => ?_
 refine jX [(8, 37, .bool false)] ha fun a ha => ?_
 refine jY (jJ ?_)
 refine jZ ha rfl rfl ?_
 refine wp_skip (jJ (wp_seq (wp_seq (jQ [0, 1, 2, 3, 4] (jX [(0, 38, .slice o3.A o3.n o3.c), (1, 39, .slice res.A res.n res.c)] ha fun a ha => ?_)))))
 refine jU (qY 40 (vs := [.slice res.A res.n res.c]) ha (toIntS_sat hS (hres.sat hS) (by omega)) fun v12 w a hp13 ha => ?_)
 obtain ⟨o5, rfl, hS⟩ := hp13
 refine jU (qY 41 (vs := [.slice o3.A o3.n o3.c, .slice o5.A o5.n o5.c]) ha (eqIntS_sat hS (hS.rdRow (s := o3) 2 rfl) (hS.rdRow (s := o5) 0 rfl)) fun v14 w a hp15 ha => ?_)
 obtain ⟨rfl, hS⟩ := hp15
 refine jX [(4, 42, .bool false)] ha fun a ha => ?_
 refine jY (jJ ?_)
 refine jZ ha rfl rfl ?_
 refine wp_skip (jJ (wp_seq (jQ [0] (jX [(0, 8, iv 1)] ha fun a ha => ?_))))
 refine jY (jJ (wp_seq (jQ [0, 1, 2, 3] (jX [(0, 43, .slice o3.A o3.n o3.c), (1, 44, iv 1)] ha fun a ha => ?_))))
 replace hS := hS.pickN 5 [2, 0, 1, 3, 4]
 refine jU (qY 45 (vs := [.slice o3.A o3.n o3.c, iv 1]) ha (markG_sat hS (by omega) (by omega) (by omega)) fun v16 w a hp17 ha => ?_)
 obtain ⟨rfl, hS⟩ := hp17
 refine jX [(3, 8, iv (1 + (es.length : Int)))] ha fun a ha => ?_
 refine jY ?_
 replace ha := ha.as [(0, .slice res.A res.n res.c), (2, .bool false), (3, .slice o2.A o2.n o2.c), (4, .bool ((spanP es).2)), (6, .slice o4.A o4.n o4.c), (7, .bool ((spanP es).2)), (8, iv (1 + (es.length : Int)))] rfl
 refine jJ (wp_seq (wp_seq (jQ [0, 1, 2, 3, 4, 5, 6, 7, 8, 9, 10, 11, 12] (jX [(0, 46, iv (1 + (es.length : Int)))] ha fun a ha => ?_))))
 refine jG (.bool false) ha ((qX (v := .bool (decide (1 + (es.length : Int) < 0))) ha (qH (op := (Op.binOp BinOp.lss 3 (Operand.tmp 46) (Operand.const (Value.int IntKind.i64 0)) 3)) (d := some 47) (ty := 4)) (by kernel_rfl) (fun _ => by kernel_rfl)).as (by rw [decide_eq_false (by omega)])) fun a ha => ?_
 refine jX [(2, 48, .bool false), (3, 49, .slice o4.A o4.n o4.c), (4, 50, .slice o2.A o2.n o2.c)] ha fun a ha => ?_
 refine jU (qY 51 (vs := [.slice o4.A o4.n o4.c, .slice o2.A o2.n o2.c]) ha (eqIntA2S_sat hS (hS.rdE (s := o4) 2 jH (by decide) rfl) (hS.rdE (s := o2) 3 jH (by decide) rfl)) fun v18 w a hp19 ha => ?_)
 obtain ⟨rfl, hS⟩ := hp19
 refine jX [(6, 52, .bool false), (7, 53, .bool false), (8, 54, .bool false), (9, 55, .bool ((spanP es).2)), (10, 56, .bool ((spanP es).2))] ha fun a ha => ?_
 refine jG (.bool false) ha ((qX (v := .bool (!(((spanP es).2) == ((spanP es).2)))) ha (AtG.here (gd := 54) ⟨(by kernel_rfl : ((yX Try.f11 12)[11]?).map spec = some ((Op.binOp BinOp.neq 4 (Operand.tmp 55) (Operand.tmp 56) 4), some 57, 4, some (8, false))), by kernel_rfl⟩ ha rfl) (by kernel_rfl) (fun _ => by kernel_rfl)).as (by simp)) fun a ha => ?_
 refine jX [(12, 58, .bool false)] ha fun a ha => ?_
 refine jY (jJ ?_)
 refine jZ ha rfl rfl ?_
 refine wp_skip (jJ (wp_seq (jQ [0] (jX [(0, 9, iv 1)] ha fun a ha => ?_))))
 refine jY (jJ (wp_seq (jQ [0, 1, 2, 3] (jX [(0, 59, .slice o4.A o4.n o4.c), (1, 60, iv 1)] ha fun a ha => ?_))))
 replace hS := hS.pickN 5 [2, 0, 1, 3, 4]
 refine jU (qY 61 (vs := [.slice o4.A o4.n o4.c, iv 1]) ha (markIntA2S_sat hS (by omega) (by omega) (Nat.le_trans (spanP_len ..) (by decide))) fun v20 w a hp21 ha => ?_)
 obtain ⟨rfl, hS⟩ := hp21
 refine jX [(3, 9, iv (1 + 2 * (((spanP es).1).length : Int)))] ha fun a ha => ?_
 refine jY ?_
 replace ha := ha.as [(0, .slice res.A res.n res.c), (2, .bool false), (3, .slice o2.A o2.n o2.c), (4, .bool ((spanP es).2)), (6, .slice o4.A o4.n o4.c), (9, iv (1 + 2 * (((spanP es).1).length : Int)))] rfl
 refine jJ (wp_seq (jQ [0] (jX [(0, 10, iv 1)] ha fun a ha => ?_)))
 refine jY (jJ (wp_seq (jQ [0, 1, 2, 3] (jX [(0, 62, .slice o4.A o4.n o4.c), (1, 63, iv 1)] ha fun a ha => ?_))))
 refine jU (qY 64 (vs := [.slice o4.A o4.n o4.c, iv 1]) ha (heldIntA2S_sat hS (hS.rdE (s := o4) 0 jH (by decide) rfl) (Nat.le_trans (spanP_len ..) (by decide))) fun v22 w a hp23 ha => ?_)
 obtain ⟨rfl, hS⟩ := hp23
 refine jX [(3, 10, iv (1 + 2 * (((spanP es).1).length : Int)))] ha fun a ha => ?_
 refine jY (jJ (wp_seq (wp_seq (jQ [0, 1] (jX [(0, 65, iv (1 + 2 * (((spanP es).1).length : Int)))] ha fun a ha => ?_)))))
 refine jG (.bool false) ha ((qX (v := .bool (decide (1 + 2 * (((spanP es).1).length : Int) < 0))) ha (qH (op := (Op.binOp BinOp.lss 3 (Operand.tmp 65) (Operand.const (Value.int IntKind.i64 0)) 3)) (d := some 66) (ty := 4)) (by kernel_rfl) (fun _ => by kernel_rfl)).as (by rw [decide_eq_false (by omega)])) fun a ha => ?_
 refine jY (jJ ?_)
 refine jZ ha rfl rfl ?_
 refine wp_skip (jJ (wp_seq (wp_seq (jQ [0, 1, 2] (jX [(0, 67, iv (1 + 2 * (((spanP es).1).length : Int))), (1, 68, iv (1 + 2 * (((spanP es).1).length : Int)))] ha fun a ha => ?_)))))
 refine jG (.bool false) ha ((qX (v := .bool (!(decide (1 + 2 * (((spanP es).1).length : Int) = 1 + 2 * (((spanP es).1).length : Int))))) ha (qH (op := (Op.binOp BinOp.neq 3 (Operand.tmp 67) (Operand.tmp 68) 3)) (d := some 69) (ty := 4)) (by kernel_rfl) (fun _ => by kernel_rfl)).as (by simp)) fun a ha => ?_
 refine jY (jJ ?_)
 refine jZ ha rfl rfl ?_
 refine wp_skip (jJ (wp_seq (jQ [0, 1, 2, 3, 4, 5, 6, 7] (jX [(0, 71, .slice res.A res.n res.c)] ha fun a ha => ?_))))
 refine jU (qY 72 (vs := [.slice res.A res.n res.c]) ha (toIntS_sat hS (hres.sat hS) (by omega)) fun v24 w a hp25 ha => ?_)
 obtain ⟨o6, rfl, hS⟩ := hp25
 refine jU (qY 73 (vs := [.slice o6.A o6.n o6.c]) ha (impl_SpansOf_sat hS (hS.rdRow (s := o6) 0 rfl)) fun v26 w a hp27 ha => ?_)
 obtain ⟨o7, rfl, hS⟩ := hp27
 refine jX [(3, 70, .tuple #[.slice o7.A o7.n o7.c, .bool ((spanP es).2)]), (4, 74, .slice o7.A o7.n o7.c), (5, 75, .bool ((spanP es).2)), (6, 11, .slice o7.A o7.n o7.c), (7, 12, .bool ((spanP es).2))] ha fun a ha => ?_
 refine jY (jJ (wp_seq (wp_seq (jQ [0, 1, 2, 3, 4, 5, 6, 7, 8] (jX [(0, 76, .slice o7.A o7.n o7.c), (1, 77, .slice o2.A o2.n o2.c)] ha fun a ha => ?_)))))
 refine jU (qY 78 (vs := [.slice o7.A o7.n o7.c, .slice o2.A o2.n o2.c]) ha (eqIntA2S_sat hS (hS.rdE (s := o7) 0 jH (by decide) rfl) (hS.rdE (s := o2) 5 jH (by decide) rfl)) fun v28 w a hp29 ha => ?_)
 obtain ⟨rfl, hS⟩ := hp29
 refine jX [(3, 79, .bool false), (4, 80, .bool false), (5, 81, .bool ((spanP es).2)), (6, 82, .bool ((spanP es).2))] ha fun a ha => ?_
 refine jG (.bool false) ha ((qX (v := .bool (!(((spanP es).2) == ((spanP es).2)))) ha (AtG.here (gd := 80) ⟨(by kernel_rfl : ((yX Try.f11 23)[7]?).map spec = some ((Op.binOp BinOp.neq 4 (Operand.tmp 81) (Operand.tmp 82) 4), some 83, 4, some (4, false))), by kernel_rfl⟩ ha rfl) (by kernel_rfl) (fun _ => by kernel_rfl)).as (by simp)) fun a ha => ?_
 refine jX [(8, 84, .bool false)] ha fun a ha => ?_
 refine jY ?_
 replace ha := ha.as [(2, .bool false), (6, .slice o4.A o4.n o4.c), (9, iv (1 + 2 * (((spanP es).1).length : Int))), (10, iv (1 + 2 * (((spanP es).1).length : Int))), (84, .bool false)] rfl
 refine jJ ?_
 refine jZ ha rfl rfl ?_
 refine wp_skip (jJ (wp_seq (jQ [0] (jX [(0, 10, iv 1)] ha fun a ha => ?_))))
 refine jY (jJ (wp_seq (jQ [0, 1, 2, 3] (jX [(0, 85, .slice o4.A o4.n o4.c), (1, 86, iv 1)] ha fun a ha => ?_))))
 refine jU (qY 87 (vs := [.slice o4.A o4.n o4.c, iv 1]) ha (heldIntA2S_sat hS (hS.rdE (s := o4) 2 jH (by decide) rfl) (Nat.le_trans (spanP_len ..) (by decide))) fun v30 w a hp31 ha => ?_)
 obtain ⟨rfl, hS⟩ := hp31
 refine jX [(3, 10, iv (1 + 2 * (((spanP es).1).length : Int)))] ha fun a ha => ?_
 refine jY (jJ (wp_seq (wp_seq (jQ [0, 1] (jX [(0, 88, iv (1 + 2 * (((spanP es).1).length : Int)))] ha fun a ha => ?_)))))
 refine jG (.bool false) ha ((qX (v := .bool (decide (1 + 2 * (((spanP es).1).length : Int) < 0))) ha (qH (op := (Op.binOp BinOp.lss 3 (Operand.tmp 88) (Operand.const (Value.int IntKind.i64 0)) 3)) (d := some 89) (ty := 4)) (by kernel_rfl) (fun _ => by kernel_rfl)).as (by rw [decide_eq_false (by omega)])) fun a ha => ?_
 refine jY (jJ ?_)
 refine jZ ha rfl rfl ?_
 refine wp_skip (jJ (wp_seq (wp_seq (jQ [0, 1, 2] (jX [(0, 90, iv (1 + 2 * (((spanP es).1).length : Int))), (1, 91, iv (1 + 2 * (((spanP es).1).length : Int)))] ha fun a ha => ?_)))))
 refine jG (.bool false) ha ((qX (v := .bool (!(decide (1 + 2 * (((spanP es).1).length : Int) = 1 + 2 * (((spanP es).1).length : Int))))) ha (qH (op := (Op.binOp BinOp.neq 3 (Operand.tmp 90) (Operand.tmp 91) 3)) (d := some 92) (ty := 4)) (by kernel_rfl) (fun _ => by kernel_rfl)).as (by simp)) fun a ha => ?_
 refine jY (jJ ?_)
 refine jZ ha rfl rfl ?_
 refine wp_skip (jJ (wp_seq (jQ [0] (jX [(0, 2, .bool true)] ha fun a ha => ?_))))
 refine jY (jJ (wp_ret (jV ha (by kernel_rfl) (qJ (t := 2) ha rfl) ?_)))
 exact ⟨rfl, hS.below⟩
end Go.Proofs.Ytbgfiiehjaghiaa.G
