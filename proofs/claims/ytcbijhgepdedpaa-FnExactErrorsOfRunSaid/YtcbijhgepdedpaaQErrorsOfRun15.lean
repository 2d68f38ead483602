/- What the claim FnExactErrorsOfRun rests on, part 15 of 22; the last part proves it: for every input the law answers true, and its arguments read behind the call as before it. No condition. -/
import Derived.Test.YtcbijhgepdedpaaQErrorsOfRun9
import Derived.Test.YtcbijhgepdedpaaQErrorsOfRun14
set_option linter.unusedSimpArgs false
set_option linter.unusedVariables false
set_option maxRecDepth 20000
set_option maxHeartbeats 1000000
namespace Go.Proofs.Ytcbijhgepdedpaa
namespace SX
open Go.RowKit
theorem call_some (P : List (List Stp)) (hP : ProgOk P) (D : Nat) (fuel : Int) (bm : Nat) (pv : Sl) (sbs : List Sl) (IH : ∀ d, D = d + 1 → CallC P fuel bm pv sbs d) (w0 w : World) (Rs : List Asn) (m : MS) (fn arg : Int) (bq : Nat) (q : FS) (qv : Value) (o : Int) (dfr : Bool) (x : Nat) (hS : Sat w0 w (mch bm pv fuel m :: frm bq { q with r1 := o } qv :: Rs)) (hm : OkM fuel m (x + 2)) (hdep : m.depth + D = 8) (hd0 : 0 ≤ m.depth) (h0 : 0 ≤ fn) (h1 : fn < P.length) (hdp : dfr = true → ((some q) : Option FS).isSome = true) (hp : OkP m (some q)) (hPr : Keeps w0 Rs (fun w => RdProg w pv sbs P)) :
    Calls Try.prog 95 #[.pointer (some ⟨bm, 0, none⟩), .int .i64 fn, .int .i64 arg, ptr bq 0, .bool dfr] w (callPost w0 bm pv fuel Rs (ptr bq 0) qv (some q) (callS P fuel D m fn arg (some q) o dfr)) := by
  have hcbd := hm.bnd
  have hcm := hm.made1
  have hcc := hm.calls
  have hfit : m.calls.length ≤ 1000 := by omega
  obtain ⟨s, hs, hS⟩ := Sat.openM hS
  replace hS : Sat w0 w ((MB bm pv fuel m.made m.shared m.depth m.deepest s.tr s.ow s.ca s.pa s.re s.bp) :: (rE s.tr m.trace) :: (rI s.ow m.owners) :: (rC s.ca m.calls) :: (rP s.pa s.us) :: (jW (yQ s.us)) :: (rV s.re m.recs) :: (yY s.bp m.places) :: frm bq { q with r1 := o } qv :: Rs) := hS
  obtain ⟨tq, hS⟩ := Sat.openF (Sat.front (l := mchL bm pv fuel m s) hS)
  replace hS := Sat.comm2 (k := mchL bm pv fuel m s) hS
  replace hS : Sat w0 w ((MB bm pv fuel m.made m.shared m.depth m.deepest s.tr s.ow s.ca s.pa s.re s.bp) :: (rE s.tr m.trace) :: (rI s.ow m.owners) :: (rC s.ca m.calls) :: (rP s.pa s.us) :: (jW (yQ s.us)) :: (rV s.re m.recs) :: (yY s.bp m.places) :: (FB bq q.id q.fn q.r0 o q.r2 q.r3 tq (qv) q.dfr q.cnt q.lvg q.en q.pan) :: (rQ tq q.runs) :: Rs) := hS
  have hcn : s.ca.n = m.calls.length := hS.rowL (s := s.ca) (enc := cellsC) 3 zG (by decide) rfl
  refine enter (n := 143) Try.func95 code95 (by kernel_rfl) (Nat.le_of_ble_eq_true rfl) (fun a ha => ?_)
  replace ha : Has 143 [(0, ptr bm 0), (1, iv fn), (2, iv arg), (3, ptr bq 0), (4, .bool dfr)] a := ha
  refine wp_seq (jX [0] (jQ [(0, 10, .pointer none)] ha fun a ha => ?_))
  refine jY (jJ (wp_seq (wp_seq (jX [0, 1, 2, 3, 4] (jQ [(0, 15, ptr bm 0), (1, 16, ptr bm 0), (2, 17, ptr bm 4)] ha fun a ha => ?_)))))
  refine jU (d := 18) (b := bm) (j := 4) ha (hS.blk 0 rfl) rfl fun a ha => ?_
  refine jQ [(4, 19, .bool (decide (m.depth = 8)))] ha fun a ha => ?_
  refine jY (jJ ?_)
  by_cases c1 : m.depth = 8
  ·
    refine jG ha rfl (decide_eq_true c1) ?_;refine jX [0, 1, 2] (jQ [(0, 20, .agg #[]), (1, 21, .iface 161 (.agg #[]))] ha fun a ha => ?_);refine jZ (o_panic ha (zW (op := (Op.panic (Operand.tmp 21))) (ty := 0)) rfl (then_p (?_)));replace hS : Sat w0 w ((MB bm pv fuel m.made m.shared m.depth m.deepest s.tr s.ow s.ca s.pa s.re s.bp) :: (rE s.tr m.trace) :: (rI s.ow m.owners) :: (rC s.ca m.calls) :: (rP s.pa s.us) :: (jW (yQ s.us)) :: (rV s.re m.recs) :: (yY s.bp m.places) :: (FB bq q.id q.fn q.r0 o q.r2 q.r3 tq (qv) q.dfr q.cnt q.lvg q.en q.pan) :: (rQ tq q.runs) :: Rs) := hS;obtain ⟨m_1, hm_1⟩ : ∃ z_ : MS, z_ = (⟨m.made, m.shared, m.depth, m.deepest, m.trace, m.owners, m.calls, m.panics, m.recs, m.places⟩ : MS) := ⟨_, rfl⟩;replace hS : Sat w0 w ((mch bm pv fuel m_1) :: (FB bq q.id q.fn q.r0 o q.r2 q.r3 tq (qv) q.dfr q.cnt q.lvg q.en q.pan) :: (rQ tq q.runs) :: Rs) := by rw [hm_1]; exact Sat.shutM (⟨s.tr, s.ow, s.ca, s.pa, s.re, s.us, s.bp⟩ : MSl) (hs) hS
    have e1 : m_1 = m := hm_1;have hD : D = 0 := by have := c1; omega
    refine ⟨ha.defers, m, by rw [hD]; rfl, rfl, ?_⟩;rw [e1] at hS;exact hS.pickR (l := [_, FB bq q.id q.fn q.r0 o q.r2 q.r3 tq (qv) q.dfr q.cnt q.lvg q.en q.pan, rQ tq q.runs]) [0] (by decide) [_] rfl
  obtain ⟨d, rfl⟩ : ∃ d, D = d + 1 := ⟨D - 1, by have := c1; omega⟩
  generalize hR : callS P fuel (d + 1) m fn arg (some q) o dfr = R_
  refine jV ha rfl (decide_eq_false c1) ?_
  refine wp_skip (jJ (wp_seq (jX [0, 1, 2, 3, 4, 5, 6, 7, 8, 9, 10] (jQ [(0, 22, ptr bm 0), (1, 23, ptr bm 0), (2, 24, ptr bm 8)] ha fun a ha => ?_))))
  refine jU (d := 25) (b := bm) (j := 8) ha (hS.blk 0 rfl) rfl fun a ha => ?_
  refine jQ [(4, 26, iv (s.ca.n : Int)), (5, 27, iv fn), (6, 28, ptr bq 0), (7, 29, .bool dfr), (8, 30, .agg #[iv (s.ca.n : Int), iv fn, iv 0, iv 0, iv 0, iv 0, .slice none 0 0, ptr bq 0, .bool dfr, .bool false, .bool false, iv 1, iv (-1)])] ha fun a ha => ?_
  refine jZ (qJ 31 [iv (s.ca.n : Int), iv fn, iv 0, iv 0, iv 0, iv 0, .slice none 0 0, ptr bq 0, .bool dfr, .bool false, .bool false, iv 1, iv (-1)] 143 (ptr · 0) ha hS fun bf w a hb2 hS ha => ?_)
  refine jQ [(10, 11, ptr bf 0)] ha fun a ha => ?_
  refine jY (jJ (wp_seq (jX [0, 1, 2, 3, 4, 5] (jQ [(0, 32, ptr bf 0), (1, 33, iv arg), (2, 34, ptr bf 0), (3, 35, ptr bf 2), (4, 36, ptr bf 2)] ha fun a ha => ?_))))
  refine jZ (qH bf 2 (iv arg) 0 ha hS rfl rfl fun w a hS ha => ?_)
  refine jY ?_
  replace ha := ha.as [(0, ptr bm 0), (1, iv fn), (2, iv arg), (3, ptr bq 0), (4, .bool dfr), (10, .pointer none), (11, ptr bf 0)] rfl
  refine jJ (wp_seq (jX [0, 1] (jQ [(0, 12, iv (-1)), (1, 13, iv 1)] ha fun a ha => ?_)))
  refine jY (jJ (wp_seq (wp_seq (jX [0, 1] (jQ [(0, 37, ptr bq 0), (1, 38, .bool true)] ha fun a ha => ?_)))))
  refine jY (jJ ?_)
  refine jG ha rfl rfl ?_
  refine jX [0, 1, 2, 3, 4] (jQ [(0, 39, ptr bq 0), (1, 40, ptr bq 0), (2, 41, ptr bq 0)] ha fun a ha => ?_)
  refine jU (d := 42) (b := bq) (j := 0) ha (hS.blk 9 rfl) rfl fun a ha => ?_
  refine jQ [(4, 12, iv q.id)] ha fun a ha => ?_
  refine jY (jJ (wp_seq (wp_seq (jX [0] (jQ [(0, 43, .bool dfr)] ha fun a ha => ?_)))))
  refine jY (jJ (kZ (J := fun a_ w_ => Has 143 [(0, ptr bm 0), (1, iv fn), (2, iv arg), (4, .bool dfr), (10, .pointer none), (11, ptr bf 0), (13, iv (if dfr = true then 3 else 1)), (12, iv q.id), (43, .bool dfr)] a_ ∧ Sat w0 w_ ((FB bf (s.ca.n : Int) fn arg 0 0 0 (⟨none, 0, 0⟩) (ptr bq 0) dfr false false 1 (-1)) :: (MB bm pv fuel m.made m.shared m.depth m.deepest s.tr s.ow s.ca s.pa s.re s.bp) :: (rE s.tr m.trace) :: (rI s.ow m.owners) :: (rC s.ca m.calls) :: (rP s.pa s.us) :: (jW (yQ s.us)) :: (rV s.re m.recs) :: (yY s.bp m.places) :: (FB bq q.id q.fn q.r0 o q.r2 q.r3 tq (qv) q.dfr q.cnt q.lvg q.en q.pan) :: (rQ tq q.runs) :: Rs)) ?_ ?_))
  ·
    rcases Bool.eq_false_or_eq_true dfr with c3 | c3
    ·
      refine jG ha rfl c3 ?_;refine jX [0] (jQ [(0, 13, iv 3)] ha fun a ha => ?_);refine jY ?_;have e4 : ((if dfr = true then 3 else 1) : Int) = 3 := by simp [c1, c3]
      refine jJ ⟨?_, ?_⟩
      · first | (rw [e4]; exact ha.keeps [0, 1, 2, 4, 10, 11, 13, 12, 43] _ rfl) | exact ha.keeps [0, 1, 2, 4, 10, 11, 13, 12, 43] _ rfl
      · first | (rw [e4]; exact hS) | exact hS
    refine jV ha rfl c3 ?_;refine wp_skip ?_;have e5 : ((if dfr = true then 3 else 1) : Int) = 1 := by simp [c1, c3]
    refine jJ ⟨?_, ?_⟩
    · first | (rw [e5]; exact ha.keeps [0, 1, 2, 4, 10, 11, 13, 12, 43] _ rfl) | exact ha.keeps [0, 1, 2, 4, 10, 11, 13, 12, 43] _ rfl
    · first | (rw [e5]; exact hS) | exact hS
  rintro a w ⟨ha, hS⟩
  refine wp_seq (jX [0, 1, 2, 3, 4, 5, 6, 7, 8, 9, 10, 11, 12, 13, 14, 15] (jQ [(0, 44, ptr bm 0), (1, 45, ptr bm 0), (2, 46, ptr bm 0), (3, 47, ptr bm 8)] ha fun a ha => ?_))
  refine jU (d := 48) (b := bm) (j := 8) ha (hS.blk 1 rfl) rfl fun a ha => ?_
  refine jQ [(5, 49, iv fn), (6, 50, iv q.id), (7, 51, .bool dfr), (8, 52, .agg #[iv fn, iv q.id, .bool dfr, iv 4, iv 0]), (9, 53, iv arg), (10, 54, .agg #[iv fn, iv q.id, .bool dfr, iv 4, iv 0, iv arg])] ha fun a ha => ?_
  refine jZ (qJ 55 [iv fn, iv q.id, .bool dfr, iv 4, iv 0, iv arg] 147 (fun b => .slice (some ⟨b, 0, none⟩) 1 1) ha hS fun b6 w a hb7 hS ha => ?_)
  refine jZ (o_ap 56 5 0 (encC (m.calls ++ [(⟨fn, q.id, dfr, 4, 0, arg⟩ : CallI)])) ha hS rfl rfl (by rw [encC_length]; simp only [List.length_cons, List.length_nil]; have := hfit; omega) (encC_snoc _ _ _ _ _ _ _) fun s11 w a hS hn12 ha => ?_)
  refine jQ [(13, 57, ptr bm 0), (14, 58, ptr bm 8)] ha fun a ha => ?_
  refine jZ (qH bm 8 (.slice s11.A s11.n s11.c) 2 ha hS rfl rfl fun w a hS ha => ?_)
  refine jY ?_
  replace ha := ha.as [(0, ptr bm 0), (1, iv fn), (2, iv arg), (10, .pointer none), (11, ptr bf 0), (13, iv (if dfr = true then 3 else 1))] rfl
  refine jJ (wp_seq (jX [0, 1, 2, 3, 4, 5, 6, 7, 8] (jQ [(0, 59, ptr bm 0), (1, 60, iv (if dfr = true then 3 else 1)), (2, 61, iv fn), (3, 62, iv arg), (4, 63, ptr bf 0), (5, 64, ptr bf 0), (6, 65, ptr bf 0)] ha fun a ha => ?_)))
  refine jU (d := 66) (b := bf) (j := 0) ha (hS.blk 1 rfl) rfl fun a ha => ?_
  replace hS := hS.pickN 12 [2, 3, 4, 5, 6, 7, 8, 9, 0, 1, 10, 11]
  obtain ⟨m_2, hm_2⟩ : ∃ z_ : MS, z_ = (⟨m.made, m.shared, m.depth, m.deepest, m.trace, m.owners, (m.calls ++ [(⟨fn, q.id, dfr, 4, 0, arg⟩ : CallI)]), m.panics, m.recs, m.places⟩ : MS) := ⟨_, rfl⟩
  replace hS : Sat w0 w ((mch bm pv fuel m_2) :: (SX.blk b6 [iv fn, iv q.id, .bool dfr, iv 4, iv 0, iv arg] 147) :: (FB bf (s.ca.n : Int) fn arg 0 0 0 (⟨none, 0, 0⟩) (ptr bq 0) dfr false false 1 (-1)) :: (FB bq q.id q.fn q.r0 o q.r2 q.r3 tq (qv) q.dfr q.cnt q.lvg q.en q.pan) :: (rQ tq q.runs) :: Rs) := by rw [hm_2]; exact Sat.shutM (⟨s.tr, s.ow, s11, s.pa, s.re, s.us, s.bp⟩ : MSl) (hs) hS
  refine jZ (qG 67 (vs := [ptr bm 0, iv (if dfr = true then 3 else 1), iv fn, iv arg, iv (s.ca.n : Int)]) ha (tell_calls w0 w _ bm pv fuel m_2 (if dfr = true then 3 else 1) fn arg (s.ca.n : Int) hS (by rw [hm_2]; simp only []; have := hm.bnd; have := hm.own; have := hm.made1; omega)) fun v13 w a hp14 ha => ?_)
  obtain ⟨rfl, hS⟩ := hp14
  obtain ⟨mA, hmA⟩ : ∃ z_ : MS, z_ = m_2.tell (if dfr = true then 3 else 1) fn arg (s.ca.n : Int) := ⟨_, rfl⟩
  have hS := hS
  rw [← hmA] at hS
  obtain ⟨sA, hsA, hS⟩ := Sat.openM hS
  replace hS : Sat w0 w ((MB bm pv fuel mA.made mA.shared mA.depth mA.deepest sA.tr sA.ow sA.ca sA.pa sA.re sA.bp) :: (rE sA.tr mA.trace) :: (rI sA.ow mA.owners) :: (rC sA.ca mA.calls) :: (rP sA.pa sA.us) :: (jW (yQ sA.us)) :: (rV sA.re mA.recs) :: (yY sA.bp mA.places) :: (SX.blk b6 [iv fn, iv q.id, .bool dfr, iv 4, iv 0, iv arg] 147) :: (FB bf (s.ca.n : Int) fn arg 0 0 0 (⟨none, 0, 0⟩) (ptr bq 0) dfr false false 1 (-1)) :: (FB bq q.id q.fn q.r0 o q.r2 q.r3 tq (qv) q.dfr q.cnt q.lvg q.en q.pan) :: (rQ tq q.runs) :: Rs) := hS
  have hdA : mA.depth = m.depth := by rw [hmA, hm_2]; rfl
  refine jY (jJ (wp_seq (jX [0, 1, 2, 3, 4, 5, 6, 7] (jQ [(0, 68, ptr bm 0), (1, 69, ptr bm 0), (2, 70, ptr bm 4)] ha fun a ha => ?_))))
  refine jU (d := 71) (b := bm) (j := 4) ha (hS.blk 0 rfl) rfl fun a ha => ?_
  refine zJ 72 (mA.depth + 1) ha fun a ha => ?_
  refine jQ [(5, 73, ptr bm 0), (6, 74, ptr bm 4)] ha fun a ha => ?_
  refine jZ (qH bm 4 (iv (mA.depth + 1)) 0 ha hS rfl rfl fun w a hS ha => ?_)
  refine jY ?_
  replace ha := ha.as [(0, ptr bm 0), (10, .pointer none), (11, ptr bf 0)] rfl
  refine jJ (wp_seq (xH 12 13 hS fun w hS => ?_))
  refine jK (k := 9) [(0, 75, ptr bm 0), (1, 76, ptr bm 0), (2, 77, ptr bm 0), (3, 78, ptr bm 5)] ha (.inr hS) fun a ha => ?_
  refine qW 4 (d := 79) (b := bm) (j := 5) ha hS (fun _ hw => hw.blk 0 rfl) rfl fun a ha => ?_
  refine jK (k := 5) [(5, 80, ptr bm 0), (6, 81, ptr bm 0), (7, 82, ptr bm 4)] ha (.inr hS) fun a ha => ?_
  refine qW 8 (d := 83) (b := bm) (j := 4) ha hS (fun _ hw => hw.blk 0 rfl) rfl fun a ha => ?_
  refine zQ 9 (iv (max mA.deepest (mA.depth + 1))) ha ((qZ (v := .int .i64 (if mA.deepest < (mA.depth + 1) then (mA.depth + 1) else mA.deepest)) ha (zW (op := (Op.call { callee := (Callee.builtin Builtin.max), args := #[(Operand.tmp 79), (Operand.tmp 83)], argTypes := #[3, 3] })) (d := some 84) (ty := 3)) (by kernel_rfl) (fun _ => by kernel_rfl)).as (by congr 1; omega)) (.inr hS) fun a ha => ?_
  refine jK (k := 1) [(10, 85, ptr bm 0), (11, 86, ptr bm 5)] ha (.inr hS) fun a ha => ?_
  refine jH 12 (qH bm 5 (iv (max mA.deepest (mA.depth + 1))) 0 ha hS rfl rfl fun w a hS ha => ?_)
  refine xJ (xX (jJ (wp_seq (jX [0, 1, 2] (jQ [(0, 87, ptr bm 0), (1, 88, ptr bf 0)] ha fun a ha => ?_)))))
  replace hS : Sat w0 w ((MB bm pv fuel mA.made mA.shared (mA.depth + 1) (max mA.deepest (mA.depth + 1)) sA.tr sA.ow sA.ca sA.pa sA.re sA.bp) :: (rE sA.tr mA.trace) :: (rI sA.ow mA.owners) :: (rC sA.ca mA.calls) :: (rP sA.pa sA.us) :: (jW (yQ sA.us)) :: (rV sA.re mA.recs) :: (yY sA.bp mA.places) :: (SX.blk b6 [iv fn, iv q.id, .bool dfr, iv 4, iv 0, iv arg] 147) :: (FB bf (s.ca.n : Int) fn arg 0 0 0 (⟨none, 0, 0⟩) (ptr bq 0) dfr false false 1 (-1)) :: (FB bq q.id q.fn q.r0 o q.r2 q.r3 tq (qv) q.dfr q.cnt q.lvg q.en q.pan) :: (rQ tq q.runs) :: Rs) := hS
  obtain ⟨m_3, hm_3⟩ : ∃ z_ : MS, z_ = (⟨mA.made, mA.shared, (mA.depth + 1), (max mA.deepest (mA.depth + 1)), mA.trace, mA.owners, mA.calls, mA.panics, mA.recs, mA.places⟩ : MS) := ⟨_, rfl⟩
  replace hS : Sat w0 w ((mch bm pv fuel m_3) :: (SX.blk b6 [iv fn, iv q.id, .bool dfr, iv 4, iv 0, iv arg] 147) :: (FB bf (s.ca.n : Int) fn arg 0 0 0 (⟨none, 0, 0⟩) (ptr bq 0) dfr false false 1 (-1)) :: (FB bq q.id q.fn q.r0 o q.r2 q.r3 tq (qv) q.dfr q.cnt q.lvg q.en q.pan) :: (rQ tq q.runs) :: Rs) := by rw [hm_3]; exact Sat.shutM (⟨sA.tr, sA.ow, sA.ca, sA.pa, sA.re, sA.us, sA.bp⟩ : MSl) (hsA) hS
  replace hS : Sat w0 w ((rQ (⟨none, 0, 0⟩) []) :: (mch bm pv fuel m_3) :: (SX.blk b6 [iv fn, iv q.id, .bool dfr, iv 4, iv 0, iv arg] 147) :: (FB bf (s.ca.n : Int) fn arg 0 0 0 (⟨none, 0, 0⟩) (ptr bq 0) dfr false false 1 (-1)) :: (FB bq q.id q.fn q.r0 o q.r2 q.r3 tq (qv) q.dfr q.cnt q.lvg q.en q.pan) :: (rQ tq q.runs) :: Rs) := Sat.nilRow hS
  replace hS := hS.pickN 6 [3, 0, 1, 2, 4, 5]
  obtain ⟨f_1, hf_1⟩ : ∃ z_ : FS, z_ = (⟨(s.ca.n : Int), fn, arg, 0, 0, 0, [], dfr, false, false, 1, (-1)⟩ : FS) := ⟨_, rfl⟩
  replace hS : Sat w0 w ((frm bf f_1 (ptr bq 0)) :: (mch bm pv fuel m_3) :: (SX.blk b6 [iv fn, iv q.id, .bool dfr, iv 4, iv 0, iv arg] 147) :: (FB bq q.id q.fn q.r0 o q.r2 q.r3 tq (qv) q.dfr q.cnt q.lvg q.en q.pan) :: (rQ tq q.runs) :: Rs) := by rw [hf_1]; exact Sat.shutF (⟨none, 0, 0⟩ : Sl) hS
  have e1 : m_3 = m.enter fn arg (parId (some q)) dfr := by rw [hm_3, hmA, hm_2]; simp only [MS.enter, MS.tell, hcn, parId]
  have e2 : f_1 = m.frame fn arg dfr := by rw [hf_1]; simp only [MS.frame, hcn]
  replace hS := hS.pickN 5 [3, 4, 0, 1, 2]
  obtain ⟨f_2, hf_2⟩ : ∃ z_ : FS, z_ = (⟨q.id, q.fn, q.r0, o, q.r2, q.r3, q.runs, q.dfr, q.cnt, q.lvg, q.en, q.pan⟩ : FS) := ⟨_, rfl⟩
  replace hS : Sat w0 w ((frm bq f_2 (qv)) :: (frm bf f_1 (ptr bq 0)) :: (mch bm pv fuel m_3) :: (SX.blk b6 [iv fn, iv q.id, .bool dfr, iv 4, iv 0, iv arg] 147) :: Rs) := by rw [hf_2]; exact Sat.shutF tq hS
  have eq1 : f_2 = { q with r1 := o } := hf_2
  rw [eq1] at hS
  replace hS : Sat w0 w ((qV (ptr bq 0) qv (qX (some q) o)) :: (frm bf f_1 (ptr bq 0)) :: (mch bm pv fuel m_3) :: (SX.blk b6 [iv fn, iv q.id, .bool dfr, iv 4, iv 0, iv arg] 147) :: Rs) := Sat.shutPar hS
  replace hS := hS.pickN 4 [2, 1, 0]
  replace hS : Sat w0 w ((mch bm pv fuel (m.enter fn arg (parId (some q)) dfr)) :: (frm bf (m.frame fn arg dfr) (ptr bq 0)) :: (qV (ptr bq 0) qv (qX (some q) o)) :: Rs) := by rw [e1, e2] at hS; exact hS
  have hme : OkM fuel (m.enter fn arg (parId (some q)) dfr) (x + 1) := OkM.enter hm _ _ _ _
  have hfe := frame_ok (n := P.length) m fn arg (parId (some q)) dfr h0 h1
  have hgp : OkP (m.enter fn arg (parId (some q)) dfr) (some q) := fun q hq => hp q hq
  refine jZ (o_call (Post := bodyPost_ w0 bm bf pv fuel Rs (ptr bq 0) qv (some q) (bodyS fuel (callS P fuel d) (P.getD (m.frame fn arg dfr).fn.toNat []) (some q) (fuel - (m.enter fn arg (parId (some q)) dfr).made).toNat.succ (m.enter fn arg (parId (some q)) dfr) (m.frame fn arg dfr) o 0)) ha (by decide) (zW (op := (Op.call { callee := (Callee.value (Operand.func 107)), args := #[(Operand.tmp 87), (Operand.tmp 88)], argTypes := #[83, 139] })) (d := some 89) (ty := 0)) rfl Try.func107 (by kernel_rfl) (body_calls P hP d fuel bm pv sbs (IH d rfl) w0 w _ bf _ _ (ptr bq 0) qv (some q) o (x + 1) hS (by simpa [MS.frame] using hme) hfe (by show m.depth + 1 + d = 8; omega) (by show 0 ≤ m.depth + 1; omega) (fun h => hdp h) hgp hPr) (fun v16 w a hp15 ha => ?_) (fun c_ w hp15 => then_p (?_)) (fun _ hp_ => hp_))
  rotate_left
  ·
    obtain ⟨m3, hres, rfl, hS9⟩ := hp15;exact ⟨ha.defers, m3, by rw [← hR]; exact callS_spent (fn := fn) hres, rfl, hS9⟩
  obtain ⟨m3, f3, o3, hres, rfl, hS⟩ := hp15
  obtain ⟨hok3, hgr3, hof3⟩ := bodyS_ok (x := x + 1) (callS_ok hP fuel d) (body_steps hP h0 h1) _ _ _ _ _ (by simpa [MS.frame] using hme) hfe hres
  generalize hR2 : runsS (callS P fuel d) f3.runs.length m3 f3 (some q) o3 = R2_
  have hRc : R_ = tailS R2_ := by rw [← hR, callS_done (fn := fn) hres, hR2]
  have ha : Has 143 [(0, ptr bm 0), (10, .pointer none), (11, ptr bf 0), (87, ptr bm 0), (88, ptr bf 0)] a := ha.keeps [0, 10, 11, 87, 88] _ rfl
  refine jY (jJ (wp_seq (wp_block ?_)))
  replace hS : Sat w0 w ((mch bm pv fuel m3) :: (frm bf f3 (ptr bq 0)) :: (qV (ptr bq 0) qv (qX (some q) o3)) :: Rs) := hS
  refine wp_loop_ghost (fun n_ a_ w_ => ∃ (k : Nat) (m1 : MS) (f1 : FS), n_ = (1 + k) ∧ (runsS (callS P fuel d) k m1 f1 (some q) o3 = R2_) ∧ (f1.runs.length = k) ∧ (OkM fuel m1 (2 * f1.runs.length + (x + 1))) ∧ (OkF P.length m1 f1) ∧ (Grew m3 m1) ∧ Has 143 [(0, ptr bm 0), (11, ptr bf 0)] a_ ∧ Sat w0 w_ ((mch bm pv fuel m1) :: (frm bf f1 (ptr bq 0)) :: (qV (ptr bq 0) qv (qX (some q) o3)) :: Rs)) _ ⟨_, m3, f3, rfl, hR2, rfl, hok3, hof3, Grew.refl _, ha.keeps [0, 11] _ rfl, hS⟩ ?_
  rintro n_ a w ⟨k, m1, f1, rfl, hR_, hk, hok, hof, hgr, ha, hS⟩
  obtain ⟨s, t, hs, hS⟩ := Sat.openMF hS
  replace hS : Sat w0 w ((MB bm pv fuel m1.made m1.shared m1.depth m1.deepest s.tr s.ow s.ca s.pa s.re s.bp) :: (rE s.tr m1.trace) :: (rI s.ow m1.owners) :: (rC s.ca m1.calls) :: (rP s.pa s.us) :: (jW (yQ s.us)) :: (rV s.re m1.recs) :: (yY s.bp m1.places) :: (FB bf f1.id f1.fn f1.r0 f1.r1 f1.r2 f1.r3 t (ptr bq 0) f1.dfr f1.cnt f1.lvg f1.en f1.pan) :: (rQ t f1.runs) :: (qV (ptr bq 0) qv (qX (some q) o3)) :: Rs) := hS
  have htn : t.n = f1.runs.length := hS.rowL (s := t) (enc := cellsR) 9 yG (by decide) rfl
  have hrl : f1.runs.length ≤ 1000 := by have := hok.bnd; have := hok.made1; omega
  refine wp_seq (wp_seq (jX [0, 1, 2, 3, 4, 5] (jQ [(0, 90, ptr bf 0), (1, 91, ptr bf 0), (2, 92, ptr bf 6)] ha fun a ha => ?_)))
  refine jU (d := 93) (b := bf) (j := 6) ha (hS.blk 8 rfl) rfl fun a ha => ?_
  refine jQ [(4, 94, iv (t.n : Int)), (5, 95, .bool (decide ((t.n : Int) > 0)))] ha fun a ha => ?_
  refine jY ?_
  replace ha := ha.as [(0, ptr bm 0), (11, ptr bf 0), (90, ptr bf 0), (91, ptr bf 0), (92, ptr bf 6), (93, .slice t.A t.n t.c), (94, iv (t.n : Int)), (95, .bool (decide ((t.n : Int) > 0)))] rfl
  refine jJ ?_
  by_cases c17 : (t.n : Int) > 0
  ·
    refine jG ha rfl (decide_eq_true c17) ?_;refine wp_skip (jJ (wp_block (wp_seq ?_)));have hpos : 0 < f1.runs.length := by rw [← htn]; have := c17; omega
    obtain ⟨z, hz⟩ : ∃ z, f1.runs[t.n - 1]? = some z := ⟨_, List.getElem?_eq_getElem (by rw [htn]; omega)⟩;have hzf := hof.runs z (List.mem_of_getElem? hz);have hlast : f1.runs.getLast? = some z := by rw [List.getLast?_eq_getElem?, ← htn]; exact hz
    obtain ⟨k', hks⟩ : ∃ k', k = k' + 1 := ⟨k - 1, by omega⟩;have hdl : f1.runs.dropLast = f1.runs.take (t.n - 1) := by rw [List.dropLast_eq_take, htn]
    refine xH 13 14 hS fun w hS => ?_;refine jK (k := 11) [(0, 96, ptr bf 0), (1, 97, ptr bf 0), (2, 98, ptr bf 6)] ha (.inr hS) fun a ha => ?_;refine qW 3 (d := 99) (b := bf) (j := 6) ha hS (fun _ hw => hw.blk 8 rfl) rfl fun a ha => ?_;refine jK (k := 7) [(4, 100, ptr bf 0), (5, 101, ptr bf 0), (6, 102, ptr bf 6)] ha (.inr hS) fun a ha => ?_;refine qW 7 (d := 103) (b := bf) (j := 6) ha hS (fun _ hw => hw.blk 8 rfl) rfl fun a ha => ?_;refine jK (k := 5) [(8, 104, iv (t.n : Int))] ha (.inr hS) fun a ha => ?_;refine kW 9 105 ((t.n : Int) - 1) ha (.inr hS) fun a ha => ?_;refine zQ 10 (.pointer (some ⟨bk t, (t.n - 1) * 2, none⟩)) ha (xW (s := t) (el := 175) (sz := 2) (j := (t.n - 1)) ha (yU (t := 141) (x := 99) (y := 105) (d := 106)) rfl rfl (by kernel_rfl) (by kernel_rfl) (hS.rowA (s := t) 9 rfl (by have := (List.getElem?_eq_some_iff.1 hz).1; rw [encR_length]; omega)) ((by omega)) (by have h9 := hS.rowL (s := t) (enc := cellsR) 9 yG (by decide) rfl; have := (List.getElem?_eq_some_iff.1 hz).1; omega)) (.inr hS) fun a ha => ?_;refine zH 11 (.agg #[iv z.1, iv z.2]) ha (v_loadL ha (zV (t := 175) (x := 106) (d := 107) (ty := 175)) rfl (fun w' hw => run_loadVar_agg (vs := [iv z.1, iv z.2]) (by kernel_rfl) (fun i u hu => by match i, hu with | 0, hu => rw [add0]; rw [← Option.some.inj hu]; exact (((hw.rdC (s := t) 9 rfl)).cells _ _ ((flat_get (enc := cellsR) (o := 0) yG hz (by decide)).trans rfl)) | 1, hu => rw [add0]; rw [← Option.some.inj hu]; exact (((hw.rdC (s := t) 9 rfl)).cells _ _ ((flat_get (enc := cellsR) (o := 1) yG hz (by decide)).trans rfl)) | n + 2, hu => simp at hu))) hS fun a ha => ?_;refine jH 12 (qJ 14 [iv 0, iv 0] 175 (ptr · 0) ha hS fun b18 w a hb19 hS ha => ?_);refine ⟨.inr (Sat.rest [_] hS), ?_⟩;refine jH 13 (o_sa 0 ha (qU (t := 175) (x := 14) (y := 107)) hS fun w a hS ha => ?_);refine xJ (xX (jJ (wp_seq (xH 14 15 hS fun w hS => ?_))));refine jK (k := 11) [(0, 108, ptr bf 0), (1, 109, ptr bf 0), (2, 110, ptr bf 0), (3, 111, ptr bf 6)] ha (.inr hS) fun a ha => ?_;refine qW 4 (d := 112) (b := bf) (j := 6) ha hS (fun _ hw => hw.blk 9 rfl) rfl fun a ha => ?_;refine jK (k := 7) [(5, 113, ptr bf 0), (6, 114, ptr bf 0), (7, 115, ptr bf 6)] ha (.inr hS) fun a ha => ?_;refine qW 8 (d := 116) (b := bf) (j := 6) ha hS (fun _ hw => hw.blk 9 rfl) rfl fun a ha => ?_;refine jK (k := 5) [(9, 117, iv (t.n : Int))] ha (.inr hS) fun a ha => ?_;refine kW 10 118 ((t.n : Int) - 1) ha (.inr hS) fun a ha => ?_;refine zQ 11 (.slice t.A (t.n - 1) t.c) ha (v_takeZ (el := 175) (j := t.n - 1) ha (zW (op := (Op.slice 141 (Operand.tmp 112) none (some (Operand.tmp 118)) none)) (d := some 119) (ty := 141)) rfl rfl (by kernel_rfl) (by kernel_rfl) (by omega) (Nat.sub_le _ _) (row_cap hS 10 rfl)) (.inr hS) fun a ha => ?_;refine jK (k := 1) [(12, 120, ptr bf 0), (13, 121, ptr bf 6)] ha (.inr hS) fun a ha => ?_;replace hS : Sat w0 w ((SX.blk b18 [iv z.1, iv z.2] 175) :: (MB bm pv fuel m1.made m1.shared m1.depth m1.deepest s.tr s.ow s.ca s.pa s.re s.bp) :: (rE s.tr m1.trace) :: (rI s.ow m1.owners) :: (rC s.ca m1.calls) :: (rP s.pa s.us) :: (jW (yQ s.us)) :: (rV s.re m1.recs) :: (yY s.bp m1.places) :: (FB bf f1.id f1.fn f1.r0 f1.r1 f1.r2 f1.r3 t (ptr bq 0) f1.dfr f1.cnt f1.lvg f1.en f1.pan) :: (SX.row (.slice t.A (t.n - 1) t.c) 175 2 (encR (f1.runs.take (t.n - 1)))) :: (qV (ptr bq 0) qv (qX (some q) o3)) :: Rs) := by have hh := Sat.rowTake hS 10 rfl (t.n - 1) (Nat.sub_le _ _); rw [show (encR f1.runs).take ((t.n - 1) * 2) = encR (f1.runs.take (t.n - 1)) from flat_take yG _ _] at hh; exact hh
    refine jH 14 (qH bf 6 (.slice t.A (t.n - 1) t.c) 9 ha hS rfl rfl fun w a hS ha => ?_);refine xJ (xX (jJ (jX [0, 1, 2, 3, 4, 5, 6, 7, 8, 9] (jQ [(0, 122, ptr bm 0), (1, 123, ptr bf 0), (2, 124, ptr bm 0), (3, 125, ptr b18 0)] ha fun a ha => ?_))));refine jU (d := 126) (b := b18) (j := 0) ha (hS.blk 0 rfl) rfl fun a ha => ?_;refine jQ [(5, 127, ptr b18 1)] ha fun a ha => ?_;refine jU (d := 128) (b := b18) (j := 1) ha (hS.blk 0 rfl) rfl fun a ha => ?_;refine jQ [(7, 129, ptr bf 0)] ha fun a ha => ?_;replace hS := hS.pickN 12 [1, 2, 3, 4, 5, 6, 7, 8, 0, 9, 10, 11];obtain ⟨m_4, hm_4⟩ : ∃ z_ : MS, z_ = (⟨m1.made, m1.shared, m1.depth, m1.deepest, m1.trace, m1.owners, m1.calls, m1.panics, m1.recs, m1.places⟩ : MS) := ⟨_, rfl⟩;replace hS : Sat w0 w ((mch bm pv fuel m_4) :: (SX.blk b18 [iv z.1, iv z.2] 175) :: (SX.blk bf [iv f1.id, iv f1.fn, iv f1.r0, iv f1.r1, iv f1.r2, iv f1.r3, .slice t.A (t.n - 1) t.c, ptr bq 0, .bool f1.dfr, .bool f1.cnt, .bool f1.lvg, iv f1.en, iv f1.pan] 143) :: (SX.row (.slice t.A (t.n - 1) t.c) 175 2 (encR (f1.runs.take (t.n - 1)))) :: (qV (ptr bq 0) qv (qX (some q) o3)) :: Rs) := by rw [hm_4]; exact Sat.shutM (⟨s.tr, s.ow, s.ca, s.pa, s.re, s.us, s.bp⟩ : MSl) (hs) hS
    replace hS := hS.pickN 5 [2, 3, 0, 1, 4];obtain ⟨f_3, hf_3⟩ : ∃ z_ : FS, z_ = (⟨f1.id, f1.fn, f1.r0, f1.r1, f1.r2, f1.r3, (f1.runs.take (t.n - 1)), f1.dfr, f1.cnt, f1.lvg, f1.en, f1.pan⟩ : FS) := ⟨_, rfl⟩;replace hS : Sat w0 w ((frm bf f_3 (ptr bq 0)) :: (mch bm pv fuel m_4) :: (SX.blk b18 [iv z.1, iv z.2] 175) :: (qV (ptr bq 0) qv (qX (some q) o3)) :: Rs) := by rw [hf_3]; exact Sat.shutF (⟨t.A, (t.n - 1), t.c⟩ : Sl) hS
    have e1 : m_4 = m1 := hm_4;have e2 : f_3 = ({ f1 with runs := f1.runs.dropLast } : FS) := by rw [hf_3, ← hdl]
    replace hS : Sat w0 w ((frm bf ({ f1 with runs := f1.runs.dropLast } : FS) (ptr bq 0)) :: (mch bm pv fuel m1) :: (SX.blk b18 [iv z.1, iv z.2] 175) :: (qV (ptr bq 0) qv (qX (some q) o3)) :: Rs) := by rw [e1, e2] at hS; exact hS
    replace hS : Sat w0 w ((qV (.pointer (some ⟨bf, 0, none⟩)) (ptr bq 0) (qX (some ({ f1 with runs := f1.runs.dropLast } : FS)) f1.r1)) :: (mch bm pv fuel m1) :: (SX.blk b18 [iv z.1, iv z.2] 175) :: (qV (ptr bq 0) qv (qX (some q) o3)) :: Rs) := Sat.shutPar hS;replace hS := hS.pickN 4 [1, 0, 2, 3];refine jZ (o_call (Post := callPost w0 bm pv fuel ((SX.blk b18 [iv z.1, iv z.2] 175) :: (qV (ptr bq 0) qv (qX (some q) o3)) :: Rs) (.pointer (some ⟨bf, 0, none⟩)) (ptr bq 0) (some ({ f1 with runs := f1.runs.dropLast } : FS)) (callS P fuel d m1 z.1 z.2 (some ({ f1 with runs := f1.runs.dropLast } : FS)) f1.r1 true)) ha (by decide) (zW (op := (Op.call { callee := (Callee.value (Operand.func 95)), args := #[(Operand.tmp 124), (Operand.tmp 126), (Operand.tmp 128), (Operand.tmp 129), (Operand.const (Value.bool true))], argTypes := #[83, 3, 3, 139, 4] })) (d := some 130) (ty := 139)) rfl Try.func95 (by kernel_rfl) (IH d rfl w0 w _ m1 z.1 z.2 _ _ (some ({ f1 with runs := f1.runs.dropLast } : FS)) f1.r1 true (2 * f1.runs.dropLast.length + (x + 1)) hS (hok.less (by rw [List.length_dropLast]; omega)) (by rw [hgr.depth]; have := hgr3.depth; rw [this]; show m.depth + 1 + d = 8; omega) (by rw [hgr.depth]; have := hgr3.depth; rw [this]; show 0 ≤ m.depth + 1; omega) hzf.1 hzf.2 (fun _ => rfl) (fun q hq => by cases hq; exact hof.pan) (hPr.more [_, _])) (fun v21 w a hp20 ha => ?_) (fun c_ w hp20 => in_p (then_p (in_p (then_p (?_))))) (fun _ hp_ => hp_))
    rotate_left
    ·
      obtain ⟨m2, hres, rfl, hS9⟩ := hp20;refine ⟨ha.defers, m2, ?_, rfl, ?_⟩
      · have h9 : R2_ = .spent m2 := by rw [← hR_, hks]; simp only [runsS, hlast]; rw [hres]
        rw [hRc, h9]; rfl
      · exact hS9.pickR (l := [_, SX.blk b18 [iv z.1, iv z.2] 175, qV (ptr bq 0) qv (qX (some q) o3)]) [0] (by decide) [_] rfl
    obtain ⟨m2, dd, o1, bd, hres, rfl, hS⟩ := hp20;obtain ⟨bf', hbf, hS⟩ := Sat.openPar (q := { ({ f1 with runs := f1.runs.dropLast } : FS) with r1 := o1 }) (Sat.front (l := [_, _]) hS);have hbf2 : bf' = bf := by simpa using hbf.symm
    rw [hbf2] at hS;have hS := Sat.pickR (l := [frm bf ({ f1 with runs := f1.runs.dropLast, r1 := o1 } : FS) (ptr bq 0), mch bm pv fuel m2, frm bd dd (.pointer (some ⟨bf, 0, none⟩))]) hS [1, 0, 2] (by decide) [mch bm pv fuel m2, frm bf ({ f1 with runs := f1.runs.dropLast, r1 := o1 } : FS) (ptr bq 0), frm bd dd (.pointer (some ⟨bf, 0, none⟩))] rfl;obtain ⟨hok2, hgr2, hofd⟩ := callS_ok hP fuel d m1 z.1 z.2 (some ({ f1 with runs := f1.runs.dropLast } : FS)) f1.r1 true m2 dd o1 (2 * f1.runs.dropLast.length + (x + 1)) (hok.less (by rw [List.length_dropLast]; omega)) hzf.1 hzf.2 hres;have hof2 : OkF P.length m2 ({ f1 with runs := f1.runs.dropLast, r1 := o1 } : FS) := by have g := hof.grew hgr2; exact ⟨g.id0, g.id1, g.fn0, g.fn1, g.en, g.pan, fun z hz => g.runs z (List.dropLast_subset _ hz)⟩
    have ha : Has 143 [(0, ptr bm 0), (11, ptr bf 0), (90, ptr bf 0), (91, ptr bf 0), (92, ptr bf 6), (93, .slice t.A t.n t.c), (94, iv (t.n : Int)), (95, .bool (decide ((t.n : Int) > 0))), (96, ptr bf 0), (97, ptr bf 0), (98, ptr bf 6), (99, .slice t.A t.n t.c), (100, ptr bf 0), (101, ptr bf 0), (102, ptr bf 6), (103, .slice t.A t.n t.c), (104, iv (t.n : Int)), (105, iv ((t.n : Int) - 1)), (106, .pointer (some ⟨bk t, (t.n - 1) * 2, none⟩)), (107, .agg #[iv z.1, iv z.2]), (14, ptr b18 0), (108, ptr bf 0), (109, ptr bf 0), (110, ptr bf 0), (111, ptr bf 6), (112, .slice t.A t.n t.c), (113, ptr bf 0), (114, ptr bf 0), (115, ptr bf 6), (116, .slice t.A t.n t.c), (117, iv (t.n : Int)), (118, iv ((t.n : Int) - 1)), (119, .slice t.A (t.n - 1) t.c), (120, ptr bf 0), (121, ptr bf 6), (122, ptr bm 0), (123, ptr bf 0), (124, ptr bm 0), (125, ptr b18 0), (126, iv z.1), (127, ptr b18 1), (128, iv z.2), (129, ptr bf 0), (130, ptr bd 0)] a := ha.keeps [0, 11, 90, 91, 92, 93, 94, 95, 96, 97, 98, 99, 100, 101, 102, 103, 104, 105, 106, 107, 14, 108, 109, 110, 111, 112, 113, 114, 115, 116, 117, 118, 119, 120, 121, 122, 123, 124, 125, 126, 127, 128, 129, 130] _ rfl;refine jZ (qG 131 (vs := [ptr bm 0, ptr bf 0, ptr bd 0]) ha (behind_calls w0 w _ bm bf bd pv fuel m2 ({ f1 with runs := f1.runs.dropLast, r1 := o1 } : FS) dd (ptr bq 0) _ P.length hS hof2 hofd) fun v22 w a hp23 ha => ?_);obtain ⟨rfl, hS⟩ := hp23;refine jY (in_n (jJ ?_));replace hS := hS.pickN 5 [0, 1, 4];obtain ⟨hb1, hb2, hb3⟩ := behind_ok hok2 hof2 hofd;have hbr : (yZ ({ f1 with runs := f1.runs.dropLast, r1 := o1 } : FS) dd).runs = f1.runs.dropLast := by unfold yZ; (repeat' split) <;> rfl
    refine ⟨_, (show 1 + k' < 1 + k by omega), k', yK m2 ({ f1 with runs := f1.runs.dropLast, r1 := o1 } : FS) dd, yZ ({ f1 with runs := f1.runs.dropLast, r1 := o1 } : FS) dd, rfl, ?_, ?_, ?_, hb3, (hgr.trans hgr2).trans hb2, ha.keeps [0, 11] _ rfl, hS⟩
    · rw [← hR_, hks]; simp only [runsS, hlast]; rw [hres]
    · rw [hbr, List.length_dropLast]; omega
    · rw [hbr]; exact hb1
  refine jV ha rfl (decide_eq_false c17) ?_
  refine wp_exit (yX (yX (in_x (jJ (wp_seq ?_)))))
  have hk0 : k = 0 := by rw [← hk, ← htn]; have := c17; omega
  refine jX [0, 1, 2] (jQ [(0, 132, ptr bm 0), (1, 133, ptr bf 0)] ha fun a ha => ?_)
  replace hS : Sat w0 w ((MB bm pv fuel m1.made m1.shared m1.depth m1.deepest s.tr s.ow s.ca s.pa s.re s.bp) :: (rE s.tr m1.trace) :: (rI s.ow m1.owners) :: (rC s.ca m1.calls) :: (rP s.pa s.us) :: (jW (yQ s.us)) :: (rV s.re m1.recs) :: (yY s.bp m1.places) :: (FB bf f1.id f1.fn f1.r0 f1.r1 f1.r2 f1.r3 t (ptr bq 0) f1.dfr f1.cnt f1.lvg f1.en f1.pan) :: (rQ t f1.runs) :: (qV (ptr bq 0) qv (qX (some q) o3)) :: Rs) := hS
  obtain ⟨m_5, hm_5⟩ : ∃ z_ : MS, z_ = (⟨m1.made, m1.shared, m1.depth, m1.deepest, m1.trace, m1.owners, m1.calls, m1.panics, m1.recs, m1.places⟩ : MS) := ⟨_, rfl⟩
  replace hS : Sat w0 w ((mch bm pv fuel m_5) :: (FB bf f1.id f1.fn f1.r0 f1.r1 f1.r2 f1.r3 t (ptr bq 0) f1.dfr f1.cnt f1.lvg f1.en f1.pan) :: (rQ t f1.runs) :: (qV (ptr bq 0) qv (qX (some q) o3)) :: Rs) := by rw [hm_5]; exact Sat.shutM (⟨s.tr, s.ow, s.ca, s.pa, s.re, s.us, s.bp⟩ : MSl) (hs) hS
  replace hS := hS.pickN 4 [1, 2, 0, 3]
  obtain ⟨f_4, hf_4⟩ : ∃ z_ : FS, z_ = (⟨f1.id, f1.fn, f1.r0, f1.r1, f1.r2, f1.r3, f1.runs, f1.dfr, f1.cnt, f1.lvg, f1.en, f1.pan⟩ : FS) := ⟨_, rfl⟩
  replace hS : Sat w0 w ((frm bf f_4 (ptr bq 0)) :: (mch bm pv fuel m_5) :: (qV (ptr bq 0) qv (qX (some q) o3)) :: Rs) := by rw [hf_4]; exact Sat.shutF t hS
  have e1 : m_5 = m1 := hm_5
  have e2 : f_4 = f1 := hf_4
  replace hS := hS.pickN 3 [1, 0, 2]
  replace hS : Sat w0 w ((mch bm pv fuel m1) :: (frm bf f1 (ptr bq 0)) :: (qV (ptr bq 0) qv (qX (some q) o3)) :: Rs) := by rw [e1, e2] at hS; exact hS
  have hR3 : R2_ = .done m1 f1 o3 := by rw [← hR_, hk0]; rfl
  refine jZ (qG 134 (vs := [ptr bm 0, ptr bf 0]) ha (finish_calls w0 w _ bm bf pv fuel m1 f1 (ptr bq 0) P.length _ hS hok hof) fun v24 w a hp25 ha => ?_)
  obtain ⟨rfl, hS⟩ := hp25
  obtain ⟨mB, hmB⟩ : ∃ z_ : MS, z_ = finishS m1 f1 := ⟨_, rfl⟩
  have hS := hS
  rw [← hmB] at hS
  obtain ⟨sB, hsB, hS⟩ := Sat.openM hS
  replace hS : Sat w0 w ((MB bm pv fuel mB.made mB.shared mB.depth mB.deepest sB.tr sB.ow sB.ca sB.pa sB.re sB.bp) :: (rE sB.tr mB.trace) :: (rI sB.ow mB.owners) :: (rC sB.ca mB.calls) :: (rP sB.pa sB.us) :: (jW (yQ sB.us)) :: (rV sB.re mB.recs) :: (yY sB.bp mB.places) :: (frm bf f1 (ptr bq 0)) :: (qV (ptr bq 0) qv (qX (some q) o3)) :: Rs) := hS
  have hdB : mB.depth = m.depth + 1 := by rw [hmB]; show m1.depth = _; rw [hgr.depth]; exact hgr3.depth
  refine jY (jJ (wp_seq (jX [0, 1, 2, 3, 4, 5, 6, 7] (jQ [(0, 135, ptr bm 0), (1, 136, ptr bm 0), (2, 137, ptr bm 4)] ha fun a ha => ?_))))
  refine jU (d := 138) (b := bm) (j := 4) ha (hS.blk 0 rfl) rfl fun a ha => ?_
  refine zJ 139 (mB.depth - 1) ha fun a ha => ?_
  refine jQ [(5, 140, ptr bm 0), (6, 141, ptr bm 4)] ha fun a ha => ?_
  refine jZ (qH bm 4 (iv (mB.depth - 1)) 0 ha hS rfl rfl fun w a hS ha => ?_)
  refine jY ?_
  replace ha := ha.as [(11, ptr bf 0)] rfl
  refine jJ (wp_seq (jX [0, 1] (jQ [(0, 142, ptr bf 0), (1, 10, ptr bf 0)] ha fun a ha => ?_)))
  refine jY (jJ (wp_ret ?_))
  replace hS : Sat w0 w ((MB bm pv fuel mB.made mB.shared (mB.depth - 1) mB.deepest sB.tr sB.ow sB.ca sB.pa sB.re sB.bp) :: (rE sB.tr mB.trace) :: (rI sB.ow mB.owners) :: (rC sB.ca mB.calls) :: (rP sB.pa sB.us) :: (jW (yQ sB.us)) :: (rV sB.re mB.recs) :: (yY sB.bp mB.places) :: (frm bf f1 (ptr bq 0)) :: (qV (ptr bq 0) qv (qX (some q) o3)) :: Rs) := hS
  obtain ⟨m_6, hm_6⟩ : ∃ z_ : MS, z_ = (⟨mB.made, mB.shared, (mB.depth - 1), mB.deepest, mB.trace, mB.owners, mB.calls, mB.panics, mB.recs, mB.places⟩ : MS) := ⟨_, rfl⟩
  replace hS : Sat w0 w ((mch bm pv fuel m_6) :: (frm bf f1 (ptr bq 0)) :: (qV (ptr bq 0) qv (qX (some q) o3)) :: Rs) := by rw [hm_6]; exact Sat.shutM (⟨sB.tr, sB.ow, sB.ca, sB.pa, sB.re, sB.us, sB.bp⟩ : MSl) (hsB) hS
  replace hS : Sat w0 w ((mch bm pv fuel m_6) :: (frm bf f1 (ptr bq 0)) :: (qV (ptr bq 0) qv (qX (some q) o3)) :: Rs) := hS
  refine end_tmp (t := 10) (v := .pointer (some ⟨bf, 0, none⟩)) ha (by kernel_rfl) rfl ?_
  have e9 : m_6 = { finishS m1 f1 with depth := m1.depth - 1 } := by rw [hm_6, hmB]; rfl
  rw [e9] at hS
  exact ⟨_, f1, o3, bf, by rw [hRc, hR3]; rfl, rfl, hS⟩
theorem call_calls (P : List (List Stp)) (hP : ProgOk P) (fuel : Int) (bm : Nat) (pv : Sl) (sbs : List Sl) : ∀ d, CallC P fuel bm pv sbs d := by
 intro d
 induction d with
 | zero =>
  intro w0 w Rs m fn arg pvl qv p o dfr x hS hm hdep hd0 h0 h1 hdp hp hPr
  cases p with
  | none =>
   have hv : pvl = .pointer none := hS.fact_ 1 rfl;subst hv;exact call_none P hP 0 fuel bm pv sbs (fun d h => by omega) w0 w Rs m fn arg qv o dfr x hS hm hdep hd0 h0 h1 hdp hp hPr
  | some q =>
   obtain ⟨bq, hv, h2⟩ := Sat.openPar (q := { q with r1 := o }) (Sat.front (l := [_]) hS);subst hv;exact call_some P hP 0 fuel bm pv sbs (fun d h => by omega) w0 w Rs m fn arg bq q qv o dfr x (Sat.back (l := [_]) h2) hm hdep hd0 h0 h1 hdp hp hPr
 | succ d ih =>
  have ih' : ∀ d', d + 1 = d' + 1 → CallC P fuel bm pv sbs d' := fun d' h => by
   have : d' = d := by omega
   subst this;exact ih
  intro w0 w Rs m fn arg pvl qv p o dfr x hS hm hdep hd0 h0 h1 hdp hp hPr
  cases p with
  | none =>
   have hv : pvl = .pointer none := hS.fact_ 1 rfl;subst hv;exact call_none P hP (d + 1) fuel bm pv sbs ih' w0 w Rs m fn arg qv o dfr x hS hm hdep hd0 h0 h1 hdp hp hPr
  | some q =>
   obtain ⟨bq, hv, h2⟩ := Sat.openPar (q := { q with r1 := o }) (Sat.front (l := [_]) hS);subst hv;exact call_some P hP (d + 1) fuel bm pv sbs ih' w0 w Rs m fn arg bq q qv o dfr x (Sat.back (l := [_]) h2) hm hdep hd0 h0 h1 hdp hp hPr
abbrev mL (pv : Sl) (fuel : Int) (sp : Bool) (sh ma de : Int) (tr se : Sl) : List Value := [.slice pv.A pv.n pv.c, .int .i64 fuel, .bool sp, .int .i64 sh, .int .i64 ma, .int .i64 de, .slice tr.A tr.n tr.c, .slice se.A se.n se.c]
abbrev mG (pv : Sl) (fuel : Int) (sp : Bool) (sh ma de : Int) (tr se : Sl) : Value := .agg #[.slice pv.A pv.n pv.c, .int .i64 fuel, .bool sp, .int .i64 sh, .int .i64 ma, .int .i64 de, .slice tr.A tr.n tr.c, .slice se.A se.n se.c]
abbrev mV (pv : Sl) (fuel : Int) (q : MQ) (tr se : Sl) : Value := mG pv fuel q.spent q.shared q.made q.deep tr se
abbrev cL (f d r0 r1 r2 r3 : Int) (df : Sl) (k v : Int) (lv dfr pg : Bool) (pn : Int) (rc : Bool) (ou : Int) : List Value := [.int .i64 f, .int .i64 d, .int .i64 r0, .int .i64 r1, .int .i64 r2, .int .i64 r3, .slice df.A df.n df.c, .int .i64 k, .int .i64 v, .bool lv, .bool dfr, .bool pg, .int .i64 pn, .bool rc, .int .i64 ou]
abbrev cG (f d r0 r1 r2 r3 : Int) (df : Sl) (k v : Int) (lv dfr pg : Bool) (pn : Int) (rc : Bool) (ou : Int) : Value := .agg #[.int .i64 f, .int .i64 d, .int .i64 r0, .int .i64 r1, .int .i64 r2, .int .i64 r3, .slice df.A df.n df.c, .int .i64 k, .int .i64 v, .bool lv, .bool dfr, .bool pg, .int .i64 pn, .bool rc, .int .i64 ou]
abbrev cV (c : FQ) (df : Sl) : Value := cG c.f c.depth c.r0 c.r1 c.r2 c.r3 df c.kind c.value c.leaving c.deferred c.panicking c.panic c.recovered c.outer
abbrev oG (k v : Int) (tr : Sl) (ma : Int) : Value := .agg #[.int .i64 k, .int .i64 v, .slice tr.A tr.n tr.c, .int .i64 ma]
abbrev rS (s : Sl) (l : List (Int × Int)) : Asn := SX.row (.slice s.A s.n s.c) 61 2 (encR l)
theorem encR_one (l : List (Int × Int)) : (encR l).all Value.oneCell' = true := by
 rw [List.all_eq_true]
 intro v hv
 obtain ⟨x, _, hx⟩ := List.mem_flatMap.1 hv
 simp only [cellsR, List.mem_cons, List.not_mem_nil, or_false] at hx
 rcases hx with rfl | rfl <;> rfl
theorem encR_take (l : List (Int × Int)) (j : Nat) : (encR l).take (j * 2) = encR (l.take j) := flat_take yG l j
theorem encR_all {l : List (Int × Int)} {j : Nat} (h : j = l.length) : (encR l).take (j * 2) = encR l := by rw [encR_take, h, List.take_length]
def CallCQ (P : List (List Stp)) (fuel : Int) (pv : Sl) (sbs : List Sl) (d : Nat) : Prop :=
  ∀ (w0 w : World) (Rs : List Asn) (m : MQ) (c : FQ) (tr se df : Sl) (x : Nat), Sat w0 w (rE tr m.trace :: rS se m.seen :: rS df c.defers :: Rs) → OkQ fuel m (x + 2) → OkC P.length c → c.defers = [] → c.depth + d = 9 → 1 ≤ c.depth → Keeps w0 Rs (fun w => RdProg w pv sbs P) →
    Calls Try.prog 74 #[mV pv fuel m tr se, cV c df] w (Ret fun r w' => ∃ (q : MQ × FQ) (tr' se' df' : Sl), q = qCall P fuel d m c ∧ r = .tuple #[mV pv fuel q.1 tr' se', cV q.2 df'] ∧ Sat w0 w' (rE tr' q.1.trace :: rS se' q.1.seen :: rS df' q.2.defers :: Rs))
theorem code121 : Try.f121.body = some (Code.seq (cr Try.f121 0 false) (Code.seq (cr Try.f121 1 false) Code.ret)) := by kernel_rfl
theorem q_wrap {w0 w : World} {Rs : List Asn} {x : Int} (hS : Sat w0 w Rs) (h0 : -65536 ≤ x) (h1 : x ≤ 65534) :
  Calls Try.prog 121 #[.int .i64 x] w (Ret fun r w' => r = .int .i64 (w16 x) ∧ Sat w0 w' Rs) := by
 refine enter (n := 10) Try.func121 code121 (by kernel_rfl) (Nat.le_of_ble_eq_true rfl) (fun a ha => ?_)
 replace ha : Has 10 [(0, iv x)] a := ha
 refine wp_seq (jX [0] (jQ [(0, 2, iv 0)] ha fun a ha => ?_))
 refine jY (jJ (wp_seq (jX [0, 1, 2, 3, 4, 5, 6, 7] (jQ [(0, 3, iv x)] ha fun a ha => ?_))))
 refine zJ 4 (x + 32767) ha fun a ha => ?_
 refine zJ 5 ((x + 32767) + 1) ha fun a ha => ?_
 refine zJ 6 (((x + 32767) + 1) + 131072) ha fun a ha => ?_
 refine xU (iv ((((x + 32767) + 1) + 131072) % 65536)) ha ((qZ (v := .int .i64 (Int.tmod (((x + 32767) + 1) + 131072) 65536)) ha (zW (op := (Op.binOp BinOp.rem 3 (Operand.tmp 6) (Operand.const (Value.int IntKind.i64 65536)) 3)) (d := some 7) (ty := 3)) (by kernel_rfl) (fun _ => by kernel_rfl)).as (by rw [Int.tmod_eq_emod_of_nonneg (by omega)])) fun a ha => ?_
 refine zJ 8 (((((x + 32767) + 1) + 131072) % 65536) - 32767) ha fun a ha => ?_
 refine zJ 9 ((((((x + 32767) + 1) + 131072) % 65536) - 32767) - 1) ha fun a ha => ?_
 refine jQ [(7, 2, iv ((((((x + 32767) + 1) + 131072) % 65536) - 32767) - 1))] ha fun a ha => ?_
 refine jY (jJ (wp_ret (qK ha (by kernel_rfl) (yJ (t := 2) ha rfl) ?_)))
 exact ⟨congrArg (Value.int .i64) (by rw [w16_mod]; omega), hS⟩
theorem code85 : Try.f85.body = some (Code.seq (cr Try.f85 0 false) (Code.seq (Code.seq (cr Try.f85 1 false) (Code.cond (Operand.tmp 7) (Code.seq (cr Try.f85 2 false) Code.ret) Code.skip)) (Code.seq (cr Try.f85 3 false) Code.ret))) := by kernel_rfl
theorem q_most {w0 w : World} {Rs : List Asn} {x y : Int} (hS : Sat w0 w Rs) :
  Calls Try.prog 85 #[.int .i64 x, .int .i64 y] w (Ret fun r w' => r = .int .i64 (max x y) ∧ Sat w0 w' Rs) := by
 refine enter (n := 10) Try.func85 code85 (by kernel_rfl) (Nat.le_of_ble_eq_true rfl) (fun a ha => ?_)
 replace ha : Has 10 [(0, iv x), (1, iv y)] a := ha
 refine wp_seq (jX [0] (jQ [(0, 4, iv 0)] ha fun a ha => ?_))
 refine jY (jJ (wp_seq (wp_seq (jX [0, 1, 2] (jQ [(0, 5, iv x), (1, 6, iv y), (2, 7, .bool (decide (x > y)))] ha fun a ha => ?_)))))
 refine jY (jJ ?_)
 by_cases c1 : x > y
 ·
  refine jG ha rfl (decide_eq_true c1) ?_
  refine wp_seq (jX [0, 1] (jQ [(0, 8, iv x), (1, 4, iv x)] ha fun a ha => ?_))
  refine jY (jJ (wp_ret (xQ (qK ha (by kernel_rfl) (yJ (t := 4) ha rfl) ?_))))
  exact ⟨congrArg (Value.int .i64) (by omega), hS⟩
 refine jV ha rfl (decide_eq_false c1) ?_
 refine wp_skip (jJ (wp_seq (jX [0, 1] (jQ [(0, 9, iv y), (1, 4, iv y)] ha fun a ha => ?_))))
 refine jY (jJ (wp_ret (qK ha (by kernel_rfl) (yJ (t := 4) ha rfl) ?_)))
 exact ⟨congrArg (Value.int .i64) (by omega), hS⟩
theorem code86 : Try.f86.body = some (Code.seq (cr Try.f86 0 false) (Code.seq (cr Try.f86 1 false) (Code.seq (cr Try.f86 2 false) Code.ret))) := by kernel_rfl
theorem q_tell {w0 w : World} {Rs : List Asn} {pv : Sl} {fuel : Int} (m : MQ) {tr se : Sl} {k f v : Int} (hS : Sat w0 w (rE tr m.trace :: Rs)) (hlen : m.trace.length ≤ 1000) :
  Calls Try.prog 86 #[mV pv fuel m tr se, .int .i64 k, .int .i64 f, .int .i64 v] w (Ret fun r w' => ∃ tr' : Sl, r = mV pv fuel (qTell m k f v) tr' se ∧ Sat w0 w' (rE tr' (m.trace ++ [(k, f, v)]) :: Rs)) := by
 replace hS : Sat w0 w ((rE tr m.trace) :: Rs) := hS
 refine enter (n := 19) Try.func86 code86 (by kernel_rfl) (Nat.le_of_ble_eq_true rfl) (fun a ha => ?_)
 replace ha : Has 19 [(0, (mG pv fuel m.spent m.shared m.made m.deep tr se)), (1, iv k), (2, iv f), (3, iv v)] a := ha
 refine wp_seq (jX [0, 1] (jZ (qJ 4 (mL pv fuel m.spent m.shared m.made m.deep tr se) 121 (ptr · 0) ha hS fun b1 w a hb2 hS ha => ?_)))
 refine jZ (qJ 8 (mL (⟨none, 0, 0⟩) 0 false 0 0 0 (⟨none, 0, 0⟩) (⟨none, 0, 0⟩)) 121 (ptr · 0) ha hS fun b3 w a hb4 hS ha => ?_)
 refine jY (jJ (wp_seq (jX [0, 1, 2, 3, 4, 5, 6, 7, 8, 9] (jQ [(0, 9, ptr b1 6)] ha fun a ha => ?_))))
 refine jU (d := 10) (b := b1) (j := 6) ha (hS.blk 1 rfl) rfl fun a ha => ?_
 refine jQ [(2, 11, iv k), (3, 12, iv f), (4, 13, iv v), (5, 14, .agg #[iv k, iv f, iv v])] ha fun a ha => ?_
 refine jZ (qJ 15 [iv k, iv f, iv v] 57 (fun b => .slice (some ⟨b, 0, none⟩) 1 1) ha hS fun b5 w a hb6 hS ha => ?_)
 refine jZ (o_ap 16 3 0 (encE (m.trace ++ [(k, f, v)])) ha hS rfl rfl (by rw [encE_length]; simp only [List.length_cons, List.length_nil]; have := hlen; omega) (encE_snoc _ _ _ _) fun s10 w a hS hn11 ha => ?_)
 refine jQ [(8, 17, ptr b1 6)] ha fun a ha => ?_
 refine jZ (qH b1 6 (.slice s10.A s10.n s10.c) 2 ha hS rfl rfl fun w a hS ha => ?_)
 refine jY (jJ (wp_seq (jX [0, 1] (xG 18 ha (hS.blk 2 rfl) fun a ha => ?_))))
 refine jZ (o_sa 1 ha (qU (t := 121) (x := 8) (y := 18)) hS fun w a hS ha => ?_)
 refine jY (jJ (wp_ret (qK ha (by kernel_rfl) (xZ (t := 8) (ty := 121) (i := 1) ha rfl hS rfl (by kernel_rfl)) ?_)))
 replace hS := hS.pickN 4 [3]
 exact ⟨s10, rfl, hS⟩
theorem code102 : Try.f102.body = some (Code.seq (cr Try.f102 0 false) (Code.seq (Code.seq (cr Try.f102 1 false) (Code.block 0 (Code.seq (cr Try.f102 2 false) (Code.cond (Operand.tmp 10) (cr Try.f102 3 false) (Code.seq (cr Try.f102 4 false) (Code.cond (Operand.tmp 18) (cr Try.f102 5 true) (Code.seq (cr Try.f102 6 false) (Code.cond (Operand.tmp 36) (cr Try.f102 7 true) (Code.seq (cr Try.f102 8 false) (Code.cond (Operand.tmp 47) (Code.seq (cr Try.f102 9 false) (Code.cond (Operand.tmp 50) (cr Try.f102 10 false) Code.skip)) (Code.seq (cr Try.f102 11 false) (Code.cond (Operand.tmp 57) (cr Try.f102 12 false) (Code.seq (cr Try.f102 13 false) (Code.cond (Operand.tmp 65) (cr Try.f102 14 false) (Code.seq (cr Try.f102 15 false) (Code.cond (Operand.tmp 73) (Code.seq (cr Try.f102 16 false) (Code.cond (Operand.tmp 81) (Code.seq (cr Try.f102 17 false) (Code.seq (cr Try.f102 18 false) (Code.seq (cr Try.f102 19 false) (cr Try.f102 20 false)))) (Code.seq (cr Try.f102 21 false) (cr Try.f102 22 false)))) Code.skip)))))))))))))))) (Code.seq (cr Try.f102 23 true) Code.ret))) := by kernel_rfl
theorem q_simple {w0 w : World} {Rs : List Asn} {pv : Sl} {fuel : Int} (m : MQ) (c : FQ) (z : Stp) {tr se df : Sl} {n : Nat} (hS : Sat w0 w (rE tr m.trace :: Rs)) (hlen : m.trace.length ≤ 1000) (hs : StpOk n z) (h4 : ¬ z.k = 4) (h5 : ¬ z.k = 5) (h10 : ¬ z.k = 10) (h11 : ¬ z.k = 11) (hk : OkC n c) :
  Calls Try.prog 102 #[mV pv fuel m tr se, cV c df, .agg #[.int .i64 z.k, .int .i64 z.a, .int .i64 z.b]] w (Ret fun r w' => ∃ tr' : Sl, r = .tuple #[mV pv fuel (qY m c z).1 tr' se, cV (qY m c z).2 df] ∧ Sat w0 w' (rE tr' (qY m c z).1.trace :: Rs)) := by
 replace hS : Sat w0 w ((rE tr m.trace) :: Rs) := hS
 have ha0 := hk.get z.a
 have hb0 := hk.get z.b
 have ha1 := ha0.lo
 have ha2 := ha0.hi
 have hb1 := hb0.lo
 have hb2 := hb0.hi
 simp only [FQ.get] at ha1 ha2 hb1 hb2
 refine enter (n := 105) Try.func102 code102 (by kernel_rfl) (Nat.le_of_ble_eq_true rfl) (fun a ha => ?_)
 replace ha : Has 105 [(0, (mG pv fuel m.spent m.shared m.made m.deep tr se)), (1, (cG c.f c.depth c.r0 c.r1 c.r2 c.r3 df c.kind c.value c.leaving c.deferred c.panicking c.panic c.recovered c.outer)), (2, .agg #[iv z.k, iv z.a, iv z.b])] a := ha
 refine wp_seq (jX [0, 1, 2, 3, 4] (jZ (qJ 3 (mL pv fuel m.spent m.shared m.made m.deep tr se) 121 (ptr · 0) ha hS fun b1 w a hb2 hS ha => ?_)))
 refine jZ (qJ 4 (cL c.f c.depth c.r0 c.r1 c.r2 c.r3 df c.kind c.value c.leaving c.deferred c.panicking c.panic c.recovered c.outer) 124 (ptr · 0) ha hS fun b3 w a hb4 hS ha => ?_)
 refine jZ (qJ 5 [iv z.k, iv z.a, iv z.b] 98 (ptr · 0) ha hS fun b5 w a hb6 hS ha => ?_)
 refine jZ (qJ 6 (mL (⟨none, 0, 0⟩) 0 false 0 0 0 (⟨none, 0, 0⟩) (⟨none, 0, 0⟩)) 121 (ptr · 0) ha hS fun b7 w a hb8 hS ha => ?_)
 refine jZ (qJ 7 (cL 0 0 0 0 0 0 (⟨none, 0, 0⟩) 0 0 false false false 0 false 0) 124 (ptr · 0) ha hS fun b9 w a hb10 hS ha => ?_)
 refine jY (jJ (wp_seq (wp_seq (jX [0, 1] (jQ [(0, 8, ptr b5 0)] ha fun a ha => ?_)))))
 refine jU (d := 9) (b := b5) (j := 0) ha (hS.blk 2 rfl) rfl fun a ha => ?_
 refine jY (jJ (wp_block (wp_seq (jX [0, 1] (jQ [(0, 11, .bool (decide (z.k = 1))), (1, 10, .bool (decide (z.k = 1)))] ha fun a ha => ?_)))))
 refine jY (jJ ?_)
 by_cases c11 : z.k = 1
 ·
  refine jG ha rfl (decide_eq_true c11) ?_
  refine jX [0, 1, 2, 3, 4, 5, 6] (jQ [(0, 12, ptr b5 1)] ha fun a ha => ?_)
  refine jU (d := 13) (b := b5) (j := 1) ha (hS.blk 2 rfl) rfl fun a ha => ?_
  refine jQ [(2, 14, ptr b5 2)] ha fun a ha => ?_
  refine jU (d := 15) (b := b5) (j := 2) ha (hS.blk 2 rfl) rfl fun a ha => ?_
  refine jQ [(4, 16, ptr b3 2)] ha fun a ha => ?_
  refine xU (.pointer (some ⟨b3, 2 + (z.a : Int).toNat * 1, none⟩)) ha (yV (len := 4) (el := 3) (sz := 1) ha (yU (t := 122) (x := 16) (y := 13) (d := 17)) rfl rfl (by kernel_rfl) (by kernel_rfl) (by have := (reg4 (hs.a (by omega) (by omega) (by omega) (by omega))); omega) (by have := (reg4 (hs.a (by omega) (by omega) (by omega) (by omega))); omega)) fun a ha => ?_
  refine jZ (o_store (cs' := [iv c.f, iv c.depth, iv (u4 c.r0 z.b 0 z.a), iv (u4 c.r1 z.b 1 z.a), iv (u4 c.r2 z.b 2 z.a), iv (u4 c.r3 z.b 3 z.a), .slice df.A df.n df.c, iv c.kind, iv c.value, .bool c.leaving, .bool c.deferred, .bool c.panicking, iv c.panic, .bool c.recovered, iv c.outer]) 3 ha (qU (t := 3) (x := 17) (y := 15)) rfl rfl rfl (by kernel_rfl) hS rfl (by have := (reg4 (hs.a (by omega) (by omega) (by omega) (by omega))); simp; omega) (by rcases (reg4 (hs.a (by omega) (by omega) (by omega) (by omega))) with h | h | h | h <;> simp [h, u4]) (fun w a hS ha => ?_))
  refine jY (in_n (jJ (wp_seq (xY 3 4 (hS.pickN 6 [0, 2, 3, 4]) hS fun w hS => ?_))))
  refine yW 0 103 ha (hS.pickN 6 [0, 2, 3, 4]) (fun _ hw => hw.blk 3 rfl) fun a ha => ?_
  refine yW 1 104 ha (hS.pickN 6 [0, 2, 3, 4]) (fun _ hw => hw.blk 2 rfl) fun a ha => ?_
  refine jH 2 (o_sa 1 ha (qU (t := 121) (x := 6) (y := 103)) hS fun w a hS ha => ?_)
  refine ⟨.inr (hS.pickN 6 [0, 2, 3, 4]), ?_⟩
  refine jH 3 (o_sa 0 ha (qU (t := 124) (x := 7) (y := 104)) hS fun w a hS ha => ?_)
  refine xJ (xX (jJ (wp_ret (yH ha (by kernel_rfl) (xZ (t := 6) (ty := 121) (i := 1) ha rfl hS rfl (by kernel_rfl)) (xZ (t := 7) (ty := 124) (i := 0) ha rfl hS rfl (by kernel_rfl)) ?_))))
  have hE : qY m c z = (m, (⟨c.f, c.depth, u4 c.r0 z.b 0 z.a, u4 c.r1 z.b 1 z.a, u4 c.r2 z.b 2 z.a, u4 c.r3 z.b 3 z.a, c.defers, c.kind, c.value, c.leaving, c.deferred, c.panicking, c.panic, c.recovered, c.outer⟩ : FQ)) := by (unfold qY; simp only [c11, FQ.get, FQ.set, if_true, if_false, Bool.and_eq_true, Bool.not_eq_true', Bool.true_and, Bool.not_false, Bool.not_true, Bool.and_false, Bool.false_and, Bool.false_eq_true, reduceCtorEq]) <;> rfl
  rw [hE]
  replace hS := hS.pickN 6 [5]
  exact ⟨tr, rfl, hS⟩
 refine jV ha rfl (decide_eq_false c11) ?_
 refine wp_seq (jX [0, 1] (jQ [(0, 19, .bool (decide (z.k = 2))), (1, 18, .bool (decide (z.k = 2)))] ha fun a ha => ?_))
 refine jY (jJ ?_)
 by_cases c12 : z.k = 2
 ·
  refine jG ha rfl (decide_eq_true c12) ?_
  refine xY 16 17 (hS.pickN 6 [0, 1, 2, 3, 4]) hS fun w hS => ?_
  refine jK (k := 16) [(0, 20, ptr b5 1)] ha (.inr (hS.pickN 6 [0, 1, 2, 3, 4])) fun a ha => ?_
  refine qW 1 (d := 21) (b := b5) (j := 1) ha (hS.pickN 6 [0, 1, 2, 3, 4]) (fun _ hw => hw.blk 2 rfl) rfl fun a ha => ?_
  refine jK (k := 14) [(2, 22, ptr b5 1)] ha (.inr (hS.pickN 6 [0, 1, 2, 3, 4])) fun a ha => ?_
  refine qW 3 (d := 23) (b := b5) (j := 1) ha (hS.pickN 6 [0, 1, 2, 3, 4]) (fun _ hw => hw.blk 2 rfl) rfl fun a ha => ?_
  refine jK (k := 12) [(4, 24, ptr b3 2)] ha (.inr (hS.pickN 6 [0, 1, 2, 3, 4])) fun a ha => ?_
  refine zQ 5 (.pointer (some ⟨b3, 2 + (z.a : Int).toNat * 1, none⟩)) ha (yV (len := 4) (el := 3) (sz := 1) ha (yU (t := 122) (x := 24) (y := 23) (d := 25)) rfl rfl (by kernel_rfl) (by kernel_rfl) (by have := (reg4 (hs.a (by omega) (by omega) (by omega) (by omega))); omega) (by have := (reg4 (hs.a (by omega) (by omega) (by omega) (by omega))); omega)) (.inr (hS.pickN 6 [0, 1, 2, 3, 4])) fun a ha => ?_
  refine zH 6 (iv (g4 c.r0 c.r1 c.r2 c.r3 z.a)) ha (v_load (cs := [iv c.f, iv c.depth, iv c.r0, iv c.r1, iv c.r2, iv c.r3, .slice df.A df.n df.c, iv c.kind, iv c.value, .bool c.leaving, .bool c.deferred, .bool c.panicking, iv c.panic, .bool c.recovered, iv c.outer]) (T := 124) ha (zV (t := 3) (x := 25) (d := 26) (ty := 3)) rfl (by kernel_rfl) (fun _ hw => hw.blk 3 rfl) (by rcases (reg4 (hs.a (by omega) (by omega) (by omega) (by omega))) with h | h | h | h <;> simp [h, g4])) (hS.pickN 6 [0, 1, 2, 3, 4]) fun a ha => ?_
  refine jK (k := 9) [(7, 27, ptr b5 2)] ha (.inr (hS.pickN 6 [0, 1, 2, 3, 4])) fun a ha => ?_
  refine qW 8 (d := 28) (b := b5) (j := 2) ha (hS.pickN 6 [0, 1, 2, 3, 4]) (fun _ hw => hw.blk 2 rfl) rfl fun a ha => ?_
  refine jK (k := 7) [(9, 29, ptr b3 2)] ha (.inr (hS.pickN 6 [0, 1, 2, 3, 4])) fun a ha => ?_
  refine zQ 10 (.pointer (some ⟨b3, 2 + (z.b : Int).toNat * 1, none⟩)) ha (yV (len := 4) (el := 3) (sz := 1) ha (yU (t := 122) (x := 29) (y := 28) (d := 30)) rfl rfl (by kernel_rfl) (by kernel_rfl) (by have := (reg4 (hs.b (by omega))); omega) (by have := (reg4 (hs.b (by omega))); omega)) (.inr (hS.pickN 6 [0, 1, 2, 3, 4])) fun a ha => ?_
  refine zH 11 (iv (g4 c.r0 c.r1 c.r2 c.r3 z.b)) ha (v_load (cs := [iv c.f, iv c.depth, iv c.r0, iv c.r1, iv c.r2, iv c.r3, .slice df.A df.n df.c, iv c.kind, iv c.value, .bool c.leaving, .bool c.deferred, .bool c.panicking, iv c.panic, .bool c.recovered, iv c.outer]) (T := 124) ha (zV (t := 3) (x := 30) (d := 31) (ty := 3)) rfl (by kernel_rfl) (fun _ hw => hw.blk 3 rfl) (by rcases (reg4 (hs.b (by omega))) with h | h | h | h <;> simp [h, g4])) (hS.pickN 6 [0, 1, 2, 3, 4]) fun a ha => ?_
  refine kW 12 32 ((g4 c.r0 c.r1 c.r2 c.r3 z.a) + (g4 c.r0 c.r1 c.r2 c.r3 z.b)) ha (.inr (hS.pickN 6 [0, 1, 2, 3, 4])) fun a ha => ?_
  refine jK (k := 3) [(14, 34, ptr b3 2)] ha (.inr (hS.pickN 6 [0, 1, 2, 3, 4])) fun a ha => ?_
  refine jH 13 (qG 33 (vs := [iv ((g4 c.r0 c.r1 c.r2 c.r3 z.a) + (g4 c.r0 c.r1 c.r2 c.r3 z.b))]) ha (q_wrap hS (by have := (hk.get z.a).lo; have := (hk.get z.b).lo; simp only [FQ.get] at *; omega) (by have := (hk.get z.a).hi; have := (hk.get z.b).hi; simp only [FQ.get] at *; omega)) fun v13 w a hp14 ha => ?_)
  obtain ⟨rfl, hS⟩ := hp14
  refine ⟨.inr (hS.pickN 6 [0, 1, 2, 3, 4]), ?_⟩
  refine zQ 15 (.pointer (some ⟨b3, 2 + (z.a : Int).toNat * 1, none⟩)) ha (yV (len := 4) (el := 3) (sz := 1) ha (yU (t := 122) (x := 34) (y := 21) (d := 35)) rfl rfl (by kernel_rfl) (by kernel_rfl) (by have := (reg4 (hs.a (by omega) (by omega) (by omega) (by omega))); omega) (by have := (reg4 (hs.a (by omega) (by omega) (by omega) (by omega))); omega)) (.inr (hS.pickN 6 [0, 1, 2, 3, 4])) fun a ha => ?_
  refine jH 16 (o_store (cs' := [iv c.f, iv c.depth, iv (u4 c.r0 (w16 ((g4 c.r0 c.r1 c.r2 c.r3 z.a) + (g4 c.r0 c.r1 c.r2 c.r3 z.b))) 0 z.a), iv (u4 c.r1 (w16 ((g4 c.r0 c.r1 c.r2 c.r3 z.a) + (g4 c.r0 c.r1 c.r2 c.r3 z.b))) 1 z.a), iv (u4 c.r2 (w16 ((g4 c.r0 c.r1 c.r2 c.r3 z.a) + (g4 c.r0 c.r1 c.r2 c.r3 z.b))) 2 z.a), iv (u4 c.r3 (w16 ((g4 c.r0 c.r1 c.r2 c.r3 z.a) + (g4 c.r0 c.r1 c.r2 c.r3 z.b))) 3 z.a), .slice df.A df.n df.c, iv c.kind, iv c.value, .bool c.leaving, .bool c.deferred, .bool c.panicking, iv c.panic, .bool c.recovered, iv c.outer]) 3 ha (qU (t := 3) (x := 35) (y := 33)) rfl rfl rfl (by kernel_rfl) hS rfl (by have := (reg4 (hs.a (by omega) (by omega) (by omega) (by omega))); simp; omega) (by rcases (reg4 (hs.a (by omega) (by omega) (by omega) (by omega))) with h | h | h | h <;> simp [h, u4]) (fun w a hS ha => ?_))
  refine xJ (xX ?_)
  replace ha := ha.as [(3, ptr b1 0), (4, ptr b3 0), (6, ptr b7 0), (7, ptr b9 0)] rfl
  refine in_n (jJ (wp_seq (xY 3 4 (hS.pickN 6 [0, 2, 3, 4]) hS fun w hS => ?_)))
  refine yW 0 103 ha (hS.pickN 6 [0, 2, 3, 4]) (fun _ hw => hw.blk 3 rfl) fun a ha => ?_
  refine yW 1 104 ha (hS.pickN 6 [0, 2, 3, 4]) (fun _ hw => hw.blk 2 rfl) fun a ha => ?_
  refine jH 2 (o_sa 1 ha (qU (t := 121) (x := 6) (y := 103)) hS fun w a hS ha => ?_)
  refine ⟨.inr (hS.pickN 6 [0, 2, 3, 4]), ?_⟩
  refine jH 3 (o_sa 0 ha (qU (t := 124) (x := 7) (y := 104)) hS fun w a hS ha => ?_)
  refine xJ (xX (jJ (wp_ret (yH ha (by kernel_rfl) (xZ (t := 6) (ty := 121) (i := 1) ha rfl hS rfl (by kernel_rfl)) (xZ (t := 7) (ty := 124) (i := 0) ha rfl hS rfl (by kernel_rfl)) ?_))))
  have hE : qY m c z = (m, (⟨c.f, c.depth, u4 c.r0 (w16 ((g4 c.r0 c.r1 c.r2 c.r3 z.a) + (g4 c.r0 c.r1 c.r2 c.r3 z.b))) 0 z.a, u4 c.r1 (w16 ((g4 c.r0 c.r1 c.r2 c.r3 z.a) + (g4 c.r0 c.r1 c.r2 c.r3 z.b))) 1 z.a, u4 c.r2 (w16 ((g4 c.r0 c.r1 c.r2 c.r3 z.a) + (g4 c.r0 c.r1 c.r2 c.r3 z.b))) 2 z.a, u4 c.r3 (w16 ((g4 c.r0 c.r1 c.r2 c.r3 z.a) + (g4 c.r0 c.r1 c.r2 c.r3 z.b))) 3 z.a, c.defers, c.kind, c.value, c.leaving, c.deferred, c.panicking, c.panic, c.recovered, c.outer⟩ : FQ)) := by (unfold qY; simp only [c11, c12, FQ.get, FQ.set, if_true, if_false, Bool.and_eq_true, Bool.not_eq_true', Bool.true_and, Bool.not_false, Bool.not_true, Bool.and_false, Bool.false_and, Bool.false_eq_true, reduceCtorEq]) <;> rfl
  rw [hE]
  replace hS := hS.pickN 6 [5]
  exact ⟨tr, rfl, hS⟩
 refine jV ha rfl (decide_eq_false c12) ?_
 refine wp_seq (jX [0, 1] (jQ [(0, 37, .bool (decide (z.k = 3))), (1, 36, .bool (decide (z.k = 3)))] ha fun a ha => ?_))
 refine jY (jJ ?_)
 by_cases c15 : z.k = 3
 ·
  refine jG ha rfl (decide_eq_true c15) ?_
  refine xH 8 10 hS fun w hS => ?_
  refine yW 0 38 ha hS (fun _ hw => hw.blk 4 rfl) fun a ha => ?_
  refine jK (k := 8) [(1, 39, ptr b3 0)] ha (.inr hS) fun a ha => ?_
  refine qW 2 (d := 40) (b := b3) (j := 0) ha hS (fun _ hw => hw.blk 3 rfl) rfl fun a ha => ?_
  refine jK (k := 6) [(3, 41, ptr b5 1)] ha (.inr hS) fun a ha => ?_
  refine d_ldN 4 (d := 42) (b := b5) (j := 1) ha hS (fun _ hw => hw.blk 2 rfl) rfl fun a ha => ?_
  refine jK (k := 4) [(5, 43, ptr b3 2)] ha (.inr hS) fun a ha => ?_
  refine zQ 6 (.pointer (some ⟨b3, 2 + (z.a : Int).toNat * 1, none⟩)) ha (yV (len := 4) (el := 3) (sz := 1) ha (yU (t := 122) (x := 43) (y := 42) (d := 44)) rfl rfl (by kernel_rfl) (by kernel_rfl) (by have := (reg4 (hs.a (by omega) (by omega) (by omega) (by omega))); omega) (by have := (reg4 (hs.a (by omega) (by omega) (by omega) (by omega))); omega)) (.inr hS) fun a ha => ?_
  refine zH 7 (iv (g4 c.r0 c.r1 c.r2 c.r3 z.a)) ha (v_load (cs := [iv c.f, iv c.depth, iv c.r0, iv c.r1, iv c.r2, iv c.r3, .slice df.A df.n df.c, iv c.kind, iv c.value, .bool c.leaving, .bool c.deferred, .bool c.panicking, iv c.panic, .bool c.recovered, iv c.outer]) (T := 124) ha (zV (t := 3) (x := 44) (d := 45) (ty := 3)) rfl (by kernel_rfl) (fun _ hw => hw.blk 3 rfl) (by rcases (reg4 (hs.a (by omega) (by omega) (by omega) (by omega))) with h | h | h | h <;> simp [h, g4])) hS fun a ha => ?_
  refine jH 8 (qG 46 (vs := [(mG pv fuel m.spent m.shared m.made m.deep tr se), iv 4, iv c.f, iv (g4 c.r0 c.r1 c.r2 c.r3 z.a)]) ha (q_tell m (hS.pickN 6 [5, 0, 1, 2, 3, 4]) (by exact hlen)) fun v17 w a hp18 ha => ?_)
  obtain ⟨s16, rfl, hS⟩ := hp18
  refine xJ (jH 9 (o_sa 5 ha (qU (t := 121) (x := 3) (y := 46)) hS fun w a hS ha => ?_))
  refine xJ (xX ?_)
  replace ha := ha.as [(3, ptr b1 0), (4, ptr b3 0), (6, ptr b7 0), (7, ptr b9 0)] rfl
  refine in_n (jJ (wp_seq (xY 3 4 (hS.pickN 6 [1, 3, 4, 5]) hS fun w hS => ?_)))
  refine yW 0 103 ha (hS.pickN 6 [1, 3, 4, 5]) (fun _ hw => hw.blk 3 rfl) fun a ha => ?_
  refine yW 1 104 ha (hS.pickN 6 [1, 3, 4, 5]) (fun _ hw => hw.blk 2 rfl) fun a ha => ?_
  refine jH 2 (o_sa 2 ha (qU (t := 121) (x := 6) (y := 103)) hS fun w a hS ha => ?_)
  refine ⟨.inr (hS.pickN 6 [1, 3, 4, 5]), ?_⟩
  refine jH 3 (o_sa 1 ha (qU (t := 124) (x := 7) (y := 104)) hS fun w a hS ha => ?_)
  refine xJ (xX (jJ (wp_ret (yH ha (by kernel_rfl) (xZ (t := 6) (ty := 121) (i := 2) ha rfl hS rfl (by kernel_rfl)) (xZ (t := 7) (ty := 124) (i := 1) ha rfl hS rfl (by kernel_rfl)) ?_))))
  have hE : qY m c z = ((⟨m.spent, m.shared, m.made, m.deep, m.trace ++ [(4, c.f, g4 c.r0 c.r1 c.r2 c.r3 z.a)], m.seen⟩ : MQ), c) := by (unfold qY; simp only [c11, c12, c15, FQ.get, FQ.set, if_true, if_false, Bool.and_eq_true, Bool.not_eq_true', Bool.true_and, Bool.not_false, Bool.not_true, Bool.and_false, Bool.false_and, Bool.false_eq_true, reduceCtorEq]) <;> rfl
  rw [hE]
  replace hS := hS.pickN 6 [0]
  exact ⟨s16, rfl, hS⟩
 refine jV ha rfl (decide_eq_false c15) ?_
 refine wp_seq (jX [0, 1] (jQ [(0, 48, .bool (decide (z.k = 9))), (1, 47, .bool (decide (z.k = 9)))] ha fun a ha => ?_))
 refine jY (jJ ?_)
 by_cases c19 : z.k = 9
 ·
  refine jG ha rfl (decide_eq_true c19) ?_
  refine wp_seq (jX [0, 1] (jQ [(0, 49, ptr b3 10)] ha fun a ha => ?_))
  refine jU (d := 50) (b := b3) (j := 10) ha (hS.blk 3 rfl) rfl fun a ha => ?_
  refine jY (jJ ?_)
  rcases Bool.eq_false_or_eq_true c.deferred with c20 | c20
  ·
   refine jG ha rfl c20 ?_;refine jX [0, 1, 2, 3, 4, 5, 6] (jQ [(0, 51, ptr b5 1)] ha fun a ha => ?_);refine jU (d := 52) (b := b5) (j := 1) ha (hS.blk 2 rfl) rfl fun a ha => ?_;refine jQ [(2, 53, ptr b3 2)] ha fun a ha => ?_;refine xU (.pointer (some ⟨b3, 2 + (z.a : Int).toNat * 1, none⟩)) ha (yV (len := 4) (el := 3) (sz := 1) ha (yU (t := 122) (x := 53) (y := 52) (d := 54)) rfl rfl (by kernel_rfl) (by kernel_rfl) (by have := (reg4 (hs.a (by omega) (by omega) (by omega) (by omega))); omega) (by have := (reg4 (hs.a (by omega) (by omega) (by omega) (by omega))); omega)) fun a ha => ?_;refine xU (iv (g4 c.r0 c.r1 c.r2 c.r3 z.a)) ha (v_load (cs := [iv c.f, iv c.depth, iv c.r0, iv c.r1, iv c.r2, iv c.r3, .slice df.A df.n df.c, iv c.kind, iv c.value, .bool c.leaving, .bool c.deferred, .bool c.panicking, iv c.panic, .bool c.recovered, iv c.outer]) (T := 124) ha (zV (t := 3) (x := 54) (d := 55) (ty := 3)) rfl (by kernel_rfl) (fun _ hw => by rw [hw]; exact hS.blk 3 rfl) (by rcases (reg4 (hs.a (by omega) (by omega) (by omega) (by omega))) with h | h | h | h <;> simp [h, g4])) fun a ha => ?_;refine jQ [(5, 56, ptr b3 14)] ha fun a ha => ?_;refine jZ (qH b3 14 (iv (g4 c.r0 c.r1 c.r2 c.r3 z.a)) 3 ha hS rfl rfl fun w a hS ha => ?_);refine jY ?_;replace ha := ha.as [(3, ptr b1 0), (4, ptr b3 0), (6, ptr b7 0), (7, ptr b9 0)] rfl;refine in_n (jJ (wp_seq (xY 3 4 (hS.pickN 6 [0, 2, 3, 4]) hS fun w hS => ?_)));refine yW 0 103 ha (hS.pickN 6 [0, 2, 3, 4]) (fun _ hw => hw.blk 3 rfl) fun a ha => ?_;refine yW 1 104 ha (hS.pickN 6 [0, 2, 3, 4]) (fun _ hw => hw.blk 2 rfl) fun a ha => ?_;refine jH 2 (o_sa 1 ha (qU (t := 121) (x := 6) (y := 103)) hS fun w a hS ha => ?_);refine ⟨.inr (hS.pickN 6 [0, 2, 3, 4]), ?_⟩;refine jH 3 (o_sa 0 ha (qU (t := 124) (x := 7) (y := 104)) hS fun w a hS ha => ?_);refine xJ (xX (jJ (wp_ret (yH ha (by kernel_rfl) (xZ (t := 6) (ty := 121) (i := 1) ha rfl hS rfl (by kernel_rfl)) (xZ (t := 7) (ty := 124) (i := 0) ha rfl hS rfl (by kernel_rfl)) ?_))));have hE : qY m c z = (m, (⟨c.f, c.depth, c.r0, c.r1, c.r2, c.r3, c.defers, c.kind, c.value, c.leaving, c.deferred, c.panicking, c.panic, c.recovered, g4 c.r0 c.r1 c.r2 c.r3 z.a⟩ : FQ)) := by (unfold qY; simp only [c11, c12, c15, c19, c20, FQ.get, FQ.set, if_true, if_false, Bool.and_eq_true, Bool.not_eq_true', Bool.true_and, Bool.not_false, Bool.not_true, Bool.and_false, Bool.false_and, Bool.false_eq_true, reduceCtorEq]) <;> rfl
   rw [hE];replace hS := hS.pickN 6 [5];exact ⟨tr, rfl, hS⟩
  refine jV ha rfl c20 ?_
  refine wp_skip (in_n (jJ (wp_seq (xY 3 4 (hS.pickN 6 [0, 2, 3, 4]) hS fun w hS => ?_))))
  refine yW 0 103 ha (hS.pickN 6 [0, 2, 3, 4]) (fun _ hw => hw.blk 3 rfl) fun a ha => ?_
  refine yW 1 104 ha (hS.pickN 6 [0, 2, 3, 4]) (fun _ hw => hw.blk 2 rfl) fun a ha => ?_
  refine jH 2 (o_sa 1 ha (qU (t := 121) (x := 6) (y := 103)) hS fun w a hS ha => ?_)
  refine ⟨.inr (hS.pickN 6 [0, 2, 3, 4]), ?_⟩
  refine jH 3 (o_sa 0 ha (qU (t := 124) (x := 7) (y := 104)) hS fun w a hS ha => ?_)
  refine xJ (xX ?_)
  replace ha := ha.as [(6, ptr b7 0), (7, ptr b9 0)] rfl
  refine jJ (wp_ret (yH ha (by kernel_rfl) (xZ (t := 6) (ty := 121) (i := 1) ha rfl hS rfl (by kernel_rfl)) (xZ (t := 7) (ty := 124) (i := 0) ha rfl hS rfl (by kernel_rfl)) ?_))
  have hE : qY m c z = (m, c) := by (unfold qY; simp only [c11, c12, c15, c19, c20, FQ.get, FQ.set, if_true, if_false, Bool.and_eq_true, Bool.not_eq_true', Bool.true_and, Bool.not_false, Bool.not_true, Bool.and_false, Bool.false_and, Bool.false_eq_true, reduceCtorEq]) <;> rfl
  rw [hE]
  replace hS := hS.pickN 6 [5]
  exact ⟨tr, rfl, hS⟩
 refine jV ha rfl (decide_eq_false c19) ?_
 refine wp_seq (jX [0, 1] (jQ [(0, 58, .bool (decide (z.k = 12))), (1, 57, .bool (decide (z.k = 12)))] ha fun a ha => ?_))
 refine jY (jJ ?_)
 by_cases c21 : z.k = 12
 ·
  refine jG ha rfl (decide_eq_true c21) ?_
  refine jX [0, 1, 2, 3, 4, 5, 6] (jQ [(0, 59, ptr b5 1)] ha fun a ha => ?_)
  refine jU (d := 60) (b := b5) (j := 1) ha (hS.blk 2 rfl) rfl fun a ha => ?_
  refine jQ [(2, 61, ptr b3 2)] ha fun a ha => ?_
  refine xU (.pointer (some ⟨b3, 2 + (z.a : Int).toNat * 1, none⟩)) ha (yV (len := 4) (el := 3) (sz := 1) ha (yU (t := 122) (x := 61) (y := 60) (d := 62)) rfl rfl (by kernel_rfl) (by kernel_rfl) (by have := (reg4 (hs.a (by omega) (by omega) (by omega) (by omega))); omega) (by have := (reg4 (hs.a (by omega) (by omega) (by omega) (by omega))); omega)) fun a ha => ?_
  refine xU (iv (g4 c.r0 c.r1 c.r2 c.r3 z.a)) ha (v_load (cs := [iv c.f, iv c.depth, iv c.r0, iv c.r1, iv c.r2, iv c.r3, .slice df.A df.n df.c, iv c.kind, iv c.value, .bool c.leaving, .bool c.deferred, .bool c.panicking, iv c.panic, .bool c.recovered, iv c.outer]) (T := 124) ha (zV (t := 3) (x := 62) (d := 63) (ty := 3)) rfl (by kernel_rfl) (fun _ hw => by rw [hw]; exact hS.blk 3 rfl) (by rcases (reg4 (hs.a (by omega) (by omega) (by omega) (by omega))) with h | h | h | h <;> simp [h, g4])) fun a ha => ?_
  refine jQ [(5, 64, ptr b1 3)] ha fun a ha => ?_
  refine jZ (qH b1 3 (iv (g4 c.r0 c.r1 c.r2 c.r3 z.a)) 4 ha hS rfl rfl fun w a hS ha => ?_)
  refine jY ?_
  replace ha := ha.as [(3, ptr b1 0), (4, ptr b3 0), (6, ptr b7 0), (7, ptr b9 0)] rfl
  refine in_n (jJ (wp_seq (xY 3 4 (hS.pickN 6 [0, 2, 3, 4]) hS fun w hS => ?_)))
  refine yW 0 103 ha (hS.pickN 6 [0, 2, 3, 4]) (fun _ hw => hw.blk 3 rfl) fun a ha => ?_
  refine yW 1 104 ha (hS.pickN 6 [0, 2, 3, 4]) (fun _ hw => hw.blk 2 rfl) fun a ha => ?_
  refine jH 2 (o_sa 1 ha (qU (t := 121) (x := 6) (y := 103)) hS fun w a hS ha => ?_)
  refine ⟨.inr (hS.pickN 6 [0, 2, 3, 4]), ?_⟩
  refine jH 3 (o_sa 0 ha (qU (t := 124) (x := 7) (y := 104)) hS fun w a hS ha => ?_)
  refine xJ (xX (jJ (wp_ret (yH ha (by kernel_rfl) (xZ (t := 6) (ty := 121) (i := 1) ha rfl hS rfl (by kernel_rfl)) (xZ (t := 7) (ty := 124) (i := 0) ha rfl hS rfl (by kernel_rfl)) ?_))))
  have hE : qY m c z = ((⟨m.spent, g4 c.r0 c.r1 c.r2 c.r3 z.a, m.made, m.deep, m.trace, m.seen⟩ : MQ), c) := by (unfold qY; simp only [c11, c12, c15, c19, c21, FQ.get, FQ.set, if_true, if_false, Bool.and_eq_true, Bool.not_eq_true', Bool.true_and, Bool.not_false, Bool.not_true, Bool.and_false, Bool.false_and, Bool.false_eq_true, reduceCtorEq]) <;> rfl
  rw [hE]
  replace hS := hS.pickN 6 [5]
  exact ⟨tr, rfl, hS⟩
 refine jV ha rfl (decide_eq_false c21) ?_
 refine wp_seq (jX [0, 1] (jQ [(0, 66, .bool (decide (z.k = 13))), (1, 65, .bool (decide (z.k = 13)))] ha fun a ha => ?_))
 refine jY (jJ ?_)
 by_cases c22 : z.k = 13
 ·
  refine jG ha rfl (decide_eq_true c22) ?_
  refine jX [0, 1, 2, 3, 4, 5, 6] (jQ [(0, 67, ptr b5 1)] ha fun a ha => ?_)
  refine jU (d := 68) (b := b5) (j := 1) ha (hS.blk 2 rfl) rfl fun a ha => ?_
  refine jQ [(2, 69, ptr b1 3)] ha fun a ha => ?_
  refine jU (d := 70) (b := b1) (j := 3) ha (hS.blk 4 rfl) rfl fun a ha => ?_
  refine jQ [(4, 71, ptr b3 2)] ha fun a ha => ?_
  refine xU (.pointer (some ⟨b3, 2 + (z.a : Int).toNat * 1, none⟩)) ha (yV (len := 4) (el := 3) (sz := 1) ha (yU (t := 122) (x := 71) (y := 68) (d := 72)) rfl rfl (by kernel_rfl) (by kernel_rfl) (by have := (reg4 (hs.a (by omega) (by omega) (by omega) (by omega))); omega) (by have := (reg4 (hs.a (by omega) (by omega) (by omega) (by omega))); omega)) fun a ha => ?_
  refine jZ (o_store (cs' := [iv c.f, iv c.depth, iv (u4 c.r0 m.shared 0 z.a), iv (u4 c.r1 m.shared 1 z.a), iv (u4 c.r2 m.shared 2 z.a), iv (u4 c.r3 m.shared 3 z.a), .slice df.A df.n df.c, iv c.kind, iv c.value, .bool c.leaving, .bool c.deferred, .bool c.panicking, iv c.panic, .bool c.recovered, iv c.outer]) 3 ha (qU (t := 3) (x := 72) (y := 70)) rfl rfl rfl (by kernel_rfl) hS rfl (by have := (reg4 (hs.a (by omega) (by omega) (by omega) (by omega))); simp; omega) (by rcases (reg4 (hs.a (by omega) (by omega) (by omega) (by omega))) with h | h | h | h <;> simp [h, u4]) (fun w a hS ha => ?_))
  refine jY ?_
  replace ha := ha.as [(3, ptr b1 0), (4, ptr b3 0), (6, ptr b7 0), (7, ptr b9 0)] rfl
  refine in_n (jJ (wp_seq (xY 3 4 (hS.pickN 6 [0, 2, 3, 4]) hS fun w hS => ?_)))
  refine yW 0 103 ha (hS.pickN 6 [0, 2, 3, 4]) (fun _ hw => hw.blk 3 rfl) fun a ha => ?_
  refine yW 1 104 ha (hS.pickN 6 [0, 2, 3, 4]) (fun _ hw => hw.blk 2 rfl) fun a ha => ?_
  refine jH 2 (o_sa 1 ha (qU (t := 121) (x := 6) (y := 103)) hS fun w a hS ha => ?_)
  refine ⟨.inr (hS.pickN 6 [0, 2, 3, 4]), ?_⟩
  refine jH 3 (o_sa 0 ha (qU (t := 124) (x := 7) (y := 104)) hS fun w a hS ha => ?_)
  refine xJ (xX (jJ (wp_ret (yH ha (by kernel_rfl) (xZ (t := 6) (ty := 121) (i := 1) ha rfl hS rfl (by kernel_rfl)) (xZ (t := 7) (ty := 124) (i := 0) ha rfl hS rfl (by kernel_rfl)) ?_))))
  have hE : qY m c z = (m, (⟨c.f, c.depth, u4 c.r0 m.shared 0 z.a, u4 c.r1 m.shared 1 z.a, u4 c.r2 m.shared 2 z.a, u4 c.r3 m.shared 3 z.a, c.defers, c.kind, c.value, c.leaving, c.deferred, c.panicking, c.panic, c.recovered, c.outer⟩ : FQ)) := by (unfold qY; simp only [c11, c12, c15, c19, c21, c22, FQ.get, FQ.set, if_true, if_false, Bool.and_eq_true, Bool.not_eq_true', Bool.true_and, Bool.not_false, Bool.not_true, Bool.and_false, Bool.false_and, Bool.false_eq_true, reduceCtorEq]) <;> rfl
  rw [hE]
  replace hS := hS.pickN 6 [5]
  exact ⟨tr, rfl, hS⟩
 refine jV ha rfl (decide_eq_false c22) ?_
 refine wp_seq (jX [0, 1] (jQ [(0, 74, .bool (decide (z.k = 7))), (1, 73, .bool (decide (z.k = 7)))] ha fun a ha => ?_))
 refine jY ?_
 replace ha := ha.as [(3, ptr b1 0), (4, ptr b3 0), (5, ptr b5 0), (6, ptr b7 0), (7, ptr b9 0), (73, .bool (decide (z.k = 7)))] rfl
 refine jJ ?_
 by_cases c23 : z.k = 7
 ·
  refine jG ha rfl (decide_eq_true c23) ?_
  refine wp_seq (jX [0, 1, 2, 3, 4, 5, 6] (jQ [(0, 75, ptr b3 11)] ha fun a ha => ?_))
  refine jU (d := 76) (b := b3) (j := 11) ha (hS.blk 3 rfl) rfl fun a ha => ?_
  refine jQ [(2, 77, .bool c.panicking)] ha fun a ha => ?_
  rcases Bool.eq_false_or_eq_true c.panicking with c24 | c24
  ·
   replace ha := ha.turn 76 (.bool true) rfl (congrArg Value.bool c24);replace ha := ha.turn 77 (.bool true) rfl (congrArg Value.bool c24);refine jQ [(3, 78, ptr b3 13)] ha fun a ha => ?_;refine jU (d := 79) (b := b3) (j := 13) ha (hS.blk 3 rfl) rfl fun a ha => ?_;refine jQ [(5, 80, .bool (!(c.recovered))), (6, 81, .bool (!(c.recovered)))] ha fun a ha => ?_;refine jY (jJ ?_)
   rcases Bool.eq_false_or_eq_true c.recovered with c25 | c25
   ·
    refine jV ha rfl (zX c25) ?_;refine wp_seq (jX [0, 1, 2, 3, 4] (jQ [(0, 97, ptr b5 1)] ha fun a ha => ?_));refine jU (d := 98) (b := b5) (j := 1) ha (hS.blk 2 rfl) rfl fun a ha => ?_;refine jQ [(2, 99, ptr b3 2)] ha fun a ha => ?_;refine xU (.pointer (some ⟨b3, 2 + (z.a : Int).toNat * 1, none⟩)) ha (yV (len := 4) (el := 3) (sz := 1) ha (yU (t := 122) (x := 99) (y := 98) (d := 100)) rfl rfl (by kernel_rfl) (by kernel_rfl) (by have := (reg4 (hs.a (by omega) (by omega) (by omega) (by omega))); omega) (by have := (reg4 (hs.a (by omega) (by omega) (by omega) (by omega))); omega)) fun a ha => ?_;refine jZ (o_store (cs' := [iv c.f, iv c.depth, iv (u4 c.r0 0 0 z.a), iv (u4 c.r1 0 1 z.a), iv (u4 c.r2 0 2 z.a), iv (u4 c.r3 0 3 z.a), .slice df.A df.n df.c, iv c.kind, iv c.value, .bool c.leaving, .bool c.deferred, .bool c.panicking, iv c.panic, .bool c.recovered, iv c.outer]) 3 ha (zW (op := (Op.store 3 (Operand.tmp 100) (Operand.const (Value.int IntKind.i64 0)))) (ty := 0)) rfl rfl rfl (by kernel_rfl) hS rfl (by have := (reg4 (hs.a (by omega) (by omega) (by omega) (by omega))); simp; omega) (by rcases (reg4 (hs.a (by omega) (by omega) (by omega) (by omega))) with h | h | h | h <;> simp [h, u4]) (fun w a hS ha => ?_));refine jY (jJ (jX [0, 1, 2] (jQ [(0, 101, ptr b3 2), (1, 102, ptr b3 5)] ha fun a ha => ?_)));refine jZ (qH b3 5 (iv 0) 3 ha hS rfl rfl fun w a hS ha => ?_);refine jY (in_n (jJ (wp_seq (xY 3 4 (hS.pickN 6 [0, 2, 3, 4]) hS fun w hS => ?_))));refine yW 0 103 ha (hS.pickN 6 [0, 2, 3, 4]) (fun _ hw => hw.blk 3 rfl) fun a ha => ?_;refine yW 1 104 ha (hS.pickN 6 [0, 2, 3, 4]) (fun _ hw => hw.blk 2 rfl) fun a ha => ?_;refine jH 2 (o_sa 1 ha (qU (t := 121) (x := 6) (y := 103)) hS fun w a hS ha => ?_);refine ⟨.inr (hS.pickN 6 [0, 2, 3, 4]), ?_⟩;refine jH 3 (o_sa 0 ha (qU (t := 124) (x := 7) (y := 104)) hS fun w a hS ha => ?_);refine xJ (xX ?_);replace ha := ha.as [(6, ptr b7 0), (7, ptr b9 0)] rfl;refine jJ (wp_ret (yH ha (by kernel_rfl) (xZ (t := 6) (ty := 121) (i := 1) ha rfl hS rfl (by kernel_rfl)) (xZ (t := 7) (ty := 124) (i := 0) ha rfl hS rfl (by kernel_rfl)) ?_));have hE : qY m c z = (m, (⟨c.f, c.depth, u4 c.r0 0 0 z.a, u4 c.r1 0 1 z.a, u4 c.r2 0 2 z.a, 0, c.defers, c.kind, c.value, c.leaving, c.deferred, c.panicking, c.panic, c.recovered, c.outer⟩ : FQ)) := by (unfold qY; simp only [c11, c12, c15, c19, c21, c22, c23, c24, c25, FQ.get, FQ.set, if_true, if_false, Bool.and_eq_true, Bool.not_eq_true', Bool.true_and, Bool.not_false, Bool.not_true, Bool.and_false, Bool.false_and, Bool.false_eq_true, reduceCtorEq]) <;> rfl
    rw [hE];replace hS := hS.pickN 6 [5];exact ⟨tr, rfl, hS⟩
   refine jG ha rfl (kJ c25) ?_;refine wp_seq (jX [0, 1] (jQ [(0, 82, ptr b3 13)] ha fun a ha => ?_));refine jZ (qH b3 13 (.bool true) 3 ha hS rfl rfl fun w a hS ha => ?_);refine jY (jJ (wp_seq (jX [0, 1, 2, 3, 4, 5, 6] (jQ [(0, 83, ptr b5 1)] ha fun a ha => ?_))));refine jU (d := 84) (b := b5) (j := 1) ha (hS.blk 2 rfl) rfl fun a ha => ?_;refine jQ [(2, 85, ptr b3 12)] ha fun a ha => ?_;refine jU (d := 86) (b := b3) (j := 12) ha (hS.blk 3 rfl) rfl fun a ha => ?_;refine jQ [(4, 87, ptr b3 2)] ha fun a ha => ?_;refine xU (.pointer (some ⟨b3, 2 + (z.a : Int).toNat * 1, none⟩)) ha (yV (len := 4) (el := 3) (sz := 1) ha (yU (t := 122) (x := 87) (y := 84) (d := 88)) rfl rfl (by kernel_rfl) (by kernel_rfl) (by have := (reg4 (hs.a (by omega) (by omega) (by omega) (by omega))); omega) (by have := (reg4 (hs.a (by omega) (by omega) (by omega) (by omega))); omega)) fun a ha => ?_;refine jZ (o_store (cs' := [iv c.f, iv c.depth, iv (u4 c.r0 c.panic 0 z.a), iv (u4 c.r1 c.panic 1 z.a), iv (u4 c.r2 c.panic 2 z.a), iv (u4 c.r3 c.panic 3 z.a), .slice df.A df.n df.c, iv c.kind, iv c.value, .bool c.leaving, .bool c.deferred, .bool c.panicking, iv c.panic, .bool true, iv c.outer]) 3 ha (qU (t := 3) (x := 88) (y := 86)) rfl rfl rfl (by kernel_rfl) hS rfl (by have := (reg4 (hs.a (by omega) (by omega) (by omega) (by omega))); simp; omega) (by rcases (reg4 (hs.a (by omega) (by omega) (by omega) (by omega))) with h | h | h | h <;> simp [h, u4]) (fun w a hS ha => ?_));refine jY ?_;replace ha := ha.as [(3, ptr b1 0), (4, ptr b3 0), (6, ptr b7 0), (7, ptr b9 0)] rfl;refine jJ (wp_seq (jX [0, 1, 2] (jQ [(0, 89, ptr b3 2), (1, 90, ptr b3 5)] ha fun a ha => ?_)));refine jZ (qH b3 5 (iv 1) 3 ha hS rfl rfl fun w a hS ha => ?_);refine jY (jJ (jX [0, 1, 2, 3, 4, 5, 6] (xG 91 ha (hS.blk 4 rfl) fun a ha => ?_)));refine jQ [(1, 92, ptr b3 0)] ha fun a ha => ?_;refine jU (d := 93) (b := b3) (j := 0) ha (hS.blk 3 rfl) rfl fun a ha => ?_;refine jQ [(3, 94, ptr b3 12)] ha fun a ha => ?_;refine jU (d := 95) (b := b3) (j := 12) ha (hS.blk 3 rfl) rfl fun a ha => ?_;refine jZ (qG 96 (vs := [(mG pv fuel m.spent m.shared m.made m.deep tr se), iv 6, iv c.f, iv c.panic]) ha (q_tell m (hS.pickN 6 [5, 0, 1, 2, 3, 4]) (by exact hlen)) fun v27 w a hp28 ha => ?_);obtain ⟨s26, rfl, hS⟩ := hp28;refine jZ (o_sa 5 ha (qU (t := 121) (x := 3) (y := 96)) hS fun w a hS ha => ?_);refine jY (in_n (jJ (wp_seq (xY 3 4 (hS.pickN 6 [1, 3, 4, 5]) hS fun w hS => ?_))));refine yW 0 103 ha (hS.pickN 6 [1, 3, 4, 5]) (fun _ hw => hw.blk 3 rfl) fun a ha => ?_;refine yW 1 104 ha (hS.pickN 6 [1, 3, 4, 5]) (fun _ hw => hw.blk 2 rfl) fun a ha => ?_;refine jH 2 (o_sa 2 ha (qU (t := 121) (x := 6) (y := 103)) hS fun w a hS ha => ?_);refine ⟨.inr (hS.pickN 6 [1, 3, 4, 5]), ?_⟩;refine jH 3 (o_sa 1 ha (qU (t := 124) (x := 7) (y := 104)) hS fun w a hS ha => ?_);refine xJ (xX (jJ (wp_ret (yH ha (by kernel_rfl) (xZ (t := 6) (ty := 121) (i := 2) ha rfl hS rfl (by kernel_rfl)) (xZ (t := 7) (ty := 124) (i := 1) ha rfl hS rfl (by kernel_rfl)) ?_))))
   have hE : qY m c z = ((⟨m.spent, m.shared, m.made, m.deep, m.trace ++ [(6, c.f, c.panic)], m.seen⟩ : MQ), (⟨c.f, c.depth, u4 c.r0 c.panic 0 z.a, u4 c.r1 c.panic 1 z.a, u4 c.r2 c.panic 2 z.a, 1, c.defers, c.kind, c.value, c.leaving, c.deferred, c.panicking, c.panic, true, c.outer⟩ : FQ)) := by (unfold qY; simp only [c11, c12, c15, c19, c21, c22, c23, c24, c25, FQ.get, FQ.set, if_true, if_false, Bool.and_eq_true, Bool.not_eq_true', Bool.true_and, Bool.not_false, Bool.not_true, Bool.and_false, Bool.false_and, Bool.false_eq_true, reduceCtorEq]) <;> rfl
   rw [hE];replace hS := hS.pickN 6 [0];exact ⟨s26, rfl, hS⟩
  replace ha := ha.turn 76 (.bool false) rfl (congrArg Value.bool c24)
  replace ha := ha.turn 77 (.bool false) rfl (congrArg Value.bool c24)
  refine jQ [(3, 78, undef), (4, 79, undef), (5, 80, undef), (6, 81, .bool false)] ha fun a ha => ?_
  refine jY (jJ ?_)
  refine jV ha rfl rfl ?_
  refine wp_seq (jX [0, 1, 2, 3, 4] (jQ [(0, 97, ptr b5 1)] ha fun a ha => ?_))
  refine jU (d := 98) (b := b5) (j := 1) ha (hS.blk 2 rfl) rfl fun a ha => ?_
  refine jQ [(2, 99, ptr b3 2)] ha fun a ha => ?_
  refine xU (.pointer (some ⟨b3, 2 + (z.a : Int).toNat * 1, none⟩)) ha (yV (len := 4) (el := 3) (sz := 1) ha (yU (t := 122) (x := 99) (y := 98) (d := 100)) rfl rfl (by kernel_rfl) (by kernel_rfl) (by have := (reg4 (hs.a (by omega) (by omega) (by omega) (by omega))); omega) (by have := (reg4 (hs.a (by omega) (by omega) (by omega) (by omega))); omega)) fun a ha => ?_
  refine jZ (o_store (cs' := [iv c.f, iv c.depth, iv (u4 c.r0 0 0 z.a), iv (u4 c.r1 0 1 z.a), iv (u4 c.r2 0 2 z.a), iv (u4 c.r3 0 3 z.a), .slice df.A df.n df.c, iv c.kind, iv c.value, .bool c.leaving, .bool c.deferred, .bool c.panicking, iv c.panic, .bool c.recovered, iv c.outer]) 3 ha (zW (op := (Op.store 3 (Operand.tmp 100) (Operand.const (Value.int IntKind.i64 0)))) (ty := 0)) rfl rfl rfl (by kernel_rfl) hS rfl (by have := (reg4 (hs.a (by omega) (by omega) (by omega) (by omega))); simp; omega) (by rcases (reg4 (hs.a (by omega) (by omega) (by omega) (by omega))) with h | h | h | h <;> simp [h, u4]) (fun w a hS ha => ?_))
  refine jY (jJ (jX [0, 1, 2] (jQ [(0, 101, ptr b3 2), (1, 102, ptr b3 5)] ha fun a ha => ?_)))
  refine jZ (qH b3 5 (iv 0) 3 ha hS rfl rfl fun w a hS ha => ?_)
  refine jY (in_n (jJ (wp_seq (xY 3 4 (hS.pickN 6 [0, 2, 3, 4]) hS fun w hS => ?_))))
  refine yW 0 103 ha (hS.pickN 6 [0, 2, 3, 4]) (fun _ hw => hw.blk 3 rfl) fun a ha => ?_
  refine yW 1 104 ha (hS.pickN 6 [0, 2, 3, 4]) (fun _ hw => hw.blk 2 rfl) fun a ha => ?_
  refine jH 2 (o_sa 1 ha (qU (t := 121) (x := 6) (y := 103)) hS fun w a hS ha => ?_)
  refine ⟨.inr (hS.pickN 6 [0, 2, 3, 4]), ?_⟩
  refine jH 3 (o_sa 0 ha (qU (t := 124) (x := 7) (y := 104)) hS fun w a hS ha => ?_)
  refine xJ (xX ?_)
  replace ha := ha.as [(6, ptr b7 0), (7, ptr b9 0)] rfl
  refine jJ (wp_ret (yH ha (by kernel_rfl) (xZ (t := 6) (ty := 121) (i := 1) ha rfl hS rfl (by kernel_rfl)) (xZ (t := 7) (ty := 124) (i := 0) ha rfl hS rfl (by kernel_rfl)) ?_))
  have hE : qY m c z = (m, (⟨c.f, c.depth, u4 c.r0 0 0 z.a, u4 c.r1 0 1 z.a, u4 c.r2 0 2 z.a, 0, c.defers, c.kind, c.value, c.leaving, c.deferred, c.panicking, c.panic, c.recovered, c.outer⟩ : FQ)) := by (unfold qY; simp only [c11, c12, c15, c19, c21, c22, c23, c24, FQ.get, FQ.set, if_true, if_false, Bool.and_eq_true, Bool.not_eq_true', Bool.true_and, Bool.not_false, Bool.not_true, Bool.and_false, Bool.false_and, Bool.false_eq_true, reduceCtorEq]) <;> rfl
  rw [hE]
  replace hS := hS.pickN 6 [5]
  exact ⟨tr, rfl, hS⟩
 refine jV ha rfl (decide_eq_false c23) ?_
 refine wp_skip (in_n (jJ (wp_seq (xY 3 4 (hS.pickN 6 [0, 2, 3, 4]) hS fun w hS => ?_))))
 refine yW 0 103 ha (hS.pickN 6 [0, 2, 3, 4]) (fun _ hw => hw.blk 3 rfl) fun a ha => ?_
 refine yW 1 104 ha (hS.pickN 6 [0, 2, 3, 4]) (fun _ hw => hw.blk 2 rfl) fun a ha => ?_
 refine jH 2 (o_sa 1 ha (qU (t := 121) (x := 6) (y := 103)) hS fun w a hS ha => ?_)
 refine ⟨.inr (hS.pickN 6 [0, 2, 3, 4]), ?_⟩
 refine jH 3 (o_sa 0 ha (qU (t := 124) (x := 7) (y := 104)) hS fun w a hS ha => ?_)
 refine xJ (xX (jJ (wp_ret (yH ha (by kernel_rfl) (xZ (t := 6) (ty := 121) (i := 1) ha rfl hS rfl (by kernel_rfl)) (xZ (t := 7) (ty := 124) (i := 0) ha rfl hS rfl (by kernel_rfl)) ?_))))
 have hE : qY m c z = (m, c) := by (unfold qY; simp only [c11, c12, c15, c19, c21, c22, c23, FQ.get, FQ.set, if_true, if_false, Bool.and_eq_true, Bool.not_eq_true', Bool.true_and, Bool.not_false, Bool.not_true, Bool.and_false, Bool.false_and, Bool.false_eq_true, reduceCtorEq]) <;> rfl
 rw [hE]
 replace hS := hS.pickN 6 [5]
 exact ⟨tr, rfl, hS⟩
theorem code101 : Try.f101.body = some (Code.seq (cr Try.f101 0 false) (Code.seq (cr Try.f101 1 false) (Code.seq (cr Try.f101 2 false) (Code.seq (Code.seq (cr Try.f101 3 false) (Code.block 0 (Code.seq (cr Try.f101 4 false) (Code.cond (Operand.tmp 33) (Code.seq (cr Try.f101 5 false) (Code.seq (cr Try.f101 6 true) Code.ret)) (Code.seq (cr Try.f101 7 false) (Code.cond (Operand.tmp 44) (Code.seq (cr Try.f101 8 false) (cr Try.f101 9 false)) (Code.seq (cr Try.f101 10 false) (Code.cond (Operand.tmp 50) (cr Try.f101 11 false) Code.skip)))))))) (Code.seq (cr Try.f101 12 false) (Code.seq (cr Try.f101 13 true) Code.ret)))))) := by kernel_rfl
theorem q_inner {P : List (List Stp)} {pv : Sl} {fuel : Int} {sbs : List Sl} {d : Nat} (IH : CallCQ P fuel pv sbs d) {w0 w : World} {Rs : List Asn} (m : MQ) (c : FQ) (at_ : Int) (z : Stp) {tr se df : Sl} (x : Nat) (hS : Sat w0 w (rE tr m.trace :: rS se m.seen :: Rs)) (hm : OkQ fuel m (x + 2)) (hk : OkC P.length c) (hs : StpOk P.length z) (h4 : z.k = 4) (hd1 : c.depth + d + 1 = 9) (hd2 : 1 ≤ c.depth) (ha0 : 0 ≤ at_) (ha8 : at_ ≤ 8) (hPr : Keeps w0 Rs (fun w => RdProg w pv sbs P)) :
  Calls Try.prog 101 #[mV pv fuel m tr se, cV c df, .int .i64 at_, .agg #[.int .i64 z.k, .int .i64 z.a, .int .i64 z.b]] w (Ret fun r w' => ∃ (q : MQ × FQ × Int) (tr' se' : Sl), q = qInner (qCall P fuel d) m c at_ z ∧ r = .tuple #[mV pv fuel q.1 tr' se', cV q.2.1 df, .int .i64 q.2.2] ∧ Sat w0 w' (rE tr' q.1.trace :: rS se' q.1.seen :: Rs)) := by
 replace hS : Sat w0 w ((rE tr m.trace) :: (rS se m.seen) :: Rs) := hS
 have hfn := hs.f (.inl h4)
 refine enter (n := 62) Try.func101 code101 (by kernel_rfl) (Nat.le_of_ble_eq_true rfl) (fun a ha => ?_)
 replace ha : Has 62 [(0, (mG pv fuel m.spent m.shared m.made m.deep tr se)), (1, (cG c.f c.depth c.r0 c.r1 c.r2 c.r3 df c.kind c.value c.leaving c.deferred c.panicking c.panic c.recovered c.outer)), (2, iv at_), (3, .agg #[iv z.k, iv z.a, iv z.b])] a := ha
 refine wp_seq (jX [0, 1, 2, 3, 4, 5] (jZ (qJ 4 (mL pv fuel m.spent m.shared m.made m.deep tr se) 121 (ptr · 0) ha hS fun b1 w a hb2 hS ha => ?_)))
 refine jZ (qJ 5 (cL c.f c.depth c.r0 c.r1 c.r2 c.r3 df c.kind c.value c.leaving c.deferred c.panicking c.panic c.recovered c.outer) 124 (ptr · 0) ha hS fun b3 w a hb4 hS ha => ?_)
 refine jZ (qJ 7 [iv z.k, iv z.a, iv z.b] 98 (ptr · 0) ha hS fun b5 w a hb6 hS ha => ?_)
 refine jZ (qJ 8 (mL (⟨none, 0, 0⟩) 0 false 0 0 0 (⟨none, 0, 0⟩) (⟨none, 0, 0⟩)) 121 (ptr · 0) ha hS fun b7 w a hb8 hS ha => ?_)
 refine jZ (qJ 9 (cL 0 0 0 0 0 0 (⟨none, 0, 0⟩) 0 0 false false false 0 false 0) 124 (ptr · 0) ha hS fun b9 w a hb10 hS ha => ?_)
 refine jQ [(5, 10, iv 0)] ha fun a ha => ?_
 refine jY (jJ (wp_seq (jX [0, 1, 2, 3, 4, 5] (jQ [(0, 13, ptr b5 2)] ha fun a ha => ?_))))
 refine jU (d := 14) (b := b5) (j := 2) ha (hS.blk 2 rfl) rfl fun a ha => ?_
 refine jQ [(2, 15, ptr b3 2)] ha fun a ha => ?_
 refine xU (.pointer (some ⟨b3, 2 + (z.b : Int).toNat * 1, none⟩)) ha (yV (len := 4) (el := 3) (sz := 1) ha (yU (t := 122) (x := 15) (y := 14) (d := 16)) rfl rfl (by kernel_rfl) (by kernel_rfl) (by have := (reg4 (hs.b (by omega))); omega) (by have := (reg4 (hs.b (by omega))); omega)) fun a ha => ?_
 refine xU (iv (g4 c.r0 c.r1 c.r2 c.r3 z.b)) ha (v_load (cs := [iv c.f, iv c.depth, iv c.r0, iv c.r1, iv c.r2, iv c.r3, .slice df.A df.n df.c, iv c.kind, iv c.value, .bool c.leaving, .bool c.deferred, .bool c.panicking, iv c.panic, .bool c.recovered, iv c.outer]) (T := 124) ha (zV (t := 3) (x := 16) (d := 17) (ty := 3)) rfl (by kernel_rfl) (fun _ hw => by rw [hw]; exact hS.blk 3 rfl) (by rcases (reg4 (hs.b (by omega))) with h | h | h | h <;> simp [h, g4])) fun a ha => ?_
 refine jQ [(5, 11, iv (g4 c.r0 c.r1 c.r2 c.r3 z.b))] ha fun a ha => ?_
 refine jY (jJ (wp_seq (jX [0, 1, 2, 3, 4, 5, 6, 7, 8, 9, 10, 11, 12, 13, 14, 15] (xG 19 ha (hS.blk 4 rfl) fun a ha => ?_))))
 refine jQ [(1, 20, ptr b5 1)] ha fun a ha => ?_
 refine jU (d := 21) (b := b5) (j := 1) ha (hS.blk 2 rfl) rfl fun a ha => ?_
 refine jQ [(3, 22, ptr b3 1)] ha fun a ha => ?_
 refine jU (d := 23) (b := b3) (j := 1) ha (hS.blk 3 rfl) rfl fun a ha => ?_
 refine zJ 24 (c.depth + 1) ha fun a ha => ?_
 refine jQ [(6, 25, iv (g4 c.r0 c.r1 c.r2 c.r3 z.b)), (7, 26, .agg #[iv (g4 c.r0 c.r1 c.r2 c.r3 z.b), iv 0, iv 0, iv 0]), (8, 27, (cG z.a (c.depth + 1) (g4 c.r0 c.r1 c.r2 c.r3 z.b) 0 0 0 (⟨none, 0, 0⟩) 0 0 false false false 0 false 0))] ha fun a ha => ?_
 refine jZ (qG 28 (vs := [(mG pv fuel m.spent m.shared m.made m.deep tr se), (cG z.a (c.depth + 1) (g4 c.r0 c.r1 c.r2 c.r3 z.b) 0 0 0 (⟨none, 0, 0⟩) 0 0 false false false 0 false 0)]) ha (IH w0 _ _ m (FQ.new z.a (c.depth + 1) (c.get z.b)) _ _ (⟨none, 0, 0⟩ : Sl) x ((Sat.nilRow (T := 61) (sz := 2) hS).pickN 8 [6, 7, 0, 1, 2, 3, 4, 5]) hm (OkC.new hfn.1 hfn.2 (hk.get _)) rfl (by simp only [FQ.new]; omega) (by simp only [FQ.new]; omega) (hPr.more [_, _, _, _, _])) fun v11 w a hp12 ha => ?_)
 obtain ⟨q1, tr1, se1, df1, hq1, rfl, hS⟩ := hp12
 replace hq1 : qCall P fuel d m (FQ.new z.a (c.depth + 1) (c.get z.b)) = q1 := hq1.symm
 refine jQ [(10, 18, .tuple #[(mG pv fuel q1.1.spent q1.1.shared q1.1.made q1.1.deep tr1 se1), (cG q1.2.f q1.2.depth q1.2.r0 q1.2.r1 q1.2.r2 q1.2.r3 df1 q1.2.kind q1.2.value q1.2.leaving q1.2.deferred q1.2.panicking q1.2.panic q1.2.recovered q1.2.outer)]), (11, 29, (mG pv fuel q1.1.spent q1.1.shared q1.1.made q1.1.deep tr1 se1)), (12, 30, (cG q1.2.f q1.2.depth q1.2.r0 q1.2.r1 q1.2.r2 q1.2.r3 df1 q1.2.kind q1.2.value q1.2.leaving q1.2.deferred q1.2.panicking q1.2.panic q1.2.recovered q1.2.outer))] ha fun a ha => ?_
 refine jZ (qJ 12 (cL 0 0 0 0 0 0 (⟨none, 0, 0⟩) 0 0 false false false 0 false 0) 124 (ptr · 0) ha hS fun b13 w a hb14 hS ha => ?_)
 refine jZ (o_sa 8 ha (qU (t := 121) (x := 4) (y := 29)) hS fun w a hS ha => ?_)
 refine jZ (o_sa 0 ha (qU (t := 124) (x := 12) (y := 30)) hS fun w a hS ha => ?_)
 refine jY ?_
 replace ha := ha.as [(2, iv at_), (4, ptr b1 0), (5, ptr b3 0), (8, ptr b7 0), (9, ptr b9 0), (10, iv 0), (12, ptr b13 0)] rfl
 refine jJ (wp_seq (wp_seq (jX [0, 1] (jQ [(0, 31, ptr b13 7)] ha fun a ha => ?_))))
 refine jU (d := 32) (b := b13) (j := 7) ha (hS.blk 0 rfl) rfl fun a ha => ?_
 refine jY (jJ (wp_block (wp_seq (jX [0, 1] (jQ [(0, 34, .bool (decide (q1.2.kind = 1))), (1, 33, .bool (decide (q1.2.kind = 1)))] ha fun a ha => ?_)))))
 refine jY (jJ ?_)
 by_cases c15 : q1.2.kind = 1
 ·
  refine jG ha rfl (decide_eq_true c15) ?_
  refine wp_seq (jX [0, 1, 2, 3, 4, 5] (jQ [(0, 35, ptr b13 2), (1, 36, ptr b13 3)] ha fun a ha => ?_))
  refine jU (d := 37) (b := b13) (j := 3) ha (hS.blk 0 rfl) rfl fun a ha => ?_
  refine jQ [(3, 38, ptr b3 2), (4, 39, ptr b3 4)] ha fun a ha => ?_
  refine jZ (qH b3 4 (iv q1.2.r1) 7 ha hS rfl rfl fun w a hS ha => ?_)
  refine jY (jJ (wp_seq (xY 5 7 (hS.pickN 9 [0, 4, 6, 7, 8]) hS fun w hS => ?_)))
  refine yW 0 40 ha (hS.pickN 9 [0, 4, 6, 7, 8]) (fun _ hw => hw.blk 4 rfl) fun a ha => ?_
  refine yW 1 41 ha (hS.pickN 9 [0, 4, 6, 7, 8]) (fun _ hw => hw.blk 3 rfl) fun a ha => ?_
  refine jK (k := 4) [(2, 42, iv at_)] ha (.inr (hS.pickN 9 [0, 4, 6, 7, 8])) fun a ha => ?_
  refine kW 3 43 (at_ + 1) ha (.inr (hS.pickN 9 [0, 4, 6, 7, 8])) fun a ha => ?_
  refine jH 4 (o_sa 5 ha (qU (t := 121) (x := 8) (y := 40)) hS fun w a hS ha => ?_)
  refine ⟨.inr (hS.pickN 9 [0, 4, 6, 7, 8]), ?_⟩
  refine jH 5 (o_sa 4 ha (qU (t := 124) (x := 9) (y := 41)) hS fun w a hS ha => ?_)
  refine xJ (jK (k := 0) [(6, 10, iv (at_ + 1))] ha (.inl (by kernel_rfl)) fun a ha => ?_)
  refine xX ?_
  replace ha := ha.as [(4, ptr b1 0), (5, ptr b3 0), (8, ptr b7 0), (9, ptr b9 0), (12, ptr b13 0), (10, iv (at_ + 1))] rfl
  refine jJ (wp_ret (in_r (xQ (kQ ha (by kernel_rfl) (xZ (t := 8) (ty := 121) (i := 5) ha rfl hS rfl (by kernel_rfl)) (xZ (t := 9) (ty := 124) (i := 4) ha rfl hS rfl (by kernel_rfl)) (yJ (t := 10) ha rfl) ?_))))
  have hE : qInner (qCall P fuel d) m c at_ z = (q1.1, (⟨c.f, c.depth, c.r0, c.r1, q1.2.r1, c.r3, c.defers, c.kind, c.value, c.leaving, c.deferred, c.panicking, c.panic, c.recovered, c.outer⟩ : FQ), at_ + 1) := by (unfold qInner; simp only [hq1, c15, if_true, if_false, Bool.true_or, Bool.false_or, Bool.or_true, Bool.or_false]) <;> rfl
  rw [hE]
  replace hS := hS.pickN 9 [1, 2]
  exact ⟨_, tr1, se1, rfl, rfl, hS⟩
 refine jV ha rfl (decide_eq_false c15) ?_
 refine wp_seq (jX [0, 1] (jQ [(0, 45, .bool (decide (q1.2.kind = 2))), (1, 44, .bool (decide (q1.2.kind = 2)))] ha fun a ha => ?_))
 refine jY (jJ ?_)
 by_cases c16 : q1.2.kind = 2
 ·
  refine jG ha rfl (decide_eq_true c16) ?_
  refine wp_seq (jX [0, 1] (jQ [(0, 46, ptr b3 7)] ha fun a ha => ?_))
  refine jZ (qH b3 7 (iv 2) 7 ha hS rfl rfl fun w a hS ha => ?_)
  refine jY (jJ (jX [0, 1, 2, 3] (jQ [(0, 47, ptr b13 8)] ha fun a ha => ?_)))
  refine jU (d := 48) (b := b13) (j := 8) ha (hS.blk 0 rfl) rfl fun a ha => ?_
  refine jQ [(2, 49, ptr b3 8)] ha fun a ha => ?_
  refine jZ (qH b3 8 (iv q1.2.value) 7 ha hS rfl rfl fun w a hS ha => ?_)
  refine jY (in_n (jJ (wp_seq (jX [0, 1, 2, 3, 4, 5, 6, 7] (jQ [(0, 53, ptr b3 9)] ha fun a ha => ?_)))))
  refine jU (d := 54) (b := b3) (j := 9) ha (hS.blk 7 rfl) rfl fun a ha => ?_
  refine jQ [(2, 55, .bool c.leaving)] ha fun a ha => ?_
  rcases Bool.eq_false_or_eq_true c.leaving with c17 | c17
  ·
   replace ha := ha.turn 54 (.bool true) rfl (congrArg Value.bool c17);replace ha := ha.turn 55 (.bool true) rfl (congrArg Value.bool c17);refine jQ [(3, 56, undef), (4, 57, undef), (5, 58, .bool true), (6, 59, ptr b3 9)] ha fun a ha => ?_;refine jZ (qH b3 9 (.bool true) 7 ha hS rfl rfl fun w a hS ha => ?_);refine jY ?_;replace ha := ha.as [(4, ptr b1 0), (5, ptr b3 0), (8, ptr b7 0), (9, ptr b9 0), (10, iv 0)] rfl;refine jJ (wp_seq (xY 3 5 (hS.pickN 9 [0, 4, 6, 7, 8]) hS fun w hS => ?_));refine yW 0 60 ha (hS.pickN 9 [0, 4, 6, 7, 8]) (fun _ hw => hw.blk 4 rfl) fun a ha => ?_;refine yW 1 61 ha (hS.pickN 9 [0, 4, 6, 7, 8]) (fun _ hw => hw.blk 3 rfl) fun a ha => ?_;refine jH 2 (o_sa 5 ha (qU (t := 121) (x := 8) (y := 60)) hS fun w a hS ha => ?_);refine ⟨.inr (hS.pickN 9 [0, 4, 6, 7, 8]), ?_⟩;refine jH 3 (o_sa 4 ha (qU (t := 124) (x := 9) (y := 61)) hS fun w a hS ha => ?_);refine xJ (jK (k := 0) [(4, 10, iv (-1))] ha (.inl (by kernel_rfl)) fun a ha => ?_);refine xX (jJ (wp_ret (kQ ha (by kernel_rfl) (xZ (t := 8) (ty := 121) (i := 5) ha rfl hS rfl (by kernel_rfl)) (xZ (t := 9) (ty := 124) (i := 4) ha rfl hS rfl (by kernel_rfl)) (yJ (t := 10) ha rfl) ?_)));have hE : qInner (qCall P fuel d) m c at_ z = (q1.1, (⟨c.f, c.depth, c.r0, c.r1, c.r2, c.r3, c.defers, 2, q1.2.value, true, c.deferred, c.panicking, c.panic, c.recovered, c.outer⟩ : FQ), (-1)) := by (unfold qInner; simp only [hq1, c15, c16, c17, if_true, if_false, Bool.true_or, Bool.false_or, Bool.or_true, Bool.or_false]) <;> rfl
   rw [hE];replace hS := hS.pickN 9 [1, 2];exact ⟨_, tr1, se1, rfl, rfl, hS⟩
  replace ha := ha.turn 54 (.bool false) rfl (congrArg Value.bool c17)
  replace ha := ha.turn 55 (.bool false) rfl (congrArg Value.bool c17)
  refine jQ [(3, 56, ptr b13 9)] ha fun a ha => ?_
  refine jU (d := 57) (b := b13) (j := 9) ha (hS.blk 0 rfl) rfl fun a ha => ?_
  refine jQ [(5, 58, .bool q1.2.leaving), (6, 59, ptr b3 9)] ha fun a ha => ?_
  refine jZ (qH b3 9 (.bool q1.2.leaving) 7 ha hS rfl rfl fun w a hS ha => ?_)
  refine jY ?_
  replace ha := ha.as [(4, ptr b1 0), (5, ptr b3 0), (8, ptr b7 0), (9, ptr b9 0), (10, iv 0)] rfl
  refine jJ (wp_seq (xY 3 5 (hS.pickN 9 [0, 4, 6, 7, 8]) hS fun w hS => ?_))
  refine yW 0 60 ha (hS.pickN 9 [0, 4, 6, 7, 8]) (fun _ hw => hw.blk 4 rfl) fun a ha => ?_
  refine yW 1 61 ha (hS.pickN 9 [0, 4, 6, 7, 8]) (fun _ hw => hw.blk 3 rfl) fun a ha => ?_
  refine jH 2 (o_sa 5 ha (qU (t := 121) (x := 8) (y := 60)) hS fun w a hS ha => ?_)
  refine ⟨.inr (hS.pickN 9 [0, 4, 6, 7, 8]), ?_⟩
  refine jH 3 (o_sa 4 ha (qU (t := 124) (x := 9) (y := 61)) hS fun w a hS ha => ?_)
  refine xJ (jK (k := 0) [(4, 10, iv (-1))] ha (.inl (by kernel_rfl)) fun a ha => ?_)
  refine xX (jJ (wp_ret (kQ ha (by kernel_rfl) (xZ (t := 8) (ty := 121) (i := 5) ha rfl hS rfl (by kernel_rfl)) (xZ (t := 9) (ty := 124) (i := 4) ha rfl hS rfl (by kernel_rfl)) (yJ (t := 10) ha rfl) ?_)))
  have hE : qInner (qCall P fuel d) m c at_ z = (q1.1, (⟨c.f, c.depth, c.r0, c.r1, c.r2, c.r3, c.defers, 2, q1.2.value, q1.2.leaving, c.deferred, c.panicking, c.panic, c.recovered, c.outer⟩ : FQ), (-1)) := by (unfold qInner; simp only [hq1, c15, c16, c17, if_true, if_false, Bool.true_or, Bool.false_or, Bool.or_true, Bool.or_false]) <;> rfl
  rw [hE]
  replace hS := hS.pickN 9 [1, 2]
  exact ⟨_, tr1, se1, rfl, rfl, hS⟩
 refine jV ha rfl (decide_eq_false c16) ?_
 refine wp_seq (jX [0, 1] (jQ [(0, 51, .bool (decide (q1.2.kind = 3))), (1, 50, .bool (decide (q1.2.kind = 3)))] ha fun a ha => ?_))
 refine jY (jJ ?_)
 by_cases c18 : q1.2.kind = 3
 ·
  refine jG ha rfl (decide_eq_true c18) ?_
  refine jX [0, 1] (jQ [(0, 52, ptr b3 7)] ha fun a ha => ?_)
  refine jZ (qH b3 7 (iv 3) 7 ha hS rfl rfl fun w a hS ha => ?_)
  refine jY (in_n (jJ (wp_seq (jX [0, 1, 2, 3, 4, 5, 6, 7] (jQ [(0, 53, ptr b3 9)] ha fun a ha => ?_)))))
  refine jU (d := 54) (b := b3) (j := 9) ha (hS.blk 7 rfl) rfl fun a ha => ?_
  refine jQ [(2, 55, .bool c.leaving)] ha fun a ha => ?_
  rcases Bool.eq_false_or_eq_true c.leaving with c19 | c19
  ·
   replace ha := ha.turn 54 (.bool true) rfl (congrArg Value.bool c19);replace ha := ha.turn 55 (.bool true) rfl (congrArg Value.bool c19);refine jQ [(3, 56, undef), (4, 57, undef), (5, 58, .bool true), (6, 59, ptr b3 9)] ha fun a ha => ?_;refine jZ (qH b3 9 (.bool true) 7 ha hS rfl rfl fun w a hS ha => ?_);refine jY ?_;replace ha := ha.as [(4, ptr b1 0), (5, ptr b3 0), (8, ptr b7 0), (9, ptr b9 0), (10, iv 0)] rfl;refine jJ (wp_seq (xY 3 5 (hS.pickN 9 [0, 4, 6, 7, 8]) hS fun w hS => ?_));refine yW 0 60 ha (hS.pickN 9 [0, 4, 6, 7, 8]) (fun _ hw => hw.blk 4 rfl) fun a ha => ?_;refine yW 1 61 ha (hS.pickN 9 [0, 4, 6, 7, 8]) (fun _ hw => hw.blk 3 rfl) fun a ha => ?_;refine jH 2 (o_sa 5 ha (qU (t := 121) (x := 8) (y := 60)) hS fun w a hS ha => ?_);refine ⟨.inr (hS.pickN 9 [0, 4, 6, 7, 8]), ?_⟩;refine jH 3 (o_sa 4 ha (qU (t := 124) (x := 9) (y := 61)) hS fun w a hS ha => ?_);refine xJ (jK (k := 0) [(4, 10, iv (-1))] ha (.inl (by kernel_rfl)) fun a ha => ?_);refine xX (jJ (wp_ret (kQ ha (by kernel_rfl) (xZ (t := 8) (ty := 121) (i := 5) ha rfl hS rfl (by kernel_rfl)) (xZ (t := 9) (ty := 124) (i := 4) ha rfl hS rfl (by kernel_rfl)) (yJ (t := 10) ha rfl) ?_)));have hE : qInner (qCall P fuel d) m c at_ z = (q1.1, (⟨c.f, c.depth, c.r0, c.r1, c.r2, c.r3, c.defers, 3, c.value, true, c.deferred, c.panicking, c.panic, c.recovered, c.outer⟩ : FQ), (-1)) := by (unfold qInner; simp only [hq1, c15, c16, c18, c19, if_true, if_false, Bool.true_or, Bool.false_or, Bool.or_true, Bool.or_false]) <;> rfl
   rw [hE];replace hS := hS.pickN 9 [1, 2];exact ⟨_, tr1, se1, rfl, rfl, hS⟩
  replace ha := ha.turn 54 (.bool false) rfl (congrArg Value.bool c19)
  replace ha := ha.turn 55 (.bool false) rfl (congrArg Value.bool c19)
  refine jQ [(3, 56, ptr b13 9)] ha fun a ha => ?_
  refine jU (d := 57) (b := b13) (j := 9) ha (hS.blk 0 rfl) rfl fun a ha => ?_
  refine jQ [(5, 58, .bool q1.2.leaving), (6, 59, ptr b3 9)] ha fun a ha => ?_
  refine jZ (qH b3 9 (.bool q1.2.leaving) 7 ha hS rfl rfl fun w a hS ha => ?_)
  refine jY ?_
  replace ha := ha.as [(4, ptr b1 0), (5, ptr b3 0), (8, ptr b7 0), (9, ptr b9 0), (10, iv 0)] rfl
  refine jJ (wp_seq (xY 3 5 (hS.pickN 9 [0, 4, 6, 7, 8]) hS fun w hS => ?_))
  refine yW 0 60 ha (hS.pickN 9 [0, 4, 6, 7, 8]) (fun _ hw => hw.blk 4 rfl) fun a ha => ?_
  refine yW 1 61 ha (hS.pickN 9 [0, 4, 6, 7, 8]) (fun _ hw => hw.blk 3 rfl) fun a ha => ?_
  refine jH 2 (o_sa 5 ha (qU (t := 121) (x := 8) (y := 60)) hS fun w a hS ha => ?_)
  refine ⟨.inr (hS.pickN 9 [0, 4, 6, 7, 8]), ?_⟩
  refine jH 3 (o_sa 4 ha (qU (t := 124) (x := 9) (y := 61)) hS fun w a hS ha => ?_)
  refine xJ (jK (k := 0) [(4, 10, iv (-1))] ha (.inl (by kernel_rfl)) fun a ha => ?_)
  refine xX (jJ (wp_ret (kQ ha (by kernel_rfl) (xZ (t := 8) (ty := 121) (i := 5) ha rfl hS rfl (by kernel_rfl)) (xZ (t := 9) (ty := 124) (i := 4) ha rfl hS rfl (by kernel_rfl)) (yJ (t := 10) ha rfl) ?_)))
  have hE : qInner (qCall P fuel d) m c at_ z = (q1.1, (⟨c.f, c.depth, c.r0, c.r1, c.r2, c.r3, c.defers, 3, c.value, q1.2.leaving, c.deferred, c.panicking, c.panic, c.recovered, c.outer⟩ : FQ), (-1)) := by (unfold qInner; simp only [hq1, c15, c16, c18, c19, if_true, if_false, Bool.true_or, Bool.false_or, Bool.or_true, Bool.or_false]) <;> rfl
  rw [hE]
  replace hS := hS.pickN 9 [1, 2]
  exact ⟨_, tr1, se1, rfl, rfl, hS⟩
 refine jV ha rfl (decide_eq_false c18) ?_
 refine wp_skip (in_n (jJ (wp_seq (jX [0, 1, 2, 3, 4, 5, 6, 7] (jQ [(0, 53, ptr b3 9)] ha fun a ha => ?_)))))
 refine jU (d := 54) (b := b3) (j := 9) ha (hS.blk 7 rfl) rfl fun a ha => ?_
 refine jQ [(2, 55, .bool c.leaving)] ha fun a ha => ?_
 rcases Bool.eq_false_or_eq_true c.leaving with c20 | c20
 ·
  replace ha := ha.turn 54 (.bool true) rfl (congrArg Value.bool c20)
  replace ha := ha.turn 55 (.bool true) rfl (congrArg Value.bool c20)
  refine jQ [(3, 56, undef), (4, 57, undef), (5, 58, .bool true), (6, 59, ptr b3 9)] ha fun a ha => ?_
  refine jZ (qH b3 9 (.bool true) 7 ha hS rfl rfl fun w a hS ha => ?_)
  refine jY ?_
  replace ha := ha.as [(4, ptr b1 0), (5, ptr b3 0), (8, ptr b7 0), (9, ptr b9 0), (10, iv 0)] rfl
  refine jJ (wp_seq (xY 3 5 (hS.pickN 9 [0, 4, 6, 7, 8]) hS fun w hS => ?_))
  refine yW 0 60 ha (hS.pickN 9 [0, 4, 6, 7, 8]) (fun _ hw => hw.blk 4 rfl) fun a ha => ?_
  refine yW 1 61 ha (hS.pickN 9 [0, 4, 6, 7, 8]) (fun _ hw => hw.blk 3 rfl) fun a ha => ?_
  refine jH 2 (o_sa 5 ha (qU (t := 121) (x := 8) (y := 60)) hS fun w a hS ha => ?_)
  refine ⟨.inr (hS.pickN 9 [0, 4, 6, 7, 8]), ?_⟩
  refine jH 3 (o_sa 4 ha (qU (t := 124) (x := 9) (y := 61)) hS fun w a hS ha => ?_)
  refine xJ (jK (k := 0) [(4, 10, iv (-1))] ha (.inl (by kernel_rfl)) fun a ha => ?_)
  refine xX (jJ (wp_ret (kQ ha (by kernel_rfl) (xZ (t := 8) (ty := 121) (i := 5) ha rfl hS rfl (by kernel_rfl)) (xZ (t := 9) (ty := 124) (i := 4) ha rfl hS rfl (by kernel_rfl)) (yJ (t := 10) ha rfl) ?_)))
  have hE : qInner (qCall P fuel d) m c at_ z = (q1.1, (⟨c.f, c.depth, c.r0, c.r1, c.r2, c.r3, c.defers, c.kind, c.value, true, c.deferred, c.panicking, c.panic, c.recovered, c.outer⟩ : FQ), (-1)) := by (unfold qInner; simp only [hq1, c15, c16, c18, c20, if_true, if_false, Bool.true_or, Bool.false_or, Bool.or_true, Bool.or_false]) <;> rfl
  rw [hE]
  replace hS := hS.pickN 9 [1, 2]
  exact ⟨_, tr1, se1, rfl, rfl, hS⟩
 replace ha := ha.turn 54 (.bool false) rfl (congrArg Value.bool c20)
 replace ha := ha.turn 55 (.bool false) rfl (congrArg Value.bool c20)
 refine jQ [(3, 56, ptr b13 9)] ha fun a ha => ?_
 refine jU (d := 57) (b := b13) (j := 9) ha (hS.blk 0 rfl) rfl fun a ha => ?_
 refine jQ [(5, 58, .bool q1.2.leaving), (6, 59, ptr b3 9)] ha fun a ha => ?_
 refine jZ (qH b3 9 (.bool q1.2.leaving) 7 ha hS rfl rfl fun w a hS ha => ?_)
 refine jY ?_
 replace ha := ha.as [(4, ptr b1 0), (5, ptr b3 0), (8, ptr b7 0), (9, ptr b9 0), (10, iv 0)] rfl
 refine jJ (wp_seq (xY 3 5 (hS.pickN 9 [0, 4, 6, 7, 8]) hS fun w hS => ?_))
 refine yW 0 60 ha (hS.pickN 9 [0, 4, 6, 7, 8]) (fun _ hw => hw.blk 4 rfl) fun a ha => ?_
 refine yW 1 61 ha (hS.pickN 9 [0, 4, 6, 7, 8]) (fun _ hw => hw.blk 3 rfl) fun a ha => ?_
 refine jH 2 (o_sa 5 ha (qU (t := 121) (x := 8) (y := 60)) hS fun w a hS ha => ?_)
 refine ⟨.inr (hS.pickN 9 [0, 4, 6, 7, 8]), ?_⟩
 refine jH 3 (o_sa 4 ha (qU (t := 124) (x := 9) (y := 61)) hS fun w a hS ha => ?_)
 refine xJ (jK (k := 0) [(4, 10, iv (-1))] ha (.inl (by kernel_rfl)) fun a ha => ?_)
 refine xX (jJ (wp_ret (kQ ha (by kernel_rfl) (xZ (t := 8) (ty := 121) (i := 5) ha rfl hS rfl (by kernel_rfl)) (xZ (t := 9) (ty := 124) (i := 4) ha rfl hS rfl (by kernel_rfl)) (yJ (t := 10) ha rfl) ?_)))
 have hE : qInner (qCall P fuel d) m c at_ z = (q1.1, (⟨c.f, c.depth, c.r0, c.r1, c.r2, c.r3, c.defers, c.kind, c.value, q1.2.leaving, c.deferred, c.panicking, c.panic, c.recovered, c.outer⟩ : FQ), (-1)) := by (unfold qInner; simp only [hq1, c15, c16, c18, c20, if_true, if_false, Bool.true_or, Bool.false_or, Bool.or_true, Bool.or_false]) <;> rfl
 rw [hE]
 replace hS := hS.pickN 9 [1, 2]
 exact ⟨_, tr1, se1, rfl, rfl, hS⟩
theorem code87 : Try.f87.body = some (Code.seq (cr Try.f87 0 false) (Code.seq (Code.seq (cr Try.f87 1 false) (Code.block 0 (Code.seq (cr Try.f87 2 false) (Code.cond (Operand.tmp 13) (Code.seq (cr Try.f87 3 false) Code.ret) (Code.seq (cr Try.f87 4 false) (Code.cond (Operand.tmp 23) (Code.seq (cr Try.f87 5 true) (Code.seq (cr Try.f87 6 true) Code.ret)) (Code.seq (cr Try.f87 7 false) (Code.cond (Operand.tmp 52) (Code.seq (cr Try.f87 8 false) (Code.seq (cr Try.f87 9 false) (Code.seq (cr Try.f87 10 true) Code.ret))) (Code.seq (cr Try.f87 11 false) (Code.cond (Operand.tmp 68) (Code.seq (cr Try.f87 12 false) (Code.seq (cr Try.f87 13 true) Code.ret)) (Code.seq (cr Try.f87 14 false) (Code.cond (Operand.tmp 79) (Code.seq (cr Try.f87 15 false) (Code.seq (cr Try.f87 16 false) (Code.seq (cr Try.f87 17 true) Code.ret))) (Code.seq (cr Try.f87 18 false) (Code.cond (Operand.tmp 85) (Code.seq (Code.seq (cr Try.f87 19 false) (Code.cond (Operand.tmp 92) (Code.seq (cr Try.f87 20 true) Code.ret) Code.skip)) (Code.seq (cr Try.f87 21 true) Code.ret)) Code.skip)))))))))))))) (Code.seq (cr Try.f87 22 false) (Code.seq (cr Try.f87 23 true) Code.ret)))) := by kernel_rfl
theorem q_make {P : List (List Stp)} {pv : Sl} {fuel : Int} {sbs : List Sl} {d : Nat} (IH : CallCQ P fuel pv sbs d) {w0 w : World} {Rs : List Asn} (m : MQ) (c : FQ) (at_ : Int) (z : Stp) {tr se df : Sl} (x : Nat) (hS : Sat w0 w (rE tr m.trace :: rS se m.seen :: rS df c.defers :: Rs)) (hm : OkQ fuel m (2 * c.defers.length + x + 3)) (hk : OkC P.length c) (hs : StpOk P.length z) (hd1 : c.depth + d + 1 = 9) (hd2 : 1 ≤ c.depth) (ha0 : 0 ≤ at_) (ha8 : at_ < 8) (hPr : Keeps w0 Rs (fun w => RdProg w pv sbs P)) :
  Calls Try.prog 87 #[mV pv fuel m tr se, cV c df, .int .i64 at_, .agg #[.int .i64 z.k, .int .i64 z.a, .int .i64 z.b]] w (Ret fun r w' => ∃ (q : MQ × FQ × Int) (tr' se' df' : Sl), q = qMake (qCall P fuel d) m c at_ z ∧ r = .tuple #[mV pv fuel q.1 tr' se', cV q.2.1 df', .int .i64 q.2.2] ∧ Sat w0 w' (rE tr' q.1.trace :: rS se' q.1.seen :: rS df' q.2.1.defers :: Rs)) := by
 replace hS : Sat w0 w ((rE tr m.trace) :: (rS se m.seen) :: (rS df c.defers) :: Rs) := hS
 have hlen : m.trace.length ≤ 1000 ∧ c.defers.length ≤ 1000 := by have := hm.bnd; have := hm.made1; omega
 have hk1 := hs.k0
 have hk2 := hs.k1
 refine enter (n := 112) Try.func87 code87 (by kernel_rfl) (Nat.le_of_ble_eq_true rfl) (fun a ha => ?_)
 replace ha : Has 112 [(0, (mG pv fuel m.spent m.shared m.made m.deep tr se)), (1, (cG c.f c.depth c.r0 c.r1 c.r2 c.r3 df c.kind c.value c.leaving c.deferred c.panicking c.panic c.recovered c.outer)), (2, iv at_), (3, .agg #[iv z.k, iv z.a, iv z.b])] a := ha
 refine wp_seq (jX [0, 1, 2, 3, 4, 5] (jZ (qJ 4 (mL pv fuel m.spent m.shared m.made m.deep tr se) 121 (ptr · 0) ha hS fun b1 w a hb2 hS ha => ?_)))
 refine jZ (qJ 5 (cL c.f c.depth c.r0 c.r1 c.r2 c.r3 df c.kind c.value c.leaving c.deferred c.panicking c.panic c.recovered c.outer) 124 (ptr · 0) ha hS fun b3 w a hb4 hS ha => ?_)
 refine jZ (qJ 7 [iv z.k, iv z.a, iv z.b] 98 (ptr · 0) ha hS fun b5 w a hb6 hS ha => ?_)
 refine jZ (qJ 8 (mL (⟨none, 0, 0⟩) 0 false 0 0 0 (⟨none, 0, 0⟩) (⟨none, 0, 0⟩)) 121 (ptr · 0) ha hS fun b7 w a hb8 hS ha => ?_)
 refine jZ (qJ 9 (cL 0 0 0 0 0 0 (⟨none, 0, 0⟩) 0 0 false false false 0 false 0) 124 (ptr · 0) ha hS fun b9 w a hb10 hS ha => ?_)
 refine jQ [(5, 10, iv 0)] ha fun a ha => ?_
 refine jY (jJ (wp_seq (wp_seq (jX [0, 1] (jQ [(0, 11, ptr b5 0)] ha fun a ha => ?_)))))
 refine jU (d := 12) (b := b5) (j := 0) ha (hS.blk 2 rfl) rfl fun a ha => ?_
 refine jY (jJ (wp_block (wp_seq (jX [0, 1] (jQ [(0, 14, .bool (decide (z.k = 4))), (1, 13, .bool (decide (z.k = 4)))] ha fun a ha => ?_)))))
 refine jY (jJ ?_)
 by_cases c11 : z.k = 4
 ·
  refine jG ha rfl (decide_eq_true c11) ?_
  refine wp_seq (jX [0, 1, 2, 3, 4, 5, 6, 7, 8, 9, 10] (xG 15 ha (hS.blk 4 rfl) fun a ha => ?_))
  refine xG 16 ha (hS.blk 3 rfl) fun a ha => ?_
  refine jQ [(2, 17, iv at_)] ha fun a ha => ?_
  refine xG 18 ha (hS.blk 2 rfl) fun a ha => ?_
  refine jZ (qG 19 (vs := [(mG pv fuel m.spent m.shared m.made m.deep tr se), (cG c.f c.depth c.r0 c.r1 c.r2 c.r3 df c.kind c.value c.leaving c.deferred c.panicking c.panic c.recovered c.outer), iv at_, .agg #[iv z.k, iv z.a, iv z.b]]) ha (q_inner IH m c at_ z (2 * c.defers.length + x) (hS.pickN 8 [5, 6, 0, 1, 2, 3, 4, 7]) (hm.less (by omega)) hk hs c11 hd1 hd2 ha0 (by omega) (hPr.more [_, _, _, _, _, _])) fun v12 w a hp13 ha => ?_)
  obtain ⟨q1, tr1, se1, hq1, rfl, hS⟩ := hp13
  refine jQ [(5, 20, (mG pv fuel q1.1.spent q1.1.shared q1.1.made q1.1.deep tr1 se1)), (6, 21, (cG q1.2.1.f q1.2.1.depth q1.2.1.r0 q1.2.1.r1 q1.2.1.r2 q1.2.1.r3 df q1.2.1.kind q1.2.1.value q1.2.1.leaving q1.2.1.deferred q1.2.1.panicking q1.2.1.panic q1.2.1.recovered q1.2.1.outer)), (7, 22, iv q1.2.2)] ha fun a ha => ?_
  refine jZ (o_sa 3 ha (qU (t := 121) (x := 8) (y := 20)) hS fun w a hS ha => ?_)
  refine jZ (o_sa 2 ha (qU (t := 124) (x := 9) (y := 21)) hS fun w a hS ha => ?_)
  refine jQ [(10, 10, iv q1.2.2)] ha fun a ha => ?_
  refine jY (jJ (wp_ret (in_r (xQ (kQ ha (by kernel_rfl) (xZ (t := 8) (ty := 121) (i := 3) ha rfl hS rfl (by kernel_rfl)) (xZ (t := 9) (ty := 124) (i := 2) ha rfl hS rfl (by kernel_rfl)) (yJ (t := 10) ha rfl) ?_)))))
  have hE : qMake (qCall P fuel d) m c at_ z = q1 := by unfold qMake; rw [if_pos c11]; exact hq1.symm
  replace hS := hS.pickN 8 [0, 1, 7]
  exact ⟨_, tr1, se1, df, hE.symm, rfl, by rw [hq1, qInner_defers, ← hq1]; exact hS⟩
 refine jV ha rfl (decide_eq_false c11) ?_
 refine wp_seq (jX [0, 1] (jQ [(0, 24, .bool (decide (z.k = 5))), (1, 23, .bool (decide (z.k = 5)))] ha fun a ha => ?_))
 refine jY (jJ ?_)
 by_cases c14 : z.k = 5
 ·
  refine jG ha rfl (decide_eq_true c14) ?_
  refine wp_seq (xY 15 16 (hS.pickN 8 [0, 1, 2, 3, 4]) hS fun w hS => ?_)
  refine jK (k := 15) [(1, 26, ptr b3 6)] ha (.inr (hS.pickN 8 [0, 1, 2, 3, 4])) fun a ha => ?_
  refine qW 2 (d := 27) (b := b3) (j := 6) ha (hS.pickN 8 [0, 1, 2, 3, 4]) (fun _ hw => hw.blk 3 rfl) rfl fun a ha => ?_
  refine jK (k := 13) [(4, 29, ptr b5 1)] ha (.inr (hS.pickN 8 [0, 1, 2, 3, 4])) fun a ha => ?_
  refine qW 5 (d := 30) (b := b5) (j := 1) ha (hS.pickN 8 [0, 1, 2, 3, 4]) (fun _ hw => hw.blk 2 rfl) rfl fun a ha => ?_
  refine jK (k := 11) [(6, 31, ptr b5 2)] ha (.inr (hS.pickN 8 [0, 1, 2, 3, 4])) fun a ha => ?_
  refine qW 7 (d := 32) (b := b5) (j := 2) ha (hS.pickN 8 [0, 1, 2, 3, 4]) (fun _ hw => hw.blk 2 rfl) rfl fun a ha => ?_
  refine jK (k := 9) [(8, 33, ptr b3 2)] ha (.inr (hS.pickN 8 [0, 1, 2, 3, 4])) fun a ha => ?_
  refine zQ 9 (.pointer (some ⟨b3, 2 + (z.b : Int).toNat * 1, none⟩)) ha (yV (len := 4) (el := 3) (sz := 1) ha (yU (t := 122) (x := 33) (y := 32) (d := 34)) rfl rfl (by kernel_rfl) (by kernel_rfl) (by have := (reg4 (hs.b (by omega))); omega) (by have := (reg4 (hs.b (by omega))); omega)) (.inr (hS.pickN 8 [0, 1, 2, 3, 4])) fun a ha => ?_
  refine zH 10 (iv (g4 c.r0 c.r1 c.r2 c.r3 z.b)) ha (v_load (cs := [iv c.f, iv c.depth, iv c.r0, iv c.r1, iv c.r2, iv c.r3, .slice df.A df.n df.c, iv c.kind, iv c.value, .bool c.leaving, .bool c.deferred, .bool c.panicking, iv c.panic, .bool c.recovered, iv c.outer]) (T := 124) ha (zV (t := 3) (x := 34) (d := 35) (ty := 3)) rfl (by kernel_rfl) (fun _ hw => hw.blk 3 rfl) (by rcases (reg4 (hs.b (by omega))) with h | h | h | h <;> simp [h, g4])) (hS.pickN 8 [0, 1, 2, 3, 4]) fun a ha => ?_
  refine jK (k := 6) [(11, 36, .agg #[iv z.a, iv (g4 c.r0 c.r1 c.r2 c.r3 z.b)])] ha (.inr (hS.pickN 8 [0, 1, 2, 3, 4])) fun a ha => ?_
  refine d_all (rs := [0, 12]) (by kernel_rfl) (by simp) (forall_mem_2 ?_ ?_)
  ·
   refine id (qJ 25 [] 61 (fun b => .slice (some ⟨b, 0, none⟩) 0 0) ha hS fun b15 w a hb16 hS ha => ?_);refine ⟨.inr (hS.pickN 9 [1, 2, 3, 4, 5]), ?_⟩;refine d_all (rs := [3, 12]) (by kernel_rfl) (by simp) (forall_mem_2 ?_ ?_)
   ·
    refine id (o_appRow0 (m := df.n) (z := .agg #[iv 0, iv 0]) (sz := 2) (bytes := 16) (ys' := encR c.defers) 0 8 ha (by decide) (zW (op := (Op.call { callee := (Callee.builtin Builtin.append), args := #[(Operand.tmp 25), (Operand.tmp 27)], argTypes := #[58, 58] })) (d := some 28) (ty := 58)) rfl rfl (by kernel_rfl) (by kernel_rfl) rfl (by decide) hS rfl rfl (Nat.le_refl _) (encR_one _) (by rw [encR_length]; have := hlen.2; omega) (by decide) (encR_all (hS.rowL (s := df) (enc := cellsR) 8 yG (by decide) rfl)) fun s17 w a hS hn18 ha => ?_);refine ⟨.inr (hS.pickN 9 [1, 2, 3, 4, 5]), ?_⟩;refine jH 12 (qJ 37 [iv z.a, iv (g4 c.r0 c.r1 c.r2 c.r3 z.b)] 61 (fun b => .slice (some ⟨b, 0, none⟩) 1 1) ha hS fun b19 w a hb20 hS ha => ?_);refine ⟨.inr (hS.pickN 10 [2, 3, 4, 5, 6]), ?_⟩;refine jH 13 (o_ap 38 1 0 (encR (c.defers ++ [(z.a, g4 c.r0 c.r1 c.r2 c.r3 z.b)])) ha hS rfl rfl (by rw [encR_length]; simp only [List.length_cons, List.length_nil]; have := hlen.2; omega) (encR_snoc _ _ _) fun s24 w a hS hn25 ha => ?_);refine ⟨.inr (hS.pickN 10 [2, 3, 4, 5, 6]), ?_⟩;refine jK (k := 1) [(14, 39, ptr b3 6)] ha (.inr (hS.pickN 10 [2, 3, 4, 5, 6])) fun a ha => ?_;refine jH 15 (qH b3 6 (.slice s24.A s24.n s24.c) 5 ha hS rfl rfl fun w a hS ha => ?_);refine xJ (xX ?_);replace ha := ha.as [(2, iv at_), (4, ptr b1 0), (5, ptr b3 0), (7, ptr b5 0), (8, ptr b7 0), (9, ptr b9 0), (10, iv 0)] rfl;refine jJ (wp_seq (xY 13 15 (hS.pickN 10 [0, 2, 4, 5, 6]) hS fun w hS => ?_));refine yW 0 40 ha (hS.pickN 10 [0, 2, 4, 5, 6]) (fun _ hw => hw.blk 4 rfl) fun a ha => ?_;refine jK (k := 13) [(1, 41, ptr b5 1)] ha (.inr (hS.pickN 10 [0, 2, 4, 5, 6])) fun a ha => ?_;refine qW 2 (d := 42) (b := b5) (j := 1) ha (hS.pickN 10 [0, 2, 4, 5, 6]) (fun _ hw => hw.blk 2 rfl) rfl fun a ha => ?_;refine jK (k := 11) [(3, 43, ptr b5 2)] ha (.inr (hS.pickN 10 [0, 2, 4, 5, 6])) fun a ha => ?_;refine qW 4 (d := 44) (b := b5) (j := 2) ha (hS.pickN 10 [0, 2, 4, 5, 6]) (fun _ hw => hw.blk 2 rfl) rfl fun a ha => ?_;refine jK (k := 9) [(5, 45, ptr b3 2)] ha (.inr (hS.pickN 10 [0, 2, 4, 5, 6])) fun a ha => ?_;refine zQ 6 (.pointer (some ⟨b3, 2 + (z.b : Int).toNat * 1, none⟩)) ha (yV (len := 4) (el := 3) (sz := 1) ha (yU (t := 122) (x := 45) (y := 44) (d := 46)) rfl rfl (by kernel_rfl) (by kernel_rfl) (by have := (reg4 (hs.b (by omega))); omega) (by have := (reg4 (hs.b (by omega))); omega)) (.inr (hS.pickN 10 [0, 2, 4, 5, 6])) fun a ha => ?_;refine zH 7 (iv (g4 c.r0 c.r1 c.r2 c.r3 z.b)) ha (v_load (cs := [iv c.f, iv c.depth, iv c.r0, iv c.r1, iv c.r2, iv c.r3, .slice s24.A s24.n s24.c, iv c.kind, iv c.value, .bool c.leaving, .bool c.deferred, .bool c.panicking, iv c.panic, .bool c.recovered, iv c.outer]) (T := 124) ha (zV (t := 3) (x := 46) (d := 47) (ty := 3)) rfl (by kernel_rfl) (fun _ hw => hw.blk 3 rfl) (by rcases (reg4 (hs.b (by omega))) with h | h | h | h <;> simp [h, g4])) (hS.pickN 10 [0, 2, 4, 5, 6]) fun a ha => ?_;refine yW 9 49 ha (hS.pickN 10 [0, 2, 4, 5, 6]) (fun _ hw => hw.blk 3 rfl) fun a ha => ?_
    refine jK (k := 5) [(10, 50, iv at_)] ha (.inr (hS.pickN 10 [0, 2, 4, 5, 6])) fun a ha => ?_;refine kW 11 51 (at_ + 1) ha (.inr (hS.pickN 10 [0, 2, 4, 5, 6])) fun a ha => ?_;refine jH 8 (qG 48 (vs := [(mG pv fuel m.spent m.shared m.made m.deep tr se), iv 2, iv z.a, iv (g4 c.r0 c.r1 c.r2 c.r3 z.b)]) ha (q_tell m (hS.pickN 10 [7, 0, 1, 2, 3, 4, 5, 6, 8, 9]) (by exact hlen.1)) fun v27 w a hp28 ha => ?_);obtain ⟨s26, rfl, hS⟩ := hp28;refine ⟨.inr (hS.pickN 10 [1, 3, 5, 6, 7]), ?_⟩;refine jH 12 (o_sa 4 ha (qU (t := 121) (x := 8) (y := 48)) hS fun w a hS ha => ?_);refine ⟨.inr (hS.pickN 10 [1, 3, 5, 6, 7]), ?_⟩;refine jH 13 (o_sa 3 ha (qU (t := 124) (x := 9) (y := 49)) hS fun w a hS ha => ?_);refine xJ (jK (k := 0) [(14, 10, iv (at_ + 1))] ha (.inl (by kernel_rfl)) fun a ha => ?_);refine xX (jJ (wp_ret (in_r (xQ (kQ ha (by kernel_rfl) (xZ (t := 8) (ty := 121) (i := 4) ha rfl hS rfl (by kernel_rfl)) (xZ (t := 9) (ty := 124) (i := 3) ha rfl hS rfl (by kernel_rfl)) (yJ (t := 10) ha rfl) ?_)))));have hE : qMake (qCall P fuel d) m c at_ z = ((⟨m.spent, m.shared, m.made, m.deep, m.trace ++ [(2, z.a, g4 c.r0 c.r1 c.r2 c.r3 z.b)], m.seen⟩ : MQ), (⟨c.f, c.depth, c.r0, c.r1, c.r2, c.r3, c.defers ++ [(z.a, g4 c.r0 c.r1 c.r2 c.r3 z.b)], c.kind, c.value, c.leaving, c.deferred, c.panicking, c.panic, c.recovered, c.outer⟩ : FQ), at_ + 1) := by (unfold qMake; simp only [c11, c14, FQ.get, if_true, if_false]) <;> rfl
    replace hS := hS.pickN 10 [0, 8, 2];exact ⟨_, s26, se, s24, hE.symm, rfl, hS⟩
   refine id (qJ 37 [iv z.a, iv (g4 c.r0 c.r1 c.r2 c.r3 z.b)] 61 (fun b => .slice (some ⟨b, 0, none⟩) 1 1) ha hS fun b29 w a hb30 hS ha => ?_);refine ⟨.inr (hS.pickN 10 [2, 3, 4, 5, 6]), ?_⟩;refine jH 3 (o_appRow0 (m := df.n) (z := .agg #[iv 0, iv 0]) (sz := 2) (bytes := 16) (ys' := encR c.defers) 1 9 ha (by decide) (zW (op := (Op.call { callee := (Callee.builtin Builtin.append), args := #[(Operand.tmp 25), (Operand.tmp 27)], argTypes := #[58, 58] })) (d := some 28) (ty := 58)) rfl rfl (by kernel_rfl) (by kernel_rfl) rfl (by decide) hS rfl rfl (Nat.le_refl _) (encR_one _) (by rw [encR_length]; have := hlen.2; omega) (by decide) (encR_all (hS.rowL (s := df) (enc := cellsR) 9 yG (by decide) rfl)) fun s31 w a hS hn32 ha => ?_);refine ⟨.inr (hS.pickN 10 [2, 3, 4, 5, 6]), ?_⟩;refine jH 13 (o_ap 38 1 0 (encR (c.defers ++ [(z.a, g4 c.r0 c.r1 c.r2 c.r3 z.b)])) ha hS rfl rfl (by rw [encR_length]; simp only [List.length_cons, List.length_nil]; have := hlen.2; omega) (encR_snoc _ _ _) fun s36 w a hS hn37 ha => ?_);refine ⟨.inr (hS.pickN 10 [2, 3, 4, 5, 6]), ?_⟩;refine jK (k := 1) [(14, 39, ptr b3 6)] ha (.inr (hS.pickN 10 [2, 3, 4, 5, 6])) fun a ha => ?_;refine jH 15 (qH b3 6 (.slice s36.A s36.n s36.c) 5 ha hS rfl rfl fun w a hS ha => ?_);refine xJ (xX ?_);replace ha := ha.as [(2, iv at_), (4, ptr b1 0), (5, ptr b3 0), (7, ptr b5 0), (8, ptr b7 0), (9, ptr b9 0), (10, iv 0)] rfl;refine jJ (wp_seq (xY 13 15 (hS.pickN 10 [0, 2, 4, 5, 6]) hS fun w hS => ?_));refine yW 0 40 ha (hS.pickN 10 [0, 2, 4, 5, 6]) (fun _ hw => hw.blk 4 rfl) fun a ha => ?_;refine jK (k := 13) [(1, 41, ptr b5 1)] ha (.inr (hS.pickN 10 [0, 2, 4, 5, 6])) fun a ha => ?_;refine qW 2 (d := 42) (b := b5) (j := 1) ha (hS.pickN 10 [0, 2, 4, 5, 6]) (fun _ hw => hw.blk 2 rfl) rfl fun a ha => ?_;refine jK (k := 11) [(3, 43, ptr b5 2)] ha (.inr (hS.pickN 10 [0, 2, 4, 5, 6])) fun a ha => ?_;refine qW 4 (d := 44) (b := b5) (j := 2) ha (hS.pickN 10 [0, 2, 4, 5, 6]) (fun _ hw => hw.blk 2 rfl) rfl fun a ha => ?_;refine jK (k := 9) [(5, 45, ptr b3 2)] ha (.inr (hS.pickN 10 [0, 2, 4, 5, 6])) fun a ha => ?_;refine zQ 6 (.pointer (some ⟨b3, 2 + (z.b : Int).toNat * 1, none⟩)) ha (yV (len := 4) (el := 3) (sz := 1) ha (yU (t := 122) (x := 45) (y := 44) (d := 46)) rfl rfl (by kernel_rfl) (by kernel_rfl) (by have := (reg4 (hs.b (by omega))); omega) (by have := (reg4 (hs.b (by omega))); omega)) (.inr (hS.pickN 10 [0, 2, 4, 5, 6])) fun a ha => ?_;refine zH 7 (iv (g4 c.r0 c.r1 c.r2 c.r3 z.b)) ha (v_load (cs := [iv c.f, iv c.depth, iv c.r0, iv c.r1, iv c.r2, iv c.r3, .slice s36.A s36.n s36.c, iv c.kind, iv c.value, .bool c.leaving, .bool c.deferred, .bool c.panicking, iv c.panic, .bool c.recovered, iv c.outer]) (T := 124) ha (zV (t := 3) (x := 46) (d := 47) (ty := 3)) rfl (by kernel_rfl) (fun _ hw => hw.blk 3 rfl) (by rcases (reg4 (hs.b (by omega))) with h | h | h | h <;> simp [h, g4])) (hS.pickN 10 [0, 2, 4, 5, 6]) fun a ha => ?_;refine yW 9 49 ha (hS.pickN 10 [0, 2, 4, 5, 6]) (fun _ hw => hw.blk 3 rfl) fun a ha => ?_
   refine jK (k := 5) [(10, 50, iv at_)] ha (.inr (hS.pickN 10 [0, 2, 4, 5, 6])) fun a ha => ?_;refine kW 11 51 (at_ + 1) ha (.inr (hS.pickN 10 [0, 2, 4, 5, 6])) fun a ha => ?_;refine jH 8 (qG 48 (vs := [(mG pv fuel m.spent m.shared m.made m.deep tr se), iv 2, iv z.a, iv (g4 c.r0 c.r1 c.r2 c.r3 z.b)]) ha (q_tell m (hS.pickN 10 [7, 0, 1, 2, 3, 4, 5, 6, 8, 9]) (by exact hlen.1)) fun v39 w a hp40 ha => ?_);obtain ⟨s38, rfl, hS⟩ := hp40;refine ⟨.inr (hS.pickN 10 [1, 3, 5, 6, 7]), ?_⟩;refine jH 12 (o_sa 4 ha (qU (t := 121) (x := 8) (y := 48)) hS fun w a hS ha => ?_);refine ⟨.inr (hS.pickN 10 [1, 3, 5, 6, 7]), ?_⟩;refine jH 13 (o_sa 3 ha (qU (t := 124) (x := 9) (y := 49)) hS fun w a hS ha => ?_);refine xJ (jK (k := 0) [(14, 10, iv (at_ + 1))] ha (.inl (by kernel_rfl)) fun a ha => ?_);refine xX (jJ (wp_ret (in_r (xQ (kQ ha (by kernel_rfl) (xZ (t := 8) (ty := 121) (i := 4) ha rfl hS rfl (by kernel_rfl)) (xZ (t := 9) (ty := 124) (i := 3) ha rfl hS rfl (by kernel_rfl)) (yJ (t := 10) ha rfl) ?_)))));have hE : qMake (qCall P fuel d) m c at_ z = ((⟨m.spent, m.shared, m.made, m.deep, m.trace ++ [(2, z.a, g4 c.r0 c.r1 c.r2 c.r3 z.b)], m.seen⟩ : MQ), (⟨c.f, c.depth, c.r0, c.r1, c.r2, c.r3, c.defers ++ [(z.a, g4 c.r0 c.r1 c.r2 c.r3 z.b)], c.kind, c.value, c.leaving, c.deferred, c.panicking, c.panic, c.recovered, c.outer⟩ : FQ), at_ + 1) := by (unfold qMake; simp only [c11, c14, FQ.get, if_true, if_false]) <;> rfl
   replace hS := hS.pickN 10 [0, 8, 2];exact ⟨_, s38, se, s36, hE.symm, rfl, hS⟩
  refine id (qJ 37 [iv z.a, iv (g4 c.r0 c.r1 c.r2 c.r3 z.b)] 61 (fun b => .slice (some ⟨b, 0, none⟩) 1 1) ha hS fun b41 w a hb42 hS ha => ?_)
  refine ⟨.inr (hS.pickN 9 [1, 2, 3, 4, 5]), ?_⟩
  refine jH 0 (qJ 25 [] 61 (fun b => .slice (some ⟨b, 0, none⟩) 0 0) ha hS fun b43 w a hb44 hS ha => ?_)
  refine ⟨.inr (hS.pickN 10 [2, 3, 4, 5, 6]), ?_⟩
  refine jH 3 (o_appRow0 (m := df.n) (z := .agg #[iv 0, iv 0]) (sz := 2) (bytes := 16) (ys' := encR c.defers) 0 9 ha (by decide) (zW (op := (Op.call { callee := (Callee.builtin Builtin.append), args := #[(Operand.tmp 25), (Operand.tmp 27)], argTypes := #[58, 58] })) (d := some 28) (ty := 58)) rfl rfl (by kernel_rfl) (by kernel_rfl) rfl (by decide) hS rfl rfl (Nat.le_refl _) (encR_one _) (by rw [encR_length]; have := hlen.2; omega) (by decide) (encR_all (hS.rowL (s := df) (enc := cellsR) 9 yG (by decide) rfl)) fun s45 w a hS hn46 ha => ?_)
  refine ⟨.inr (hS.pickN 10 [2, 3, 4, 5, 6]), ?_⟩
  refine jH 13 (o_ap 38 0 1 (encR (c.defers ++ [(z.a, g4 c.r0 c.r1 c.r2 c.r3 z.b)])) ha hS rfl rfl (by rw [encR_length]; simp only [List.length_cons, List.length_nil]; have := hlen.2; omega) (encR_snoc _ _ _) fun s50 w a hS hn51 ha => ?_)
  refine ⟨.inr (hS.pickN 10 [2, 3, 4, 5, 6]), ?_⟩
  refine jK (k := 1) [(14, 39, ptr b3 6)] ha (.inr (hS.pickN 10 [2, 3, 4, 5, 6])) fun a ha => ?_
  refine jH 15 (qH b3 6 (.slice s50.A s50.n s50.c) 5 ha hS rfl rfl fun w a hS ha => ?_)
  refine xJ (xX ?_)
  replace ha := ha.as [(2, iv at_), (4, ptr b1 0), (5, ptr b3 0), (7, ptr b5 0), (8, ptr b7 0), (9, ptr b9 0), (10, iv 0)] rfl
  refine jJ (wp_seq (xY 13 15 (hS.pickN 10 [1, 2, 4, 5, 6]) hS fun w hS => ?_))
  refine yW 0 40 ha (hS.pickN 10 [1, 2, 4, 5, 6]) (fun _ hw => hw.blk 4 rfl) fun a ha => ?_
  refine jK (k := 13) [(1, 41, ptr b5 1)] ha (.inr (hS.pickN 10 [1, 2, 4, 5, 6])) fun a ha => ?_
  refine qW 2 (d := 42) (b := b5) (j := 1) ha (hS.pickN 10 [1, 2, 4, 5, 6]) (fun _ hw => hw.blk 2 rfl) rfl fun a ha => ?_
  refine jK (k := 11) [(3, 43, ptr b5 2)] ha (.inr (hS.pickN 10 [1, 2, 4, 5, 6])) fun a ha => ?_
  refine qW 4 (d := 44) (b := b5) (j := 2) ha (hS.pickN 10 [1, 2, 4, 5, 6]) (fun _ hw => hw.blk 2 rfl) rfl fun a ha => ?_
  refine jK (k := 9) [(5, 45, ptr b3 2)] ha (.inr (hS.pickN 10 [1, 2, 4, 5, 6])) fun a ha => ?_
  refine zQ 6 (.pointer (some ⟨b3, 2 + (z.b : Int).toNat * 1, none⟩)) ha (yV (len := 4) (el := 3) (sz := 1) ha (yU (t := 122) (x := 45) (y := 44) (d := 46)) rfl rfl (by kernel_rfl) (by kernel_rfl) (by have := (reg4 (hs.b (by omega))); omega) (by have := (reg4 (hs.b (by omega))); omega)) (.inr (hS.pickN 10 [1, 2, 4, 5, 6])) fun a ha => ?_
  refine zH 7 (iv (g4 c.r0 c.r1 c.r2 c.r3 z.b)) ha (v_load (cs := [iv c.f, iv c.depth, iv c.r0, iv c.r1, iv c.r2, iv c.r3, .slice s50.A s50.n s50.c, iv c.kind, iv c.value, .bool c.leaving, .bool c.deferred, .bool c.panicking, iv c.panic, .bool c.recovered, iv c.outer]) (T := 124) ha (zV (t := 3) (x := 46) (d := 47) (ty := 3)) rfl (by kernel_rfl) (fun _ hw => hw.blk 3 rfl) (by rcases (reg4 (hs.b (by omega))) with h | h | h | h <;> simp [h, g4])) (hS.pickN 10 [1, 2, 4, 5, 6]) fun a ha => ?_
  refine yW 9 49 ha (hS.pickN 10 [1, 2, 4, 5, 6]) (fun _ hw => hw.blk 3 rfl) fun a ha => ?_
  refine jK (k := 5) [(10, 50, iv at_)] ha (.inr (hS.pickN 10 [1, 2, 4, 5, 6])) fun a ha => ?_
  refine kW 11 51 (at_ + 1) ha (.inr (hS.pickN 10 [1, 2, 4, 5, 6])) fun a ha => ?_
  refine jH 8 (qG 48 (vs := [(mG pv fuel m.spent m.shared m.made m.deep tr se), iv 2, iv z.a, iv (g4 c.r0 c.r1 c.r2 c.r3 z.b)]) ha (q_tell m (hS.pickN 10 [7, 0, 1, 2, 3, 4, 5, 6, 8, 9]) (by exact hlen.1)) fun v53 w a hp54 ha => ?_)
  obtain ⟨s52, rfl, hS⟩ := hp54
  refine ⟨.inr (hS.pickN 10 [2, 3, 5, 6, 7]), ?_⟩
  refine jH 12 (o_sa 4 ha (qU (t := 121) (x := 8) (y := 48)) hS fun w a hS ha => ?_)
  refine ⟨.inr (hS.pickN 10 [2, 3, 5, 6, 7]), ?_⟩
  refine jH 13 (o_sa 3 ha (qU (t := 124) (x := 9) (y := 49)) hS fun w a hS ha => ?_)
  refine xJ (jK (k := 0) [(14, 10, iv (at_ + 1))] ha (.inl (by kernel_rfl)) fun a ha => ?_)
  refine xX (jJ (wp_ret (in_r (xQ (kQ ha (by kernel_rfl) (xZ (t := 8) (ty := 121) (i := 4) ha rfl hS rfl (by kernel_rfl)) (xZ (t := 9) (ty := 124) (i := 3) ha rfl hS rfl (by kernel_rfl)) (yJ (t := 10) ha rfl) ?_)))))
  have hE : qMake (qCall P fuel d) m c at_ z = ((⟨m.spent, m.shared, m.made, m.deep, m.trace ++ [(2, z.a, g4 c.r0 c.r1 c.r2 c.r3 z.b)], m.seen⟩ : MQ), (⟨c.f, c.depth, c.r0, c.r1, c.r2, c.r3, c.defers ++ [(z.a, g4 c.r0 c.r1 c.r2 c.r3 z.b)], c.kind, c.value, c.leaving, c.deferred, c.panicking, c.panic, c.recovered, c.outer⟩ : FQ), at_ + 1) := by (unfold qMake; simp only [c11, c14, FQ.get, if_true, if_false]) <;> rfl
  replace hS := hS.pickN 10 [0, 8, 1]
  exact ⟨_, s52, se, s50, hE.symm, rfl, hS⟩
 refine jV ha rfl (decide_eq_false c14) ?_
 refine wp_seq (jX [0, 1] (jQ [(0, 53, .bool (decide (z.k = 6))), (1, 52, .bool (decide (z.k = 6)))] ha fun a ha => ?_))
 refine jY (jJ ?_)
 by_cases c55 : z.k = 6
 ·
  refine jG ha rfl (decide_eq_true c55) ?_
  refine wp_seq (jX [0, 1] (jQ [(0, 54, ptr b3 7)] ha fun a ha => ?_))
  refine jZ (qH b3 7 (iv 2) 3 ha hS rfl rfl fun w a hS ha => ?_)
  refine jY (jJ (wp_seq (jX [0, 1, 2, 3, 4, 5, 6] (jQ [(0, 55, ptr b5 1)] ha fun a ha => ?_))))
  refine jU (d := 56) (b := b5) (j := 1) ha (hS.blk 2 rfl) rfl fun a ha => ?_
  refine jQ [(2, 57, ptr b3 2)] ha fun a ha => ?_
  refine xU (.pointer (some ⟨b3, 2 + (z.a : Int).toNat * 1, none⟩)) ha (yV (len := 4) (el := 3) (sz := 1) ha (yU (t := 122) (x := 57) (y := 56) (d := 58)) rfl rfl (by kernel_rfl) (by kernel_rfl) (by have := (reg4 (hs.a (by omega) (by omega) (by omega) (by omega))); omega) (by have := (reg4 (hs.a (by omega) (by omega) (by omega) (by omega))); omega)) fun a ha => ?_
  refine xU (iv (g4 c.r0 c.r1 c.r2 c.r3 z.a)) ha (v_load (cs := [iv c.f, iv c.depth, iv c.r0, iv c.r1, iv c.r2, iv c.r3, .slice df.A df.n df.c, iv 2, iv c.value, .bool c.leaving, .bool c.deferred, .bool c.panicking, iv c.panic, .bool c.recovered, iv c.outer]) (T := 124) ha (zV (t := 3) (x := 58) (d := 59) (ty := 3)) rfl (by kernel_rfl) (fun _ hw => by rw [hw]; exact hS.blk 3 rfl) (by rcases (reg4 (hs.a (by omega) (by omega) (by omega) (by omega))) with h | h | h | h <;> simp [h, g4])) fun a ha => ?_
  refine jQ [(5, 60, ptr b3 8)] ha fun a ha => ?_
  refine jZ (qH b3 8 (iv (g4 c.r0 c.r1 c.r2 c.r3 z.a)) 3 ha hS rfl rfl fun w a hS ha => ?_)
  refine jY (jJ (wp_seq (xY 8 10 (hS.pickN 8 [0, 2, 3, 4]) hS fun w hS => ?_)))
  refine yW 0 61 ha (hS.pickN 8 [0, 2, 3, 4]) (fun _ hw => hw.blk 3 rfl) fun a ha => ?_
  refine jK (k := 8) [(1, 62, ptr b3 0)] ha (.inr (hS.pickN 8 [0, 2, 3, 4])) fun a ha => ?_
  refine qW 2 (d := 63) (b := b3) (j := 0) ha (hS.pickN 8 [0, 2, 3, 4]) (fun _ hw => hw.blk 2 rfl) rfl fun a ha => ?_
  refine jK (k := 6) [(3, 64, ptr b3 8)] ha (.inr (hS.pickN 8 [0, 2, 3, 4])) fun a ha => ?_
  refine qW 4 (d := 65) (b := b3) (j := 8) ha (hS.pickN 8 [0, 2, 3, 4]) (fun _ hw => hw.blk 2 rfl) rfl fun a ha => ?_
  refine yW 6 67 ha (hS.pickN 8 [0, 2, 3, 4]) (fun _ hw => hw.blk 2 rfl) fun a ha => ?_
  refine jH 5 (qG 66 (vs := [(mG pv fuel m.spent m.shared m.made m.deep tr se), iv 5, iv c.f, iv (g4 c.r0 c.r1 c.r2 c.r3 z.a)]) ha (q_tell m (hS.pickN 8 [5, 0, 1, 2, 3, 4, 6, 7]) (by exact hlen.1)) fun v57 w a hp58 ha => ?_)
  obtain ⟨s56, rfl, hS⟩ := hp58
  refine ⟨.inr (hS.pickN 8 [1, 3, 4, 5]), ?_⟩
  refine jH 7 (o_sa 2 ha (qU (t := 121) (x := 8) (y := 66)) hS fun w a hS ha => ?_)
  refine ⟨.inr (hS.pickN 8 [1, 3, 4, 5]), ?_⟩
  refine jH 8 (o_sa 1 ha (qU (t := 124) (x := 9) (y := 67)) hS fun w a hS ha => ?_)
  refine xJ (jK (k := 0) [(9, 10, iv (-1))] ha (.inl (by kernel_rfl)) fun a ha => ?_)
  refine xX ?_
  replace ha := ha.as [(2, iv at_), (4, ptr b1 0), (5, ptr b3 0), (7, ptr b5 0), (8, ptr b7 0), (9, ptr b9 0), (10, iv (-1))] rfl
  refine jJ (wp_ret (in_r (xQ (kQ ha (by kernel_rfl) (xZ (t := 8) (ty := 121) (i := 2) ha rfl hS rfl (by kernel_rfl)) (xZ (t := 9) (ty := 124) (i := 1) ha rfl hS rfl (by kernel_rfl)) (yJ (t := 10) ha rfl) ?_))))
  have hE : qMake (qCall P fuel d) m c at_ z = ((⟨m.spent, m.shared, m.made, m.deep, m.trace ++ [(5, c.f, g4 c.r0 c.r1 c.r2 c.r3 z.a)], m.seen⟩ : MQ), (⟨c.f, c.depth, c.r0, c.r1, c.r2, c.r3, c.defers, 2, g4 c.r0 c.r1 c.r2 c.r3 z.a, c.leaving, c.deferred, c.panicking, c.panic, c.recovered, c.outer⟩ : FQ), (-1)) := by (unfold qMake; simp only [c11, c14, c55, FQ.get, if_true, if_false]) <;> rfl
  replace hS := hS.pickN 8 [0, 6, 7]
  exact ⟨_, s56, se, df, hE.symm, rfl, hS⟩
 refine jV ha rfl (decide_eq_false c55) ?_
 refine wp_seq (jX [0, 1] (jQ [(0, 69, .bool (decide (z.k = 8))), (1, 68, .bool (decide (z.k = 8)))] ha fun a ha => ?_))
 refine jY (jJ ?_)
 by_cases c59 : z.k = 8
 ·
  refine jG ha rfl (decide_eq_true c59) ?_
  refine wp_seq (jX [0, 1, 2, 3, 4, 5, 6, 7] (jQ [(0, 70, ptr b5 1)] ha fun a ha => ?_))
  refine jU (d := 71) (b := b5) (j := 1) ha (hS.blk 2 rfl) rfl fun a ha => ?_
  refine jQ [(2, 72, ptr b3 2)] ha fun a ha => ?_
  refine xU (.pointer (some ⟨b3, 2 + (z.a : Int).toNat * 1, none⟩)) ha (yV (len := 4) (el := 3) (sz := 1) ha (yU (t := 122) (x := 72) (y := 71) (d := 73)) rfl rfl (by kernel_rfl) (by kernel_rfl) (by have := (reg4 (hs.a (by omega) (by omega) (by omega) (by omega))); omega) (by have := (reg4 (hs.a (by omega) (by omega) (by omega) (by omega))); omega)) fun a ha => ?_
  refine xU (iv (g4 c.r0 c.r1 c.r2 c.r3 z.a)) ha (v_load (cs := [iv c.f, iv c.depth, iv c.r0, iv c.r1, iv c.r2, iv c.r3, .slice df.A df.n df.c, iv c.kind, iv c.value, .bool c.leaving, .bool c.deferred, .bool c.panicking, iv c.panic, .bool c.recovered, iv c.outer]) (T := 124) ha (zV (t := 3) (x := 73) (d := 74) (ty := 3)) rfl (by kernel_rfl) (fun _ hw => by rw [hw]; exact hS.blk 3 rfl) (by rcases (reg4 (hs.a (by omega) (by omega) (by omega) (by omega))) with h | h | h | h <;> simp [h, g4])) fun a ha => ?_
  refine jQ [(5, 75, ptr b3 2), (6, 76, ptr b3 3)] ha fun a ha => ?_
  refine jZ (qH b3 3 (iv (g4 c.r0 c.r1 c.r2 c.r3 z.a)) 3 ha hS rfl rfl fun w a hS ha => ?_)
  refine jY (jJ (wp_seq (xY 3 5 (hS.pickN 8 [0, 2, 3, 4]) hS fun w hS => ?_)))
  refine yW 0 77 ha (hS.pickN 8 [0, 2, 3, 4]) (fun _ hw => hw.blk 3 rfl) fun a ha => ?_
  refine yW 1 78 ha (hS.pickN 8 [0, 2, 3, 4]) (fun _ hw => hw.blk 2 rfl) fun a ha => ?_
  refine jH 2 (o_sa 1 ha (qU (t := 121) (x := 8) (y := 77)) hS fun w a hS ha => ?_)
  refine ⟨.inr (hS.pickN 8 [0, 2, 3, 4]), ?_⟩
  refine jH 3 (o_sa 0 ha (qU (t := 124) (x := 9) (y := 78)) hS fun w a hS ha => ?_)
  refine xJ (jK (k := 0) [(4, 10, iv (-1))] ha (.inl (by kernel_rfl)) fun a ha => ?_)
  refine xX ?_
  replace ha := ha.as [(2, iv at_), (4, ptr b1 0), (5, ptr b3 0), (7, ptr b5 0), (8, ptr b7 0), (9, ptr b9 0), (10, iv (-1))] rfl
  refine jJ (wp_ret (in_r (xQ (kQ ha (by kernel_rfl) (xZ (t := 8) (ty := 121) (i := 1) ha rfl hS rfl (by kernel_rfl)) (xZ (t := 9) (ty := 124) (i := 0) ha rfl hS rfl (by kernel_rfl)) (yJ (t := 10) ha rfl) ?_))))
  have hE : qMake (qCall P fuel d) m c at_ z = (m, (⟨c.f, c.depth, c.r0, g4 c.r0 c.r1 c.r2 c.r3 z.a, c.r2, c.r3, c.defers, c.kind, c.value, c.leaving, c.deferred, c.panicking, c.panic, c.recovered, c.outer⟩ : FQ), (-1)) := by (unfold qMake; simp only [c11, c14, c55, c59, FQ.get, if_true, if_false]) <;> rfl
  replace hS := hS.pickN 8 [5, 6, 7]
  exact ⟨_, tr, se, df, hE.symm, rfl, hS⟩
 refine jV ha rfl (decide_eq_false c59) ?_
 refine wp_seq (jX [0, 1] (jQ [(0, 80, .bool (decide (z.k = 10))), (1, 79, .bool (decide (z.k = 10)))] ha fun a ha => ?_))
 refine jY (jJ ?_)
 by_cases c60 : z.k = 10
 ·
  refine jG ha rfl (decide_eq_true c60) ?_
  refine wp_seq (jX [0, 1] (jQ [(0, 81, ptr b3 7)] ha fun a ha => ?_))
  refine jZ (qH b3 7 (iv 3) 3 ha hS rfl rfl fun w a hS ha => ?_)
  refine jY (jJ (wp_seq (jX [0, 1] (jQ [(0, 82, ptr b3 9)] ha fun a ha => ?_))))
  refine jZ (qH b3 9 (.bool true) 3 ha hS rfl rfl fun w a hS ha => ?_)
  refine jY (jJ (wp_seq (xY 3 5 (hS.pickN 8 [0, 2, 3, 4]) hS fun w hS => ?_)))
  refine yW 0 83 ha (hS.pickN 8 [0, 2, 3, 4]) (fun _ hw => hw.blk 3 rfl) fun a ha => ?_
  refine yW 1 84 ha (hS.pickN 8 [0, 2, 3, 4]) (fun _ hw => hw.blk 2 rfl) fun a ha => ?_
  refine jH 2 (o_sa 1 ha (qU (t := 121) (x := 8) (y := 83)) hS fun w a hS ha => ?_)
  refine ⟨.inr (hS.pickN 8 [0, 2, 3, 4]), ?_⟩
  refine jH 3 (o_sa 0 ha (qU (t := 124) (x := 9) (y := 84)) hS fun w a hS ha => ?_)
  refine xJ (jK (k := 0) [(4, 10, iv (-1))] ha (.inl (by kernel_rfl)) fun a ha => ?_)
  refine xX ?_
  replace ha := ha.as [(2, iv at_), (4, ptr b1 0), (5, ptr b3 0), (7, ptr b5 0), (8, ptr b7 0), (9, ptr b9 0), (10, iv (-1))] rfl
  refine jJ (wp_ret (in_r (xQ (kQ ha (by kernel_rfl) (xZ (t := 8) (ty := 121) (i := 1) ha rfl hS rfl (by kernel_rfl)) (xZ (t := 9) (ty := 124) (i := 0) ha rfl hS rfl (by kernel_rfl)) (yJ (t := 10) ha rfl) ?_))))
  have hE : qMake (qCall P fuel d) m c at_ z = (m, (⟨c.f, c.depth, c.r0, c.r1, c.r2, c.r3, c.defers, 3, c.value, true, c.deferred, c.panicking, c.panic, c.recovered, c.outer⟩ : FQ), (-1)) := by (unfold qMake; simp only [c11, c14, c55, c59, c60, FQ.get, if_true, if_false]) <;> rfl
  replace hS := hS.pickN 8 [5, 6, 7]
  exact ⟨_, tr, se, df, hE.symm, rfl, hS⟩
 refine jV ha rfl (decide_eq_false c60) ?_
 refine wp_seq (jX [0, 1] (jQ [(0, 86, .bool (decide (z.k = 11))), (1, 85, .bool (decide (z.k = 11)))] ha fun a ha => ?_))
 refine jY (jJ ?_)
 by_cases c61 : z.k = 11
 ·
  refine jG ha rfl (decide_eq_true c61) ?_
  refine wp_seq (wp_seq (jX [0, 1, 2, 3, 4, 5] (jQ [(0, 87, ptr b5 2)] ha fun a ha => ?_)))
  refine jU (d := 88) (b := b5) (j := 2) ha (hS.blk 2 rfl) rfl fun a ha => ?_
  refine jQ [(2, 89, ptr b3 2)] ha fun a ha => ?_
  refine xU (.pointer (some ⟨b3, 2 + (z.b : Int).toNat * 1, none⟩)) ha (yV (len := 4) (el := 3) (sz := 1) ha (yU (t := 122) (x := 89) (y := 88) (d := 90)) rfl rfl (by kernel_rfl) (by kernel_rfl) (by have := (reg4 (hs.b (by omega))); omega) (by have := (reg4 (hs.b (by omega))); omega)) fun a ha => ?_
  refine xU (iv (g4 c.r0 c.r1 c.r2 c.r3 z.b)) ha (v_load (cs := [iv c.f, iv c.depth, iv c.r0, iv c.r1, iv c.r2, iv c.r3, .slice df.A df.n df.c, iv c.kind, iv c.value, .bool c.leaving, .bool c.deferred, .bool c.panicking, iv c.panic, .bool c.recovered, iv c.outer]) (T := 124) ha (zV (t := 3) (x := 90) (d := 91) (ty := 3)) rfl (by kernel_rfl) (fun _ hw => by rw [hw]; exact hS.blk 3 rfl) (by rcases (reg4 (hs.b (by omega))) with h | h | h | h <;> simp [h, g4])) fun a ha => ?_
  refine jQ [(5, 92, .bool (decide ((g4 c.r0 c.r1 c.r2 c.r3 z.b) > 0)))] ha fun a ha => ?_
  refine jY ?_
  replace ha := ha.as [(2, iv at_), (4, ptr b1 0), (5, ptr b3 0), (7, ptr b5 0), (8, ptr b7 0), (9, ptr b9 0), (10, iv 0), (92, .bool (decide ((g4 c.r0 c.r1 c.r2 c.r3 z.b) > 0)))] rfl
  refine jJ ?_
  by_cases c62 : (g4 c.r0 c.r1 c.r2 c.r3 z.b) > 0
  ·
   refine jG ha rfl (decide_eq_true c62) ?_;refine wp_seq (xY 7 7 (hS.pickN 8 [2, 3, 4]) hS fun w hS => ?_);refine yW 0 93 ha (hS.pickN 8 [2, 3, 4]) (fun _ hw => hw.blk 2 rfl) fun a ha => ?_;refine yW 1 94 ha (hS.pickN 8 [2, 3, 4]) (fun _ hw => hw.blk 1 rfl) fun a ha => ?_;refine jK (k := 4) [(2, 95, ptr b5 1)] ha (.inr (hS.pickN 8 [2, 3, 4])) fun a ha => ?_;refine qW 3 (d := 96) (b := b5) (j := 1) ha (hS.pickN 8 [2, 3, 4]) (fun _ hw => hw.blk 0 rfl) rfl fun a ha => ?_;refine jH 4 (o_sa 1 ha (qU (t := 121) (x := 8) (y := 93)) hS fun w a hS ha => ?_);refine ⟨.inr (hS.pickN 8 [2, 3, 4]), ?_⟩;refine jH 5 (o_sa 0 ha (qU (t := 124) (x := 9) (y := 94)) hS fun w a hS ha => ?_);refine ⟨.inr (hS.pickN 8 [2, 3, 4]), ?_⟩;refine jK (k := 0) [(6, 10, iv z.a)] ha (.inr (hS.pickN 8 [2, 3, 4])) fun a ha => ?_;refine xX (jJ (wp_ret (xQ (in_r (xQ (kQ ha (by kernel_rfl) (xZ (t := 8) (ty := 121) (i := 1) ha rfl hS rfl (by kernel_rfl)) (xZ (t := 9) (ty := 124) (i := 0) ha rfl hS rfl (by kernel_rfl)) (yJ (t := 10) ha rfl) ?_))))));have hE : qMake (qCall P fuel d) m c at_ z = (m, c, z.a) := by (unfold qMake; simp only [c11, c14, c55, c59, c60, c61, c62, FQ.get, if_true, if_false]) <;> rfl
   replace hS := hS.pickN 8 [5, 6, 7];exact ⟨_, tr, se, df, hE.symm, rfl, hS⟩
  refine jV ha rfl (decide_eq_false c62) ?_
  refine wp_skip (jJ (wp_seq (xY 5 7 (hS.pickN 8 [0, 2, 3, 4]) hS fun w hS => ?_)))
  refine yW 0 97 ha (hS.pickN 8 [0, 2, 3, 4]) (fun _ hw => hw.blk 3 rfl) fun a ha => ?_
  refine yW 1 98 ha (hS.pickN 8 [0, 2, 3, 4]) (fun _ hw => hw.blk 2 rfl) fun a ha => ?_
  refine jK (k := 4) [(2, 99, iv at_)] ha (.inr (hS.pickN 8 [0, 2, 3, 4])) fun a ha => ?_
  refine kW 3 100 (at_ + 1) ha (.inr (hS.pickN 8 [0, 2, 3, 4])) fun a ha => ?_
  refine jH 4 (o_sa 1 ha (qU (t := 121) (x := 8) (y := 97)) hS fun w a hS ha => ?_)
  refine ⟨.inr (hS.pickN 8 [0, 2, 3, 4]), ?_⟩
  refine jH 5 (o_sa 0 ha (qU (t := 124) (x := 9) (y := 98)) hS fun w a hS ha => ?_)
  refine xJ (jK (k := 0) [(6, 10, iv (at_ + 1))] ha (.inl (by kernel_rfl)) fun a ha => ?_)
  refine xX (jJ (wp_ret (in_r (xQ (kQ ha (by kernel_rfl) (xZ (t := 8) (ty := 121) (i := 1) ha rfl hS rfl (by kernel_rfl)) (xZ (t := 9) (ty := 124) (i := 0) ha rfl hS rfl (by kernel_rfl)) (yJ (t := 10) ha rfl) ?_)))))
  have hE : qMake (qCall P fuel d) m c at_ z = (m, c, at_ + 1) := by (unfold qMake; simp only [c11, c14, c55, c59, c60, c61, c62, FQ.get, if_true, if_false]) <;> rfl
  replace hS := hS.pickN 8 [5, 6, 7]
  exact ⟨_, tr, se, df, hE.symm, rfl, hS⟩
 refine jV ha rfl (decide_eq_false c61) ?_
 refine wp_skip (in_n (jJ (wp_seq (jX [0, 1, 2, 3, 4, 5, 6, 7, 8] (xG 102 ha (hS.blk 4 rfl) fun a ha => ?_)))))
 refine xG 103 ha (hS.blk 3 rfl) fun a ha => ?_
 refine xG 104 ha (hS.blk 2 rfl) fun a ha => ?_
 refine jZ (qG 105 (vs := [(mG pv fuel m.spent m.shared m.made m.deep tr se), (cG c.f c.depth c.r0 c.r1 c.r2 c.r3 df c.kind c.value c.leaving c.deferred c.panicking c.panic c.recovered c.outer), .agg #[iv z.k, iv z.a, iv z.b]]) ha (q_simple m c z (df := df) (hS.pickN 8 [5, 0, 1, 2, 3, 4, 6, 7]) hlen.1 hs c11 c14 c60 c61 hk) fun v63 w a hp64 ha => ?_)
 obtain ⟨tr2, rfl, hS⟩ := hp64
 refine jQ [(4, 101, .tuple #[(mG pv fuel ((qY m c z).1.spent) ((qY m c z).1.shared) ((qY m c z).1.made) ((qY m c z).1.deep) tr2 se), (cG ((qY m c z).2.f) ((qY m c z).2.depth) ((qY m c z).2.r0) ((qY m c z).2.r1) ((qY m c z).2.r2) ((qY m c z).2.r3) df ((qY m c z).2.kind) ((qY m c z).2.value) ((qY m c z).2.leaving) ((qY m c z).2.deferred) ((qY m c z).2.panicking) ((qY m c z).2.panic) ((qY m c z).2.recovered) ((qY m c z).2.outer))]), (5, 106, (mG pv fuel ((qY m c z).1.spent) ((qY m c z).1.shared) ((qY m c z).1.made) ((qY m c z).1.deep) tr2 se)), (6, 107, (cG ((qY m c z).2.f) ((qY m c z).2.depth) ((qY m c z).2.r0) ((qY m c z).2.r1) ((qY m c z).2.r2) ((qY m c z).2.r3) df ((qY m c z).2.kind) ((qY m c z).2.value) ((qY m c z).2.leaving) ((qY m c z).2.deferred) ((qY m c z).2.panicking) ((qY m c z).2.panic) ((qY m c z).2.recovered) ((qY m c z).2.outer)))] ha fun a ha => ?_
 refine jZ (o_sa 5 ha (qU (t := 121) (x := 4) (y := 106)) hS fun w a hS ha => ?_)
 refine jZ (o_sa 4 ha (qU (t := 124) (x := 5) (y := 107)) hS fun w a hS ha => ?_)
 refine jY ?_
 replace ha := ha.as [(2, iv at_), (4, ptr b1 0), (5, ptr b3 0), (8, ptr b7 0), (9, ptr b9 0), (10, iv 0)] rfl
 refine jJ (wp_seq (xY 5 7 (hS.pickN 8 [1, 3, 4, 5]) hS fun w hS => ?_))
 refine yW 0 108 ha (hS.pickN 8 [1, 3, 4, 5]) (fun _ hw => hw.blk 3 rfl) fun a ha => ?_
 refine yW 1 109 ha (hS.pickN 8 [1, 3, 4, 5]) (fun _ hw => hw.blk 2 rfl) fun a ha => ?_
 refine jK (k := 4) [(2, 110, iv at_)] ha (.inr (hS.pickN 8 [1, 3, 4, 5])) fun a ha => ?_
 refine kW 3 111 (at_ + 1) ha (.inr (hS.pickN 8 [1, 3, 4, 5])) fun a ha => ?_
 refine jH 4 (o_sa 2 ha (qU (t := 121) (x := 8) (y := 108)) hS fun w a hS ha => ?_)
 refine ⟨.inr (hS.pickN 8 [1, 3, 4, 5]), ?_⟩
 refine jH 5 (o_sa 1 ha (qU (t := 124) (x := 9) (y := 109)) hS fun w a hS ha => ?_)
 refine xJ (jK (k := 0) [(6, 10, iv (at_ + 1))] ha (.inl (by kernel_rfl)) fun a ha => ?_)
 refine xX (jJ (wp_ret (kQ ha (by kernel_rfl) (xZ (t := 8) (ty := 121) (i := 2) ha rfl hS rfl (by kernel_rfl)) (xZ (t := 9) (ty := 124) (i := 1) ha rfl hS rfl (by kernel_rfl)) (yJ (t := 10) ha rfl) ?_)))
 have hE : qMake (qCall P fuel d) m c at_ z = ((qY m c z).1, (qY m c z).2, at_ + 1) := by (unfold qMake; simp only [c11, c14, c55, c59, c60, c61, FQ.get, if_true, if_false]) <;> rfl
 replace hS := hS.pickN 8 [0, 6, 7]
 exact ⟨_, tr2, se, df, hE.symm, rfl, by show Sat w0 w (rE tr2 (qY m c z).1.trace :: rS se (qY m c z).1.seen :: rS df (qY m c z).2.defers :: Rs); rw [qSimple_seen, qSimple_defers]; exact hS⟩
theorem code88 : Try.f88.body = some (Code.seq (cr Try.f88 0 false) (Code.seq (cr Try.f88 1 false) (Code.seq (cr Try.f88 2 false) (Code.seq (cr Try.f88 3 false) (Code.seq (cr Try.f88 4 false) (Code.seq (Code.seq (cr Try.f88 5 false) (Code.cond (Operand.tmp 39) (Code.seq (cr Try.f88 6 false) (cr Try.f88 7 false)) Code.skip)) (Code.seq (cr Try.f88 8 false) (Code.seq (Code.seq (cr Try.f88 9 false) (Code.cond (Operand.tmp 51) (Code.seq (cr Try.f88 10 true) Code.ret) Code.skip)) (Code.seq (cr Try.f88 11 false) (Code.seq (cr Try.f88 12 false) (Code.seq (Code.seq (cr Try.f88 13 false) (Code.cond (Operand.tmp 66) (Code.seq (cr Try.f88 14 false) (Code.seq (cr Try.f88 15 false) (Code.cond (Operand.tmp 69) (cr Try.f88 16 false) Code.skip))) Code.skip)) (Code.seq (Code.seq (cr Try.f88 17 false) (Code.cond (Operand.tmp 73) (Code.seq (cr Try.f88 18 false) (cr Try.f88 19 false)) Code.skip)) (Code.seq (Code.seq (cr Try.f88 20 false) (Code.cond (Operand.tmp 80) (cr Try.f88 21 false) Code.skip)) (Code.seq (cr Try.f88 22 true) Code.ret)))))))))))))) := by kernel_rfl
theorem q_last {P : List (List Stp)} {pv : Sl} {fuel : Int} {sbs : List Sl} {d : Nat} (IH : CallCQ P fuel pv sbs d) {w0 w : World} {Rs : List Asn} (m : MQ) (c : FQ) (z : Int × Int) {tr se df : Sl} (x : Nat) (hS : Sat w0 w (rE tr m.trace :: rS se m.seen :: rS df c.defers :: Rs)) (hm : OkQ fuel m (x + 2)) (hk : OkC P.length c) (hz : c.defers.getLast? = some z) (hlen : c.defers.length ≤ 1000) (hd1 : c.depth + d + 1 = 9) (hd2 : 1 ≤ c.depth) (hPr : Keeps w0 Rs (fun w => RdProg w pv sbs P)) :
  Calls Try.prog 88 #[mV pv fuel m tr se, cV c df] w (Ret fun r w' => ∃ (q : MQ × FQ) (tr' se' df' : Sl), q = qLast (qCall P fuel d) m c z ∧ r = .tuple #[mV pv fuel q.1 tr' se', cV q.2 df'] ∧ Sat w0 w' (rE tr' q.1.trace :: rS se' q.1.seen :: rS df' q.2.defers :: Rs)) := by
 replace hS : Sat w0 w ((rE tr m.trace) :: (rS se m.seen) :: (rS df c.defers) :: Rs) := hS
 have hdn : df.n = c.defers.length := hS.rowL (s := df) (enc := cellsR) 2 yG (by decide) rfl
 have hz1 : c.defers[df.n - 1]? = some z := by rw [hdn, ← List.getLast?_eq_getElem?]; exact hz
 have hz2 := hk.defers z (List.mem_of_getLast? hz)
 have hpos : 0 < df.n := by have := (List.getElem?_eq_some_iff.1 hz1).1; omega
 have hk1 : OkC P.length { c with defers := c.defers.dropLast } := ⟨hk.f0, hk.f1, fun y hy => hk.defers y (List.dropLast_subset _ hy), hk.a0, hk.a1, hk.a2, hk.a3, hk.va, hk.pa, hk.ou⟩
 refine enter (n := 84) Try.func88 code88 (by kernel_rfl) (Nat.le_of_ble_eq_true rfl) (fun a ha => ?_)
 replace ha : Has 84 [(0, (mG pv fuel m.spent m.shared m.made m.deep tr se)), (1, (cG c.f c.depth c.r0 c.r1 c.r2 c.r3 df c.kind c.value c.leaving c.deferred c.panicking c.panic c.recovered c.outer))] a := ha
 refine wp_seq (jX [0, 1, 2, 3] (jZ (qJ 2 (mL pv fuel m.spent m.shared m.made m.deep tr se) 121 (ptr · 0) ha hS fun b1 w a hb2 hS ha => ?_)))
 refine jZ (qJ 3 (cL c.f c.depth c.r0 c.r1 c.r2 c.r3 df c.kind c.value c.leaving c.deferred c.panicking c.panic c.recovered c.outer) 124 (ptr · 0) ha hS fun b3 w a hb4 hS ha => ?_)
 refine jZ (qJ 4 (mL (⟨none, 0, 0⟩) 0 false 0 0 0 (⟨none, 0, 0⟩) (⟨none, 0, 0⟩)) 121 (ptr · 0) ha hS fun b5 w a hb6 hS ha => ?_)
 refine jZ (qJ 5 (cL 0 0 0 0 0 0 (⟨none, 0, 0⟩) 0 0 false false false 0 false 0) 124 (ptr · 0) ha hS fun b7 w a hb8 hS ha => ?_)
 refine jY (jJ (wp_seq (jX [0, 1, 2, 3, 4] (jQ [(0, 9, ptr b3 6)] ha fun a ha => ?_))))
 refine jU (d := 10) (b := b3) (j := 6) ha (hS.blk 2 rfl) rfl fun a ha => ?_
 refine jQ [(2, 11, iv (df.n : Int))] ha fun a ha => ?_
 refine zJ 12 ((df.n : Int) - 1) ha fun a ha => ?_
 refine jQ [(4, 6, iv ((df.n : Int) - 1))] ha fun a ha => ?_
 refine jY (jJ (wp_seq (jX [0, 1, 2, 3, 4, 5, 6] (jQ [(0, 13, ptr b3 6)] ha fun a ha => ?_))))
 refine jU (d := 14) (b := b3) (j := 6) ha (hS.blk 2 rfl) rfl fun a ha => ?_
 refine jQ [(2, 15, iv ((df.n : Int) - 1))] ha fun a ha => ?_
 refine xU (.pointer (some ⟨bk df, (df.n - 1) * 2, none⟩)) ha (xW (s := df) (el := 61) (sz := 2) (j := (df.n - 1)) ha (yU (t := 58) (x := 14) (y := 15) (d := 16)) rfl rfl (by kernel_rfl) (by kernel_rfl) (hS.rowA (s := df) 6 rfl (by have := (List.getElem?_eq_some_iff.1 hz1).1; rw [encR_length]; omega)) (by omega) (by have h9 := hS.rowL (s := df) (enc := cellsR) 6 yG (by decide) rfl; have := (List.getElem?_eq_some_iff.1 hz1).1; omega)) fun a ha => ?_
 refine xU (.agg #[iv z.1, iv z.2]) ha (v_loadL ha (zV (t := 61) (x := 16) (d := 17) (ty := 61)) rfl (fun w' hw => by rw [hw]; exact run_loadVar_agg (vs := [iv z.1, iv z.2]) (by kernel_rfl) (fun i u hu => by match i, hu with | 0, hu => rw [add0]; rw [← Option.some.inj hu]; exact ((hS.rdC (s := df) 6 rfl).cells _ _ ((flat_get (enc := cellsR) (o := 0) yG hz1 (by decide)).trans rfl)) | 1, hu => rw [add0]; rw [← Option.some.inj hu]; exact ((hS.rdC (s := df) 6 rfl).cells _ _ ((flat_get (enc := cellsR) (o := 1) yG hz1 (by decide)).trans rfl)) | n + 2, hu => simp at hu))) fun a ha => ?_
 refine jZ (qJ 7 [iv 0, iv 0] 61 (ptr · 0) ha hS fun b9 w a hb10 hS ha => ?_)
 refine jZ (o_sa 0 ha (qU (t := 61) (x := 7) (y := 17)) hS fun w a hS ha => ?_)
 refine jY (jJ (wp_seq (jX [0, 1, 2, 3, 4, 5, 6, 7] (jZ (qJ 18 [] 61 (fun b => .slice (some ⟨b, 0, none⟩) 0 0) ha hS fun b11 w a hb12 hS ha => ?_)))))
 refine jQ [(1, 19, ptr b3 6)] ha fun a ha => ?_
 refine jU (d := 20) (b := b3) (j := 6) ha (hS.blk 4 rfl) rfl fun a ha => ?_
 refine jQ [(3, 21, iv ((df.n : Int) - 1))] ha fun a ha => ?_
 refine xU (.slice df.A (df.n - 1) df.c) ha (v_takeZ (el := 61) (j := df.n - 1) ha (zW (op := (Op.slice 58 (Operand.tmp 20) none (some (Operand.tmp 21)) none)) (d := some 22) (ty := 58)) rfl rfl (by kernel_rfl) (by kernel_rfl) (by omega) (Nat.sub_le _ _) (row_cap hS 8 rfl)) fun a ha => ?_
 refine jZ (o_appRow0 (m := (df.n - 1)) (z := .agg #[iv 0, iv 0]) (sz := 2) (bytes := 16) (ys' := encR c.defers.dropLast) 0 8 ha (by decide) (zW (op := (Op.call { callee := (Callee.builtin Builtin.append), args := #[(Operand.tmp 18), (Operand.tmp 22)], argTypes := #[58, 58] })) (d := some 23) (ty := 58)) rfl rfl (by kernel_rfl) (by kernel_rfl) rfl (by decide) hS rfl rfl (Nat.sub_le _ _) (encR_one _) (by rw [encR_length]; have := hlen; omega) (by decide) (by rw [encR_take, List.dropLast_eq_take, hdn]) fun s13 w a hS hn14 ha => ?_)
 refine jQ [(6, 24, ptr b3 6)] ha fun a ha => ?_
 refine jZ (qH b3 6 (.slice s13.A s13.n s13.c) 4 ha hS rfl rfl fun w a hS ha => ?_)
 refine jY (jJ (wp_seq (jX [0, 1, 2, 3, 4, 5, 6, 7, 8, 9, 10, 11, 12, 13] (jQ [(0, 25, ptr b9 0)] ha fun a ha => ?_))))
 refine jU (d := 26) (b := b9) (j := 0) ha (hS.blk 1 rfl) rfl fun a ha => ?_
 refine jQ [(2, 27, ptr b3 1)] ha fun a ha => ?_
 refine jU (d := 28) (b := b3) (j := 1) ha (hS.blk 4 rfl) rfl fun a ha => ?_
 refine zJ 29 (c.depth + 1) ha fun a ha => ?_
 refine jQ [(5, 30, ptr b9 1)] ha fun a ha => ?_
 refine jU (d := 31) (b := b9) (j := 1) ha (hS.blk 1 rfl) rfl fun a ha => ?_
 refine jQ [(7, 32, .agg #[iv z.2, iv 0, iv 0, iv 0]), (8, 33, ptr b3 2), (9, 34, ptr b3 3)] ha fun a ha => ?_
 refine jU (d := 35) (b := b3) (j := 3) ha (hS.blk 4 rfl) rfl fun a ha => ?_
 refine jQ [(11, 36, (cG z.1 (c.depth + 1) z.2 0 0 0 (⟨none, 0, 0⟩) 0 0 false true false 0 false c.r1))] ha fun a ha => ?_
 refine jZ (qJ 8 (cL 0 0 0 0 0 0 (⟨none, 0, 0⟩) 0 0 false false false 0 false 0) 124 (ptr · 0) ha hS fun b15 w a hb16 hS ha => ?_)
 refine jZ (o_sa 0 ha (qU (t := 124) (x := 8) (y := 36)) hS fun w a hS ha => ?_)
 refine jY ?_
 replace ha := ha.as [(2, ptr b1 0), (3, ptr b3 0), (4, ptr b5 0), (5, ptr b7 0), (8, ptr b15 0)] rfl
 refine jJ (wp_seq (wp_seq (jX [0, 1, 2] (jQ [(0, 37, ptr b3 7)] ha fun a ha => ?_))))
 refine jU (d := 38) (b := b3) (j := 7) ha (hS.blk 5 rfl) rfl fun a ha => ?_
 refine jQ [(2, 39, .bool (decide (c.kind = 2)))] ha fun a ha => ?_
 refine jY (jJ (kZ (J := fun a_ w_ => Has 84 [(2, ptr b1 0), (3, ptr b3 0), (4, ptr b5 0), (5, ptr b7 0), (8, ptr b15 0), (39, .bool (decide (c.kind = 2)))] a_ ∧ Sat w0 w_ ((SX.blk b15 (cL z.1 (c.depth + 1) z.2 0 0 0 (⟨none, 0, 0⟩) 0 0 false true (decide (c.kind = 2)) (if c.kind = 2 then c.value else 0) false c.r1) 124) :: (rS s13 c.defers.dropLast) :: (SX.blk b9 [iv z.1, iv z.2] 61) :: (SX.blk b7 (cL 0 0 0 0 0 0 (⟨none, 0, 0⟩) 0 0 false false false 0 false 0) 124) :: (SX.blk b5 (mL (⟨none, 0, 0⟩) 0 false 0 0 0 (⟨none, 0, 0⟩) (⟨none, 0, 0⟩)) 121) :: (SX.blk b3 (cL c.f c.depth c.r0 c.r1 c.r2 c.r3 s13 c.kind c.value c.leaving c.deferred c.panicking c.panic c.recovered c.outer) 124) :: (SX.blk b1 (mL pv fuel m.spent m.shared m.made m.deep tr se) 121) :: (rE tr m.trace) :: (rS se m.seen) :: (rS df c.defers) :: Rs)) ?_ ?_))
 ·
  by_cases c17 : c.kind = 2
  ·
   refine jG ha rfl (decide_eq_true c17) ?_;refine wp_seq (jX [0, 1] (jQ [(0, 40, ptr b15 11)] ha fun a ha => ?_));refine jZ (qH b15 11 (.bool true) 0 ha hS rfl rfl fun w a hS ha => ?_);refine jY (jJ (jX [0, 1, 2, 3] (jQ [(0, 41, ptr b3 8)] ha fun a ha => ?_)));refine jU (d := 42) (b := b3) (j := 8) ha (hS.blk 5 rfl) rfl fun a ha => ?_;refine jQ [(2, 43, ptr b15 12)] ha fun a ha => ?_;refine jZ (qH b15 12 (iv c.value) 0 ha hS rfl rfl fun w a hS ha => ?_);refine jY ?_;have e18 : ((if c.kind = 2 then c.value else 0) : Int) = c.value := by simp [c17]
   have e19 : (decide (c.kind = 2)) = true := by simp [c17]
   refine jJ ⟨?_, ?_⟩
   · first | (rw [e18, e19]; exact ha.keeps [2, 3, 4, 5, 8, 39] _ rfl) | exact ha.keeps [2, 3, 4, 5, 8, 39] _ rfl
   · first | (rw [e18, e19]; exact hS) | exact hS
  refine jV ha rfl (decide_eq_false c17) ?_
  refine wp_skip ?_
  have e20 : ((if c.kind = 2 then c.value else 0) : Int) = 0 := by simp [c17]
  have e21 : (decide (c.kind = 2)) = false := by simp [c17]
  refine jJ ⟨?_, ?_⟩
  · first | (rw [e20, e21]; exact ha.keeps [2, 3, 4, 5, 8, 39] _ rfl) | exact ha.keeps [2, 3, 4, 5, 8, 39] _ rfl
  · first | (rw [e20, e21]; exact hS) | exact hS
 rintro a w ⟨ha, hS⟩
 refine wp_seq (jX [0, 1, 2, 3, 4, 5, 6, 7] (xG 45 ha (hS.blk 6 rfl) fun a ha => ?_))
 refine xG 46 ha (hS.blk 0 rfl) fun a ha => ?_
 refine jZ (qG 47 (vs := [(mG pv fuel m.spent m.shared m.made m.deep tr se), (cG z.1 (c.depth + 1) z.2 0 0 0 (⟨none, 0, 0⟩) 0 0 false true (decide (c.kind = 2)) (if c.kind = 2 then c.value else 0) false c.r1)]) ha (IH w0 _ _ m (qNew { c with defers := c.defers.dropLast } z) _ _ (⟨none, 0, 0⟩ : Sl) x ((Sat.nilRow (T := 61) (sz := 2) hS).pickN 11 [8, 9, 0, 1, 2, 3, 4, 5, 6, 7, 10]) hm (qNew_ok hk1 hz2) rfl (by simp only [qNew]; omega) (by simp only [qNew]; omega) (hPr.more [_, _, _, _, _, _, _, _])) fun v22 w a hp23 ha => ?_)
 obtain ⟨q1, tr1, se1, df1, hq1, rfl, hS⟩ := hp23
 replace hq1 : qCall P fuel d m (qNew { c with defers := c.defers.dropLast } z) = q1 := hq1.symm
 refine jQ [(3, 44, .tuple #[(mG pv fuel q1.1.spent q1.1.shared q1.1.made q1.1.deep tr1 se1), (cG q1.2.f q1.2.depth q1.2.r0 q1.2.r1 q1.2.r2 q1.2.r3 df1 q1.2.kind q1.2.value q1.2.leaving q1.2.deferred q1.2.panicking q1.2.panic q1.2.recovered q1.2.outer)]), (4, 48, (mG pv fuel q1.1.spent q1.1.shared q1.1.made q1.1.deep tr1 se1)), (5, 49, (cG q1.2.f q1.2.depth q1.2.r0 q1.2.r1 q1.2.r2 q1.2.r3 df1 q1.2.kind q1.2.value q1.2.leaving q1.2.deferred q1.2.panicking q1.2.panic q1.2.recovered q1.2.outer))] ha fun a ha => ?_
 refine jZ (o_sa 9 ha (qU (t := 121) (x := 2) (y := 48)) hS fun w a hS ha => ?_)
 refine jZ (o_sa 3 ha (qU (t := 124) (x := 8) (y := 49)) hS fun w a hS ha => ?_)
 refine jY (jJ (wp_seq (wp_seq (jX [0, 1] (jQ [(0, 50, ptr b1 2)] ha fun a ha => ?_)))))
 refine jU (d := 51) (b := b1) (j := 2) ha (hS.blk 9 rfl) rfl fun a ha => ?_
 refine jY (jJ ?_)
 rcases Bool.eq_false_or_eq_true q1.1.spent with c24 | c24
 ·
  refine jG ha rfl c24 ?_
  refine wp_seq (xY 3 4 (hS.pickN 11 [3, 5, 6, 8, 9]) hS fun w hS => ?_)
  refine yW 0 52 ha (hS.pickN 11 [3, 5, 6, 8, 9]) (fun _ hw => hw.blk 4 rfl) fun a ha => ?_
  refine yW 1 53 ha (hS.pickN 11 [3, 5, 6, 8, 9]) (fun _ hw => hw.blk 3 rfl) fun a ha => ?_
  refine jH 2 (o_sa 7 ha (qU (t := 121) (x := 4) (y := 52)) hS fun w a hS ha => ?_)
  refine ⟨.inr (hS.pickN 11 [3, 5, 6, 8, 9]), ?_⟩
  refine jH 3 (o_sa 6 ha (qU (t := 124) (x := 5) (y := 53)) hS fun w a hS ha => ?_)
  refine xJ (xX (jJ (wp_ret (xQ (yH ha (by kernel_rfl) (xZ (t := 4) (ty := 121) (i := 7) ha rfl hS rfl (by kernel_rfl)) (xZ (t := 5) (ty := 124) (i := 6) ha rfl hS rfl (by kernel_rfl)) ?_)))))
  have hE : qLast (qCall P fuel d) m c z = (q1.1, (⟨c.f, c.depth, c.r0, c.r1, c.r2, c.r3, c.defers.dropLast, c.kind, c.value, c.leaving, c.deferred, c.panicking, c.panic, c.recovered, c.outer⟩ : FQ)) := by (unfold qLast; simp only [hq1, c24, if_true, if_false, Bool.false_eq_true]) <;> rfl
  rw [hE]
  replace hS := hS.pickN 11 [0, 1, 4]
  exact ⟨_, tr1, se1, s13, rfl, rfl, hS⟩
 refine jV ha rfl c24 ?_
 refine wp_skip (jJ (wp_seq (jX [0, 1, 2, 3, 4] (jQ [(0, 54, ptr b15 14)] ha fun a ha => ?_))))
 refine jU (d := 55) (b := b15) (j := 14) ha (hS.blk 3 rfl) rfl fun a ha => ?_
 refine jQ [(2, 56, ptr b3 2), (3, 57, ptr b3 3)] ha fun a ha => ?_
 refine jZ (qH b3 3 (iv q1.2.outer) 8 ha hS rfl rfl fun w a hS ha => ?_)
 refine jY (jJ (kG (J := fun a_ w_ => Has 84 [(2, ptr b1 0), (3, ptr b3 0), (4, ptr b5 0), (5, ptr b7 0), (8, ptr b15 0)] a_ ∧ Sat w0 w_ ((rE tr1 q1.1.trace) :: (rS se1 q1.1.seen) :: (rS df1 q1.2.defers) :: (SX.blk b15 (cL q1.2.f q1.2.depth q1.2.r0 q1.2.r1 q1.2.r2 q1.2.r3 df1 q1.2.kind q1.2.value q1.2.leaving q1.2.deferred q1.2.panicking q1.2.panic q1.2.recovered q1.2.outer) 124) :: (rS s13 c.defers.dropLast) :: (SX.blk b9 [iv z.1, iv z.2] 61) :: (SX.blk b7 (cL 0 0 0 0 0 0 (⟨none, 0, 0⟩) 0 0 false false false 0 false 0) 124) :: (SX.blk b5 (mL (⟨none, 0, 0⟩) 0 false 0 0 0 (⟨none, 0, 0⟩) (⟨none, 0, 0⟩)) 121) :: (SX.blk b3 (cL c.f c.depth c.r0 q1.2.outer c.r2 c.r3 s13 c.kind c.value (c.leaving || q1.2.leaving) c.deferred c.panicking c.panic c.recovered c.outer) 124) :: (SX.blk b1 (mL pv fuel q1.1.spent q1.1.shared q1.1.made q1.1.deep tr1 se1) 121) :: (rS df c.defers) :: Rs)) ?_ ?_))
 ·
  refine jX [0, 1, 2, 3, 4, 5, 6, 7] (jQ [(0, 58, ptr b3 9)] ha fun a ha => ?_)
  refine jU (d := 59) (b := b3) (j := 9) ha (hS.blk 8 rfl) rfl fun a ha => ?_
  refine jQ [(2, 60, .bool c.leaving)] ha fun a ha => ?_
  rcases Bool.eq_false_or_eq_true c.leaving with c25 | c25
  ·
   replace ha := ha.turn 59 (.bool true) rfl (congrArg Value.bool c25);replace ha := ha.turn 60 (.bool true) rfl (congrArg Value.bool c25);refine jQ [(3, 61, undef), (4, 62, undef), (5, 63, .bool true), (6, 64, ptr b3 9)] ha fun a ha => ?_;refine jZ (qH b3 9 (.bool true) 8 ha hS rfl rfl fun w a hS ha => ?_);refine jY ?_;replace ha := ha.as [(2, ptr b1 0), (3, ptr b3 0), (4, ptr b5 0), (5, ptr b7 0), (8, ptr b15 0)] rfl;have e26 : (c.leaving || q1.2.leaving) = true := by simp [c24, c25]
   refine jJ ⟨?_, ?_⟩
   · first | (rw [e26]; exact ha.keeps [2, 3, 4, 5, 8] _ rfl) | exact ha.keeps [2, 3, 4, 5, 8] _ rfl
   · first | (rw [e26]; exact hS) | exact hS
  replace ha := ha.turn 59 (.bool false) rfl (congrArg Value.bool c25)
  replace ha := ha.turn 60 (.bool false) rfl (congrArg Value.bool c25)
  refine jQ [(3, 61, ptr b15 9)] ha fun a ha => ?_
  refine jU (d := 62) (b := b15) (j := 9) ha (hS.blk 3 rfl) rfl fun a ha => ?_
  refine jQ [(5, 63, .bool q1.2.leaving), (6, 64, ptr b3 9)] ha fun a ha => ?_
  refine jZ (qH b3 9 (.bool q1.2.leaving) 8 ha hS rfl rfl fun w a hS ha => ?_)
  refine jY ?_
  replace ha := ha.as [(2, ptr b1 0), (3, ptr b3 0), (4, ptr b5 0), (5, ptr b7 0), (8, ptr b15 0)] rfl
  have e27 : (c.leaving || q1.2.leaving) = q1.2.leaving := by simp [c24, c25]
  refine jJ ⟨?_, ?_⟩
  · first | (rw [e27]; exact ha.keeps [2, 3, 4, 5, 8] _ rfl) | exact ha.keeps [2, 3, 4, 5, 8] _ rfl
  · first | (rw [e27]; exact hS) | exact hS
 rintro a w ⟨ha, hS⟩
 refine wp_seq (wp_seq (jX [0, 1] (jQ [(0, 65, ptr b15 13)] ha fun a ha => ?_)))
 refine jU (d := 66) (b := b15) (j := 13) ha (hS.blk 3 rfl) rfl fun a ha => ?_
 refine jY (jJ (kZ (J := fun a_ w_ => Has 84 [(2, ptr b1 0), (3, ptr b3 0), (4, ptr b5 0), (5, ptr b7 0), (8, ptr b15 0), (66, .bool q1.2.recovered)] a_ ∧ Sat w0 w_ ((rE tr1 q1.1.trace) :: (rS se1 q1.1.seen) :: (rS df1 q1.2.defers) :: (SX.blk b15 (cL q1.2.f q1.2.depth q1.2.r0 q1.2.r1 q1.2.r2 q1.2.r3 df1 q1.2.kind q1.2.value q1.2.leaving q1.2.deferred q1.2.panicking q1.2.panic q1.2.recovered q1.2.outer) 124) :: (rS s13 c.defers.dropLast) :: (SX.blk b9 [iv z.1, iv z.2] 61) :: (SX.blk b7 (cL 0 0 0 0 0 0 (⟨none, 0, 0⟩) 0 0 false false false 0 false 0) 124) :: (SX.blk b5 (mL (⟨none, 0, 0⟩) 0 false 0 0 0 (⟨none, 0, 0⟩) (⟨none, 0, 0⟩)) 121) :: (SX.blk b3 (cL c.f c.depth c.r0 q1.2.outer c.r2 c.r3 s13 (if q1.2.recovered = true then (if (c.leaving || q1.2.leaving) = true then 3 else 1) else c.kind) c.value (c.leaving || q1.2.leaving) c.deferred c.panicking c.panic c.recovered c.outer) 124) :: (SX.blk b1 (mL pv fuel q1.1.spent q1.1.shared q1.1.made q1.1.deep tr1 se1) 121) :: (rS df c.defers) :: Rs)) ?_ ?_))
 ·
  rcases Bool.eq_false_or_eq_true q1.2.recovered with c28 | c28
  ·
   refine jG ha rfl c28 ?_;refine wp_seq (jX [0, 1] (jQ [(0, 67, ptr b3 7)] ha fun a ha => ?_));refine jZ (qH b3 7 (iv 1) 8 ha hS rfl rfl fun w a hS ha => ?_);refine jY ?_;replace ha := ha.as [(2, ptr b1 0), (3, ptr b3 0), (4, ptr b5 0), (5, ptr b7 0), (8, ptr b15 0), (66, .bool q1.2.recovered)] rfl;refine jJ (wp_seq (jX [0, 1] (jQ [(0, 68, ptr b3 9)] ha fun a ha => ?_)));refine jU (d := 69) (b := b3) (j := 9) ha (hS.blk 8 rfl) rfl fun a ha => ?_;refine jY (jJ ?_)
   rcases Bool.eq_false_or_eq_true (c.leaving || q1.2.leaving) with c29 | c29
   ·
    refine jG ha rfl c29 ?_;refine jX [0, 1] (jQ [(0, 70, ptr b3 7)] ha fun a ha => ?_);refine jZ (qH b3 7 (iv 3) 8 ha hS rfl rfl fun w a hS ha => ?_);refine jY ?_;have e30 : ((if q1.2.recovered = true then (if (c.leaving || q1.2.leaving) = true then 3 else 1) else c.kind) : Int) = 3 := by simp [c24, c28, c29]
    refine jJ ⟨?_, ?_⟩
    · first | (rw [e30]; exact ha.keeps [2, 3, 4, 5, 8, 66] _ rfl) | exact ha.keeps [2, 3, 4, 5, 8, 66] _ rfl
    · first | (rw [e30]; exact hS) | exact hS
   refine jV ha rfl c29 ?_;refine wp_skip ?_;have e31 : ((if q1.2.recovered = true then (if (c.leaving || q1.2.leaving) = true then 3 else 1) else c.kind) : Int) = 1 := by simp [c24, c28, c29]
   refine jJ ⟨?_, ?_⟩
   · first | (rw [e31]; exact ha.keeps [2, 3, 4, 5, 8, 66] _ rfl) | exact ha.keeps [2, 3, 4, 5, 8, 66] _ rfl
   · first | (rw [e31]; exact hS) | exact hS
  refine jV ha rfl c28 ?_
  refine wp_skip ?_
  have e32 : ((if q1.2.recovered = true then (if (c.leaving || q1.2.leaving) = true then 3 else 1) else c.kind) : Int) = c.kind := by simp [c24, c28]
  refine jJ ⟨?_, ?_⟩
  · first | (rw [e32]; exact ha.keeps [2, 3, 4, 5, 8, 66] _ rfl) | exact ha.keeps [2, 3, 4, 5, 8, 66] _ rfl
  · first | (rw [e32]; exact hS) | exact hS
 rintro a w ⟨ha, hS⟩
 refine wp_seq (wp_seq (jX [0, 1, 2] (jQ [(0, 71, ptr b15 7)] ha fun a ha => ?_)))
 refine jU (d := 72) (b := b15) (j := 7) ha (hS.blk 3 rfl) rfl fun a ha => ?_
 refine jQ [(2, 73, .bool (decide (q1.2.kind = 2)))] ha fun a ha => ?_
 refine jY ?_
 replace ha := ha.as [(2, ptr b1 0), (3, ptr b3 0), (4, ptr b5 0), (5, ptr b7 0), (8, ptr b15 0), (73, .bool (decide (q1.2.kind = 2)))] rfl
 refine jJ (kZ (J := fun a_ w_ => Has 84 [(2, ptr b1 0), (3, ptr b3 0), (4, ptr b5 0), (5, ptr b7 0), (8, ptr b15 0), (73, .bool (decide (q1.2.kind = 2)))] a_ ∧ Sat w0 w_ ((rE tr1 q1.1.trace) :: (rS se1 q1.1.seen) :: (rS df1 q1.2.defers) :: (SX.blk b15 (cL q1.2.f q1.2.depth q1.2.r0 q1.2.r1 q1.2.r2 q1.2.r3 df1 q1.2.kind q1.2.value q1.2.leaving q1.2.deferred q1.2.panicking q1.2.panic q1.2.recovered q1.2.outer) 124) :: (rS s13 c.defers.dropLast) :: (SX.blk b9 [iv z.1, iv z.2] 61) :: (SX.blk b7 (cL 0 0 0 0 0 0 (⟨none, 0, 0⟩) 0 0 false false false 0 false 0) 124) :: (SX.blk b5 (mL (⟨none, 0, 0⟩) 0 false 0 0 0 (⟨none, 0, 0⟩) (⟨none, 0, 0⟩)) 121) :: (SX.blk b3 (cL c.f c.depth c.r0 q1.2.outer c.r2 c.r3 s13 (if q1.2.kind = 2 then 2 else (if q1.2.recovered = true then (if (c.leaving || q1.2.leaving) = true then 3 else 1) else c.kind)) (if q1.2.kind = 2 then q1.2.value else c.value) (c.leaving || q1.2.leaving) c.deferred c.panicking c.panic c.recovered c.outer) 124) :: (SX.blk b1 (mL pv fuel q1.1.spent q1.1.shared q1.1.made q1.1.deep tr1 se1) 121) :: (rS df c.defers) :: Rs)) ?_ ?_)
 ·
  by_cases c33 : q1.2.kind = 2
  ·
   refine jG ha rfl (decide_eq_true c33) ?_;refine wp_seq (jX [0, 1] (jQ [(0, 74, ptr b3 7)] ha fun a ha => ?_));refine jZ (qH b3 7 (iv 2) 8 ha hS rfl rfl fun w a hS ha => ?_);refine jY (jJ (jX [0, 1, 2, 3] (jQ [(0, 75, ptr b15 8)] ha fun a ha => ?_)));refine jU (d := 76) (b := b15) (j := 8) ha (hS.blk 3 rfl) rfl fun a ha => ?_;refine jQ [(2, 77, ptr b3 8)] ha fun a ha => ?_;refine jZ (qH b3 8 (iv q1.2.value) 8 ha hS rfl rfl fun w a hS ha => ?_);refine jY ?_;have e34 : ((if q1.2.kind = 2 then 2 else (if q1.2.recovered = true then (if (c.leaving || q1.2.leaving) = true then 3 else 1) else c.kind)) : Int) = 2 := by simp [c24, c33]
   have e35 : ((if q1.2.kind = 2 then q1.2.value else c.value) : Int) = q1.2.value := by simp [c24, c33]
   refine jJ ⟨?_, ?_⟩
   · first | (rw [e34, e35]; exact ha.keeps [2, 3, 4, 5, 8, 73] _ rfl) | exact ha.keeps [2, 3, 4, 5, 8, 73] _ rfl
   · first | (rw [e34, e35]; exact hS) | exact hS
  refine jV ha rfl (decide_eq_false c33) ?_
  refine wp_skip ?_
  have e36 : ((if q1.2.kind = 2 then 2 else (if q1.2.recovered = true then (if (c.leaving || q1.2.leaving) = true then 3 else 1) else c.kind)) : Int) = (if q1.2.recovered = true then (if (c.leaving || q1.2.leaving) = true then 3 else 1) else c.kind) := by simp [c24, c33]
  have e37 : ((if q1.2.kind = 2 then q1.2.value else c.value) : Int) = c.value := by simp [c24, c33]
  refine jJ ⟨?_, ?_⟩
  · first | (rw [e36, e37]; exact ha.keeps [2, 3, 4, 5, 8, 73] _ rfl) | exact ha.keeps [2, 3, 4, 5, 8, 73] _ rfl
  · first | (rw [e36, e37]; exact hS) | exact hS
 rintro a w ⟨ha, hS⟩
 refine wp_seq (wp_seq (jX [0, 1, 2] (jQ [(0, 78, ptr b15 7)] ha fun a ha => ?_)))
 refine jU (d := 79) (b := b15) (j := 7) ha (hS.blk 3 rfl) rfl fun a ha => ?_
 refine jQ [(2, 80, .bool (decide (q1.2.kind = 3)))] ha fun a ha => ?_
 refine jY (jJ (kZ (J := fun a_ w_ => Has 84 [(2, ptr b1 0), (3, ptr b3 0), (4, ptr b5 0), (5, ptr b7 0), (80, .bool (decide (q1.2.kind = 3)))] a_ ∧ Sat w0 w_ ((rE tr1 q1.1.trace) :: (rS se1 q1.1.seen) :: (rS df1 q1.2.defers) :: (SX.blk b15 (cL q1.2.f q1.2.depth q1.2.r0 q1.2.r1 q1.2.r2 q1.2.r3 df1 q1.2.kind q1.2.value q1.2.leaving q1.2.deferred q1.2.panicking q1.2.panic q1.2.recovered q1.2.outer) 124) :: (rS s13 c.defers.dropLast) :: (SX.blk b9 [iv z.1, iv z.2] 61) :: (SX.blk b7 (cL 0 0 0 0 0 0 (⟨none, 0, 0⟩) 0 0 false false false 0 false 0) 124) :: (SX.blk b5 (mL (⟨none, 0, 0⟩) 0 false 0 0 0 (⟨none, 0, 0⟩) (⟨none, 0, 0⟩)) 121) :: (SX.blk b3 (cL c.f c.depth c.r0 q1.2.outer c.r2 c.r3 s13 (if q1.2.kind = 3 then 3 else (if q1.2.kind = 2 then 2 else (if q1.2.recovered = true then (if (c.leaving || q1.2.leaving) = true then 3 else 1) else c.kind))) (if q1.2.kind = 2 then q1.2.value else c.value) (c.leaving || q1.2.leaving) c.deferred c.panicking c.panic c.recovered c.outer) 124) :: (SX.blk b1 (mL pv fuel q1.1.spent q1.1.shared q1.1.made q1.1.deep tr1 se1) 121) :: (rS df c.defers) :: Rs)) ?_ ?_))
 ·
  by_cases c38 : q1.2.kind = 3
  ·
   refine jG ha rfl (decide_eq_true c38) ?_;refine jX [0, 1] (jQ [(0, 81, ptr b3 7)] ha fun a ha => ?_);refine jZ (qH b3 7 (iv 3) 8 ha hS rfl rfl fun w a hS ha => ?_);refine jY ?_;have e39 : ((if q1.2.kind = 3 then 3 else (if q1.2.kind = 2 then 2 else (if q1.2.recovered = true then (if (c.leaving || q1.2.leaving) = true then 3 else 1) else c.kind))) : Int) = 3 := by simp [c24, c38]
   refine jJ ⟨?_, ?_⟩
   · first | (rw [e39]; exact ha.keeps [2, 3, 4, 5, 80] _ rfl) | exact ha.keeps [2, 3, 4, 5, 80] _ rfl
   · first | (rw [e39]; exact hS) | exact hS
  refine jV ha rfl (decide_eq_false c38) ?_
  refine wp_skip ?_
  have e40 : ((if q1.2.kind = 3 then 3 else (if q1.2.kind = 2 then 2 else (if q1.2.recovered = true then (if (c.leaving || q1.2.leaving) = true then 3 else 1) else c.kind))) : Int) = (if q1.2.kind = 2 then 2 else (if q1.2.recovered = true then (if (c.leaving || q1.2.leaving) = true then 3 else 1) else c.kind)) := by simp [c24, c38]
  refine jJ ⟨?_, ?_⟩
  · first | (rw [e40]; exact ha.keeps [2, 3, 4, 5, 80] _ rfl) | exact ha.keeps [2, 3, 4, 5, 80] _ rfl
  · first | (rw [e40]; exact hS) | exact hS
 rintro a w ⟨ha, hS⟩
 refine wp_seq (xY 3 4 (hS.pickN 11 [3, 5, 6, 8, 9]) hS fun w hS => ?_)
 refine yW 0 82 ha (hS.pickN 11 [3, 5, 6, 8, 9]) (fun _ hw => hw.blk 4 rfl) fun a ha => ?_
 refine yW 1 83 ha (hS.pickN 11 [3, 5, 6, 8, 9]) (fun _ hw => hw.blk 3 rfl) fun a ha => ?_
 refine jH 2 (o_sa 7 ha (qU (t := 121) (x := 4) (y := 82)) hS fun w a hS ha => ?_)
 refine ⟨.inr (hS.pickN 11 [3, 5, 6, 8, 9]), ?_⟩
 refine jH 3 (o_sa 6 ha (qU (t := 124) (x := 5) (y := 83)) hS fun w a hS ha => ?_)
 refine xJ (xX (jJ (wp_ret (yH ha (by kernel_rfl) (xZ (t := 4) (ty := 121) (i := 7) ha rfl hS rfl (by kernel_rfl)) (xZ (t := 5) (ty := 124) (i := 6) ha rfl hS rfl (by kernel_rfl)) ?_))))
 have hE : qLast (qCall P fuel d) m c z = (q1.1, (⟨c.f, c.depth, c.r0, q1.2.outer, c.r2, c.r3, c.defers.dropLast, (if q1.2.kind = 3 then 3 else (if q1.2.kind = 2 then 2 else (if q1.2.recovered = true then (if (c.leaving || q1.2.leaving) = true then 3 else 1) else c.kind))), (if q1.2.kind = 2 then q1.2.value else c.value), (c.leaving || q1.2.leaving), c.deferred, c.panicking, c.panic, c.recovered, c.outer⟩ : FQ)) := by (unfold qLast; simp only [hq1, c24, if_true, if_false, Bool.false_eq_true]) <;> rfl
 rw [hE]
 replace hS := hS.pickN 11 [0, 1, 4]
 exact ⟨_, tr1, se1, s13, rfl, rfl, hS⟩
theorem code74 : Try.f74.body = some (Code.seq (cr Try.f74 0 false) (Code.seq (Code.seq (cr Try.f74 1 false) (Code.cond (Operand.tmp 11) (Code.seq (cr Try.f74 2 false) (Code.seq (cr Try.f74 3 true) Code.ret)) Code.skip)) (Code.seq (cr Try.f74 4 false) (Code.seq (cr Try.f74 5 false) (Code.seq (Code.seq (cr Try.f74 6 false) (Code.cond (Operand.tmp 22) (cr Try.f74 7 false) Code.skip)) (Code.seq (cr Try.f74 8 false) (Code.seq (cr Try.f74 9 false) (Code.seq (cr Try.f74 10 false) (Code.seq (Code.seq (cr Try.f74 11 false) (Code.block 0 (Code.loop (Code.seq (Code.seq (cr Try.f74 12 false) (Code.cond (Operand.tmp 46) Code.skip (Code.exit 0))) (Code.block 1 (Code.seq (Code.seq (cr Try.f74 13 false) (Code.cond (Operand.tmp 51) (Code.seq (cr Try.f74 14 false) (Code.seq (cr Try.f74 15 true) Code.ret)) Code.skip)) (Code.seq (cr Try.f74 16 false) (Code.seq (cr Try.f74 17 false) (Code.seq (cr Try.f74 18 true) (Code.seq (cr Try.f74 19 false) (Code.cond (Operand.tmp 81) (Code.seq (cr Try.f74 20 true) Code.ret) Code.skip))))))))))) (Code.seq (Code.block 2 (Code.loop (Code.seq (Code.seq (cr Try.f74 21 false) (Code.cond (Operand.tmp 87) Code.skip (Code.exit 2))) (Code.block 3 (Code.seq (cr Try.f74 22 false) (Code.seq (cr Try.f74 23 false) (Code.cond (Operand.tmp 95) (Code.seq (cr Try.f74 24 true) Code.ret) Code.skip))))))) (Code.seq (Code.seq (cr Try.f74 25 false) (Code.block 4 (Code.seq (cr Try.f74 26 false) (Code.cond (Operand.tmp 100) (cr Try.f74 27 false) (Code.seq (cr Try.f74 28 false) (Code.cond (Operand.tmp 109) (cr Try.f74 29 false) (Code.seq (cr Try.f74 30 false) (Code.cond (Operand.tmp 117) (cr Try.f74 31 false) Code.skip)))))))) (Code.seq (cr Try.f74 32 true) Code.ret)))))))))))) := by kernel_rfl
theorem q_call {P : List (List Stp)} (hP : ProgOk P) {pv : Sl} {fuel : Int} {sbs : List Sl} (D : Nat) (IH : ∀ d, D = d + 1 → CallCQ P fuel pv sbs d) {w0 w : World} {Rs : List Asn} (m : MQ) (c : FQ) {tr se df : Sl} (x : Nat) (hS : Sat w0 w (rE tr m.trace :: rS se m.seen :: rS df c.defers :: Rs)) (hm : OkQ fuel m (x + 2)) (hk : OkC P.length c) (hcz : c.defers = []) (hd1 : c.depth + D = 9) (hd2 : 1 ≤ c.depth) (hPr : Keeps w0 Rs (fun w => RdProg w pv sbs P)) :
  Calls Try.prog 74 #[mV pv fuel m tr se, cV c df] w (Ret fun r w' => ∃ (q : MQ × FQ) (tr' se' df' : Sl), q = qCall P fuel D m c ∧ r = .tuple #[mV pv fuel q.1 tr' se', cV q.2 df'] ∧ Sat w0 w' (rE tr' q.1.trace :: rS se' q.1.seen :: rS df' q.2.defers :: Rs)) := by
 obtain ⟨body, hbody⟩ := get_int P hk.f0 hk.f1
 have hrest : Sat w0 w Rs := Sat.rest [rE tr m.trace, rS se m.seen, rS df c.defers] hS
 obtain ⟨sb, hbn, hbA, hsb⟩ := RdProg.body hPr hrest hbody
 have hpn := (hPr w hrest).len
 have hpA := (hPr w hrest).A (by have := hP.some_; omega)
 have hbm := List.mem_of_getElem? hbody
 have hsteps := hP.steps body hbm
 have hb8 := hP.short body hbm
 have hm1 := hm.made1
 have hmb := hm.bnd
 replace hS : Sat w0 w ((rE tr m.trace) :: (rS se m.seen) :: (rS df c.defers) :: Rs) := hS
 refine enter (n := 125) Try.func74 code74 (by kernel_rfl) (Nat.le_of_ble_eq_true rfl) (fun a ha => ?_)
 replace ha : Has 125 [(0, (mG pv fuel m.spent m.shared m.made m.deep tr se)), (1, (cG c.f c.depth c.r0 c.r1 c.r2 c.r3 df c.kind c.value c.leaving c.deferred c.panicking c.panic c.recovered c.outer))] a := ha
 refine wp_seq (jX [0, 1, 2, 3] (jZ (qJ 2 (mL pv fuel m.spent m.shared m.made m.deep tr se) 121 (ptr · 0) ha hS fun b1 w a hb2 hS ha => ?_)))
 refine jZ (qJ 3 (cL c.f c.depth c.r0 c.r1 c.r2 c.r3 df c.kind c.value c.leaving c.deferred c.panicking c.panic c.recovered c.outer) 124 (ptr · 0) ha hS fun b3 w a hb4 hS ha => ?_)
 refine jZ (qJ 4 (mL (⟨none, 0, 0⟩) 0 false 0 0 0 (⟨none, 0, 0⟩) (⟨none, 0, 0⟩)) 121 (ptr · 0) ha hS fun b5 w a hb6 hS ha => ?_)
 refine jZ (qJ 5 (cL 0 0 0 0 0 0 (⟨none, 0, 0⟩) 0 0 false false false 0 false 0) 124 (ptr · 0) ha hS fun b7 w a hb8 hS ha => ?_)
 refine jY (jJ (wp_seq (wp_seq (jX [0, 1, 2] (jQ [(0, 9, ptr b3 1)] ha fun a ha => ?_)))))
 refine jU (d := 10) (b := b3) (j := 1) ha (hS.blk 2 rfl) rfl fun a ha => ?_
 refine jQ [(2, 11, .bool (decide (c.depth > 8)))] ha fun a ha => ?_
 refine jY (jJ ?_)
 by_cases c9 : c.depth > 8
 ·
  refine jG ha rfl (decide_eq_true c9) ?_
  refine wp_seq (jX [0, 1] (jQ [(0, 12, ptr b1 2)] ha fun a ha => ?_))
  refine jZ (qH b1 2 (.bool true) 3 ha hS rfl rfl fun w a hS ha => ?_)
  refine jY (jJ (wp_seq (xY 3 4 (hS.pickN 7 [0, 2, 3]) hS fun w hS => ?_)))
  refine yW 0 13 ha (hS.pickN 7 [0, 2, 3]) (fun _ hw => hw.blk 2 rfl) fun a ha => ?_
  refine yW 1 14 ha (hS.pickN 7 [0, 2, 3]) (fun _ hw => hw.blk 1 rfl) fun a ha => ?_
  refine jH 2 (o_sa 1 ha (qU (t := 121) (x := 4) (y := 13)) hS fun w a hS ha => ?_)
  refine ⟨.inr (hS.pickN 7 [0, 2, 3]), ?_⟩
  refine jH 3 (o_sa 0 ha (qU (t := 124) (x := 5) (y := 14)) hS fun w a hS ha => ?_)
  refine xJ (xX (jJ (wp_ret (xQ (yH ha (by kernel_rfl) (xZ (t := 4) (ty := 121) (i := 1) ha rfl hS rfl (by kernel_rfl)) (xZ (t := 5) (ty := 124) (i := 0) ha rfl hS rfl (by kernel_rfl)) ?_)))))
  obtain rfl : D = 0 := by omega
  have hE : qCall P fuel 0 m c = ((⟨true, m.shared, m.made, m.deep, m.trace, m.seen⟩ : MQ), c) := rfl
  rw [hE]
  replace hS := hS.pickN 7 [4, 5, 6]
  exact ⟨_, tr, se, df, rfl, rfl, hS⟩
 refine jV ha rfl (decide_eq_false c9) ?_
 refine wp_skip (jJ (wp_seq ?_))
 obtain ⟨d, rfl⟩ : ∃ d', D = d' + 1 := ⟨D - 1, by omega⟩
 refine jX [0, 1, 2, 3, 4, 5, 6] (jQ [(0, 15, ptr b1 5)] ha fun a ha => ?_)
 refine jU (d := 16) (b := b1) (j := 5) ha (hS.blk 3 rfl) rfl fun a ha => ?_
 refine jQ [(2, 17, ptr b3 1)] ha fun a ha => ?_
 refine jU (d := 18) (b := b3) (j := 1) ha (hS.blk 2 rfl) rfl fun a ha => ?_
 refine jZ (qG 19 (vs := [iv m.deep, iv c.depth]) ha (q_most hS) fun v10 w a hp11 ha => ?_)
 obtain ⟨rfl, hS⟩ := hp11
 refine jQ [(5, 20, ptr b1 5)] ha fun a ha => ?_
 refine jZ (qH b1 5 (iv (max m.deep c.depth)) 3 ha hS rfl rfl fun w a hS ha => ?_)
 refine jY (jJ (wp_seq (jX [0] (jQ [(0, 6, iv 1)] ha fun a ha => ?_))))
 refine jY (jJ (wp_seq (wp_seq (jX [0, 1] (jQ [(0, 21, ptr b3 10)] ha fun a ha => ?_)))))
 refine jU (d := 22) (b := b3) (j := 10) ha (hS.blk 2 rfl) rfl fun a ha => ?_
 refine jY (jJ (kZ (J := fun a_ w_ => Has 125 [(2, ptr b1 0), (3, ptr b3 0), (4, ptr b5 0), (5, ptr b7 0), (6, iv (if c.deferred = true then 3 else 1)), (22, .bool c.deferred)] a_ ∧ Sat w0 w_ ((SX.blk b7 (cL 0 0 0 0 0 0 (⟨none, 0, 0⟩) 0 0 false false false 0 false 0) 124) :: (SX.blk b5 (mL (⟨none, 0, 0⟩) 0 false 0 0 0 (⟨none, 0, 0⟩) (⟨none, 0, 0⟩)) 121) :: (SX.blk b3 (cL c.f c.depth c.r0 c.r1 c.r2 c.r3 df c.kind c.value c.leaving c.deferred c.panicking c.panic c.recovered c.outer) 124) :: (SX.blk b1 (mL pv fuel m.spent m.shared m.made (max m.deep c.depth) tr se) 121) :: (rE tr m.trace) :: (rS se m.seen) :: (rS df c.defers) :: Rs)) ?_ ?_))
 ·
  rcases Bool.eq_false_or_eq_true c.deferred with c12 | c12
  ·
   refine jG ha rfl c12 ?_;refine jX [0] (jQ [(0, 6, iv 3)] ha fun a ha => ?_);refine jY ?_;have e13 : ((if c.deferred = true then 3 else 1) : Int) = 3 := by simp [c9, c12]
   refine jJ ⟨?_, ?_⟩
   · first | (rw [e13]; exact ha.keeps [2, 3, 4, 5, 6, 22] _ rfl) | exact ha.keeps [2, 3, 4, 5, 6, 22] _ rfl
   · first | (rw [e13]; exact hS) | exact hS
  refine jV ha rfl c12 ?_
  refine wp_skip ?_
  have e14 : ((if c.deferred = true then 3 else 1) : Int) = 1 := by simp [c9, c12]
  refine jJ ⟨?_, ?_⟩
  · first | (rw [e14]; exact ha.keeps [2, 3, 4, 5, 6, 22] _ rfl) | exact ha.keeps [2, 3, 4, 5, 6, 22] _ rfl
  · first | (rw [e14]; exact hS) | exact hS
 rintro a w ⟨ha, hS⟩
 refine wp_seq (jX [0, 1, 2, 3, 4, 5, 6, 7, 8] (xG 23 ha (hS.blk 3 rfl) fun a ha => ?_))
 refine jQ [(1, 24, iv (if c.deferred = true then 3 else 1)), (2, 25, ptr b3 0)] ha fun a ha => ?_
 refine jU (d := 26) (b := b3) (j := 0) ha (hS.blk 2 rfl) rfl fun a ha => ?_
 refine jQ [(4, 27, ptr b3 2), (5, 28, ptr b3 2)] ha fun a ha => ?_
 refine jU (d := 29) (b := b3) (j := 2) ha (hS.blk 2 rfl) rfl fun a ha => ?_
 refine jZ (qG 30 (vs := [(mG pv fuel m.spent m.shared m.made (max m.deep c.depth) tr se), iv (if c.deferred = true then 3 else 1), iv c.f, iv c.r0]) ha (q_tell (⟨m.spent, m.shared, m.made, max m.deep c.depth, m.trace, m.seen⟩ : MQ) (hS.pickN 7 [4, 0, 1, 2, 3, 5, 6]) (by have := hm.bnd; have := hm.made1; simp only []; omega)) fun v16 w a hp17 ha => ?_)
 obtain ⟨s15, rfl, hS⟩ := hp17
 refine jZ (o_sa 4 ha (qU (t := 121) (x := 2) (y := 30)) hS fun w a hS ha => ?_)
 refine jY ?_
 replace ha := ha.as [(2, ptr b1 0), (3, ptr b3 0), (4, ptr b5 0), (5, ptr b7 0)] rfl
 refine jJ (wp_seq (jX [0, 1] (jQ [(0, 31, ptr b3 7)] ha fun a ha => ?_)))
 refine jZ (qH b3 7 (iv 1) 3 ha hS rfl rfl fun w a hS ha => ?_)
 refine jY (jJ (wp_seq (jX [0, 1, 2, 3, 4, 5, 6, 7] (jQ [(0, 32, ptr b1 0), (1, 33, ptr b1 0)] ha fun a ha => ?_))))
 refine jU (d := 34) (b := b1) (j := 0) ha (hS.blk 4 rfl) rfl fun a ha => ?_
 refine jQ [(3, 35, ptr b3 0)] ha fun a ha => ?_
 refine jU (d := 36) (b := b3) (j := 0) ha (hS.blk 3 rfl) rfl fun a ha => ?_
 refine xU (.pointer (some ⟨bk pv, of_ pv + c.f.toNat * 1, none⟩)) ha (kK (s := pv) (el := 95) (sz := 1) (j := c.f.toNat) ha (yU (t := 38) (x := 34) (y := 36) (d := 37)) rfl rfl (by kernel_rfl) (by kernel_rfl) hpA (Int.toNat_of_nonneg hk.f0).symm (by rw [hpn]; have := hk.f1; have := hk.f0; omega)) fun a ha => ?_
 refine xU (.slice sb.A sb.n sb.c) ha (zK ha (zV (t := 95) (x := 37) (d := 38) (ty := 95)) rfl (by kernel_rfl) (fun w' hw => by rw [hw, Nat.mul_one]; exact ((hsb.more [_, _, _, _, _, _, _]) _ hS).1)) fun a ha => ?_
 refine jQ [(7, 7, .slice sb.A sb.n sb.c)] ha fun a ha => ?_
 refine jY (jJ (wp_seq (wp_seq ?_)))
 have hPb : P.getD c.f.toNat [] = body := by rw [List.getD_eq_getElem?_getD, hbody]; rfl
 refine jX [0] (jQ [(0, 8, iv 0)] ha fun a ha => ?_)
 refine jY (jJ (wp_block ?_))
 replace hS := hS.pickN 7 [4, 3, 2, 1, 0, 5, 6]
 generalize hR0 : qBody fuel (qCall P fuel d) body (fuel - m.made).toNat.succ (qEnter m c) { c with kind := 1 } 0 = R_
 refine wp_loop_ghost (fun n_ a_ w_ => ∃ (k : Nat) (q : MQ) (c1 : FQ) (at_ : Int) (tr1 : Sl) (se1 : Sl) (df1 : Sl), n_ = (1 + k) ∧ (qBody fuel (qCall P fuel d) body k q c1 at_ = R_) ∧ ((fuel - q.made).toNat < k) ∧ (OkQ fuel q (2 * c1.defers.length + (x + 1))) ∧ (OkC P.length c1) ∧ (c1.depth = c.depth) ∧ (c1.f = c.f) ∧ (-1 ≤ at_ ∧ at_ ≤ 8) ∧ Has 125 [(2, ptr b1 0), (3, ptr b3 0), (4, ptr b5 0), (5, ptr b7 0), (7, .slice sb.A sb.n sb.c), (8, iv at_)] a_ ∧ Sat w0 w_ ((SX.blk b1 (mL pv fuel q.spent q.shared q.made q.deep tr1 se1) 121) :: (SX.blk b3 (cL c1.f c1.depth c1.r0 c1.r1 c1.r2 c1.r3 df1 c1.kind c1.value c1.leaving c1.deferred c1.panicking c1.panic c1.recovered c1.outer) 124) :: (SX.blk b5 (mL (⟨none, 0, 0⟩) 0 false 0 0 0 (⟨none, 0, 0⟩) (⟨none, 0, 0⟩)) 121) :: (SX.blk b7 (cL 0 0 0 0 0 0 (⟨none, 0, 0⟩) 0 0 false false false 0 false 0) 124) :: (rE tr1 q.trace) :: (rS se1 q.seen) :: (rS df1 c1.defers) :: Rs)) _ ⟨_, (qEnter m c), ({ c with kind := 1 } : FQ), 0, s15, se, df, rfl, hR0, Nat.lt_succ_self _, (by rw [show ({ c with kind := 1 } : FQ).defers = [] from hcz]; simpa using qEnter_ok (c := c) hm), ⟨hk.f0, hk.f1, hk.defers, hk.a0, hk.a1, hk.a2, hk.a3, hk.va, hk.pa, hk.ou⟩, rfl, rfl, by omega, ha.keeps [2, 3, 4, 5, 7, 8] _ rfl, hS⟩ ?_
 rintro n_ a w ⟨k, q, c1, at_, tr1, se1, df1, rfl, hR, hk1, hok, hoc, hcd, hcf, hat, ha, hS⟩
 obtain ⟨k, rfl⟩ : ∃ k', k = k' + 1 := ⟨k - 1, by omega⟩
 have hb0 := hok.made0
 have hb1 := hok.made1
 have hb2 := hok.fuel1
 have hb3 := hok.seen
 have hsp1 := hok.sp
 have hsl : q.seen.length ≤ 1000 := by omega
 refine wp_seq (kG (J := fun a_ w_ => Has 125 [(2, ptr b1 0), (3, ptr b3 0), (4, ptr b5 0), (5, ptr b7 0), (7, .slice sb.A sb.n sb.c), (8, iv at_), (46, .bool (decide (0 ≤ at_ ∧ at_ < (sb.n : Int))))] a_ ∧ Sat w0 w_ ((SX.blk b1 (mL pv fuel q.spent q.shared q.made q.deep tr1 se1) 121) :: (SX.blk b3 (cL c1.f c1.depth c1.r0 c1.r1 c1.r2 c1.r3 df1 c1.kind c1.value c1.leaving c1.deferred c1.panicking c1.panic c1.recovered c1.outer) 124) :: (SX.blk b5 (mL (⟨none, 0, 0⟩) 0 false 0 0 0 (⟨none, 0, 0⟩) (⟨none, 0, 0⟩)) 121) :: (SX.blk b7 (cL 0 0 0 0 0 0 (⟨none, 0, 0⟩) 0 0 false false false 0 false 0) 124) :: (rE tr1 q.trace) :: (rS se1 q.seen) :: (rS df1 c1.defers) :: Rs)) ?_ ?_)
 ·
  refine jX [0, 1, 2, 3, 4, 5, 6, 7] (jQ [(0, 39, iv at_), (1, 40, .bool (decide (at_ ≥ 0))), (2, 41, .bool (decide (at_ ≥ 0)))] ha fun a ha => ?_)
  by_cases c18 : at_ ≥ 0
  ·
   replace ha := ha.turn 40 (.bool true) rfl (congrArg Value.bool (decide_eq_true c18));replace ha := ha.turn 41 (.bool true) rfl (congrArg Value.bool (decide_eq_true c18));refine jQ [(3, 42, iv at_), (4, 43, .slice sb.A sb.n sb.c), (5, 44, iv (sb.n : Int)), (6, 45, .bool (decide (at_ < (sb.n : Int)))), (7, 46, .bool (decide (at_ < (sb.n : Int))))] ha fun a ha => ?_;refine jY ?_;have e19 : (decide (0 ≤ at_ ∧ at_ < (sb.n : Int))) = (decide (at_ < (sb.n : Int))) := by simp [c9, c18]
   refine jJ ⟨?_, ?_⟩
   · first | (rw [e19]; exact ha.keeps [2, 3, 4, 5, 7, 8, 46] _ rfl) | exact ha.keeps [2, 3, 4, 5, 7, 8, 46] _ rfl
   · first | (rw [e19]; exact hS) | exact hS
  replace ha := ha.turn 40 (.bool false) rfl (congrArg Value.bool (decide_eq_false c18))
  replace ha := ha.turn 41 (.bool false) rfl (congrArg Value.bool (decide_eq_false c18))
  refine jQ [(3, 42, undef), (4, 43, undef), (5, 44, undef), (6, 45, undef), (7, 46, .bool false)] ha fun a ha => ?_
  refine jY ?_
  have e20 : (decide (0 ≤ at_ ∧ at_ < (sb.n : Int))) = false := by simp [c9, c18]
  refine jJ ⟨?_, ?_⟩
  · first | (rw [e20]; exact ha.keeps [2, 3, 4, 5, 7, 8, 46] _ rfl) | exact ha.keeps [2, 3, 4, 5, 7, 8, 46] _ rfl
  · first | (rw [e20]; exact hS) | exact hS
 rintro a w ⟨ha, hS⟩
 by_cases c21 : 0 ≤ at_ ∧ at_ < (sb.n : Int)
 ·
  have hin := c21
  obtain ⟨z, hz⟩ : ∃ z, body[at_.toNat]? = some z := ⟨_, List.getElem?_eq_getElem (by omega)⟩
  refine jG ha rfl (decide_eq_true c21) ?_
  refine wp_skip (jJ (wp_block (wp_seq (wp_seq (jX [0, 1, 2, 3, 4] (jQ [(0, 47, ptr b1 4)] ha fun a ha => ?_))))))
  refine jU (d := 48) (b := b1) (j := 4) ha (hS.blk 0 rfl) rfl fun a ha => ?_
  refine jQ [(2, 49, ptr b1 1)] ha fun a ha => ?_
  refine jU (d := 50) (b := b1) (j := 1) ha (hS.blk 0 rfl) rfl fun a ha => ?_
  refine jQ [(4, 51, .bool (decide (q.made = fuel)))] ha fun a ha => ?_
  refine jY (jJ ?_)
  by_cases c22 : q.made = fuel
  ·
   refine jG ha rfl (decide_eq_true c22) ?_;refine wp_seq (jX [0, 1] (jQ [(0, 52, ptr b1 2)] ha fun a ha => ?_));refine jZ (qH b1 2 (.bool true) 0 ha hS rfl rfl fun w a hS ha => ?_);refine jY (jJ (wp_seq (xY 3 4 (hS.pickN 7 [0, 1, 3]) hS fun w hS => ?_)));refine yW 0 53 ha (hS.pickN 7 [0, 1, 3]) (fun _ hw => hw.blk 0 rfl) fun a ha => ?_;refine yW 1 54 ha (hS.pickN 7 [0, 1, 3]) (fun _ hw => hw.blk 1 rfl) fun a ha => ?_;refine jH 2 (o_sa 2 ha (qU (t := 121) (x := 4) (y := 53)) hS fun w a hS ha => ?_);refine ⟨.inr (hS.pickN 7 [0, 1, 3]), ?_⟩;refine jH 3 (o_sa 3 ha (qU (t := 124) (x := 5) (y := 54)) hS fun w a hS ha => ?_);refine xJ (xX (jJ (wp_ret (xQ (in_r (xQ (in_r (xQ (yH ha (by kernel_rfl) (xZ (t := 4) (ty := 121) (i := 2) ha rfl hS rfl (by kernel_rfl)) (xZ (t := 5) (ty := 124) (i := 3) ha rfl hS rfl (by kernel_rfl)) ?_)))))))))
   have hE : qCall P fuel (d + 1) m c = ((⟨true, q.shared, q.made, q.deep, q.trace, q.seen⟩ : MQ), c1) := by
    have h9 : R_ = ({ q with spent := true }, c1) := by rw [← hR]; simp only [qBody, if_pos hin.1, hz, if_pos c22]
    simp only [qCall, hPb, hR0, h9, if_true]
   rw [hE];replace hS := hS.pickN 7 [4, 5, 6];exact ⟨_, tr1, se1, df1, rfl, rfl, hS⟩
  refine jV ha rfl (decide_eq_false c22) ?_
  refine wp_skip (jJ (wp_seq (jX [0, 1, 2, 3, 4] (jQ [(0, 55, ptr b1 4)] ha fun a ha => ?_))))
  refine jU (d := 56) (b := b1) (j := 4) ha (hS.blk 0 rfl) rfl fun a ha => ?_
  refine zJ 57 (q.made + 1) ha fun a ha => ?_
  refine jQ [(3, 58, ptr b1 4)] ha fun a ha => ?_
  refine jZ (qH b1 4 (iv (q.made + 1)) 0 ha hS rfl rfl fun w a hS ha => ?_)
  refine jY (jJ (wp_seq (jX [0, 1, 2, 3, 4, 5, 6, 7, 8, 9] (jQ [(0, 59, ptr b1 7)] ha fun a ha => ?_))))
  refine jU (d := 60) (b := b1) (j := 7) ha (hS.blk 0 rfl) rfl fun a ha => ?_
  refine jQ [(2, 61, ptr b3 0)] ha fun a ha => ?_
  refine jU (d := 62) (b := b3) (j := 0) ha (hS.blk 1 rfl) rfl fun a ha => ?_
  refine jQ [(4, 63, iv at_), (5, 64, .agg #[iv c1.f, iv at_])] ha fun a ha => ?_
  refine jZ (qJ 65 [iv c1.f, iv at_] 61 (fun b => .slice (some ⟨b, 0, none⟩) 1 1) ha hS fun b23 w a hb24 hS ha => ?_)
  refine jZ (o_ap 66 6 0 (encR (q.seen ++ [(c1.f, at_)])) ha hS rfl rfl (by rw [encR_length]; simp only [List.length_cons, List.length_nil]; have := hsl; omega) (encR_snoc _ _ _) fun s28 w a hS hn29 ha => ?_)
  refine jQ [(8, 67, ptr b1 7)] ha fun a ha => ?_
  refine jZ (qH b1 7 (.slice s28.A s28.n s28.c) 1 ha hS rfl rfl fun w a hS ha => ?_)
  refine jY (jJ (wp_seq (xH 7 15 hS fun w hS => ?_)))
  refine yW 0 69 ha hS (fun _ hw => hw.blk 1 rfl) fun a ha => ?_
  refine yW 1 70 ha hS (fun _ hw => hw.blk 2 rfl) fun a ha => ?_
  refine jK (k := 10) [(2, 71, iv at_), (3, 72, .slice sb.A sb.n sb.c), (4, 73, iv at_)] ha (.inr hS) fun a ha => ?_
  refine zQ 5 (.pointer (some ⟨bk sb, of_ sb + at_.toNat * 3, none⟩)) ha (kK (s := sb) (el := 98) (sz := 3) (j := at_.toNat) ha (yU (t := 95) (x := 72) (y := 73) (d := 74)) rfl rfl (by kernel_rfl) (by kernel_rfl) (hbA (by omega)) (Int.toNat_of_nonneg hin.1).symm (by omega)) (.inr hS) fun a ha => ?_
  refine zH 6 (.agg #[iv z.k, iv z.a, iv z.b]) ha (v_loadL ha (zV (t := 98) (x := 74) (d := 75) (ty := 98)) rfl (fun w' hw => (((hsb.more [_, _, _, _, _, _, _, _]) _ hw).2).load hz)) hS fun a ha => ?_
  refine jH 7 (qG 76 (vs := [(mG pv fuel q.spent q.shared (q.made + 1) q.deep tr1 s28), (cG c1.f c1.depth c1.r0 c1.r1 c1.r2 c1.r3 df1 c1.kind c1.value c1.leaving c1.deferred c1.panicking c1.panic c1.recovered c1.outer), iv at_, .agg #[iv z.k, iv z.a, iv z.b]]) ha (q_make (IH d rfl) (q.step c1.f at_) c1 at_ z (x + 1) (hS.pickN 8 [5, 6, 7, 0, 1, 2, 3, 4]) (hok.step c22 c1.f at_) hoc (hsteps z (List.mem_of_getElem? hz)) (by omega) (by omega) hin.1 (by omega) (hPr.more [_, _, _, _, _])) fun v30 w a hp31 ha => ?_)
  obtain ⟨q1, tr2, se2, df2, hq1, rfl, hS⟩ := hp31
  refine xJ (jK (k := 3) [(8, 68, .tuple #[(mG pv fuel q1.1.spent q1.1.shared q1.1.made q1.1.deep tr2 se2), (cG q1.2.1.f q1.2.1.depth q1.2.1.r0 q1.2.1.r1 q1.2.1.r2 q1.2.1.r3 df2 q1.2.1.kind q1.2.1.value q1.2.1.leaving q1.2.1.deferred q1.2.1.panicking q1.2.1.panic q1.2.1.recovered q1.2.1.outer), iv q1.2.2]), (9, 77, (mG pv fuel q1.1.spent q1.1.shared q1.1.made q1.1.deep tr2 se2)), (10, 78, (cG q1.2.1.f q1.2.1.depth q1.2.1.r0 q1.2.1.r1 q1.2.1.r2 q1.2.1.r3 df2 q1.2.1.kind q1.2.1.value q1.2.1.leaving q1.2.1.deferred q1.2.1.panicking q1.2.1.panic q1.2.1.recovered q1.2.1.outer)), (11, 79, iv q1.2.2)] ha (.inl (by kernel_rfl)) fun a ha => ?_)
  refine jH 12 (o_sa 4 ha (qU (t := 121) (x := 2) (y := 77)) hS fun w a hS ha => ?_)
  refine xJ (jH 13 (o_sa 5 ha (qU (t := 124) (x := 3) (y := 78)) hS fun w a hS ha => ?_))
  refine xJ (jK (k := 0) [(14, 8, iv q1.2.2)] ha (.inl (by kernel_rfl)) fun a ha => ?_)
  refine xX (jJ (wp_seq (jX [0, 1] (jQ [(0, 80, ptr b1 2)] ha fun a ha => ?_))))
  refine jU (d := 81) (b := b1) (j := 2) ha (hS.blk 4 rfl) rfl fun a ha => ?_
  refine jY (jJ ?_)
  rcases Bool.eq_false_or_eq_true q1.1.spent with c32 | c32
  ·
   refine jG ha rfl c32 ?_;refine wp_seq (xY 3 4 (hS.pickN 8 [3, 4, 5, 7]) hS fun w hS => ?_);refine yW 0 82 ha (hS.pickN 8 [3, 4, 5, 7]) (fun _ hw => hw.blk 1 rfl) fun a ha => ?_;refine yW 1 83 ha (hS.pickN 8 [3, 4, 5, 7]) (fun _ hw => hw.blk 2 rfl) fun a ha => ?_;refine jH 2 (o_sa 6 ha (qU (t := 121) (x := 4) (y := 82)) hS fun w a hS ha => ?_);refine ⟨.inr (hS.pickN 8 [3, 4, 5, 7]), ?_⟩;refine jH 3 (o_sa 7 ha (qU (t := 124) (x := 5) (y := 83)) hS fun w a hS ha => ?_);refine xJ (xX (jJ (wp_ret (in_r (xQ (in_r (xQ (yH ha (by kernel_rfl) (xZ (t := 4) (ty := 121) (i := 6) ha rfl hS rfl (by kernel_rfl)) (xZ (t := 5) (ty := 124) (i := 7) ha rfl hS rfl (by kernel_rfl)) ?_))))))))
   have hE : qCall P fuel (d + 1) m c = (q1.1, q1.2.1) := by
    have h9 : R_ = (q1.1, q1.2.1) := by rw [← hR]; simp only [qBody, if_pos hin.1, hz, if_neg c22, ← hq1, c32, if_true]
    simp only [qCall, hPb, hR0, h9, c32, if_true]
   rw [hE];replace hS := hS.pickN 8 [0, 1, 2];exact ⟨_, tr2, se2, df2, rfl, rfl, hS⟩
  refine jV ha rfl c32 ?_
  refine wp_skip (in_n (jJ ?_))
  replace hS := hS.pickN 8 [4, 5, 6, 7, 0, 1, 2]
  have hgo : ¬ (0 ≤ at_ ∧ at_ < (sb.n : Int)) → False := fun h => h c21
  obtain ⟨g1, g2, g3, g4_, g5, g6⟩ := qMake_ok (qCall_ok hP fuel d) (x := x + 1) (hsteps z (List.mem_of_getElem? hz)) (hok.step c22 c1.f at_) hoc hin.1 (by omega) (by rw [← hq1]; exact c32)
  rw [← hq1] at g1 g2 g3 g4_ g5 g6
  exact ⟨_, (show 1 + k < 1 + (k + 1) by omega), k, q1.1, q1.2.1, q1.2.2, tr2, se2, df2, rfl, by rw [← hR]; simp only [qBody, if_pos hin.1, hz, if_neg c22, ← hq1, c32, Bool.false_eq_true, if_false], by have h9 : (q.step c1.f at_).made = q.made + 1 := rfl; omega, g1, g2, g3.trans hcd, g4_.trans hcf, g5, ha.keeps [2, 3, 4, 5, 7, 8] _ rfl, hS⟩
 have h9 : R_ = (q, c1) := by rw [← hR]; exact qBody_out _ _ _ _ _ _ (fun h => c21 ⟨h.1, by omega⟩)
 have h9s : q.spent = false := hsp1
 refine jV ha rfl (decide_eq_false c21) ?_
 refine wp_exit (yX (yX (in_x (jJ (wp_seq (wp_block ?_))))))
 replace hS : Sat w0 w ((SX.blk b1 (mL pv fuel q.spent q.shared q.made q.deep tr1 se1) 121) :: (SX.blk b3 (cL c1.f c1.depth c1.r0 c1.r1 c1.r2 c1.r3 df1 c1.kind c1.value c1.leaving c1.deferred c1.panicking c1.panic c1.recovered c1.outer) 124) :: (SX.blk b5 (mL (⟨none, 0, 0⟩) 0 false 0 0 0 (⟨none, 0, 0⟩) (⟨none, 0, 0⟩)) 121) :: (SX.blk b7 (cL 0 0 0 0 0 0 (⟨none, 0, 0⟩) 0 0 false false false 0 false 0) 124) :: (rE tr1 q.trace) :: (rS se1 q.seen) :: (rS df1 c1.defers) :: Rs) := hS
 generalize hR20 : qRuns (qCall P fuel d) c1.defers.length q c1 = R2_
 refine wp_loop_ghost (fun n_ a_ w_ => ∃ (k : Nat) (q : MQ) (c2 : FQ) (tr1 : Sl) (se1 : Sl) (df1 : Sl), n_ = (1 + k) ∧ (qRuns (qCall P fuel d) k q c2 = R2_) ∧ (c2.defers.length = k) ∧ (OkQ fuel q (2 * c2.defers.length + (x + 1))) ∧ (OkC P.length c2) ∧ (c2.depth = c.depth) ∧ (c2.f = c.f) ∧ Has 125 [(2, ptr b1 0), (3, ptr b3 0), (4, ptr b5 0), (5, ptr b7 0)] a_ ∧ Sat w0 w_ ((SX.blk b1 (mL pv fuel q.spent q.shared q.made q.deep tr1 se1) 121) :: (SX.blk b3 (cL c2.f c2.depth c2.r0 c2.r1 c2.r2 c2.r3 df1 c2.kind c2.value c2.leaving c2.deferred c2.panicking c2.panic c2.recovered c2.outer) 124) :: (SX.blk b5 (mL (⟨none, 0, 0⟩) 0 false 0 0 0 (⟨none, 0, 0⟩) (⟨none, 0, 0⟩)) 121) :: (SX.blk b7 (cL 0 0 0 0 0 0 (⟨none, 0, 0⟩) 0 0 false false false 0 false 0) 124) :: (rE tr1 q.trace) :: (rS se1 q.seen) :: (rS df1 c2.defers) :: Rs)) _ ⟨_, q, c1, tr1, se1, df1, rfl, hR20, rfl, hok, hoc, hcd, hcf, ha.keeps [2, 3, 4, 5] _ rfl, hS⟩ ?_
 rintro n_ a w ⟨k, q, c2, tr1, se1, df1, rfl, hR2, hk2, hok2, hoc2, hcd2, hcf2, ha, hS⟩
 have hdn : df1.n = c2.defers.length := hS.rowL (s := df1) (enc := cellsR) 6 yG (by decide) rfl
 have hsp2 := hok2.sp
 have hb6 := hok2.bnd
 have hb7 := hok2.made1
 refine wp_seq (wp_seq (jX [0, 1, 2, 3] (jQ [(0, 84, ptr b3 6)] ha fun a ha => ?_)))
 refine jU (d := 85) (b := b3) (j := 6) ha (hS.blk 1 rfl) rfl fun a ha => ?_
 refine jQ [(2, 86, iv (df1.n : Int)), (3, 87, .bool (decide ((df1.n : Int) > 0)))] ha fun a ha => ?_
 refine jY (jJ ?_)
 by_cases c33 : (df1.n : Int) > 0
 ·
  obtain ⟨k', hkk⟩ : ∃ k', k = k' + 1 := ⟨k - 1, by have := c33; omega⟩
  obtain ⟨z9, hz9⟩ : ∃ z, c2.defers.getLast? = some z := ⟨_, List.getLast?_eq_getElem? .. ▸ List.getElem?_eq_getElem (by have := c33; omega)⟩
  refine jG ha rfl (decide_eq_true c33) ?_
  refine wp_skip (jJ (wp_block (wp_seq (jX [0, 1, 2, 3, 4, 5, 6, 7] (xG 89 ha (hS.blk 0 rfl) fun a ha => ?_)))))
  refine xG 90 ha (hS.blk 1 rfl) fun a ha => ?_
  refine jZ (qG 91 (vs := [(mG pv fuel q.spent q.shared q.made q.deep tr1 se1), (cG c2.f c2.depth c2.r0 c2.r1 c2.r2 c2.r3 df1 c2.kind c2.value c2.leaving c2.deferred c2.panicking c2.panic c2.recovered c2.outer)]) ha (q_last (IH d rfl) q c2 z9 (2 * k' + (x + 1)) (hS.pickN 7 [4, 5, 6, 0, 1, 2, 3]) (hok2.less (by omega)) hoc2 hz9 (by omega) (by omega) (by omega) (hPr.more [_, _, _, _])) fun v34 w a hp35 ha => ?_)
  obtain ⟨q2, tr3, se3, df3, hq2, rfl, hS⟩ := hp35
  refine jQ [(3, 88, .tuple #[(mG pv fuel q2.1.spent q2.1.shared q2.1.made q2.1.deep tr3 se3), (cG q2.2.f q2.2.depth q2.2.r0 q2.2.r1 q2.2.r2 q2.2.r3 df3 q2.2.kind q2.2.value q2.2.leaving q2.2.deferred q2.2.panicking q2.2.panic q2.2.recovered q2.2.outer)]), (4, 92, (mG pv fuel q2.1.spent q2.1.shared q2.1.made q2.1.deep tr3 se3)), (5, 93, (cG q2.2.f q2.2.depth q2.2.r0 q2.2.r1 q2.2.r2 q2.2.r3 df3 q2.2.kind q2.2.value q2.2.leaving q2.2.deferred q2.2.panicking q2.2.panic q2.2.recovered q2.2.outer))] ha fun a ha => ?_
  refine jZ (o_sa 3 ha (qU (t := 121) (x := 2) (y := 92)) hS fun w a hS ha => ?_)
  refine jZ (o_sa 4 ha (qU (t := 124) (x := 3) (y := 93)) hS fun w a hS ha => ?_)
  refine jY (jJ (wp_seq (jX [0, 1] (jQ [(0, 94, ptr b1 2)] ha fun a ha => ?_))))
  refine jU (d := 95) (b := b1) (j := 2) ha (hS.blk 3 rfl) rfl fun a ha => ?_
  refine jY (jJ ?_)
  rcases Bool.eq_false_or_eq_true q2.1.spent with c36 | c36
  ·
   refine jG ha rfl c36 ?_;refine wp_seq (xY 3 4 (hS.pickN 7 [3, 4, 6]) hS fun w hS => ?_);refine yW 0 96 ha (hS.pickN 7 [3, 4, 6]) (fun _ hw => hw.blk 0 rfl) fun a ha => ?_;refine yW 1 97 ha (hS.pickN 7 [3, 4, 6]) (fun _ hw => hw.blk 1 rfl) fun a ha => ?_;refine jH 2 (o_sa 5 ha (qU (t := 121) (x := 4) (y := 96)) hS fun w a hS ha => ?_);refine ⟨.inr (hS.pickN 7 [3, 4, 6]), ?_⟩;refine jH 3 (o_sa 6 ha (qU (t := 124) (x := 5) (y := 97)) hS fun w a hS ha => ?_);refine xJ (xX (jJ (wp_ret (in_r (xQ (in_r (xQ (yH ha (by kernel_rfl) (xZ (t := 4) (ty := 121) (i := 5) ha rfl hS rfl (by kernel_rfl)) (xZ (t := 5) (ty := 124) (i := 6) ha rfl hS rfl (by kernel_rfl)) ?_))))))))
   have hE : qCall P fuel (d + 1) m c = (q2.1, q2.2) := by
    have h8 : R2_ = (q2.1, q2.2) := by rw [← hR2, hkk]; simp only [qRuns, hz9, ← hq2, c36, if_true]
    simp only [qCall, hPb, hR0, h9, h9s, Bool.false_eq_true, if_false, hR20, h8, qTail, c36, if_true]
   rw [hE];replace hS := hS.pickN 7 [0, 1, 2];exact ⟨_, tr3, se3, df3, rfl, rfl, hS⟩
  refine jV ha rfl c36 ?_
  refine wp_skip (in_n (jJ ?_))
  replace hS := hS.pickN 7 [3, 4, 5, 6, 0, 1, 2]
  obtain ⟨g1, g2, g3, g4_, g5, g6⟩ := qLast_ok (qCall_ok hP fuel d) (x := 2 * k' + (x + 1)) (hok2.less (by omega)) hoc2 (List.mem_of_getLast? hz9) (by rw [← hq2]; exact c36)
  rw [← hq2] at g1 g2 g3 g4_ g5 g6
  have hdl : q2.2.defers.length = k' := by rw [g5, List.length_dropLast]; omega
  exact ⟨_, (show 1 + k' < 1 + k by omega), k', q2.1, q2.2, tr3, se3, df3, rfl, by rw [← hR2, hkk]; simp only [qRuns, hz9, ← hq2, c36, Bool.false_eq_true, if_false], hdl, by rw [hdl]; exact g1, g2, g3.trans hcd2, g4_.trans hcf2, ha.keeps [2, 3, 4, 5] _ rfl, hS⟩
 have hk0 : k = 0 := by have := c33; omega
 refine jV ha rfl (decide_eq_false c33) ?_
 refine wp_exit (yX (yX (in_x (jJ (wp_seq (wp_seq (jX [0, 1] (jQ [(0, 98, ptr b3 7)] ha fun a ha => ?_))))))))
 refine jU (d := 99) (b := b3) (j := 7) ha (hS.blk 1 rfl) rfl fun a ha => ?_
 refine jY (jJ (wp_block (wp_seq (jX [0, 1] (jQ [(0, 101, .bool (decide (c2.kind = 1))), (1, 100, .bool (decide (c2.kind = 1)))] ha fun a ha => ?_)))))
 refine jY (jJ ?_)
 by_cases c37 : c2.kind = 1
 ·
  refine jG ha rfl (decide_eq_true c37) ?_
  refine jX [0, 1, 2, 3, 4, 5, 6, 7] (xG 102 ha (hS.blk 0 rfl) fun a ha => ?_)
  refine jQ [(1, 103, ptr b3 0)] ha fun a ha => ?_
  refine jU (d := 104) (b := b3) (j := 0) ha (hS.blk 1 rfl) rfl fun a ha => ?_
  refine jQ [(3, 105, ptr b3 2), (4, 106, ptr b3 3)] ha fun a ha => ?_
  refine jU (d := 107) (b := b3) (j := 3) ha (hS.blk 1 rfl) rfl fun a ha => ?_
  refine jZ (qG 108 (vs := [(mG pv fuel q.spent q.shared q.made q.deep tr1 se1), iv 7, iv c2.f, iv c2.r1]) ha (q_tell q (hS.pickN 7 [4, 0, 1, 2, 3, 5, 6]) (by omega)) fun v39 w a hp40 ha => ?_)
  obtain ⟨s38, rfl, hS⟩ := hp40
  refine jZ (o_sa 1 ha (qU (t := 121) (x := 2) (y := 108)) hS fun w a hS ha => ?_)
  refine jY ?_
  replace ha := ha.as [(2, ptr b1 0), (3, ptr b3 0), (4, ptr b5 0), (5, ptr b7 0)] rfl
  refine in_n (jJ (wp_seq (xY 3 4 (hS.pickN 7 [1, 2, 4]) hS fun w hS => ?_)))
  refine yW 0 123 ha (hS.pickN 7 [1, 2, 4]) (fun _ hw => hw.blk 0 rfl) fun a ha => ?_
  refine yW 1 124 ha (hS.pickN 7 [1, 2, 4]) (fun _ hw => hw.blk 1 rfl) fun a ha => ?_
  refine jH 2 (o_sa 3 ha (qU (t := 121) (x := 4) (y := 123)) hS fun w a hS ha => ?_)
  refine ⟨.inr (hS.pickN 7 [1, 2, 4]), ?_⟩
  refine jH 3 (o_sa 4 ha (qU (t := 124) (x := 5) (y := 124)) hS fun w a hS ha => ?_)
  refine xJ (xX (jJ (wp_ret (yH ha (by kernel_rfl) (xZ (t := 4) (ty := 121) (i := 3) ha rfl hS rfl (by kernel_rfl)) (xZ (t := 5) (ty := 124) (i := 4) ha rfl hS rfl (by kernel_rfl)) ?_))))
  have hE : qCall P fuel (d + 1) m c = ((⟨q.spent, q.shared, q.made, q.deep, q.trace ++ [(7, c2.f, c2.r1)], q.seen⟩ : MQ), c2) := by
   have h8 : R2_ = (q, c2) := by rw [← hR2, hk0]; rfl
   (simp only [qCall, hPb, hR0, h9, h9s, Bool.false_eq_true, if_false, hR20, h8, qTail, hsp2, qEnd, qTell, c37, if_true]) <;> rfl
  rw [hE]
  replace hS := hS.pickN 7 [0, 5, 6]
  exact ⟨_, s38, se1, df1, rfl, rfl, hS⟩
 refine jV ha rfl (decide_eq_false c37) ?_
 refine wp_seq (jX [0, 1] (jQ [(0, 110, .bool (decide (c2.kind = 2))), (1, 109, .bool (decide (c2.kind = 2)))] ha fun a ha => ?_))
 refine jY ?_
 replace ha := ha.as [(2, ptr b1 0), (3, ptr b3 0), (4, ptr b5 0), (5, ptr b7 0), (99, iv c2.kind), (109, .bool (decide (c2.kind = 2)))] rfl
 refine jJ ?_
 by_cases c41 : c2.kind = 2
 ·
  refine jG ha rfl (decide_eq_true c41) ?_
  refine jX [0, 1, 2, 3, 4, 5, 6] (xG 111 ha (hS.blk 0 rfl) fun a ha => ?_)
  refine jQ [(1, 112, ptr b3 0)] ha fun a ha => ?_
  refine jU (d := 113) (b := b3) (j := 0) ha (hS.blk 1 rfl) rfl fun a ha => ?_
  refine jQ [(3, 114, ptr b3 8)] ha fun a ha => ?_
  refine jU (d := 115) (b := b3) (j := 8) ha (hS.blk 1 rfl) rfl fun a ha => ?_
  refine jZ (qG 116 (vs := [(mG pv fuel q.spent q.shared q.made q.deep tr1 se1), iv 8, iv c2.f, iv c2.value]) ha (q_tell q (hS.pickN 7 [4, 0, 1, 2, 3, 5, 6]) (by omega)) fun v43 w a hp44 ha => ?_)
  obtain ⟨s42, rfl, hS⟩ := hp44
  refine jZ (o_sa 1 ha (qU (t := 121) (x := 2) (y := 116)) hS fun w a hS ha => ?_)
  refine jY (in_n (jJ (wp_seq (xY 3 4 (hS.pickN 7 [1, 2, 4]) hS fun w hS => ?_))))
  refine yW 0 123 ha (hS.pickN 7 [1, 2, 4]) (fun _ hw => hw.blk 0 rfl) fun a ha => ?_
  refine yW 1 124 ha (hS.pickN 7 [1, 2, 4]) (fun _ hw => hw.blk 1 rfl) fun a ha => ?_
  refine jH 2 (o_sa 3 ha (qU (t := 121) (x := 4) (y := 123)) hS fun w a hS ha => ?_)
  refine ⟨.inr (hS.pickN 7 [1, 2, 4]), ?_⟩
  refine jH 3 (o_sa 4 ha (qU (t := 124) (x := 5) (y := 124)) hS fun w a hS ha => ?_)
  refine xJ (xX (jJ (wp_ret (yH ha (by kernel_rfl) (xZ (t := 4) (ty := 121) (i := 3) ha rfl hS rfl (by kernel_rfl)) (xZ (t := 5) (ty := 124) (i := 4) ha rfl hS rfl (by kernel_rfl)) ?_))))
  have hE : qCall P fuel (d + 1) m c = ((⟨q.spent, q.shared, q.made, q.deep, q.trace ++ [(8, c2.f, c2.value)], q.seen⟩ : MQ), c2) := by
   have h8 : R2_ = (q, c2) := by rw [← hR2, hk0]; rfl
   (simp only [qCall, hPb, hR0, h9, h9s, Bool.false_eq_true, if_false, hR20, h8, qTail, hsp2, qEnd, qTell, c37, c41, if_true]) <;> rfl
  rw [hE]
  replace hS := hS.pickN 7 [0, 5, 6]
  exact ⟨_, s42, se1, df1, rfl, rfl, hS⟩
 refine jV ha rfl (decide_eq_false c41) ?_
 refine wp_seq (jX [0, 1] (jQ [(0, 118, .bool (decide (c2.kind = 3))), (1, 117, .bool (decide (c2.kind = 3)))] ha fun a ha => ?_))
 refine jY (jJ ?_)
 by_cases c45 : c2.kind = 3
 ·
  refine jG ha rfl (decide_eq_true c45) ?_
  refine jX [0, 1, 2, 3, 4] (xG 119 ha (hS.blk 0 rfl) fun a ha => ?_)
  refine jQ [(1, 120, ptr b3 0)] ha fun a ha => ?_
  refine jU (d := 121) (b := b3) (j := 0) ha (hS.blk 1 rfl) rfl fun a ha => ?_
  refine jZ (qG 122 (vs := [(mG pv fuel q.spent q.shared q.made q.deep tr1 se1), iv 9, iv c2.f, iv 0]) ha (q_tell q (hS.pickN 7 [4, 0, 1, 2, 3, 5, 6]) (by omega)) fun v47 w a hp48 ha => ?_)
  obtain ⟨s46, rfl, hS⟩ := hp48
  refine jZ (o_sa 1 ha (qU (t := 121) (x := 2) (y := 122)) hS fun w a hS ha => ?_)
  refine jY (in_n (jJ (wp_seq (xY 3 4 (hS.pickN 7 [1, 2, 4]) hS fun w hS => ?_))))
  refine yW 0 123 ha (hS.pickN 7 [1, 2, 4]) (fun _ hw => hw.blk 0 rfl) fun a ha => ?_
  refine yW 1 124 ha (hS.pickN 7 [1, 2, 4]) (fun _ hw => hw.blk 1 rfl) fun a ha => ?_
  refine jH 2 (o_sa 3 ha (qU (t := 121) (x := 4) (y := 123)) hS fun w a hS ha => ?_)
  refine ⟨.inr (hS.pickN 7 [1, 2, 4]), ?_⟩
  refine jH 3 (o_sa 4 ha (qU (t := 124) (x := 5) (y := 124)) hS fun w a hS ha => ?_)
  refine xJ (xX (jJ (wp_ret (yH ha (by kernel_rfl) (xZ (t := 4) (ty := 121) (i := 3) ha rfl hS rfl (by kernel_rfl)) (xZ (t := 5) (ty := 124) (i := 4) ha rfl hS rfl (by kernel_rfl)) ?_))))
  have hE : qCall P fuel (d + 1) m c = ((⟨q.spent, q.shared, q.made, q.deep, q.trace ++ [(9, c2.f, 0)], q.seen⟩ : MQ), c2) := by
   have h8 : R2_ = (q, c2) := by rw [← hR2, hk0]; rfl
   (simp only [qCall, hPb, hR0, h9, h9s, Bool.false_eq_true, if_false, hR20, h8, qTail, hsp2, qEnd, qTell, c37, c41, c45, if_true]) <;> rfl
  rw [hE]
  replace hS := hS.pickN 7 [0, 5, 6]
  exact ⟨_, s46, se1, df1, rfl, rfl, hS⟩
 refine jV ha rfl (decide_eq_false c45) ?_
 refine wp_skip (in_n (jJ (wp_seq (xY 3 4 (hS.pickN 7 [0, 1, 3]) hS fun w hS => ?_))))
 refine yW 0 123 ha (hS.pickN 7 [0, 1, 3]) (fun _ hw => hw.blk 0 rfl) fun a ha => ?_
 refine yW 1 124 ha (hS.pickN 7 [0, 1, 3]) (fun _ hw => hw.blk 1 rfl) fun a ha => ?_
 refine jH 2 (o_sa 2 ha (qU (t := 121) (x := 4) (y := 123)) hS fun w a hS ha => ?_)
 refine ⟨.inr (hS.pickN 7 [0, 1, 3]), ?_⟩
 refine jH 3 (o_sa 3 ha (qU (t := 124) (x := 5) (y := 124)) hS fun w a hS ha => ?_)
 refine xJ (xX (jJ (wp_ret (yH ha (by kernel_rfl) (xZ (t := 4) (ty := 121) (i := 2) ha rfl hS rfl (by kernel_rfl)) (xZ (t := 5) (ty := 124) (i := 3) ha rfl hS rfl (by kernel_rfl)) ?_))))
 have hE : qCall P fuel (d + 1) m c = (q, c2) := by
  have h8 : R2_ = (q, c2) := by rw [← hR2, hk0]; rfl
  (simp only [qCall, hPb, hR0, h9, h9s, Bool.false_eq_true, if_false, hR20, h8, qTail, hsp2, qEnd, qTell, c37, c41, c45, if_true]) <;> rfl
 rw [hE]
 replace hS := hS.pickN 7 [4, 5, 6]
 exact ⟨_, tr1, se1, df1, rfl, rfl, hS⟩
theorem q_calls {P : List (List Stp)} (hP : ProgOk P) (fuel : Int) (pv : Sl) (sbs : List Sl) : ∀ d, CallCQ P fuel pv sbs d := by
 intro d
 induction d with
 | zero => exact fun w0 w Rs m c tr se df x hS hm hk hcz hd1 hd2 hPr => q_call hP 0 (fun d h => by omega) m c x hS hm hk hcz hd1 hd2 hPr
 | succ d ih => exact fun w0 w Rs m c tr se df x hS hm hk hcz hd1 hd2 hPr => q_call hP (d + 1) (fun d' h => (show d = d' by omega) ▸ ih) m c x hS hm hk hcz hd1 hd2 hPr
end SX
end Go.Proofs.Ytcbijhgepdedpaa
