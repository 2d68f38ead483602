/- What the claim FnExactLintProgram rests on, part 28 of 29; the last part proves it: for every input the law answers true, and its arguments read behind the call as before it. No condition. -/
import Derived.Test.YtpenhegoilccoaaQLintProgram3
import Derived.Test.YtpenhegoilccoaaQLintProgram20
import Derived.Test.YtpenhegoilccoaaQLintProgram27
set_option linter.unusedSimpArgs false
set_option linter.unusedVariables false
set_option maxRecDepth 20000
set_option maxHeartbeats 1000000
namespace Go.Proofs.Ytpenhegoilccoaa.G
open Go.RowKit Go.Proofs.Ytpenhegoilccoaa.SX Go.Proofs.YtpenhegoilccoaaW.PrintWords Go.Proofs.YtpenhegoilccoaaW.PrintLast Go.Proofs.YtpenhegoilccoaaW.PrintMore
theorem o_nwX {P : Program} {R : Array Oper} {Q : Exit → Act → World → Prop} {n : Nat} {e : Env} {a : Act} {w0 w : World} {Rs : List Asn} {i : Nat} (d : Nat) (cs : List Value) (T : TypeId) (f : Nat → Value) {K : Act → World → Prop} (h : Has n e a) (hS : Sat w0 w Rs) (k : ∀ b w' a', w0.heap.size ≤ b → Sat w0 w' (SX.blk b cs T :: Rs) → w'.drawn = w.drawn → Has n ((d, f b) :: e) a' → K a' w')
  (hd : Nat.blt d n = true := by rfl) (hk : ∀ w, out1 P R i e w = some (d, .ok (.value (f w.heap.size)) (w.alloc (.cells cs.toArray T))) := by intro _; kernel_rfl) : wpOp P R Q i K a w := by
 obtain ⟨op, ty, ho, hc, hr⟩ := out1_inv h (hk w) (fun he => by
  injection he with _ h2
  have h3 : (w.alloc (.cells cs.toArray T)).heap.size = w.heap.size + 1 := by simp
  rw [h2] at h3
  omega)
 exact o_val h (by simpa [Nat.blt_eq] using hd) ho hc hr fun a' ha => k w.heap.size _ a' hS.below.size (hS.alloc cs T) rfl ha
theorem d_startPX {P : Program} {R : Array Oper} {Q : Exit → Act → World → Prop} {a : Act} {w0 w : World} {Rs : List Asn} {id : Nat} {Rp : List Asn} (m N : Nat) (_hP : Sat w0 w Rp) (hS : Sat w0 w Rs) (h : ∀ w', Sat w0 w' Rs → w'.drawn = w.drawn + 1 → wpD P R Q m (fun w' => Sat w0 w' Rp) N (Array.replicate N false) a w') (hm : (P.follows .mixedOrders && Nat.beq R.size N) = true := by kernel_rfl) : (Code.region id R true).wp P Q a w := by
 rw [Bool.and_eq_true] at hm
 have h1 := h _ hS.drew rfl
 rw [← Nat.eq_of_beq_eq_true hm.2] at h1
 exact d_begin hm.1 h1
theorem below_grow {w w' : World} (h : Below w.heap.size w w') (hd : w.drawn ≤ w'.drawn) : ∃ q os', w' = Go.Sort.grow (w.drewN q) os' := by
  refine ⟨w'.drawn - w.drawn, w'.heap.extract w.heap.size w'.heap.size, ?_⟩
  obtain ⟨h1, h2, h3, h4, h5⟩ := h
  cases w with
  | mk heap tape drawn os output =>
    cases w' with
    | mk heap' tape' drawn' os' output' =>
      simp only at h1 h2 h3 h4 h5 hd;subst h1 h2 h3;simp only [Go.Sort.grow, World.drewN, World.mk.injEq, true_and, and_true];refine ⟨?_, by omega⟩;refine Array.ext_getElem? fun k => ?_
      by_cases hk : k < heap.size
      · rw [h5 k hk, Array.getElem?_append_left hk]
      · rw [Array.getElem?_append_right (by omega), Array.getElem?_extract]
        by_cases h6 : k < heap'.size
        · rw [if_pos (by omega), show heap.size + (k - heap.size) = k by omega]
        · rw [if_neg (by omega), Array.getElem?_eq_none (by omega)]
def firstNZ (l : List Int) : Int := (l.find? fun x => decide (x ≠ 0)).getD 0
theorem firstNZ_yes {l : List Int} {i : Nat} {x : Int} (hi : l[i]? = some x) (hx : ¬ x = 0) (hno : ∀ (j : Nat) z, j < i → l[j]? = some z → z = 0) : firstNZ l = x := by
 induction l generalizing i with
 | nil => simp at hi
 | cons y l ih =>
  cases i with
  | zero => simp at hi; subst hi; simp [firstNZ, hx]
  | succ i =>
   have hy : y = 0 := hno 0 y (by omega) rfl;have := ih (i := i) (by simpa using hi) fun j z hj hz => hno (j + 1) z (by omega) (by simpa using hz);rw [← this]; simp [firstNZ, hy]
theorem firstNZ_no {l : List Int} (hno : ∀ (j : Nat) z, l[j]? = some z → z = 0) : firstNZ l = 0 := by
 induction l with
 | nil => rfl
 | cons y l ih =>
  have hy : y = 0 := hno 0 y rfl
  have := ih fun j z hz => hno (j + 1) z (by simpa using hz)
  rw [← this]; simp [firstNZ, hy]
def cfF (x y : Fd) : Int := firstNZ [Go.Lib.compareInt x.1 y.1, Go.Lib.compareInt x.2.1 y.2.1, Go.Lib.compareInt x.2.2 y.2.2]
theorem cmpc_sat {w0 w : World} {Rs : List Asn} {x y : Int} (hS : Sat w0 w Rs) (hD : w0.drawn ≤ w.drawn) :
  Calls Try.prog 86 #[.int .i64 x, .int .i64 y] w (Ret fun r w' => r = .int .i64 (Go.Lib.compareInt x y) ∧ (Sat w0 w' Rs ∧ w0.drawn ≤ w'.drawn)) := by
 refine Calls.mono (Go.Proofs.AnyG.cmp_Compare_int srtC x y w) ?_
 rintro e w' ⟨rfl, rfl⟩
 exact ⟨rfl, hS, hD⟩
theorem code85 : Try.f85.body = some (Code.seq (cr Try.f85 0 false) (Code.seq (cr Try.f85 1 false) (Code.seq (Code.seq (cr Try.f85 2 false) (Code.block 0 (Code.loop (Code.seq (cr Try.f85 3 false) (Code.seq (Code.cond (Operand.tmp 9) Code.skip (Code.exit 0)) (Code.seq (Code.block 1 (Code.seq (cr Try.f85 4 false) (Code.seq (cr Try.f85 5 false) (Code.cond (Operand.tmp 14) (Code.seq (cr Try.f85 6 false) Code.ret) Code.skip)))) (cr Try.f85 7 false))))))) (Code.seq (cr Try.f85 8 false) Code.ret)))) := by kernel_rfl
theorem or_sat {w0 w : World} {Rs : List Asn} {so : Sl} {l : List Int} (hS : Sat w0 w (SX.row (.slice so.A so.n so.c) 3 1 (SX.encI l) :: Rs)) (hl : l.length ≤ 1000) (hD : w0.drawn ≤ w.drawn) :
  Calls Try.prog 85 #[.slice so.A so.n so.c] w (Ret fun r w' => r = .int .i64 (firstNZ l) ∧ (Sat w0 w' (SX.row (.slice so.A so.n so.c) 3 1 (SX.encI l) :: Rs) ∧ w0.drawn ≤ w'.drawn)) := by
 refine enter (n := 18) Try.func85 code85 (by kernel_rfl) (Nat.le_of_ble_eq_true rfl) (fun a ha => ?_)
 replace ha : Has 18 [(0, .slice so.A so.n so.c)] a := ha
 refine wp_seq (jX [0] (jQ [(0, 2, iv 0)] ha fun a ha => ?_))
 refine jY (jJ (wp_seq (jX [0] (jQ [(0, 3, iv 0)] ha fun a ha => ?_))))
 refine jY (jJ (wp_seq (wp_seq (jX [0, 1, 2] (jQ [(0, 6, .slice so.A so.n so.c), (1, 7, iv (so.n : Int)), (2, 8, iv 0)] ha fun a ha => ?_)))))
 refine jY (jJ (wp_block ?_))
 replace hS : Sat w0 w ((rI so l) :: Rs) := hS
 replace hS : Sat w0 w ((SX.row (.slice so.A so.n so.c) 3 1 (encJ l)) :: Rs) := by rw [← encJ_I]; exact hS
 have hon : so.n = l.length := hS.rowL (s := so) (enc := cellsJ) 0 cellsJ_len (by decide) rfl
 refine wp_loop_ghost (fun n_ a_ w_ => ∃ (i : Nat), n_ = l.length - i ∧ (i ≤ l.length) ∧ (∀ (j : Nat) z, j < i → l[j]? = some z → z = 0) ∧ (w0.drawn ≤ w_.drawn) ∧ Has 18 [(2, iv 0), (3, iv 0), (6, .slice so.A so.n so.c), (7, iv (so.n : Int)), (8, iv (i : Int))] a_ ∧ Sat w0 w_ ((SX.row (.slice so.A so.n so.c) 3 1 (encJ l)) :: Rs)) _ ⟨0, rfl, Nat.zero_le _, (fun j z hj => by omega), hD, ha.keeps [2, 3, 6, 7, 8] _ rfl, hS⟩ ?_
 rintro n_ a w ⟨i, rfl, hi, hno, hD, ha, hS⟩
 refine wp_seq (jX [0] (jQ [(0, 9, .bool (decide ((i : Int) < (so.n : Int))))] ha fun a ha => ?_))
 refine jY (jJ (wp_seq ?_))
 by_cases c1 : (i : Int) < (so.n : Int)
 ·
  have hil : i < l.length := by omega
  obtain ⟨y, hy⟩ : ∃ y, l[i]? = some y := ⟨_, List.getElem?_eq_getElem hil⟩
  refine jU ha rfl (decide_eq_true c1) ?_
  refine wp_skip (jJ (wp_seq (wp_block (wp_seq (jX [0, 1, 2] (qX (.pointer (some ⟨bk so, i * 1, none⟩)) ha (xQ (s := so) (el := 3) (sz := 1) (j := i) ha (xY (t := 44) (x := 6) (y := 8) (d := 10)) rfl rfl (by kernel_rfl) (by kernel_rfl) (hS.rowA (s := so) 0 rfl (by have := (List.getElem?_eq_some_iff.1 hy).1; rw [encJ_length]; omega)) (rfl) (by have h9 := hS.rowL (s := so) (enc := cellsJ) 0 cellsJ_len (by decide) rfl; have := (List.getElem?_eq_some_iff.1 hy).1; omega)) fun a ha => ?_))))))
  refine qX (iv y) ha (qV ha (xK (t := 3) (x := 10) (d := 11) (ty := 3)) rfl (by kernel_rfl) (fun w' hw => by rw [hw]; exact (hS.rdC (s := so) 0 rfl).cells _ _ ((flat_get (enc := cellsJ) (o := 0) cellsJ_len hy (by decide)).trans rfl))) fun a ha => ?_
  refine jQ [(2, 5, iv y)] ha fun a ha => ?_
  refine jY (jJ (wp_seq (jX [0, 1, 2] (jQ [(0, 12, iv y), (1, 13, iv 0), (2, 14, .bool (!(decide (y = 0))))] ha fun a ha => ?_))))
  refine jY (jJ ?_)
  by_cases c2 : y = 0
  ·
   refine jK ha rfl (xU (decide_eq_true c2)) ?_;refine wp_skip (in_n (jJ (jX [0, 1] (xJ 16 ((i : Int) + 1) ha fun a ha => ?_))));refine jQ [(1, 8, iv ((i : Int) + 1))] ha fun a ha => ?_;refine jY (jJ ?_);replace hS : Sat w0 w ((SX.row (.slice so.A so.n so.c) 3 1 (encJ l)) :: Rs) := hS;exact ⟨_, by omega, i + 1, rfl, hil, (fun j z hj hz => by by_cases e9 : j = i; subst e9; rw [hy] at hz; rw [← Option.some.inj hz]; exact c2; exact hno j z (by omega) hz), hD, ha.keeps [2, 3, 6, 7, 8] _ rfl, hS⟩
  refine jU ha rfl (xG (decide_eq_false c2)) ?_
  refine wp_seq (jX [0, 1] (jQ [(0, 15, iv y), (1, 2, iv y)] ha fun a ha => ?_))
  refine jY (jJ (wp_ret (in_r (qG (qG (in_r (qG (jG ha (by kernel_rfl) (qK (t := 2) ha rfl) ?_))))))))
  have hE : firstNZ l = y := firstNZ_yes hy c2 hno
  rw [hE]
  exact ⟨rfl, by rw [encJ_I]; exact hS, hD⟩
 refine jK ha rfl (decide_eq_false c1) ?_
 refine wp_exit (qJ (qJ (in_x (jJ (wp_seq (jX [0, 1] (jQ [(0, 17, iv 0), (1, 2, iv 0)] ha fun a ha => ?_)))))))
 refine jY (jJ (wp_ret (jG ha (by kernel_rfl) (qK (t := 2) ha rfl) ?_)))
 have hE : firstNZ l = 0 := firstNZ_no (fun j z hz => hno j z (by have := (List.getElem?_eq_some_iff.1 hz).1; omega) hz)
 rw [hE]
 exact ⟨rfl, by rw [encJ_I]; exact hS, hD⟩
theorem code84 : Try.f84.body = some (Code.seq (cr Try.f84 0 false) (Code.seq (cr Try.f84 1 true) Code.ret)) := by kernel_rfl
theorem lcmp_sat {w0 : World} {x y : Fd} :
  Calls Try.prog 84 #[.agg #[iv x.1, iv x.2.1, iv x.2.2], .agg #[iv y.1, iv y.2.1, iv y.2.2]] w0 (Ret fun r w' => r = .int .i64 (cfF x y) ∧ Below w0.heap.size w0 w' ∧ w0.drawn ≤ w'.drawn) := by
 have hS : Sat w0 w0 [] := Sat.start w0
 have hD : w0.drawn ≤ w0.drawn := Nat.le_refl _
 refine enter (n := 22) Try.func84 code84 (by kernel_rfl) (Nat.le_of_ble_eq_true rfl) (fun a ha => ?_)
 replace ha : Has 22 [(0, .agg #[iv x.1, iv x.2.1, iv x.2.2]), (1, .agg #[iv y.1, iv y.2.1, iv y.2.2])] a := ha
 refine wp_seq (jX [0, 1, 2] (jW (o_nwX 2 [iv x.1, iv x.2.1, iv x.2.2] 88 (ptr · 0) ha hS fun b1 w a hb2 hS hd ha => ?_)))
 replace hD := Nat.le_trans hD (Nat.le_of_eq hd.symm)
 refine jW (o_nwX 3 [iv y.1, iv y.2.1, iv y.2.2] 88 (ptr · 0) ha hS fun b3 w a hb4 hS hd ha => ?_)
 replace hD := Nat.le_trans hD (Nat.le_of_eq hd.symm)
 refine jQ [(2, 4, iv 0)] ha fun a ha => ?_
 refine jY (jJ (wp_seq ?_))
 refine d_startPX 18 18 (hS.pickN 2 [0, 1]) hS fun w hS hd => ?_
 replace hD := Nat.le_trans hD (Nat.le_trans (Nat.le_succ _) (Nat.le_of_eq hd.symm))
 refine qH (k := 17) [(0, 5, ptr b1 0)] ha (.inr (hS.pickN 2 [0, 1])) fun a ha => ?_
 refine yZ 1 (d := 6) (b := b1) (j := 0) ha (hS.pickN 2 [0, 1]) (fun _ hw => hw.blk 1 rfl) rfl fun a ha => ?_
 refine qH (k := 15) [(2, 7, ptr b3 0)] ha (.inr (hS.pickN 2 [0, 1])) fun a ha => ?_
 refine yZ 3 (d := 8) (b := b3) (j := 0) ha (hS.pickN 2 [0, 1]) (fun _ hw => hw.blk 0 rfl) rfl fun a ha => ?_
 refine qH (k := 13) [(5, 10, ptr b1 1)] ha (.inr (hS.pickN 2 [0, 1])) fun a ha => ?_
 refine yZ 6 (d := 11) (b := b1) (j := 1) ha (hS.pickN 2 [0, 1]) (fun _ hw => hw.blk 1 rfl) rfl fun a ha => ?_
 refine qH (k := 11) [(7, 12, ptr b3 1)] ha (.inr (hS.pickN 2 [0, 1])) fun a ha => ?_
 refine yZ 8 (d := 13) (b := b3) (j := 1) ha (hS.pickN 2 [0, 1]) (fun _ hw => hw.blk 0 rfl) rfl fun a ha => ?_
 refine qH (k := 9) [(10, 15, ptr b1 2)] ha (.inr (hS.pickN 2 [0, 1])) fun a ha => ?_
 refine yZ 11 (d := 16) (b := b1) (j := 2) ha (hS.pickN 2 [0, 1]) (fun _ hw => hw.blk 1 rfl) rfl fun a ha => ?_
 refine qH (k := 7) [(12, 17, ptr b3 2)] ha (.inr (hS.pickN 2 [0, 1])) fun a ha => ?_
 refine yZ 13 (d := 18) (b := b3) (j := 2) ha (hS.pickN 2 [0, 1]) (fun _ hw => hw.blk 0 rfl) rfl fun a ha => ?_
 refine xX 4 (qQ 9 (vs := [iv x.1, iv y.1]) ha (cmpc_sat hS hD) fun v5 w a hp6 ha => ?_)
 obtain ⟨rfl, hS⟩ := hp6
 have hD := hS.2
 replace hS := hS.1
 refine ⟨.inr (hS.pickN 2 [0, 1]), ?_⟩
 refine xX 9 (qQ 14 (vs := [iv x.2.1, iv y.2.1]) ha (cmpc_sat hS hD) fun v7 w a hp8 ha => ?_)
 obtain ⟨rfl, hS⟩ := hp8
 have hD := hS.2
 replace hS := hS.1
 refine ⟨.inr (hS.pickN 2 [0, 1]), ?_⟩
 refine xX 14 (qQ 19 (vs := [iv x.2.2, iv y.2.2]) ha (cmpc_sat hS hD) fun v9 w a hp10 ha => ?_)
 obtain ⟨rfl, hS⟩ := hp10
 have hD := hS.2
 replace hS := hS.1
 refine ⟨.inr (hS.pickN 2 [0, 1]), ?_⟩
 refine xX 15 (o_nwX 20 [iv (Go.Lib.compareInt x.1 y.1), iv (Go.Lib.compareInt x.2.1 y.2.1), iv (Go.Lib.compareInt x.2.2 y.2.2)] 3 (fun b => .slice (some ⟨b, 0, none⟩) 3 3) ha hS fun b11 w a hb12 hS hd ha => ?_)
 replace hD := Nat.le_trans hD (Nat.le_of_eq hd.symm)
 refine ⟨.inr (hS.pickN 3 [1, 2]), ?_⟩
 replace hS := blkRow hS 1 3 0 rfl rfl (by decide)
 replace hS : Sat w0 w ((rI (⟨some ⟨b11, 0, none⟩, 3, 3⟩ : Sl) [(Go.Lib.compareInt x.1 y.1), (Go.Lib.compareInt x.2.1 y.2.1), (Go.Lib.compareInt x.2.2 y.2.2)]) :: (SX.blk b3 [iv y.1, iv y.2.1, iv y.2.2] 88) :: (SX.blk b1 [iv x.1, iv x.2.1, iv x.2.2] 88) :: []) := hS
 refine xX 16 (qQ 21 (vs := [.slice (some ⟨b11, 0, none⟩) 3 3]) ha (or_sat (so := (⟨some ⟨b11, 0, none⟩, 3, 3⟩ : Sl)) (l := [(Go.Lib.compareInt x.1 y.1), (Go.Lib.compareInt x.2.1 y.2.1), (Go.Lib.compareInt x.2.2 y.2.2)]) hS (by simp) hD) fun v13 w a hp14 ha => ?_)
 obtain ⟨rfl, hS⟩ := hp14
 have hD := hS.2
 replace hS := hS.1
 refine ⟨.inr (hS.pickN 3 [1, 2]), ?_⟩
 refine qH (k := 0) [(17, 4, iv (firstNZ [(Go.Lib.compareInt x.1 y.1), (Go.Lib.compareInt x.2.1 y.2.1), (Go.Lib.compareInt x.2.2 y.2.2)]))] ha (.inr (hS.pickN 3 [1, 2])) fun a ha => ?_
 refine yQ ?_
 replace ha := ha.as [(4, iv (firstNZ [(Go.Lib.compareInt x.1 y.1), (Go.Lib.compareInt x.2.1 y.2.1), (Go.Lib.compareInt x.2.2 y.2.2)]))] rfl
 refine jJ (wp_ret (jG ha (by kernel_rfl) (qK (t := 4) ha rfl) ?_))
 exact ⟨rfl, hS.below, hD⟩
end Go.Proofs.Ytpenhegoilccoaa.G
namespace Go.Proofs.Ytpenhegoilccoaa.G
open Go.RowKit Go.Sort Go.Proofs Go.Shelf Go.Proofs.Ytpenhegoilccoaa.SX Go.Proofs.YtpenhegoilccoaaW.PrintWords Go.Proofs.YtpenhegoilccoaaW.PrintLast Go.Proofs.YtpenhegoilccoaaW.PrintMore
theorem ltOf_cf {x y : Fd} : ltOf cfF x y = true ↔ lt3 x y := by
  unfold ltOf cfF Go.Lib.compareInt lt3 firstNZ
  rw [decide_eq_true_iff]
  by_cases h1 : x.1 < y.1
  · simp [h1]
  · by_cases h2 : y.1 < x.1
    · simp [h1, h2]; omega
    · have e1 : x.1 = y.1 := by omega
      by_cases h3 : x.2.1 < y.2.1
      · simp [e1, h3]
      · by_cases h4 : y.2.1 < x.2.1
        · simp [e1, h3, h4]; omega
        · have e2 : x.2.1 = y.2.1 := by omega
          by_cases h5 : x.2.2 < y.2.2
          · simp [e1, e2, h5]
          · by_cases h6 : y.2.2 < x.2.2
            · simp [e1, e2, h5, h6]
            · simp [e1, e2, h5, h6]
theorem ltOf_no {x y : Fd} : ltOf cfF x y = false ↔ ¬ lt3 x y := by rw [← ltOf_cf, Bool.not_eq_true]
theorem swoF : SWO (ltOf cfF) where
 irrefl x := ltOf_no.2 (lt3_irr x)
 trans x y z h k := ltOf_cf.2 (lt3_trans (ltOf_cf.1 h) (ltOf_cf.1 k))
 ntrans x y z h k := by
  rw [ltOf_no] at *
  unfold lt3 at *
  omega
theorem holds_id {w : World} {g : Nat} {cur : Array Value} {e : TypeId} {F : Array Value} (hb : w.heap[g]? = some (.cells cur e (0, 0))) (ht : cur.toList.take F.size = F.toList) : Holds id w g 0 F := by
 intro j hj
 refine ⟨?_, by simp [World.frozen?, hb]⟩
 have h1 : (cur.toList.take F.size)[j]? = F.toList[j]? := by rw [ht]
 rw [List.getElem?_take_of_lt hj] at h1
 simp only [World.cell?, hb, Nat.zero_add]
 simp only [Option.isSome_none, Bool.false_eq_true, if_false]
 rw [← Array.getElem?_toList, h1]
 simp [hj]
theorem heap_id {w : World} {g n : Nat} {os : Array Obj} {cur : Array Value} {e : TypeId} {fr : Nat × Nat} (F : Array Value) (hb : w.heap[g]? = some (.cells cur e fr)) :
  (grow (putRow id (Sort.ahead w n) g 0 F) os).heap[g]? = some (.cells (putCells id 0 F cur) e fr) := by
 have hg : g < w.heap.size := (Array.getElem?_eq_some_iff.1 hb).1
 rw [heap_grow_old _ _ (by simpa using hg)]
 simp [putRow, mapBlock, Sort.ahead, Array.getElem?_modify, hb, onCells]
theorem grownBy_id {w : World} {g n : Nat} {os : Array Obj} (F : Array Value) : w.grownBy (grow (putRow id (Sort.ahead w n) g 0 F) os) (some g) := by
 refine ⟨rfl, rfl, rfl, by simp, fun k hk hne => ?_⟩
 rw [heap_grow_old _ _ (by simpa using hk)]
 have : g ≠ k := fun e => hne (by rw [e])
 simp [putRow, mapBlock, Sort.ahead, Array.getElem?_modify, this]
theorem take_id (cur F : Array Value) (h : F.size ≤ cur.size) : (putCells id 0 F cur).toList.take F.size = F.toList := by
  apply List.ext_getElem?
  intro j
  by_cases hj : j < F.size
  · rw [List.getElem?_take_of_lt hj, Array.getElem?_toList]
    simp [putCells, hj, show j < cur.size by omega]
  · rw [List.getElem?_take_eq_none (by omega), List.getElem?_eq_none (by simp; omega)]
theorem flatK_enc (d : Array Fd) : (flatK cellsE 3 d).toList = encE d.toList := by
  refine List.ext_getElem? fun t => ?_
  by_cases ht : t < d.size * 3
  · have hj : t / 3 < d.size := by omega
    have h1 : (flatK cellsE 3 d).toList[t]? = some ((cellsE d[t / 3]!)[t % 3]!) := by
      rw [Array.getElem?_toList];have h2 := get_flatK cellsE 3 d t ht;rw [getElem!_pos (flatK cellsE 3 d) t (by rw [size_flatK]; exact ht)] at h2;rw [Array.getElem?_eq_getElem (by rw [size_flatK]; exact ht), h2]
    have hx : d.toList[t / 3]? = some d[t / 3]! := by
      rw [Array.getElem?_toList, getElem!_pos d _ hj, Array.getElem?_eq_getElem hj]
    have h3 := flat_get (enc := cellsE) (o := t % 3) qU hx (Nat.mod_lt _ (by decide));rw [show t / 3 * 3 + t % 3 = t by omega] at h3;rw [h1]
    show _ = (d.toList.flatMap cellsE)[t]?
    rw [h3];have h4 : t % 3 < (cellsE d[t / 3]!).length := by rw [qU]; exact Nat.mod_lt _ (by decide)
    rw [getElem!_pos (cellsE d[t / 3]!) (t % 3) h4, List.getElem?_eq_getElem h4]
  · rw [List.getElem?_eq_none (by rw [Array.length_toList, size_flatK]; omega), List.getElem?_eq_none (by rw [encE_length, Array.length_toList]; omega)]
theorem sort3_sat {w0 w : World} {Rs : List Asn} {s : Sl} {l : List Fd} (hS : Sat w0 w (SX.row (.slice s.A s.n s.c) 88 3 (encE l) :: Rs)) (hl : l.length ≤ 1000000) :
    Calls Try.prog 83 #[.slice s.A s.n s.c, (.func (.func 84) #[] #[])] w (Ret fun r w' => ∃ L : List Fd, r = .tuple #[] ∧ L.Perm l ∧ (∀ i j : Nat, i < j → ∀ x y, L[i]? = some x → L[j]? = some y → ¬ lt3 y x) ∧ Sat w0 w' (SX.row (.slice s.A s.n s.c) 88 3 (encE L) :: Rs)) := by
  obtain ⟨n, hx, hrow⟩ := hS.row 0 rfl
  rw [encE_length] at hx
  obtain rfl : l.length = n := by omega
  rcases hrow with ⟨hv, hl0⟩ | ⟨g, cap, cur, hv, _, hg, hn, hcap, hsz, htk⟩
  · have h0 : l = [] := List.eq_nil_of_length_eq_zero hl0
    subst h0;have hc := AnyF.slices_SortFunc_none srt6 none 0 (.func (.func 84) #[] #[]) w;have hv2 : Value.slice s.A s.n s.c = .slice none 0 0 := hv;rw [hv2];refine Calls.mono hc fun e w' h => ?_;obtain ⟨rfl, rfl⟩ := h;refine ⟨[], rfl, List.Perm.refl _, fun i j _ x y hx => by simp at hx, ?_⟩;rw [← hv2]; exact hS
  · have hv2 : Value.slice s.A s.n s.c = .slice (some ⟨g, 0, none⟩) l.length cap := hv
    have hsF : (flatK cellsE 3 l.toArray).size = l.length * 3 := by rw [size_flatK]; simp
    have hH : HoldsK cellsE 3 w g 0 l.toArray := holds_id hg (by rw [hsF, flatK_enc]; exact htk);have eg : ∀ args w, (callFunc 84 args).run Try.prog w = .ok (.enter 84 args) w := enters_of Try.func84 (by kernel_rfl) rfl
    have hcmp : CmpLays Try.prog 84 #[] cellsE 3 cfF g 0 l.toArray.size w := fun m os dk _ x y => by
      refine (lcmp_sat (w0 := sortWorldK cellsE 3 w g 0 m dk os) (x := x) (y := y)).mono fun e w' h => ?_;cases e with
      | returned r =>
        obtain ⟨h1, h2, h3⟩ := h;exact ⟨congrArg Ending.returned h1, below_grow h2 h3⟩
      | _ => exact h.elim
    have hc := AnyQ.slices_SortFunc srt6 3 Try.isAgg88 Try.sizeOf88 cellsE qU (fun x v hv => by simp [cellsE] at hv; rcases hv with rfl | rfl | rfl <;> rfl) cfF swoF 84 #[] g 0 cap l.toArray w eg hcmp hH (Array.getElem?_eq_some_iff.1 hg).1 (by rw [List.size_toArray]; omega);rw [hv2];refine Calls.mono hc fun e w' h => ?_;obtain ⟨rfl, d', q, os, hp, hs, rfl⟩ := h;have hds : d'.size = l.length := by rw [hp.1]; simp
    have hperm : d'.toList.Perm l := by
      have h2 := hp.2.2;rw [List.size_toArray, ← hds, Array.extract_size] at h2;rw [hds] at h2
      have e3 : (l.toArray.extract 0 l.length) = l.toArray := by
        have := Array.extract_size (xs := l.toArray); rwa [List.size_toArray] at this
      rw [e3] at h2;exact h2
    refine ⟨d'.toList, rfl, hperm, fun i j hij x y hx hy => ?_, ?_⟩
    · have hi := (List.getElem?_eq_some_iff.1 hx).1
      have hj := (List.getElem?_eq_some_iff.1 hy).1;rw [Array.length_toList] at hi hj;have h2 := hs i j (Nat.zero_le _) hij (by rw [List.size_toArray, ← hds]; exact hj);rw [Array.getElem?_toList] at hx hy;have ex : d'[i]! = x := by rw [getElem!_pos d' i hi]; exact Option.some.inj ((Array.getElem?_eq_getElem hi).symm.trans hx)
      have ey : d'[j]! = y := by rw [getElem!_pos d' j hj]; exact Option.some.inj ((Array.getElem?_eq_getElem hj).symm.trans hy)
      rw [ex, ey] at h2;exact ltOf_no.1 h2
    · have hsF2 : (flatK cellsE 3 d').size = l.length * 3 := by rw [size_flatK, hds]
      have hle : l.length * 3 ≤ cur.size := by rw [hsz]; omega
      have hgr := grownBy_id (w := w) (g := g) (n := q) (os := os) (flatK cellsE 3 d');have hhp := heap_id (n := q) (os := os) (flatK cellsE 3 d') hg;have htk2 := take_id cur (flatK cellsE 3 d') (by rw [hsF2]; exact hle);rw [hsF2, flatK_enc] at htk2;rw [← hv2];refine hS.upd (i := 0) rfl _ hgr.1 hgr.2 hgr.3 hgr.4 fun F hF => ⟨F, ⟨hF.1, l.length, by rw [encE_length, Array.length_toList, hds], .inr ⟨g, cap, _, hv2, Nat.zero_le _, hhp, hn, hcap, by simp [putCells, hsz], htk2⟩⟩, fun _ hb => .inl hb, fun k hk hF' => hgr.5 k hk fun e => hF' ((hF.1 k).2 (by rw [hv2]; simp only [Value.ownBlock, Option.map_some]; exact Eq.symm e))⟩
end Go.Proofs.Ytpenhegoilccoaa.G
namespace Go.Proofs.Ytpenhegoilccoaa.G
open Go.RowKit Go.Proofs.Ytpenhegoilccoaa.SX Go.Proofs.YtpenhegoilccoaaW.PrintWords Go.Proofs.YtpenhegoilccoaaW.PrintLast Go.Proofs.YtpenhegoilccoaaW.PrintMore
theorem code82 : Try.f82.body = some (Code.seq (cr Try.f82 0 false) (Code.seq (cr Try.f82 1 false) (Code.seq (cr Try.f82 2 false) (Code.seq (Code.seq (cr Try.f82 3 false) (Code.cond (Operand.tmp 28) (cr Try.f82 4 false) Code.skip)) (Code.seq (cr Try.f82 5 false) (Code.seq (Code.block 0 (Code.seq (cr Try.f82 6 false) (Code.cond (Operand.tmp 36) (cr Try.f82 7 false) (Code.seq (cr Try.f82 8 false) (Code.cond (Operand.tmp 46) (cr Try.f82 9 false) (Code.seq (cr Try.f82 10 false) (Code.cond (Operand.tmp 56) (cr Try.f82 11 false) (Code.seq (cr Try.f82 12 false) (Code.cond (Operand.tmp 70) (cr Try.f82 13 false) Code.skip))))))))) (Code.seq (Code.seq (cr Try.f82 14 false) (Code.cond (Operand.tmp 95) (cr Try.f82 15 false) Code.skip)) (Code.seq (cr Try.f82 16 false) Code.ret)))))))) := by kernel_rfl
theorem lint_sat {w0 w : World} {Rs : List Asn} {s sd : Sl} {l : List (List ST)} {f x2 : Int} {b : List ST} {x : ST} (hS : Sat w0 w (SX.row (.slice sd.A sd.n sd.c) 3 1 (SX.encI (dfrP l)) :: Rs)) (hr : RdP w0 s l) (hf : Fits l) (hpg : programB l = true) (hyr : 0 ≤ f ∧ f < (l.length : Int)) (hb : l[f.toNat]? = some b) (hx2 : 0 ≤ x2 ∧ x2 < (b.length : Int)) (hx : b[x2.toNat]? = some x) :
  Calls Try.prog 82 #[.agg #[.slice s.A s.n s.c], iv f, iv x2, .slice sd.A sd.n sd.c] w (Ret fun r w' => ∃ o : Sl, r = .slice o.A o.n o.c ∧ Sat w0 w' (SX.row (.slice o.A o.n o.c) 3 1 (SX.encI (lintP l f x2 b x)) :: SX.row (.slice sd.A sd.n sd.c) 3 1 (SX.encI (dfrP l)) :: Rs)) := by
 have hoj := okJ_of hpg (List.mem_of_getElem? hb)
 have hb8 := hoj.2
 obtain ⟨hA0, sb, hcb, hrb⟩ := body_rd hr hb
 have hsb := hrb.len
 have hlen := hf.len
 have hlr := leads_rng hoj.1 hx2 hx
 refine enter (n := 100) Try.func82 code82 (by kernel_rfl) (Nat.le_of_ble_eq_true rfl) (fun a ha => ?_)
 replace ha : Has 100 [(0, .agg #[.slice s.A s.n s.c]), (1, iv f), (2, iv x2), (3, .slice sd.A sd.n sd.c)] a := ha
 refine wp_seq (jX [0, 1] (jW (qY 4 [.slice s.A s.n s.c] 30 (ptr · 0) ha hS fun b1 w a hb2 hS ha => ?_)))
 refine jQ [(1, 8, .slice none 0 0)] ha fun a ha => ?_
 refine jY (jJ (wp_seq (jX [0, 1, 2, 3, 4, 5, 6, 7] (jQ [(0, 13, ptr b1 0)] ha fun a ha => ?_))))
 refine qZ (d := 14) (b := b1) (j := 0) ha (hS.blk 0 rfl) rfl fun a ha => ?_
 refine jQ [(2, 15, iv f)] ha fun a ha => ?_
 refine qX (.pointer (some ⟨bk s, of_ s + f.toNat * 1, none⟩)) ha (xZ (s := s) (el := 70) (sz := 1) (j := f.toNat) ha (xY (t := 28) (x := 14) (y := 15) (d := 16)) rfl rfl (by kernel_rfl) (by kernel_rfl) hA0 (Int.toNat_of_nonneg hyr.1).symm (by rw [hr.len]; omega)) fun a ha => ?_
 refine qX (.slice sb.A sb.n sb.c) ha (qV ha (xK (t := 70) (x := 16) (d := 17) (ty := 70)) rfl (by kernel_rfl) (fun w' hw => by rw [hw]; rw [Nat.mul_one]; exact pw_cell_below hS.below hcb)) fun a ha => ?_
 refine jW (qY 18 [] 3 (fun b => .slice (some ⟨b, 0, none⟩) 0 0) ha hS fun b3 w a hb4 hS ha => ?_)
 refine jQ [(6, 9, .slice sb.A sb.n sb.c), (7, 10, .slice (some ⟨b3, 0, none⟩) 0 0)] ha fun a ha => ?_
 refine jY (jJ (wp_seq ?_))
 replace hS := hS.blk0 1 0 rfl
 refine jX [0, 1, 2, 3, 4, 5] (jQ [(0, 19, .slice sb.A sb.n sb.c), (1, 20, iv x2)] ha fun a ha => ?_)
 refine qX (.pointer (some ⟨bk sb, of_ sb + x2.toNat * 3, none⟩)) ha (xZ (el := 72) (sz := 3) (j := x2.toNat) ha (xY (t := 70) (x := 19) (y := 20) (d := 21)) rfl rfl (by kernel_rfl) (by kernel_rfl) (RdE.at_ (hrb.sat hS) _ _ hx).1 ((Int.toNat_of_nonneg hx2.1).symm) (by rw [((hrb.sat hS)).len]; exact (List.getElem?_eq_some_iff.1 hx).1)) fun a ha => ?_
 refine qX (.agg #[iv x.f0, iv x.f1, iv x.f2]) ha (v_loadE (b := bk sb) (f := of_ sb + x2.toNat * 3) (vs := [iv x.f0, iv x.f1, iv x.f2]) ha (xK (t := 72) (x := 21) (d := 22) (ty := 72)) rfl (by kernel_rfl) (fun w' hw o u hu => by rw [hw]; exact (RdE.at_ (hrb.sat hS) _ _ hx).2 o u hu)) fun a ha => ?_
 refine jW (qY 11 [iv 0, iv 0, iv 0] 72 (ptr · 0) ha hS fun b5 w a hb6 hS ha => ?_)
 refine jW (o_sa 0 ha (zJ (t := 72) (x := 11) (y := 22)) hS fun w a hS ha => ?_)
 refine jY (jJ (wp_seq (wp_seq (jX [0, 1, 2, 3, 4, 5] (jQ [(0, 23, .slice sb.A sb.n sb.c)] ha fun a ha => ?_)))))
 refine jW (qY 24 [iv 0] 3 (fun b => .slice (some ⟨b, 0, none⟩) 1 1) ha hS fun b7 w a hb8 hS ha => ?_)
 replace hS := blkRow hS 1 1 0 rfl rfl (by decide)
 replace hS : Sat w0 w ((rI (⟨some ⟨b7, 0, none⟩, 1, 1⟩ : Sl) [0]) :: (SX.blk b5 [iv x.f0, iv x.f1, iv x.f2] 72) :: (rI (⟨some ⟨b3, 0, none⟩, 0, 0⟩ : Sl) []) :: (SX.blk b1 [.slice s.A s.n s.c] 30) :: (rI sd (dfrP l)) :: Rs) := hS
 refine jW (qQ 25 (vs := [.slice sb.A sb.n sb.c, .slice (some ⟨b7, 0, none⟩) 1 1]) ha (comes_sat (sa := (⟨some ⟨b7, 0, none⟩, 1, 1⟩ : Sl)) (L0 := [0]) hS hrb hoj.1 (by omega) (fun y hy => by rw [List.mem_singleton.1 hy]; omega) (by decide) hoj.2) fun v9 w a hp10 ha => ?_)
 obtain ⟨co1, rfl, hS⟩ := hp10
 refine jQ [(3, 26, iv x2)] ha fun a ha => ?_
 refine jW (qQ 27 (vs := [.slice co1.A co1.n co1.c, iv x2]) ha (ocont_sat hS (hS.rdRow (s := co1) 0 rfl) x2) fun v11 w a hp12 ha => ?_)
 obtain ⟨rfl, hS⟩ := hp12
 refine jQ [(5, 28, .bool (!(((openL b [0]).contains x2))))] ha fun a ha => ?_
 refine jY (jJ ?_)
 rcases Bool.eq_false_or_eq_true ((openL b [0]).contains x2) with c13 | c13
 ·
  refine jK ha rfl (xU c13) ?_
  refine wp_skip (jJ (wp_seq ?_))
  replace hS : Sat w0 w ((rI co1 (openL b [0])) :: (SX.blk b5 [iv x.f0, iv x.f1, iv x.f2] 72) :: (rI (⟨some ⟨b3, 0, none⟩, 0, 0⟩ : Sl) (lintF l f x2 b x 1)) :: (SX.blk b1 [.slice s.A s.n s.c] 30) :: (rI sd (dfrP l)) :: Rs) := by rw [lintF_1y c13]; exact hS
  refine jX [0, 1, 2, 3, 4] (jQ [(0, 32, .slice sd.A sd.n sd.c), (1, 33, iv f)] ha fun a ha => ?_)
  refine jW (qQ 34 (vs := [.slice sd.A sd.n sd.c, iv f]) ha (bool_eq (dfrP_cont l f) (ocont_sat hS (hS.rdRow (s := sd) 4 rfl) f)) fun v14 w a hp15 ha => ?_)
  obtain ⟨rfl, hS⟩ := hp15
  refine jQ [(3, 35, .bool (!((dfrB l f)))), (4, 12, .bool (!((dfrB l f))))] ha fun a ha => ?_
  refine jY (jJ (wp_seq (zQ (J := fun a_ w_ => ∃ (o : Sl), Has 100 [(1, iv f), (4, ptr b1 0), (8, .slice none 0 0), (11, ptr b5 0), (10, .slice o.A o.n o.c)] a_ ∧ Sat w0 w_ ((SX.blk b5 [iv x.f0, iv x.f1, iv x.f2] 72) :: (SX.blk b1 [.slice s.A s.n s.c] 30) :: (rI o (lintF l f x2 b x 5)) :: (rI sd (dfrP l)) :: Rs)) ?_ ?_)))
  ·
   refine wp_block (wp_seq (jX [0, 1, 2, 3, 4, 5, 6] (jQ [(0, 37, ptr b5 0)] ha fun a ha => ?_)));refine qZ (d := 38) (b := b5) (j := 0) ha (hS.blk 1 rfl) rfl fun a ha => ?_;refine jQ [(2, 39, .bool (decide (x.f0 = 7))), (3, 40, .bool (decide (x.f0 = 7)))] ha fun a ha => ?_
   by_cases c16 : x.f0 = 7
   ·
    replace ha := ha.turn 39 (.bool true) rfl (congrArg Value.bool (decide_eq_true c16));replace ha := ha.turn 40 (.bool true) rfl (congrArg Value.bool (decide_eq_true c16));refine jQ [(4, 41, .bool (!((dfrB l f)))), (5, 42, .bool (!((dfrB l f)))), (6, 36, .bool (!((dfrB l f))))] ha fun a ha => ?_;refine jY ?_;replace ha := ha.as [(1, iv f), (2, iv x2), (4, ptr b1 0), (8, .slice none 0 0), (9, .slice sb.A sb.n sb.c), (10, .slice ((⟨some ⟨b3, 0, none⟩, 0, 0⟩ : Sl).A) ((⟨some ⟨b3, 0, none⟩, 0, 0⟩ : Sl).n) ((⟨some ⟨b3, 0, none⟩, 0, 0⟩ : Sl).c)), (11, ptr b5 0), (12, .bool (!((dfrB l f)))), (36, .bool (!((dfrB l f))))] rfl;refine jJ ?_
    rcases Bool.eq_false_or_eq_true (dfrB l f) with c17 | c17
    ·
     refine jK ha rfl (xU c17) ?_;refine wp_seq (jX [0, 1, 2, 3, 4, 5, 6] (jQ [(0, 47, ptr b5 0)] ha fun a ha => ?_));refine qZ (d := 48) (b := b5) (j := 0) ha (hS.blk 1 rfl) rfl fun a ha => ?_;refine jQ [(2, 49, .bool (decide (x.f0 = 9))), (3, 50, .bool (decide (x.f0 = 9)))] ha fun a ha => ?_
     by_cases c18 : x.f0 = 9
     ·
      exfalso; omega
     replace ha := ha.turn 49 (.bool false) rfl (congrArg Value.bool (decide_eq_false c18));replace ha := ha.turn 50 (.bool false) rfl (congrArg Value.bool (decide_eq_false c18));refine jQ [(4, 51, undef), (5, 52, .bool false), (6, 46, .bool false)] ha fun a ha => ?_;refine jY (jJ ?_);refine jK ha rfl rfl ?_;refine wp_seq (jX [0, 1, 2, 3, 4, 5, 6, 7, 8, 9, 10] (jQ [(0, 57, ptr b5 0)] ha fun a ha => ?_));refine qZ (d := 58) (b := b5) (j := 0) ha (hS.blk 1 rfl) rfl fun a ha => ?_;refine jQ [(2, 59, .bool (decide (x.f0 = 11))), (3, 60, .bool (decide (x.f0 = 11)))] ha fun a ha => ?_
     by_cases c19 : x.f0 = 11
     ·
      exfalso; omega
     replace ha := ha.turn 59 (.bool false) rfl (congrArg Value.bool (decide_eq_false c19));replace ha := ha.turn 60 (.bool false) rfl (congrArg Value.bool (decide_eq_false c19));refine jQ [(4, 61, undef), (5, 62, undef), (6, 63, undef), (7, 64, undef), (8, 65, undef), (9, 66, .bool false), (10, 56, .bool false)] ha fun a ha => ?_;refine jY ?_;replace ha := ha.as [(1, iv f), (2, iv x2), (4, ptr b1 0), (8, .slice none 0 0), (9, .slice sb.A sb.n sb.c), (10, .slice ((⟨some ⟨b3, 0, none⟩, 0, 0⟩ : Sl).A) ((⟨some ⟨b3, 0, none⟩, 0, 0⟩ : Sl).n) ((⟨some ⟨b3, 0, none⟩, 0, 0⟩ : Sl).c)), (11, ptr b5 0), (56, .bool false)] rfl;refine jJ ?_;refine jK ha rfl rfl ?_;refine wp_seq (jX [0, 1, 2, 3, 4, 5, 6, 7, 8, 9, 10, 11, 12] (jQ [(0, 71, ptr b5 0)] ha fun a ha => ?_));refine qZ (d := 72) (b := b5) (j := 0) ha (hS.blk 1 rfl) rfl fun a ha => ?_;refine jQ [(2, 73, .bool (decide (x.f0 = 5))), (3, 74, .bool (decide (x.f0 = 5)))] ha fun a ha => ?_
     by_cases c20 : x.f0 = 5
     ·
      exfalso; omega
     replace ha := ha.turn 73 (.bool false) rfl (congrArg Value.bool (decide_eq_false c20));replace ha := ha.turn 74 (.bool false) rfl (congrArg Value.bool (decide_eq_false c20));refine jQ [(4, 75, undef), (5, 76, undef), (6, 77, undef), (7, 78, undef), (8, 79, undef), (9, 80, undef), (10, 81, undef), (11, 82, .bool false), (12, 70, .bool false)] ha fun a ha => ?_;refine jY ?_;replace ha := ha.as [(1, iv f), (4, ptr b1 0), (8, .slice none 0 0), (10, .slice ((⟨some ⟨b3, 0, none⟩, 0, 0⟩ : Sl).A) ((⟨some ⟨b3, 0, none⟩, 0, 0⟩ : Sl).n) ((⟨some ⟨b3, 0, none⟩, 0, 0⟩ : Sl).c)), (11, ptr b5 0), (70, .bool false)] rfl;refine jJ ?_;refine jK ha rfl rfl ?_;refine wp_skip (in_n ?_);replace hS := hS.pickN 5 [1, 3, 2, 4];replace hS : Sat w0 w ((SX.blk b5 [iv x.f0, iv x.f1, iv x.f2] 72) :: (SX.blk b1 [.slice s.A s.n s.c] 30) :: (rI (⟨some ⟨b3, 0, none⟩, 0, 0⟩ : Sl) (lintF l f x2 b x 5)) :: (rI sd (dfrP l)) :: Rs) := by rw [sw_no (fun h9 => c17) (fun h9 => absurd h9 c18) (fun h9 => absurd h9 c19) (fun h9 => absurd h9 c20)]; exact hS
     exact jJ ⟨⟨some ⟨b3, 0, none⟩, 0, 0⟩, ha.keeps [1, 4, 8, 11, 10] _ rfl, hS⟩
    refine jU ha rfl (xG c17) ?_;refine jX [0, 1, 2, 3] (jQ [(0, 43, .slice ((⟨some ⟨b3, 0, none⟩, 0, 0⟩ : Sl).A) ((⟨some ⟨b3, 0, none⟩, 0, 0⟩ : Sl).n) ((⟨some ⟨b3, 0, none⟩, 0, 0⟩ : Sl).c))] ha fun a ha => ?_);refine jW (qY 44 [iv 2] 3 (fun b => .slice (some ⟨b, 0, none⟩) 1 1) ha hS fun b21 w a hb22 hS ha => ?_);refine jW (o_ap 45 3 0 (SX.encI ((lintF l f x2 b x 1) ++ [2])) ha hS rfl rfl (by rw [encI_length]; have h9 : (lintF l f x2 b x 1).length ≤ 6 := Nat.le_trans (List.length_filter_le _ _) (by decide); have h8 : (lintF l f x2 b x 5).length ≤ 6 := Nat.le_trans (List.length_filter_le _ _) (by decide); simp only [List.length_cons, List.length_nil] at *; omega) (encI_snoc _ _) fun s26 w a hS hn27 ha => ?_);refine jQ [(3, 10, .slice s26.A s26.n s26.c)] ha fun a ha => ?_;refine jY (in_n ?_);replace hS := hS.pickN 6 [2, 4, 3, 5];replace hS : Sat w0 w ((SX.blk b5 [iv x.f0, iv x.f1, iv x.f2] 72) :: (SX.blk b1 [.slice s.A s.n s.c] 30) :: (rI s26 (lintF l f x2 b x 5)) :: (rI sd (dfrP l)) :: Rs) := by rw [sw_7y c16 c17]; exact hS
    exact jJ ⟨s26, ha.keeps [1, 4, 8, 11, 10] _ rfl, hS⟩
   replace ha := ha.turn 39 (.bool false) rfl (congrArg Value.bool (decide_eq_false c16));replace ha := ha.turn 40 (.bool false) rfl (congrArg Value.bool (decide_eq_false c16));refine jQ [(4, 41, undef), (5, 42, .bool false), (6, 36, .bool false)] ha fun a ha => ?_;refine jY ?_;replace ha := ha.as [(1, iv f), (2, iv x2), (4, ptr b1 0), (8, .slice none 0 0), (9, .slice sb.A sb.n sb.c), (10, .slice ((⟨some ⟨b3, 0, none⟩, 0, 0⟩ : Sl).A) ((⟨some ⟨b3, 0, none⟩, 0, 0⟩ : Sl).n) ((⟨some ⟨b3, 0, none⟩, 0, 0⟩ : Sl).c)), (11, ptr b5 0), (12, .bool (!((dfrB l f)))), (36, .bool false)] rfl;refine jJ ?_;refine jK ha rfl rfl ?_;refine wp_seq (jX [0, 1, 2, 3, 4, 5, 6] (jQ [(0, 47, ptr b5 0)] ha fun a ha => ?_));refine qZ (d := 48) (b := b5) (j := 0) ha (hS.blk 1 rfl) rfl fun a ha => ?_;refine jQ [(2, 49, .bool (decide (x.f0 = 9))), (3, 50, .bool (decide (x.f0 = 9)))] ha fun a ha => ?_
   by_cases c28 : x.f0 = 9
   ·
    replace ha := ha.turn 49 (.bool true) rfl (congrArg Value.bool (decide_eq_true c28));replace ha := ha.turn 50 (.bool true) rfl (congrArg Value.bool (decide_eq_true c28));refine jQ [(4, 51, .bool (!((dfrB l f)))), (5, 52, .bool (!((dfrB l f)))), (6, 46, .bool (!((dfrB l f))))] ha fun a ha => ?_;refine jY (jJ ?_)
    rcases Bool.eq_false_or_eq_true (dfrB l f) with c29 | c29
    ·
     refine jK ha rfl (xU c29) ?_;refine wp_seq (jX [0, 1, 2, 3, 4, 5, 6, 7, 8, 9, 10] (jQ [(0, 57, ptr b5 0)] ha fun a ha => ?_));refine qZ (d := 58) (b := b5) (j := 0) ha (hS.blk 1 rfl) rfl fun a ha => ?_;refine jQ [(2, 59, .bool (decide (x.f0 = 11))), (3, 60, .bool (decide (x.f0 = 11)))] ha fun a ha => ?_
     by_cases c30 : x.f0 = 11
     ·
      exfalso; omega
     replace ha := ha.turn 59 (.bool false) rfl (congrArg Value.bool (decide_eq_false c30));replace ha := ha.turn 60 (.bool false) rfl (congrArg Value.bool (decide_eq_false c30));refine jQ [(4, 61, undef), (5, 62, undef), (6, 63, undef), (7, 64, undef), (8, 65, undef), (9, 66, .bool false), (10, 56, .bool false)] ha fun a ha => ?_;refine jY ?_;replace ha := ha.as [(1, iv f), (2, iv x2), (4, ptr b1 0), (8, .slice none 0 0), (9, .slice sb.A sb.n sb.c), (10, .slice ((⟨some ⟨b3, 0, none⟩, 0, 0⟩ : Sl).A) ((⟨some ⟨b3, 0, none⟩, 0, 0⟩ : Sl).n) ((⟨some ⟨b3, 0, none⟩, 0, 0⟩ : Sl).c)), (11, ptr b5 0), (56, .bool false)] rfl;refine jJ ?_;refine jK ha rfl rfl ?_;refine wp_seq (jX [0, 1, 2, 3, 4, 5, 6, 7, 8, 9, 10, 11, 12] (jQ [(0, 71, ptr b5 0)] ha fun a ha => ?_));refine qZ (d := 72) (b := b5) (j := 0) ha (hS.blk 1 rfl) rfl fun a ha => ?_;refine jQ [(2, 73, .bool (decide (x.f0 = 5))), (3, 74, .bool (decide (x.f0 = 5)))] ha fun a ha => ?_
     by_cases c31 : x.f0 = 5
     ·
      exfalso; omega
     replace ha := ha.turn 73 (.bool false) rfl (congrArg Value.bool (decide_eq_false c31));replace ha := ha.turn 74 (.bool false) rfl (congrArg Value.bool (decide_eq_false c31));refine jQ [(4, 75, undef), (5, 76, undef), (6, 77, undef), (7, 78, undef), (8, 79, undef), (9, 80, undef), (10, 81, undef), (11, 82, .bool false), (12, 70, .bool false)] ha fun a ha => ?_;refine jY ?_;replace ha := ha.as [(1, iv f), (4, ptr b1 0), (8, .slice none 0 0), (10, .slice ((⟨some ⟨b3, 0, none⟩, 0, 0⟩ : Sl).A) ((⟨some ⟨b3, 0, none⟩, 0, 0⟩ : Sl).n) ((⟨some ⟨b3, 0, none⟩, 0, 0⟩ : Sl).c)), (11, ptr b5 0), (70, .bool false)] rfl;refine jJ ?_;refine jK ha rfl rfl ?_;refine wp_skip (in_n ?_);replace hS := hS.pickN 5 [1, 3, 2, 4];replace hS : Sat w0 w ((SX.blk b5 [iv x.f0, iv x.f1, iv x.f2] 72) :: (SX.blk b1 [.slice s.A s.n s.c] 30) :: (rI (⟨some ⟨b3, 0, none⟩, 0, 0⟩ : Sl) (lintF l f x2 b x 5)) :: (rI sd (dfrP l)) :: Rs) := by rw [sw_no (fun h9 => absurd h9 c16) (fun h9 => c29) (fun h9 => absurd h9 c30) (fun h9 => absurd h9 c31)]; exact hS
     exact jJ ⟨⟨some ⟨b3, 0, none⟩, 0, 0⟩, ha.keeps [1, 4, 8, 11, 10] _ rfl, hS⟩
    refine jU ha rfl (xG c29) ?_;refine jX [0, 1, 2, 3] (jQ [(0, 53, .slice ((⟨some ⟨b3, 0, none⟩, 0, 0⟩ : Sl).A) ((⟨some ⟨b3, 0, none⟩, 0, 0⟩ : Sl).n) ((⟨some ⟨b3, 0, none⟩, 0, 0⟩ : Sl).c))] ha fun a ha => ?_);refine jW (qY 54 [iv 3] 3 (fun b => .slice (some ⟨b, 0, none⟩) 1 1) ha hS fun b32 w a hb33 hS ha => ?_);refine jW (o_ap 55 3 0 (SX.encI ((lintF l f x2 b x 1) ++ [3])) ha hS rfl rfl (by rw [encI_length]; have h9 : (lintF l f x2 b x 1).length ≤ 6 := Nat.le_trans (List.length_filter_le _ _) (by decide); have h8 : (lintF l f x2 b x 5).length ≤ 6 := Nat.le_trans (List.length_filter_le _ _) (by decide); simp only [List.length_cons, List.length_nil] at *; omega) (encI_snoc _ _) fun s37 w a hS hn38 ha => ?_);refine jQ [(3, 10, .slice s37.A s37.n s37.c)] ha fun a ha => ?_;refine jY ?_;replace ha := ha.as [(1, iv f), (4, ptr b1 0), (8, .slice none 0 0), (11, ptr b5 0), (10, .slice s37.A s37.n s37.c)] rfl;refine in_n ?_;replace hS := hS.pickN 6 [2, 4, 3, 5];replace hS : Sat w0 w ((SX.blk b5 [iv x.f0, iv x.f1, iv x.f2] 72) :: (SX.blk b1 [.slice s.A s.n s.c] 30) :: (rI s37 (lintF l f x2 b x 5)) :: (rI sd (dfrP l)) :: Rs) := by rw [sw_9y c28 c29]; exact hS
    exact jJ ⟨s37, ha.keeps [1, 4, 8, 11, 10] _ rfl, hS⟩
   replace ha := ha.turn 49 (.bool false) rfl (congrArg Value.bool (decide_eq_false c28));replace ha := ha.turn 50 (.bool false) rfl (congrArg Value.bool (decide_eq_false c28));refine jQ [(4, 51, undef), (5, 52, .bool false), (6, 46, .bool false)] ha fun a ha => ?_;refine jY (jJ ?_);refine jK ha rfl rfl ?_;refine wp_seq (jX [0, 1, 2, 3, 4, 5, 6, 7, 8, 9, 10] (jQ [(0, 57, ptr b5 0)] ha fun a ha => ?_));refine qZ (d := 58) (b := b5) (j := 0) ha (hS.blk 1 rfl) rfl fun a ha => ?_;refine jQ [(2, 59, .bool (decide (x.f0 = 11))), (3, 60, .bool (decide (x.f0 = 11)))] ha fun a ha => ?_
   by_cases c39 : x.f0 = 11
   ·
    replace ha := ha.turn 59 (.bool true) rfl (congrArg Value.bool (decide_eq_true c39));replace ha := ha.turn 60 (.bool true) rfl (congrArg Value.bool (decide_eq_true c39));refine jQ [(4, 61, ptr b5 1)] ha fun a ha => ?_;refine qZ (d := 62) (b := b5) (j := 1) ha (hS.blk 1 rfl) rfl fun a ha => ?_;refine jQ [(6, 63, iv x2)] ha fun a ha => ?_;refine xJ 64 (x2 + 1) ha fun a ha => ?_;refine jQ [(8, 65, .bool (decide (x.f1 = (x2 + 1)))), (9, 66, .bool (decide (x.f1 = (x2 + 1)))), (10, 56, .bool (decide (x.f1 = (x2 + 1))))] ha fun a ha => ?_;refine jY ?_;replace ha := ha.as [(1, iv f), (2, iv x2), (4, ptr b1 0), (8, .slice none 0 0), (9, .slice sb.A sb.n sb.c), (10, .slice ((⟨some ⟨b3, 0, none⟩, 0, 0⟩ : Sl).A) ((⟨some ⟨b3, 0, none⟩, 0, 0⟩ : Sl).n) ((⟨some ⟨b3, 0, none⟩, 0, 0⟩ : Sl).c)), (11, ptr b5 0), (56, .bool (decide (x.f1 = (x2 + 1))))] rfl;refine jJ ?_
    by_cases c40 : x.f1 = (x2 + 1)
    ·
     refine jU ha rfl (decide_eq_true c40) ?_;refine jX [0, 1, 2, 3] (jQ [(0, 67, .slice ((⟨some ⟨b3, 0, none⟩, 0, 0⟩ : Sl).A) ((⟨some ⟨b3, 0, none⟩, 0, 0⟩ : Sl).n) ((⟨some ⟨b3, 0, none⟩, 0, 0⟩ : Sl).c))] ha fun a ha => ?_);refine jW (qY 68 [iv 5] 3 (fun b => .slice (some ⟨b, 0, none⟩) 1 1) ha hS fun b41 w a hb42 hS ha => ?_);refine jW (o_ap 69 3 0 (SX.encI ((lintF l f x2 b x 1) ++ [5])) ha hS rfl rfl (by rw [encI_length]; have h9 : (lintF l f x2 b x 1).length ≤ 6 := Nat.le_trans (List.length_filter_le _ _) (by decide); have h8 : (lintF l f x2 b x 5).length ≤ 6 := Nat.le_trans (List.length_filter_le _ _) (by decide); simp only [List.length_cons, List.length_nil] at *; omega) (encI_snoc _ _) fun s46 w a hS hn47 ha => ?_);refine jQ [(3, 10, .slice s46.A s46.n s46.c)] ha fun a ha => ?_;refine jY (in_n ?_);replace hS := hS.pickN 6 [2, 4, 3, 5];replace hS : Sat w0 w ((SX.blk b5 [iv x.f0, iv x.f1, iv x.f2] 72) :: (SX.blk b1 [.slice s.A s.n s.c] 30) :: (rI s46 (lintF l f x2 b x 5)) :: (rI sd (dfrP l)) :: Rs) := by rw [sw_11y c39 c40]; exact hS
     exact jJ ⟨s46, ha.keeps [1, 4, 8, 11, 10] _ rfl, hS⟩
    refine jK ha rfl (decide_eq_false c40) ?_;refine wp_seq (jX [0, 1, 2, 3, 4, 5, 6, 7, 8, 9, 10, 11, 12] (jQ [(0, 71, ptr b5 0)] ha fun a ha => ?_));refine qZ (d := 72) (b := b5) (j := 0) ha (hS.blk 1 rfl) rfl fun a ha => ?_;refine jQ [(2, 73, .bool (decide (x.f0 = 5))), (3, 74, .bool (decide (x.f0 = 5)))] ha fun a ha => ?_
    by_cases c48 : x.f0 = 5
    ·
     exfalso; omega
    replace ha := ha.turn 73 (.bool false) rfl (congrArg Value.bool (decide_eq_false c48));replace ha := ha.turn 74 (.bool false) rfl (congrArg Value.bool (decide_eq_false c48));refine jQ [(4, 75, undef), (5, 76, undef), (6, 77, undef), (7, 78, undef), (8, 79, undef), (9, 80, undef), (10, 81, undef), (11, 82, .bool false), (12, 70, .bool false)] ha fun a ha => ?_;refine jY ?_;replace ha := ha.as [(1, iv f), (4, ptr b1 0), (8, .slice none 0 0), (10, .slice ((⟨some ⟨b3, 0, none⟩, 0, 0⟩ : Sl).A) ((⟨some ⟨b3, 0, none⟩, 0, 0⟩ : Sl).n) ((⟨some ⟨b3, 0, none⟩, 0, 0⟩ : Sl).c)), (11, ptr b5 0), (70, .bool false)] rfl;refine jJ ?_;refine jK ha rfl rfl ?_;refine wp_skip (in_n ?_);replace hS := hS.pickN 5 [1, 3, 2, 4];replace hS : Sat w0 w ((SX.blk b5 [iv x.f0, iv x.f1, iv x.f2] 72) :: (SX.blk b1 [.slice s.A s.n s.c] 30) :: (rI (⟨some ⟨b3, 0, none⟩, 0, 0⟩ : Sl) (lintF l f x2 b x 5)) :: (rI sd (dfrP l)) :: Rs) := by rw [sw_no (fun h9 => absurd h9 c16) (fun h9 => absurd h9 c28) (fun h9 => c40) (fun h9 => absurd h9 c48)]; exact hS
    exact jJ ⟨⟨some ⟨b3, 0, none⟩, 0, 0⟩, ha.keeps [1, 4, 8, 11, 10] _ rfl, hS⟩
   replace ha := ha.turn 59 (.bool false) rfl (congrArg Value.bool (decide_eq_false c39));replace ha := ha.turn 60 (.bool false) rfl (congrArg Value.bool (decide_eq_false c39));refine jQ [(4, 61, undef), (5, 62, undef), (6, 63, undef), (7, 64, undef), (8, 65, undef), (9, 66, .bool false), (10, 56, .bool false)] ha fun a ha => ?_;refine jY ?_;replace ha := ha.as [(1, iv f), (2, iv x2), (4, ptr b1 0), (8, .slice none 0 0), (9, .slice sb.A sb.n sb.c), (10, .slice ((⟨some ⟨b3, 0, none⟩, 0, 0⟩ : Sl).A) ((⟨some ⟨b3, 0, none⟩, 0, 0⟩ : Sl).n) ((⟨some ⟨b3, 0, none⟩, 0, 0⟩ : Sl).c)), (11, ptr b5 0), (56, .bool false)] rfl;refine jJ ?_;refine jK ha rfl rfl ?_;refine wp_seq (jX [0, 1, 2, 3, 4, 5, 6, 7, 8, 9, 10, 11, 12] (jQ [(0, 71, ptr b5 0)] ha fun a ha => ?_));refine qZ (d := 72) (b := b5) (j := 0) ha (hS.blk 1 rfl) rfl fun a ha => ?_;refine jQ [(2, 73, .bool (decide (x.f0 = 5))), (3, 74, .bool (decide (x.f0 = 5)))] ha fun a ha => ?_
   by_cases c49 : x.f0 = 5
   ·
    replace ha := ha.turn 73 (.bool true) rfl (congrArg Value.bool (decide_eq_true c49));replace ha := ha.turn 74 (.bool true) rfl (congrArg Value.bool (decide_eq_true c49));refine jQ [(4, 75, .slice sb.A sb.n sb.c), (5, 76, .slice sb.A sb.n sb.c), (6, 77, iv x2)] ha fun a ha => ?_;refine jW (qQ 78 (vs := [.slice sb.A sb.n sb.c, iv x2]) ha (leadsI_sat hS hrb hx2 (by omega) hx) fun v50 w a hp51 ha => ?_);obtain ⟨ro1, rfl, hS⟩ := hp51;replace hS : Sat w0 w ((rI ro1 (leadsP b.length x x2)) :: (rI co1 (openL b [0])) :: (SX.blk b5 [iv x.f0, iv x.f1, iv x.f2] 72) :: (rI (⟨some ⟨b3, 0, none⟩, 0, 0⟩ : Sl) (lintF l f x2 b x 1)) :: (SX.blk b1 [.slice s.A s.n s.c] 30) :: (rI sd (dfrP l)) :: Rs) := hS;refine jW (qQ 79 (vs := [.slice sb.A sb.n sb.c, .slice ro1.A ro1.n ro1.c]) ha (comes_sat (sa := ro1) (L0 := (leadsP b.length x x2)) hS hrb hoj.1 (by omega) (fun y hy => (hlr y hy).1) (by have := leadsP_len b.length x x2; omega) hoj.2) fun v52 w a hp53 ha => ?_);obtain ⟨co2, rfl, hS⟩ := hp53;refine jQ [(9, 80, iv x2)] ha fun a ha => ?_;refine jW (qQ 81 (vs := [.slice co2.A co2.n co2.c, iv x2]) ha (ocont_sat hS (hS.rdRow (s := co2) 0 rfl) x2) fun v54 w a hp55 ha => ?_);obtain ⟨rfl, hS⟩ := hp55;refine jQ [(11, 82, .bool ((openL b (leadsP b.length x x2)).contains x2)), (12, 70, .bool ((openL b (leadsP b.length x x2)).contains x2))] ha fun a ha => ?_;refine jY ?_;replace ha := ha.as [(1, iv f), (4, ptr b1 0), (8, .slice none 0 0), (10, .slice ((⟨some ⟨b3, 0, none⟩, 0, 0⟩ : Sl).A) ((⟨some ⟨b3, 0, none⟩, 0, 0⟩ : Sl).n) ((⟨some ⟨b3, 0, none⟩, 0, 0⟩ : Sl).c)), (11, ptr b5 0), (70, .bool ((openL b (leadsP b.length x x2)).contains x2))] rfl;refine jJ ?_
    rcases Bool.eq_false_or_eq_true ((openL b (leadsP b.length x x2)).contains x2) with c56 | c56
    ·
     refine jU ha rfl c56 ?_;refine jX [0, 1, 2, 3] (jQ [(0, 83, .slice ((⟨some ⟨b3, 0, none⟩, 0, 0⟩ : Sl).A) ((⟨some ⟨b3, 0, none⟩, 0, 0⟩ : Sl).n) ((⟨some ⟨b3, 0, none⟩, 0, 0⟩ : Sl).c))] ha fun a ha => ?_);refine jW (qY 84 [iv 6] 3 (fun b => .slice (some ⟨b, 0, none⟩) 1 1) ha hS fun b57 w a hb58 hS ha => ?_);refine jW (o_ap 85 4 0 (SX.encI ((lintF l f x2 b x 1) ++ [6])) ha hS rfl rfl (by rw [encI_length]; have h9 : (lintF l f x2 b x 1).length ≤ 6 := Nat.le_trans (List.length_filter_le _ _) (by decide); have h8 : (lintF l f x2 b x 5).length ≤ 6 := Nat.le_trans (List.length_filter_le _ _) (by decide); simp only [List.length_cons, List.length_nil] at *; omega) (encI_snoc _ _) fun s62 w a hS hn63 ha => ?_);refine jQ [(3, 10, .slice s62.A s62.n s62.c)] ha fun a ha => ?_;refine jY (in_n ?_);replace hS := hS.pickN 7 [3, 5, 4, 6];replace hS : Sat w0 w ((SX.blk b5 [iv x.f0, iv x.f1, iv x.f2] 72) :: (SX.blk b1 [.slice s.A s.n s.c] 30) :: (rI s62 (lintF l f x2 b x 5)) :: (rI sd (dfrP l)) :: Rs) := by rw [sw_5y c49 c56]; exact hS
     exact jJ ⟨s62, ha.keeps [1, 4, 8, 11, 10] _ rfl, hS⟩
    refine jK ha rfl c56 ?_;refine wp_skip (in_n ?_);replace hS := hS.pickN 6 [2, 4, 3, 5];replace hS : Sat w0 w ((SX.blk b5 [iv x.f0, iv x.f1, iv x.f2] 72) :: (SX.blk b1 [.slice s.A s.n s.c] 30) :: (rI (⟨some ⟨b3, 0, none⟩, 0, 0⟩ : Sl) (lintF l f x2 b x 5)) :: (rI sd (dfrP l)) :: Rs) := by rw [sw_no (fun h9 => absurd h9 c16) (fun h9 => absurd h9 c28) (fun h9 => absurd h9 c39) (fun h9 => c56)]; exact hS
    exact jJ ⟨⟨some ⟨b3, 0, none⟩, 0, 0⟩, ha.keeps [1, 4, 8, 11, 10] _ rfl, hS⟩
   replace ha := ha.turn 73 (.bool false) rfl (congrArg Value.bool (decide_eq_false c49));replace ha := ha.turn 74 (.bool false) rfl (congrArg Value.bool (decide_eq_false c49));refine jQ [(4, 75, undef), (5, 76, undef), (6, 77, undef), (7, 78, undef), (8, 79, undef), (9, 80, undef), (10, 81, undef), (11, 82, .bool false), (12, 70, .bool false)] ha fun a ha => ?_;refine jY ?_;replace ha := ha.as [(1, iv f), (4, ptr b1 0), (8, .slice none 0 0), (10, .slice ((⟨some ⟨b3, 0, none⟩, 0, 0⟩ : Sl).A) ((⟨some ⟨b3, 0, none⟩, 0, 0⟩ : Sl).n) ((⟨some ⟨b3, 0, none⟩, 0, 0⟩ : Sl).c)), (11, ptr b5 0), (70, .bool false)] rfl;refine jJ ?_;refine jK ha rfl rfl ?_;refine wp_skip (in_n ?_);replace hS := hS.pickN 5 [1, 3, 2, 4];replace hS : Sat w0 w ((SX.blk b5 [iv x.f0, iv x.f1, iv x.f2] 72) :: (SX.blk b1 [.slice s.A s.n s.c] 30) :: (rI (⟨some ⟨b3, 0, none⟩, 0, 0⟩ : Sl) (lintF l f x2 b x 5)) :: (rI sd (dfrP l)) :: Rs) := by rw [sw_no (fun h9 => absurd h9 c16) (fun h9 => absurd h9 c28) (fun h9 => absurd h9 c39) (fun h9 => absurd h9 c49)]; exact hS
   exact jJ ⟨⟨some ⟨b3, 0, none⟩, 0, 0⟩, ha.keeps [1, 4, 8, 11, 10] _ rfl, hS⟩
  rintro a w ⟨o, ha, hS⟩
  refine wp_seq (wp_seq (jX [0, 1, 2, 3, 4, 5, 6, 7, 8, 9] (xH 86 ha (hS.blk 0 rfl) fun a ha => ?_)))
  refine jW (qQ 87 (vs := [.agg #[iv x.f0, iv x.f1, iv x.f2]]) ha (calls_sat (x := x) hS) fun v64 w a hp65 ha => ?_)
  obtain ⟨rfl, hS⟩ := hp65
  refine jQ [(2, 88, .bool (callB x))] ha fun a ha => ?_
  rcases Bool.eq_false_or_eq_true (callB x) with c66 | c66
  ·
   replace ha := ha.turn 87 (.bool true) rfl (congrArg Value.bool c66);replace ha := ha.turn 88 (.bool true) rfl (congrArg Value.bool c66);refine xH 89 ha (hS.blk 1 rfl) fun a ha => ?_;refine jQ [(4, 90, ptr b5 1)] ha fun a ha => ?_;refine qZ (d := 91) (b := b5) (j := 1) ha (hS.blk 0 rfl) rfl fun a ha => ?_;refine jW (qQ 92 (vs := [.agg #[.slice s.A s.n s.c], iv x.f1]) ha (reachI_sat hS hr hf hpg (okC_of hpg (List.mem_of_getElem? hb) x (List.mem_of_getElem? hx) (callB_yes c66))) fun v67 w a hp68 ha => ?_);obtain ⟨rr1, rfl, hS⟩ := hp68;refine jQ [(7, 93, iv f)] ha fun a ha => ?_;refine jW (qQ 94 (vs := [.slice rr1.A rr1.n rr1.c, iv f]) ha (ocont_sat hS (hS.rdRow (s := rr1) 0 rfl) f) fun v69 w a hp70 ha => ?_);obtain ⟨rfl, hS⟩ := hp70;refine jQ [(9, 95, .bool ((reachP l x.f1).contains f))] ha fun a ha => ?_;refine jY (jJ ?_)
   rcases Bool.eq_false_or_eq_true ((reachP l x.f1).contains f) with c71 | c71
   ·
    refine jU ha rfl c71 ?_;refine jX [0, 1, 2, 3] (jQ [(0, 96, .slice o.A o.n o.c)] ha fun a ha => ?_);refine jW (qY 97 [iv 7] 3 (fun b => .slice (some ⟨b, 0, none⟩) 1 1) ha hS fun b72 w a hb73 hS ha => ?_);refine jW (o_ap 98 4 0 (SX.encI ((lintF l f x2 b x 5) ++ [7])) ha hS rfl rfl (by rw [encI_length]; have h9 : (lintF l f x2 b x 1).length ≤ 6 := Nat.le_trans (List.length_filter_le _ _) (by decide); have h8 : (lintF l f x2 b x 5).length ≤ 6 := Nat.le_trans (List.length_filter_le _ _) (by decide); simp only [List.length_cons, List.length_nil] at *; omega) (encI_snoc _ _) fun s77 w a hS hn78 ha => ?_);refine jQ [(3, 10, .slice s77.A s77.n s77.c)] ha fun a ha => ?_;refine jY (jJ (wp_seq (jX [0, 1] (jQ [(0, 99, .slice s77.A s77.n s77.c), (1, 8, .slice s77.A s77.n s77.c)] ha fun a ha => ?_))));refine jY (jJ (wp_ret (jG ha (by kernel_rfl) (qK (t := 8) ha rfl) ?_)));rw [en_y c66 c71];exact ⟨s77, rfl, hS.pickN 6 [4, 5]⟩
   refine jK ha rfl c71 ?_;refine wp_skip (jJ (wp_seq (jX [0, 1] (jQ [(0, 99, .slice o.A o.n o.c), (1, 8, .slice o.A o.n o.c)] ha fun a ha => ?_))));refine jY (jJ (wp_ret (jG ha (by kernel_rfl) (qK (t := 8) ha rfl) ?_)));rw [en_n2 c71];exact ⟨o, rfl, hS.pickN 5 [3, 4]⟩
  replace ha := ha.turn 87 (.bool false) rfl (congrArg Value.bool c66)
  replace ha := ha.turn 88 (.bool false) rfl (congrArg Value.bool c66)
  refine jQ [(3, 89, undef), (4, 90, undef), (5, 91, undef), (6, 92, undef), (7, 93, undef), (8, 94, undef), (9, 95, .bool false)] ha fun a ha => ?_
  refine jY (jJ ?_)
  refine jK ha rfl rfl ?_
  refine wp_skip (jJ (wp_seq (jX [0, 1] (jQ [(0, 99, .slice o.A o.n o.c), (1, 8, .slice o.A o.n o.c)] ha fun a ha => ?_))))
  refine jY (jJ (wp_ret (jG ha (by kernel_rfl) (qK (t := 8) ha rfl) ?_)))
  rw [en_n1 c66]
  exact ⟨o, rfl, hS.pickN 4 [2, 3]⟩
 refine jU ha rfl (xG c13) ?_
 refine jX [0, 1, 2, 3] (jQ [(0, 29, .slice ((⟨some ⟨b3, 0, none⟩, 0, 0⟩ : Sl).A) ((⟨some ⟨b3, 0, none⟩, 0, 0⟩ : Sl).n) ((⟨some ⟨b3, 0, none⟩, 0, 0⟩ : Sl).c))] ha fun a ha => ?_)
 refine jW (qY 30 [iv 1] 3 (fun b => .slice (some ⟨b, 0, none⟩) 1 1) ha hS fun b79 w a hb80 hS ha => ?_)
 refine jW (o_ap 31 3 0 (SX.encI ([] ++ [1])) ha hS rfl rfl (by rw [encI_length]; have h9 : (lintF l f x2 b x 1).length ≤ 6 := Nat.le_trans (List.length_filter_le _ _) (by decide); have h8 : (lintF l f x2 b x 5).length ≤ 6 := Nat.le_trans (List.length_filter_le _ _) (by decide); simp only [List.length_cons, List.length_nil] at *; omega) (encI_snoc _ _) fun s84 w a hS hn85 ha => ?_)
 refine jQ [(3, 10, .slice s84.A s84.n s84.c)] ha fun a ha => ?_
 refine jY (jJ (wp_seq ?_))
 replace hS : Sat w0 w ((SX.blk b79 [iv 1] 3) :: (rI co1 (openL b [0])) :: (SX.blk b5 [iv x.f0, iv x.f1, iv x.f2] 72) :: (rI s84 (lintF l f x2 b x 1)) :: (SX.blk b1 [.slice s.A s.n s.c] 30) :: (rI sd (dfrP l)) :: Rs) := by rw [lintF_1n c13]; exact hS
 refine jX [0, 1, 2, 3, 4] (jQ [(0, 32, .slice sd.A sd.n sd.c), (1, 33, iv f)] ha fun a ha => ?_)
 refine jW (qQ 34 (vs := [.slice sd.A sd.n sd.c, iv f]) ha (bool_eq (dfrP_cont l f) (ocont_sat hS (hS.rdRow (s := sd) 5 rfl) f)) fun v86 w a hp87 ha => ?_)
 obtain ⟨rfl, hS⟩ := hp87
 refine jQ [(3, 35, .bool (!((dfrB l f)))), (4, 12, .bool (!((dfrB l f))))] ha fun a ha => ?_
 refine jY ?_
 replace ha := ha.as [(1, iv f), (2, iv x2), (4, ptr b1 0), (8, .slice none 0 0), (9, .slice sb.A sb.n sb.c), (11, ptr b5 0), (10, .slice s84.A s84.n s84.c), (12, .bool (!((dfrB l f))))] rfl
 refine jJ (wp_seq (zQ (J := fun a_ w_ => ∃ (o : Sl), Has 100 [(1, iv f), (4, ptr b1 0), (8, .slice none 0 0), (11, ptr b5 0), (10, .slice o.A o.n o.c)] a_ ∧ Sat w0 w_ ((SX.blk b5 [iv x.f0, iv x.f1, iv x.f2] 72) :: (SX.blk b1 [.slice s.A s.n s.c] 30) :: (rI o (lintF l f x2 b x 5)) :: (rI sd (dfrP l)) :: Rs)) ?_ ?_))
 ·
  refine wp_block (wp_seq (jX [0, 1, 2, 3, 4, 5, 6] (jQ [(0, 37, ptr b5 0)] ha fun a ha => ?_)))
  refine qZ (d := 38) (b := b5) (j := 0) ha (hS.blk 2 rfl) rfl fun a ha => ?_
  refine jQ [(2, 39, .bool (decide (x.f0 = 7))), (3, 40, .bool (decide (x.f0 = 7)))] ha fun a ha => ?_
  by_cases c88 : x.f0 = 7
  ·
   replace ha := ha.turn 39 (.bool true) rfl (congrArg Value.bool (decide_eq_true c88));replace ha := ha.turn 40 (.bool true) rfl (congrArg Value.bool (decide_eq_true c88));refine jQ [(4, 41, .bool (!((dfrB l f)))), (5, 42, .bool (!((dfrB l f)))), (6, 36, .bool (!((dfrB l f))))] ha fun a ha => ?_;refine jY (jJ ?_)
   rcases Bool.eq_false_or_eq_true (dfrB l f) with c89 | c89
   ·
    refine jK ha rfl (xU c89) ?_;refine wp_seq (jX [0, 1, 2, 3, 4, 5, 6] (jQ [(0, 47, ptr b5 0)] ha fun a ha => ?_));refine qZ (d := 48) (b := b5) (j := 0) ha (hS.blk 2 rfl) rfl fun a ha => ?_;refine jQ [(2, 49, .bool (decide (x.f0 = 9))), (3, 50, .bool (decide (x.f0 = 9)))] ha fun a ha => ?_
    by_cases c90 : x.f0 = 9
    ·
     exfalso; omega
    replace ha := ha.turn 49 (.bool false) rfl (congrArg Value.bool (decide_eq_false c90));replace ha := ha.turn 50 (.bool false) rfl (congrArg Value.bool (decide_eq_false c90));refine jQ [(4, 51, undef), (5, 52, .bool false), (6, 46, .bool false)] ha fun a ha => ?_;refine jY (jJ ?_);refine jK ha rfl rfl ?_;refine wp_seq (jX [0, 1, 2, 3, 4, 5, 6, 7, 8, 9, 10] (jQ [(0, 57, ptr b5 0)] ha fun a ha => ?_));refine qZ (d := 58) (b := b5) (j := 0) ha (hS.blk 2 rfl) rfl fun a ha => ?_;refine jQ [(2, 59, .bool (decide (x.f0 = 11))), (3, 60, .bool (decide (x.f0 = 11)))] ha fun a ha => ?_
    by_cases c91 : x.f0 = 11
    ·
     exfalso; omega
    replace ha := ha.turn 59 (.bool false) rfl (congrArg Value.bool (decide_eq_false c91));replace ha := ha.turn 60 (.bool false) rfl (congrArg Value.bool (decide_eq_false c91));refine jQ [(4, 61, undef), (5, 62, undef), (6, 63, undef), (7, 64, undef), (8, 65, undef), (9, 66, .bool false), (10, 56, .bool false)] ha fun a ha => ?_;refine jY ?_;replace ha := ha.as [(1, iv f), (2, iv x2), (4, ptr b1 0), (8, .slice none 0 0), (9, .slice sb.A sb.n sb.c), (11, ptr b5 0), (10, .slice s84.A s84.n s84.c), (56, .bool false)] rfl;refine jJ ?_;refine jK ha rfl rfl ?_;refine wp_seq (jX [0, 1, 2, 3, 4, 5, 6, 7, 8, 9, 10, 11, 12] (jQ [(0, 71, ptr b5 0)] ha fun a ha => ?_));refine qZ (d := 72) (b := b5) (j := 0) ha (hS.blk 2 rfl) rfl fun a ha => ?_;refine jQ [(2, 73, .bool (decide (x.f0 = 5))), (3, 74, .bool (decide (x.f0 = 5)))] ha fun a ha => ?_
    by_cases c92 : x.f0 = 5
    ·
     exfalso; omega
    replace ha := ha.turn 73 (.bool false) rfl (congrArg Value.bool (decide_eq_false c92));replace ha := ha.turn 74 (.bool false) rfl (congrArg Value.bool (decide_eq_false c92));refine jQ [(4, 75, undef), (5, 76, undef), (6, 77, undef), (7, 78, undef), (8, 79, undef), (9, 80, undef), (10, 81, undef), (11, 82, .bool false), (12, 70, .bool false)] ha fun a ha => ?_;refine jY ?_;replace ha := ha.as [(1, iv f), (4, ptr b1 0), (8, .slice none 0 0), (11, ptr b5 0), (10, .slice s84.A s84.n s84.c), (70, .bool false)] rfl;refine jJ ?_;refine jK ha rfl rfl ?_;refine wp_skip (in_n ?_);replace hS := hS.pickN 6 [2, 4, 3, 5];replace hS : Sat w0 w ((SX.blk b5 [iv x.f0, iv x.f1, iv x.f2] 72) :: (SX.blk b1 [.slice s.A s.n s.c] 30) :: (rI s84 (lintF l f x2 b x 5)) :: (rI sd (dfrP l)) :: Rs) := by rw [sw_no (fun h9 => c89) (fun h9 => absurd h9 c90) (fun h9 => absurd h9 c91) (fun h9 => absurd h9 c92)]; exact hS
    exact jJ ⟨s84, ha.keeps [1, 4, 8, 11, 10] _ rfl, hS⟩
   refine jU ha rfl (xG c89) ?_;refine jX [0, 1, 2, 3] (jQ [(0, 43, .slice s84.A s84.n s84.c)] ha fun a ha => ?_);refine jW (qY 44 [iv 2] 3 (fun b => .slice (some ⟨b, 0, none⟩) 1 1) ha hS fun b93 w a hb94 hS ha => ?_);refine jW (o_ap 45 4 0 (SX.encI ((lintF l f x2 b x 1) ++ [2])) ha hS rfl rfl (by rw [encI_length]; have h9 : (lintF l f x2 b x 1).length ≤ 6 := Nat.le_trans (List.length_filter_le _ _) (by decide); have h8 : (lintF l f x2 b x 5).length ≤ 6 := Nat.le_trans (List.length_filter_le _ _) (by decide); simp only [List.length_cons, List.length_nil] at *; omega) (encI_snoc _ _) fun s98 w a hS hn99 ha => ?_);refine jQ [(3, 10, .slice s98.A s98.n s98.c)] ha fun a ha => ?_;refine jY (in_n ?_);replace hS := hS.pickN 7 [3, 5, 4, 6];replace hS : Sat w0 w ((SX.blk b5 [iv x.f0, iv x.f1, iv x.f2] 72) :: (SX.blk b1 [.slice s.A s.n s.c] 30) :: (rI s98 (lintF l f x2 b x 5)) :: (rI sd (dfrP l)) :: Rs) := by rw [sw_7y c88 c89]; exact hS
   exact jJ ⟨s98, ha.keeps [1, 4, 8, 11, 10] _ rfl, hS⟩
  replace ha := ha.turn 39 (.bool false) rfl (congrArg Value.bool (decide_eq_false c88))
  replace ha := ha.turn 40 (.bool false) rfl (congrArg Value.bool (decide_eq_false c88))
  refine jQ [(4, 41, undef), (5, 42, .bool false), (6, 36, .bool false)] ha fun a ha => ?_
  refine jY (jJ ?_)
  refine jK ha rfl rfl ?_
  refine wp_seq (jX [0, 1, 2, 3, 4, 5, 6] (jQ [(0, 47, ptr b5 0)] ha fun a ha => ?_))
  refine qZ (d := 48) (b := b5) (j := 0) ha (hS.blk 2 rfl) rfl fun a ha => ?_
  refine jQ [(2, 49, .bool (decide (x.f0 = 9))), (3, 50, .bool (decide (x.f0 = 9)))] ha fun a ha => ?_
  by_cases c100 : x.f0 = 9
  ·
   replace ha := ha.turn 49 (.bool true) rfl (congrArg Value.bool (decide_eq_true c100));replace ha := ha.turn 50 (.bool true) rfl (congrArg Value.bool (decide_eq_true c100));refine jQ [(4, 51, .bool (!((dfrB l f)))), (5, 52, .bool (!((dfrB l f)))), (6, 46, .bool (!((dfrB l f))))] ha fun a ha => ?_;refine jY (jJ ?_)
   rcases Bool.eq_false_or_eq_true (dfrB l f) with c101 | c101
   ·
    refine jK ha rfl (xU c101) ?_;refine wp_seq (jX [0, 1, 2, 3, 4, 5, 6, 7, 8, 9, 10] (jQ [(0, 57, ptr b5 0)] ha fun a ha => ?_));refine qZ (d := 58) (b := b5) (j := 0) ha (hS.blk 2 rfl) rfl fun a ha => ?_;refine jQ [(2, 59, .bool (decide (x.f0 = 11))), (3, 60, .bool (decide (x.f0 = 11)))] ha fun a ha => ?_
    by_cases c102 : x.f0 = 11
    ·
     exfalso; omega
    replace ha := ha.turn 59 (.bool false) rfl (congrArg Value.bool (decide_eq_false c102));replace ha := ha.turn 60 (.bool false) rfl (congrArg Value.bool (decide_eq_false c102));refine jQ [(4, 61, undef), (5, 62, undef), (6, 63, undef), (7, 64, undef), (8, 65, undef), (9, 66, .bool false), (10, 56, .bool false)] ha fun a ha => ?_;refine jY ?_;replace ha := ha.as [(1, iv f), (2, iv x2), (4, ptr b1 0), (8, .slice none 0 0), (9, .slice sb.A sb.n sb.c), (11, ptr b5 0), (10, .slice s84.A s84.n s84.c), (56, .bool false)] rfl;refine jJ ?_;refine jK ha rfl rfl ?_;refine wp_seq (jX [0, 1, 2, 3, 4, 5, 6, 7, 8, 9, 10, 11, 12] (jQ [(0, 71, ptr b5 0)] ha fun a ha => ?_));refine qZ (d := 72) (b := b5) (j := 0) ha (hS.blk 2 rfl) rfl fun a ha => ?_;refine jQ [(2, 73, .bool (decide (x.f0 = 5))), (3, 74, .bool (decide (x.f0 = 5)))] ha fun a ha => ?_
    by_cases c103 : x.f0 = 5
    ·
     exfalso; omega
    replace ha := ha.turn 73 (.bool false) rfl (congrArg Value.bool (decide_eq_false c103));replace ha := ha.turn 74 (.bool false) rfl (congrArg Value.bool (decide_eq_false c103));refine jQ [(4, 75, undef), (5, 76, undef), (6, 77, undef), (7, 78, undef), (8, 79, undef), (9, 80, undef), (10, 81, undef), (11, 82, .bool false), (12, 70, .bool false)] ha fun a ha => ?_;refine jY ?_;replace ha := ha.as [(1, iv f), (4, ptr b1 0), (8, .slice none 0 0), (11, ptr b5 0), (10, .slice s84.A s84.n s84.c), (70, .bool false)] rfl;refine jJ ?_;refine jK ha rfl rfl ?_;refine wp_skip (in_n ?_);replace hS := hS.pickN 6 [2, 4, 3, 5];replace hS : Sat w0 w ((SX.blk b5 [iv x.f0, iv x.f1, iv x.f2] 72) :: (SX.blk b1 [.slice s.A s.n s.c] 30) :: (rI s84 (lintF l f x2 b x 5)) :: (rI sd (dfrP l)) :: Rs) := by rw [sw_no (fun h9 => absurd h9 c88) (fun h9 => c101) (fun h9 => absurd h9 c102) (fun h9 => absurd h9 c103)]; exact hS
    exact jJ ⟨s84, ha.keeps [1, 4, 8, 11, 10] _ rfl, hS⟩
   refine jU ha rfl (xG c101) ?_;refine jX [0, 1, 2, 3] (jQ [(0, 53, .slice s84.A s84.n s84.c)] ha fun a ha => ?_);refine jW (qY 54 [iv 3] 3 (fun b => .slice (some ⟨b, 0, none⟩) 1 1) ha hS fun b104 w a hb105 hS ha => ?_);refine jW (o_ap 55 4 0 (SX.encI ((lintF l f x2 b x 1) ++ [3])) ha hS rfl rfl (by rw [encI_length]; have h9 : (lintF l f x2 b x 1).length ≤ 6 := Nat.le_trans (List.length_filter_le _ _) (by decide); have h8 : (lintF l f x2 b x 5).length ≤ 6 := Nat.le_trans (List.length_filter_le _ _) (by decide); simp only [List.length_cons, List.length_nil] at *; omega) (encI_snoc _ _) fun s109 w a hS hn110 ha => ?_);refine jQ [(3, 10, .slice s109.A s109.n s109.c)] ha fun a ha => ?_;refine jY ?_;replace ha := ha.as [(1, iv f), (4, ptr b1 0), (8, .slice none 0 0), (11, ptr b5 0), (10, .slice s109.A s109.n s109.c)] rfl;refine in_n ?_;replace hS := hS.pickN 7 [3, 5, 4, 6];replace hS : Sat w0 w ((SX.blk b5 [iv x.f0, iv x.f1, iv x.f2] 72) :: (SX.blk b1 [.slice s.A s.n s.c] 30) :: (rI s109 (lintF l f x2 b x 5)) :: (rI sd (dfrP l)) :: Rs) := by rw [sw_9y c100 c101]; exact hS
   exact jJ ⟨s109, ha.keeps [1, 4, 8, 11, 10] _ rfl, hS⟩
  replace ha := ha.turn 49 (.bool false) rfl (congrArg Value.bool (decide_eq_false c100))
  replace ha := ha.turn 50 (.bool false) rfl (congrArg Value.bool (decide_eq_false c100))
  refine jQ [(4, 51, undef), (5, 52, .bool false), (6, 46, .bool false)] ha fun a ha => ?_
  refine jY (jJ ?_)
  refine jK ha rfl rfl ?_
  refine wp_seq (jX [0, 1, 2, 3, 4, 5, 6, 7, 8, 9, 10] (jQ [(0, 57, ptr b5 0)] ha fun a ha => ?_))
  refine qZ (d := 58) (b := b5) (j := 0) ha (hS.blk 2 rfl) rfl fun a ha => ?_
  refine jQ [(2, 59, .bool (decide (x.f0 = 11))), (3, 60, .bool (decide (x.f0 = 11)))] ha fun a ha => ?_
  by_cases c111 : x.f0 = 11
  ·
   replace ha := ha.turn 59 (.bool true) rfl (congrArg Value.bool (decide_eq_true c111));replace ha := ha.turn 60 (.bool true) rfl (congrArg Value.bool (decide_eq_true c111));refine jQ [(4, 61, ptr b5 1)] ha fun a ha => ?_;refine qZ (d := 62) (b := b5) (j := 1) ha (hS.blk 2 rfl) rfl fun a ha => ?_;refine jQ [(6, 63, iv x2)] ha fun a ha => ?_;refine xJ 64 (x2 + 1) ha fun a ha => ?_;refine jQ [(8, 65, .bool (decide (x.f1 = (x2 + 1)))), (9, 66, .bool (decide (x.f1 = (x2 + 1)))), (10, 56, .bool (decide (x.f1 = (x2 + 1))))] ha fun a ha => ?_;refine jY ?_;replace ha := ha.as [(1, iv f), (2, iv x2), (4, ptr b1 0), (8, .slice none 0 0), (9, .slice sb.A sb.n sb.c), (11, ptr b5 0), (10, .slice s84.A s84.n s84.c), (56, .bool (decide (x.f1 = (x2 + 1))))] rfl;refine jJ ?_
   by_cases c112 : x.f1 = (x2 + 1)
   ·
    refine jU ha rfl (decide_eq_true c112) ?_;refine jX [0, 1, 2, 3] (jQ [(0, 67, .slice s84.A s84.n s84.c)] ha fun a ha => ?_);refine jW (qY 68 [iv 5] 3 (fun b => .slice (some ⟨b, 0, none⟩) 1 1) ha hS fun b113 w a hb114 hS ha => ?_);refine jW (o_ap 69 4 0 (SX.encI ((lintF l f x2 b x 1) ++ [5])) ha hS rfl rfl (by rw [encI_length]; have h9 : (lintF l f x2 b x 1).length ≤ 6 := Nat.le_trans (List.length_filter_le _ _) (by decide); have h8 : (lintF l f x2 b x 5).length ≤ 6 := Nat.le_trans (List.length_filter_le _ _) (by decide); simp only [List.length_cons, List.length_nil] at *; omega) (encI_snoc _ _) fun s118 w a hS hn119 ha => ?_);refine jQ [(3, 10, .slice s118.A s118.n s118.c)] ha fun a ha => ?_;refine jY (in_n ?_);replace hS := hS.pickN 7 [3, 5, 4, 6];replace hS : Sat w0 w ((SX.blk b5 [iv x.f0, iv x.f1, iv x.f2] 72) :: (SX.blk b1 [.slice s.A s.n s.c] 30) :: (rI s118 (lintF l f x2 b x 5)) :: (rI sd (dfrP l)) :: Rs) := by rw [sw_11y c111 c112]; exact hS
    exact jJ ⟨s118, ha.keeps [1, 4, 8, 11, 10] _ rfl, hS⟩
   refine jK ha rfl (decide_eq_false c112) ?_;refine wp_seq (jX [0, 1, 2, 3, 4, 5, 6, 7, 8, 9, 10, 11, 12] (jQ [(0, 71, ptr b5 0)] ha fun a ha => ?_));refine qZ (d := 72) (b := b5) (j := 0) ha (hS.blk 2 rfl) rfl fun a ha => ?_;refine jQ [(2, 73, .bool (decide (x.f0 = 5))), (3, 74, .bool (decide (x.f0 = 5)))] ha fun a ha => ?_
   by_cases c120 : x.f0 = 5
   ·
    exfalso; omega
   replace ha := ha.turn 73 (.bool false) rfl (congrArg Value.bool (decide_eq_false c120));replace ha := ha.turn 74 (.bool false) rfl (congrArg Value.bool (decide_eq_false c120));refine jQ [(4, 75, undef), (5, 76, undef), (6, 77, undef), (7, 78, undef), (8, 79, undef), (9, 80, undef), (10, 81, undef), (11, 82, .bool false), (12, 70, .bool false)] ha fun a ha => ?_;refine jY ?_;replace ha := ha.as [(1, iv f), (4, ptr b1 0), (8, .slice none 0 0), (11, ptr b5 0), (10, .slice s84.A s84.n s84.c), (70, .bool false)] rfl;refine jJ ?_;refine jK ha rfl rfl ?_;refine wp_skip (in_n ?_);replace hS := hS.pickN 6 [2, 4, 3, 5];replace hS : Sat w0 w ((SX.blk b5 [iv x.f0, iv x.f1, iv x.f2] 72) :: (SX.blk b1 [.slice s.A s.n s.c] 30) :: (rI s84 (lintF l f x2 b x 5)) :: (rI sd (dfrP l)) :: Rs) := by rw [sw_no (fun h9 => absurd h9 c88) (fun h9 => absurd h9 c100) (fun h9 => c112) (fun h9 => absurd h9 c120)]; exact hS
   exact jJ ⟨s84, ha.keeps [1, 4, 8, 11, 10] _ rfl, hS⟩
  replace ha := ha.turn 59 (.bool false) rfl (congrArg Value.bool (decide_eq_false c111))
  replace ha := ha.turn 60 (.bool false) rfl (congrArg Value.bool (decide_eq_false c111))
  refine jQ [(4, 61, undef), (5, 62, undef), (6, 63, undef), (7, 64, undef), (8, 65, undef), (9, 66, .bool false), (10, 56, .bool false)] ha fun a ha => ?_
  refine jY ?_
  replace ha := ha.as [(1, iv f), (2, iv x2), (4, ptr b1 0), (8, .slice none 0 0), (9, .slice sb.A sb.n sb.c), (11, ptr b5 0), (10, .slice s84.A s84.n s84.c), (56, .bool false)] rfl
  refine jJ ?_
  refine jK ha rfl rfl ?_
  refine wp_seq (jX [0, 1, 2, 3, 4, 5, 6, 7, 8, 9, 10, 11, 12] (jQ [(0, 71, ptr b5 0)] ha fun a ha => ?_))
  refine qZ (d := 72) (b := b5) (j := 0) ha (hS.blk 2 rfl) rfl fun a ha => ?_
  refine jQ [(2, 73, .bool (decide (x.f0 = 5))), (3, 74, .bool (decide (x.f0 = 5)))] ha fun a ha => ?_
  by_cases c121 : x.f0 = 5
  ·
   replace ha := ha.turn 73 (.bool true) rfl (congrArg Value.bool (decide_eq_true c121));replace ha := ha.turn 74 (.bool true) rfl (congrArg Value.bool (decide_eq_true c121));refine jQ [(4, 75, .slice sb.A sb.n sb.c), (5, 76, .slice sb.A sb.n sb.c), (6, 77, iv x2)] ha fun a ha => ?_;refine jW (qQ 78 (vs := [.slice sb.A sb.n sb.c, iv x2]) ha (leadsI_sat hS hrb hx2 (by omega) hx) fun v122 w a hp123 ha => ?_);obtain ⟨ro2, rfl, hS⟩ := hp123;replace hS : Sat w0 w ((rI ro2 (leadsP b.length x x2)) :: (SX.blk b79 [iv 1] 3) :: (rI co1 (openL b [0])) :: (SX.blk b5 [iv x.f0, iv x.f1, iv x.f2] 72) :: (rI s84 (lintF l f x2 b x 1)) :: (SX.blk b1 [.slice s.A s.n s.c] 30) :: (rI sd (dfrP l)) :: Rs) := hS;refine jW (qQ 79 (vs := [.slice sb.A sb.n sb.c, .slice ro2.A ro2.n ro2.c]) ha (comes_sat (sa := ro2) (L0 := (leadsP b.length x x2)) hS hrb hoj.1 (by omega) (fun y hy => (hlr y hy).1) (by have := leadsP_len b.length x x2; omega) hoj.2) fun v124 w a hp125 ha => ?_);obtain ⟨co3, rfl, hS⟩ := hp125;refine jQ [(9, 80, iv x2)] ha fun a ha => ?_;refine jW (qQ 81 (vs := [.slice co3.A co3.n co3.c, iv x2]) ha (ocont_sat hS (hS.rdRow (s := co3) 0 rfl) x2) fun v126 w a hp127 ha => ?_);obtain ⟨rfl, hS⟩ := hp127;refine jQ [(11, 82, .bool ((openL b (leadsP b.length x x2)).contains x2)), (12, 70, .bool ((openL b (leadsP b.length x x2)).contains x2))] ha fun a ha => ?_;refine jY ?_;replace ha := ha.as [(1, iv f), (4, ptr b1 0), (8, .slice none 0 0), (11, ptr b5 0), (10, .slice s84.A s84.n s84.c), (70, .bool ((openL b (leadsP b.length x x2)).contains x2))] rfl;refine jJ ?_
   rcases Bool.eq_false_or_eq_true ((openL b (leadsP b.length x x2)).contains x2) with c128 | c128
   ·
    refine jU ha rfl c128 ?_;refine jX [0, 1, 2, 3] (jQ [(0, 83, .slice s84.A s84.n s84.c)] ha fun a ha => ?_);refine jW (qY 84 [iv 6] 3 (fun b => .slice (some ⟨b, 0, none⟩) 1 1) ha hS fun b129 w a hb130 hS ha => ?_);refine jW (o_ap 85 5 0 (SX.encI ((lintF l f x2 b x 1) ++ [6])) ha hS rfl rfl (by rw [encI_length]; have h9 : (lintF l f x2 b x 1).length ≤ 6 := Nat.le_trans (List.length_filter_le _ _) (by decide); have h8 : (lintF l f x2 b x 5).length ≤ 6 := Nat.le_trans (List.length_filter_le _ _) (by decide); simp only [List.length_cons, List.length_nil] at *; omega) (encI_snoc _ _) fun s134 w a hS hn135 ha => ?_);refine jQ [(3, 10, .slice s134.A s134.n s134.c)] ha fun a ha => ?_;refine jY (in_n ?_);replace hS := hS.pickN 8 [4, 6, 5, 7];replace hS : Sat w0 w ((SX.blk b5 [iv x.f0, iv x.f1, iv x.f2] 72) :: (SX.blk b1 [.slice s.A s.n s.c] 30) :: (rI s134 (lintF l f x2 b x 5)) :: (rI sd (dfrP l)) :: Rs) := by rw [sw_5y c121 c128]; exact hS
    exact jJ ⟨s134, ha.keeps [1, 4, 8, 11, 10] _ rfl, hS⟩
   refine jK ha rfl c128 ?_;refine wp_skip (in_n ?_);replace hS := hS.pickN 7 [3, 5, 4, 6];replace hS : Sat w0 w ((SX.blk b5 [iv x.f0, iv x.f1, iv x.f2] 72) :: (SX.blk b1 [.slice s.A s.n s.c] 30) :: (rI s84 (lintF l f x2 b x 5)) :: (rI sd (dfrP l)) :: Rs) := by rw [sw_no (fun h9 => absurd h9 c88) (fun h9 => absurd h9 c100) (fun h9 => absurd h9 c111) (fun h9 => c128)]; exact hS
   exact jJ ⟨s84, ha.keeps [1, 4, 8, 11, 10] _ rfl, hS⟩
  replace ha := ha.turn 73 (.bool false) rfl (congrArg Value.bool (decide_eq_false c121))
  replace ha := ha.turn 74 (.bool false) rfl (congrArg Value.bool (decide_eq_false c121))
  refine jQ [(4, 75, undef), (5, 76, undef), (6, 77, undef), (7, 78, undef), (8, 79, undef), (9, 80, undef), (10, 81, undef), (11, 82, .bool false), (12, 70, .bool false)] ha fun a ha => ?_
  refine jY ?_
  replace ha := ha.as [(1, iv f), (4, ptr b1 0), (8, .slice none 0 0), (11, ptr b5 0), (10, .slice s84.A s84.n s84.c), (70, .bool false)] rfl
  refine jJ ?_
  refine jK ha rfl rfl ?_
  refine wp_skip (in_n ?_)
  replace hS := hS.pickN 6 [2, 4, 3, 5]
  replace hS : Sat w0 w ((SX.blk b5 [iv x.f0, iv x.f1, iv x.f2] 72) :: (SX.blk b1 [.slice s.A s.n s.c] 30) :: (rI s84 (lintF l f x2 b x 5)) :: (rI sd (dfrP l)) :: Rs) := by rw [sw_no (fun h9 => absurd h9 c88) (fun h9 => absurd h9 c100) (fun h9 => absurd h9 c111) (fun h9 => absurd h9 c121)]; exact hS
  exact jJ ⟨s84, ha.keeps [1, 4, 8, 11, 10] _ rfl, hS⟩
 rintro a w ⟨o, ha, hS⟩
 refine wp_seq (wp_seq (jX [0, 1, 2, 3, 4, 5, 6, 7, 8, 9] (xH 86 ha (hS.blk 0 rfl) fun a ha => ?_)))
 refine jW (qQ 87 (vs := [.agg #[iv x.f0, iv x.f1, iv x.f2]]) ha (calls_sat (x := x) hS) fun v136 w a hp137 ha => ?_)
 obtain ⟨rfl, hS⟩ := hp137
 refine jQ [(2, 88, .bool (callB x))] ha fun a ha => ?_
 rcases Bool.eq_false_or_eq_true (callB x) with c138 | c138
 ·
  replace ha := ha.turn 87 (.bool true) rfl (congrArg Value.bool c138)
  replace ha := ha.turn 88 (.bool true) rfl (congrArg Value.bool c138)
  refine xH 89 ha (hS.blk 1 rfl) fun a ha => ?_
  refine jQ [(4, 90, ptr b5 1)] ha fun a ha => ?_
  refine qZ (d := 91) (b := b5) (j := 1) ha (hS.blk 0 rfl) rfl fun a ha => ?_
  refine jW (qQ 92 (vs := [.agg #[.slice s.A s.n s.c], iv x.f1]) ha (reachI_sat hS hr hf hpg (okC_of hpg (List.mem_of_getElem? hb) x (List.mem_of_getElem? hx) (callB_yes c138))) fun v139 w a hp140 ha => ?_)
  obtain ⟨rr2, rfl, hS⟩ := hp140
  refine jQ [(7, 93, iv f)] ha fun a ha => ?_
  refine jW (qQ 94 (vs := [.slice rr2.A rr2.n rr2.c, iv f]) ha (ocont_sat hS (hS.rdRow (s := rr2) 0 rfl) f) fun v141 w a hp142 ha => ?_)
  obtain ⟨rfl, hS⟩ := hp142
  refine jQ [(9, 95, .bool ((reachP l x.f1).contains f))] ha fun a ha => ?_
  refine jY (jJ ?_)
  rcases Bool.eq_false_or_eq_true ((reachP l x.f1).contains f) with c143 | c143
  ·
   refine jU ha rfl c143 ?_;refine jX [0, 1, 2, 3] (jQ [(0, 96, .slice o.A o.n o.c)] ha fun a ha => ?_);refine jW (qY 97 [iv 7] 3 (fun b => .slice (some ⟨b, 0, none⟩) 1 1) ha hS fun b144 w a hb145 hS ha => ?_);refine jW (o_ap 98 4 0 (SX.encI ((lintF l f x2 b x 5) ++ [7])) ha hS rfl rfl (by rw [encI_length]; have h9 : (lintF l f x2 b x 1).length ≤ 6 := Nat.le_trans (List.length_filter_le _ _) (by decide); have h8 : (lintF l f x2 b x 5).length ≤ 6 := Nat.le_trans (List.length_filter_le _ _) (by decide); simp only [List.length_cons, List.length_nil] at *; omega) (encI_snoc _ _) fun s149 w a hS hn150 ha => ?_);refine jQ [(3, 10, .slice s149.A s149.n s149.c)] ha fun a ha => ?_;refine jY (jJ (wp_seq (jX [0, 1] (jQ [(0, 99, .slice s149.A s149.n s149.c), (1, 8, .slice s149.A s149.n s149.c)] ha fun a ha => ?_))));refine jY (jJ (wp_ret (jG ha (by kernel_rfl) (qK (t := 8) ha rfl) ?_)));rw [en_y c138 c143];exact ⟨s149, rfl, hS.pickN 6 [4, 5]⟩
  refine jK ha rfl c143 ?_
  refine wp_skip (jJ (wp_seq (jX [0, 1] (jQ [(0, 99, .slice o.A o.n o.c), (1, 8, .slice o.A o.n o.c)] ha fun a ha => ?_))))
  refine jY (jJ (wp_ret (jG ha (by kernel_rfl) (qK (t := 8) ha rfl) ?_)))
  rw [en_n2 c143]
  exact ⟨o, rfl, hS.pickN 5 [3, 4]⟩
 replace ha := ha.turn 87 (.bool false) rfl (congrArg Value.bool c138)
 replace ha := ha.turn 88 (.bool false) rfl (congrArg Value.bool c138)
 refine jQ [(3, 89, undef), (4, 90, undef), (5, 91, undef), (6, 92, undef), (7, 93, undef), (8, 94, undef), (9, 95, .bool false)] ha fun a ha => ?_
 refine jY (jJ ?_)
 refine jK ha rfl rfl ?_
 refine wp_skip (jJ (wp_seq (jX [0, 1] (jQ [(0, 99, .slice o.A o.n o.c), (1, 8, .slice o.A o.n o.c)] ha fun a ha => ?_))))
 refine jY (jJ (wp_ret (jG ha (by kernel_rfl) (qK (t := 8) ha rfl) ?_)))
 rw [en_n1 c138]
 exact ⟨o, rfl, hS.pickN 4 [2, 3]⟩
theorem code135 : Try.f135.body = some (Code.seq (cr Try.f135 0 false) (Code.seq (cr Try.f135 1 false) (Code.seq (Code.seq (cr Try.f135 2 false) (Code.block 0 (Code.loop (Code.seq (Code.seq (cr Try.f135 3 false) (Code.cond (Operand.tmp 11) Code.skip (Code.exit 0))) (Code.seq (Code.block 1 (Code.seq (cr Try.f135 5 false) (Code.block 2 (Code.loop (Code.seq (Code.seq (cr Try.f135 6 false) (Code.cond (Operand.tmp 21) Code.skip (Code.exit 2))) (Code.seq (Code.block 3 (Code.seq (cr Try.f135 8 false) (Code.cond (Operand.tmp 33) (cr Try.f135 9 false) Code.skip))) (cr Try.f135 7 false))))))) (cr Try.f135 4 false)))))) (Code.seq (cr Try.f135 10 false) Code.ret)))) := by kernel_rfl
theorem dfr_sat {w0 w : World} {Rs : List Asn} {s : Sl} {l : List (List ST)} (hS : Sat w0 w Rs) (hr : RdP w0 s l) (hf : Fits l) (hpg : programB l = true) :
  Calls Try.prog 135 #[.agg #[.slice s.A s.n s.c]] w (Ret fun r w' => ∃ o : Sl, r = .slice o.A o.n o.c ∧ Sat w0 w' (SX.row (.slice o.A o.n o.c) 3 1 (SX.encI (dfrQ l)) :: Rs)) := by
 have hsh := prog_short hpg
 have hlen := hf.len
 have hsn := hr.len
 refine enter (n := 46) Try.func135 code135 (by kernel_rfl) (Nat.le_of_ble_eq_true rfl) (fun a ha => ?_)
 replace ha : Has 46 [(0, .agg #[.slice s.A s.n s.c])] a := ha
 refine wp_seq (jX [0, 1] (jW (qY 1 [.slice s.A s.n s.c] 30 (ptr · 0) ha hS fun b1 w a hb2 hS ha => ?_)))
 refine jQ [(1, 2, .slice none 0 0)] ha fun a ha => ?_
 refine jY (jJ (wp_seq (jX [0, 1] (jW (qY 6 [] 3 (fun b => .slice (some ⟨b, 0, none⟩) 0 0) ha hS fun b3 w a hb4 hS ha => ?_)))))
 refine jQ [(1, 3, .slice (some ⟨b3, 0, none⟩) 0 0)] ha fun a ha => ?_
 refine jY (jJ (wp_seq (wp_seq (jX [0] (jQ [(0, 4, iv 0)] ha fun a ha => ?_)))))
 refine jY (jJ (wp_block ?_))
 replace hS := hS.blk0 1 0 rfl
 replace hS := hS.pickN 2 [1, 0]
 replace hS : Sat w0 w ((SX.blk b1 [.slice s.A s.n s.c] 30) :: (rI (⟨some ⟨b3, 0, none⟩, 0, 0⟩ : Sl) (asc ((l.take 0).flatMap (numsOf [5])))) :: Rs) := by rw [show asc ((l.take 0).flatMap (numsOf [5])) = [] from asc_nil]; exact hS
 refine wp_loop_ghost (fun n_ a_ w_ => ∃ (i : Nat) (o : Sl), n_ = l.length - i ∧ (i ≤ l.length) ∧ Has 46 [(1, ptr b1 0), (2, .slice none 0 0), (3, .slice o.A o.n o.c), (4, iv (i : Int))] a_ ∧ Sat w0 w_ ((SX.blk b1 [.slice s.A s.n s.c] 30) :: (rI o (asc ((l.take i).flatMap (numsOf [5])))) :: Rs)) _ ⟨0, ⟨some ⟨b3, 0, none⟩, 0, 0⟩, rfl, Nat.zero_le _, ha.keeps [1, 2, 3, 4] _ rfl, hS⟩ ?_
 rintro n_ a w ⟨i, o, rfl, hi, ha, hS⟩
 refine wp_seq (wp_seq (jX [0, 1, 2, 3, 4] (jQ [(0, 7, iv (i : Int)), (1, 8, ptr b1 0)] ha fun a ha => ?_)))
 refine qZ (d := 9) (b := b1) (j := 0) ha (hS.blk 0 rfl) rfl fun a ha => ?_
 refine jQ [(3, 10, iv (s.n : Int)), (4, 11, .bool (decide ((i : Int) < (s.n : Int))))] ha fun a ha => ?_
 refine jY (jJ ?_)
 by_cases c5 : (i : Int) < (s.n : Int)
 ·
  have hil : i < l.length := by omega
  obtain ⟨b, hb⟩ : ∃ b, l[i]? = some b := ⟨_, List.getElem?_eq_getElem hil⟩
  have hb8 := hsh.1 b (List.mem_of_getElem? hb)
  obtain ⟨hA0, sb, hcb, hrb⟩ := body_rd hr hb
  have hsb := hrb.len
  refine jU ha rfl (decide_eq_true c5) ?_
  refine wp_skip (jJ (wp_seq (wp_block (wp_seq (jX [0] (jQ [(0, 5, iv 0)] ha fun a ha => ?_))))))
  refine jY (jJ (wp_block ?_))
  replace hS : Sat w0 w ((SX.blk b1 [.slice s.A s.n s.c] 30) :: (rI o (asc ((l.take i).flatMap (numsOf [5])))) :: Rs) := hS
  replace hS : Sat w0 w ((SX.blk b1 [.slice s.A s.n s.c] 30) :: (rI o (asc (dqN l i b 0))) :: Rs) := by rw [dq_zero]; exact hS
  refine wp_loop_ghost (fun n_ a_ w_ => ∃ (j : Nat) (o2 : Sl), n_ = b.length - j ∧ (j ≤ b.length) ∧ Has 46 [(1, ptr b1 0), (2, .slice none 0 0), (4, iv (i : Int)), (7, iv (i : Int)), (8, ptr b1 0), (9, .slice s.A s.n s.c), (10, iv (s.n : Int)), (11, .bool (decide ((i : Int) < (s.n : Int)))), (3, .slice o2.A o2.n o2.c), (5, iv (j : Int))] a_ ∧ Sat w0 w_ ((SX.blk b1 [.slice s.A s.n s.c] 30) :: (rI o2 (asc (dqN l i b j))) :: Rs)) _ ⟨0, o, rfl, Nat.zero_le _, ha.keeps [1, 2, 4, 7, 8, 9, 10, 11, 3, 5] _ rfl, hS⟩ ?_
  rintro n_ a w ⟨j, o2, rfl, hj, ha, hS⟩
  refine wp_seq (wp_seq (jX [0, 1, 2, 3, 4, 5, 6, 7] (jQ [(0, 14, iv (j : Int)), (1, 15, ptr b1 0)] ha fun a ha => ?_)))
  refine qZ (d := 16) (b := b1) (j := 0) ha (hS.blk 0 rfl) rfl fun a ha => ?_
  refine jQ [(3, 17, iv (i : Int))] ha fun a ha => ?_
  refine qX (.pointer (some ⟨bk s, of_ s + i * 1, none⟩)) ha (xW (s := s) (el := 70) (sz := 1) (j := i) ha (xY (t := 28) (x := 16) (y := 17) (d := 18)) rfl rfl (by kernel_rfl) (by kernel_rfl) hA0 (by rw [hr.len]; omega)) fun a ha => ?_
  refine qX (.slice sb.A sb.n sb.c) ha (qV ha (xK (t := 70) (x := 18) (d := 19) (ty := 70)) rfl (by kernel_rfl) (fun w' hw => by rw [hw]; rw [Nat.mul_one]; exact pw_cell_below hS.below hcb)) fun a ha => ?_
  refine jQ [(6, 20, iv (sb.n : Int)), (7, 21, .bool (decide ((j : Int) < (sb.n : Int))))] ha fun a ha => ?_
  refine jY (jJ ?_)
  by_cases c6 : (j : Int) < (sb.n : Int)
  ·
   have hjl : j < b.length := by omega
   obtain ⟨x, hx⟩ : ∃ x, b[j]? = some x := ⟨_, List.getElem?_eq_getElem hjl⟩;refine jU ha rfl (decide_eq_true c6) ?_;refine wp_skip (jJ (wp_seq (wp_block (wp_seq (jX [0, 1, 2, 3, 4, 5, 6, 7, 8, 9] (jQ [(0, 24, ptr b1 0)] ha fun a ha => ?_))))));refine qZ (d := 25) (b := b1) (j := 0) ha (hS.blk 0 rfl) rfl fun a ha => ?_;refine jQ [(2, 26, iv (i : Int))] ha fun a ha => ?_;refine qX (.pointer (some ⟨bk s, of_ s + i * 1, none⟩)) ha (xW (s := s) (el := 70) (sz := 1) (j := i) ha (xY (t := 28) (x := 25) (y := 26) (d := 27)) rfl rfl (by kernel_rfl) (by kernel_rfl) hA0 (by rw [hr.len]; omega)) fun a ha => ?_;refine qX (.slice sb.A sb.n sb.c) ha (qV ha (xK (t := 70) (x := 27) (d := 28) (ty := 70)) rfl (by kernel_rfl) (fun w' hw => by rw [hw]; rw [Nat.mul_one]; exact pw_cell_below hS.below hcb)) fun a ha => ?_;refine jQ [(5, 29, iv (j : Int))] ha fun a ha => ?_;refine qX (.pointer (some ⟨bk sb, of_ sb + j * 3, none⟩)) ha (xZ (el := 72) (sz := 3) (j := j) ha (xY (t := 70) (x := 28) (y := 29) (d := 30)) rfl rfl (by kernel_rfl) (by kernel_rfl) (RdE.at_ (hrb.sat hS) _ _ hx).1 (rfl) (by rw [((hrb.sat hS)).len]; exact (List.getElem?_eq_some_iff.1 hx).1)) fun a ha => ?_;refine jQ [(7, 31, .pointer (some ⟨bk sb, of_ sb + j * 3, none⟩))] ha fun a ha => ?_;refine qX (iv x.f0) ha (qV ha (xK (t := 3) (x := 31) (d := 32) (ty := 3)) rfl (by kernel_rfl) (fun w' hw => by rw [hw]; exact (RdE.at_ (hrb.sat hS) _ _ hx).2 0 _ rfl)) fun a ha => ?_;refine jQ [(9, 33, .bool (decide (x.f0 = 5)))] ha fun a ha => ?_;refine jY (jJ ?_)
   by_cases c7 : x.f0 = 5
   ·
    refine jU ha rfl (decide_eq_true c7) ?_;refine jX [0, 1, 2, 3, 4, 5, 6, 7, 8, 9, 10, 11] (jQ [(0, 34, .slice o2.A o2.n o2.c), (1, 35, ptr b1 0)] ha fun a ha => ?_);refine qZ (d := 36) (b := b1) (j := 0) ha (hS.blk 0 rfl) rfl fun a ha => ?_;refine jQ [(3, 37, iv (i : Int))] ha fun a ha => ?_;refine qX (.pointer (some ⟨bk s, of_ s + i * 1, none⟩)) ha (xW (s := s) (el := 70) (sz := 1) (j := i) ha (xY (t := 28) (x := 36) (y := 37) (d := 38)) rfl rfl (by kernel_rfl) (by kernel_rfl) hA0 (by rw [hr.len]; omega)) fun a ha => ?_;refine qX (.slice sb.A sb.n sb.c) ha (qV ha (xK (t := 70) (x := 38) (d := 39) (ty := 70)) rfl (by kernel_rfl) (fun w' hw => by rw [hw]; rw [Nat.mul_one]; exact pw_cell_below hS.below hcb)) fun a ha => ?_;refine jQ [(6, 40, iv (j : Int))] ha fun a ha => ?_;refine qX (.pointer (some ⟨bk sb, of_ sb + j * 3, none⟩)) ha (xZ (el := 72) (sz := 3) (j := j) ha (xY (t := 70) (x := 39) (y := 40) (d := 41)) rfl rfl (by kernel_rfl) (by kernel_rfl) (RdE.at_ (hrb.sat hS) _ _ hx).1 (rfl) (by rw [((hrb.sat hS)).len]; exact (List.getElem?_eq_some_iff.1 hx).1)) fun a ha => ?_;refine jQ [(8, 42, .pointer (some ⟨bk sb, of_ sb + j * 3 + 1, none⟩))] ha fun a ha => ?_;refine qX (iv x.f1) ha (qV ha (xK (t := 3) (x := 42) (d := 43) (ty := 3)) rfl (by kernel_rfl) (fun w' hw => by rw [hw]; exact (RdE.at_ (hrb.sat hS) _ _ hx).2 1 _ rfl)) fun a ha => ?_;replace hS := hS.pickN 2 [1, 0];refine jW (qQ 44 (vs := [.slice o2.A o2.n o2.c, iv x.f1]) ha (put1_sat (x := x.f1) hS (Nat.le_trans (asc_le _) (by have := dq_len hsh.1 hsh.2 i hb8 j; omega))) fun v8 w a hp9 ha => ?_);obtain ⟨po1, rfl, hS⟩ := hp9;refine jQ [(11, 3, .slice po1.A po1.n po1.c)] ha fun a ha => ?_;refine jY (in_n (jJ (jX [0, 1, 2] (jQ [(0, 22, iv (j : Int))] ha fun a ha => ?_))));refine xJ 23 ((j : Int) + 1) ha fun a ha => ?_;refine jQ [(2, 5, iv ((j : Int) + 1))] ha fun a ha => ?_;refine jY (jJ ?_);replace hS := hS.pickN 2 [1, 0];replace hS : Sat w0 w ((SX.blk b1 [.slice s.A s.n s.c] 30) :: (rI po1 (asc (dqN l i b (j + 1)))) :: Rs) := by rw [dq_yes hx c7, ← asc_add]; exact hS
    exact ⟨_, by omega, j + 1, po1, rfl, hjl, ha.keeps [1, 2, 4, 7, 8, 9, 10, 11, 3, 5] _ rfl, hS⟩
   refine jK ha rfl (decide_eq_false c7) ?_;refine wp_skip (in_n (jJ (jX [0, 1, 2] (jQ [(0, 22, iv (j : Int))] ha fun a ha => ?_))));refine xJ 23 ((j : Int) + 1) ha fun a ha => ?_;refine jQ [(2, 5, iv ((j : Int) + 1))] ha fun a ha => ?_;refine jY (jJ ?_);replace hS : Sat w0 w ((SX.blk b1 [.slice s.A s.n s.c] 30) :: (rI o2 (asc (dqN l i b j))) :: Rs) := hS;replace hS : Sat w0 w ((SX.blk b1 [.slice s.A s.n s.c] 30) :: (rI o2 (asc (dqN l i b (j + 1)))) :: Rs) := by rw [dq_no hx c7]; exact hS
   exact ⟨_, by omega, j + 1, o2, rfl, hjl, ha.keeps [1, 2, 4, 7, 8, 9, 10, 11, 3, 5] _ rfl, hS⟩
  refine jK ha rfl (decide_eq_false c6) ?_
  refine wp_exit (qJ (qJ (in_x (in_n (jJ (jX [0, 1, 2] (jQ [(0, 12, iv (i : Int))] ha fun a ha => ?_)))))))
  refine xJ 13 ((i : Int) + 1) ha fun a ha => ?_
  refine jQ [(2, 4, iv ((i : Int) + 1))] ha fun a ha => ?_
  refine jY (jJ ?_)
  replace hS : Sat w0 w ((SX.blk b1 [.slice s.A s.n s.c] 30) :: (rI o2 (asc (dqN l i b j))) :: Rs) := hS
  have hje : j = b.length := by omega
  replace hS : Sat w0 w ((SX.blk b1 [.slice s.A s.n s.c] 30) :: (rI o2 (asc ((l.take (i + 1)).flatMap (numsOf [5])))) :: Rs) := by rw [dq_next hb, ← hje]; exact hS
  exact ⟨_, by omega, i + 1, o2, rfl, hil, ha.keeps [1, 2, 3, 4] _ rfl, hS⟩
 refine jK ha rfl (decide_eq_false c5) ?_
 refine wp_exit (qJ (qJ (in_x (jJ (wp_seq (jX [0, 1] (jQ [(0, 45, .slice o.A o.n o.c), (1, 2, .slice o.A o.n o.c)] ha fun a ha => ?_)))))))
 refine jY (jJ (wp_ret (jG ha (by kernel_rfl) (qK (t := 2) ha rfl) ?_)))
 have hie : i = l.length := by omega
 rw [hie, List.take_length] at hS
 exact ⟨o, rfl, hS.pickN 2 [1]⟩
theorem code78 : Try.f78.body = some (Code.seq (cr Try.f78 0 false) (Code.seq (cr Try.f78 1 true) (Code.seq (cr Try.f78 2 false) (Code.seq (cr Try.f78 3 false) (Code.seq (Code.seq (cr Try.f78 4 false) (Code.block 0 (Code.seq (cr Try.f78 5 false) (Code.cond (Operand.tmp 35) (Code.seq (cr Try.f78 6 false) Code.ret) (Code.seq (cr Try.f78 7 false) (Code.cond (Operand.tmp 42) (Code.seq (cr Try.f78 8 false) Code.ret) (Code.seq (cr Try.f78 9 false) (Code.cond (Operand.tmp 51) (Code.seq (cr Try.f78 10 false) Code.ret) (Code.seq (cr Try.f78 11 false) (Code.cond (Operand.tmp 60) (Code.seq (cr Try.f78 12 false) Code.ret) (Code.seq (cr Try.f78 13 false) (Code.cond (Operand.tmp 72) (Code.seq (cr Try.f78 14 false) Code.ret) (Code.seq (cr Try.f78 15 false) (Code.cond (Operand.tmp 86) (Code.seq (cr Try.f78 16 false) Code.ret) Code.skip)))))))))))))) (Code.seq (cr Try.f78 17 false) Code.ret)))))) := by kernel_rfl
theorem found_sat {w0 w : World} {Rs : List Asn} {s : Sl} {l : List (List ST)} {f x2 : Int} {b : List ST} {x : ST} {r9 : Int} (hS : Sat w0 w Rs) (hr : RdP w0 s l) (hf : Fits l) (hpg : programB l = true) (hyr : 0 ≤ f ∧ f < (l.length : Int)) (hb : l[f.toNat]? = some b) (hx2 : 0 ≤ x2 ∧ x2 < (b.length : Int)) (hx : b[x2.toNat]? = some x) :
  Calls Try.prog 78 #[.agg #[.slice s.A s.n s.c], iv r9, iv f, iv x2] w (Ret fun r w' => r = .bool (fndB l r9 f x2 b x) ∧ Sat w0 w' Rs) := by
 have hoj := okJ_of hpg (List.mem_of_getElem? hb)
 have hb8 := hoj.2
 obtain ⟨hA0, sb, hcb, hrb⟩ := body_rd hr hb
 have hsb := hrb.len
 have hlen := hf.len
 have hlr := leads_rng hoj.1 hx2 hx
 refine enter (n := 97) Try.func78 code78 (by kernel_rfl) (Nat.le_of_ble_eq_true rfl) (fun a ha => ?_)
 replace ha : Has 97 [(0, .agg #[.slice s.A s.n s.c]), (1, iv r9), (2, iv f), (3, iv x2)] a := ha
 refine wp_seq (jX [0, 1] (jW (qY 4 [.slice s.A s.n s.c] 30 (ptr · 0) ha hS fun b1 w a hb2 hS ha => ?_)))
 refine jQ [(1, 8, .bool false)] ha fun a ha => ?_
 refine jY (jJ (wp_seq (yX 11 11 (hS.pickN 1 [0]) hS fun w hS => ?_)))
 refine qH (k := 10) [(0, 13, ptr b1 0)] ha (.inr (hS.pickN 1 [0])) fun a ha => ?_
 refine yZ 1 (d := 14) (b := b1) (j := 0) ha (hS.pickN 1 [0]) (fun _ hw => hw.blk 0 rfl) rfl fun a ha => ?_
 refine qH (k := 8) [(2, 15, iv f)] ha (.inr (hS.pickN 1 [0])) fun a ha => ?_
 refine yY 3 (.pointer (some ⟨bk s, of_ s + f.toNat * 1, none⟩)) ha (xZ (s := s) (el := 70) (sz := 1) (j := f.toNat) ha (xY (t := 28) (x := 14) (y := 15) (d := 16)) rfl rfl (by kernel_rfl) (by kernel_rfl) hA0 (Int.toNat_of_nonneg hyr.1).symm (by rw [hr.len]; omega)) (.inr (hS.pickN 1 [0])) fun a ha => ?_
 refine yU 4 (.slice sb.A sb.n sb.c) ha (qV ha (xK (t := 70) (x := 16) (d := 17) (ty := 70)) rfl (by kernel_rfl) (fun w' hw => by rw [Nat.mul_one]; exact pw_cell_below (Sat.below hw) hcb)) (hS.pickN 1 [0]) fun a ha => ?_
 refine zK 5 18 ha (hS.pickN 1 [0]) (fun _ hw => hw.blk 0 rfl) fun a ha => ?_
 refine qH (k := 4) [(7, 20, iv f)] ha (.inr (hS.pickN 1 [0])) fun a ha => ?_
 refine xX 6 (qQ 19 (vs := [.agg #[.slice s.A s.n s.c]]) ha (dfr_sat hS hr hf hpg) fun v3 w a hp4 ha => ?_)
 obtain ⟨dq1, rfl, hS⟩ := hp4
 refine ⟨.inr (hS.pickN 2 [1]), ?_⟩
 refine xX 8 (qQ 21 (vs := [.slice dq1.A dq1.n dq1.c, iv f]) ha (bool_eq (dfrQ_cont l f) (bhas_sat hS (hS.rdRow (s := dq1) 0 rfl))) fun v5 w a hp6 ha => ?_)
 obtain ⟨rfl, hS⟩ := hp6
 refine ⟨.inr (hS.pickN 2 [1]), ?_⟩
 refine qH (k := 0) [(9, 9, .slice sb.A sb.n sb.c), (10, 10, .bool (dfrB l f))] ha (.inr (hS.pickN 2 [1])) fun a ha => ?_
 refine yQ (jJ (wp_seq (jX [0, 1, 2, 3, 4, 5] (jQ [(0, 22, .slice sb.A sb.n sb.c), (1, 23, iv x2)] ha fun a ha => ?_))))
 refine qX (.pointer (some ⟨bk sb, of_ sb + x2.toNat * 3, none⟩)) ha (xZ (el := 72) (sz := 3) (j := x2.toNat) ha (xY (t := 70) (x := 22) (y := 23) (d := 24)) rfl rfl (by kernel_rfl) (by kernel_rfl) (RdE.at_ (hrb.sat hS) _ _ hx).1 ((Int.toNat_of_nonneg hx2.1).symm) (by rw [((hrb.sat hS)).len]; exact (List.getElem?_eq_some_iff.1 hx).1)) fun a ha => ?_
 refine qX (.agg #[iv x.f0, iv x.f1, iv x.f2]) ha (v_loadE (b := bk sb) (f := of_ sb + x2.toNat * 3) (vs := [iv x.f0, iv x.f1, iv x.f2]) ha (xK (t := 72) (x := 24) (d := 25) (ty := 72)) rfl (by kernel_rfl) (fun w' hw o u hu => by rw [hw]; exact (RdE.at_ (hrb.sat hS) _ _ hx).2 o u hu)) fun a ha => ?_
 refine jW (qY 11 [iv 0, iv 0, iv 0] 72 (ptr · 0) ha hS fun b7 w a hb8 hS ha => ?_)
 refine jW (o_sa 0 ha (zJ (t := 72) (x := 11) (y := 25)) hS fun w a hS ha => ?_)
 refine jY (jJ (wp_seq (jX [0, 1, 2, 3, 4, 5, 6, 7, 8] (jQ [(0, 26, ptr b7 0)] ha fun a ha => ?_))))
 refine qZ (d := 27) (b := b7) (j := 0) ha (hS.blk 0 rfl) rfl fun a ha => ?_
 refine jQ [(2, 28, .bool (decide (x.f0 = 4))), (3, 29, .bool (decide (x.f0 = 4)))] ha fun a ha => ?_
 by_cases c9 : x.f0 = 4
 ·
  replace ha := ha.turn 28 (.bool true) rfl (congrArg Value.bool (decide_eq_true c9))
  replace ha := ha.turn 29 (.bool true) rfl (congrArg Value.bool (decide_eq_true c9))
  refine jQ [(4, 30, undef), (5, 31, undef), (6, 32, undef), (7, 33, .bool true), (8, 12, .bool true)] ha fun a ha => ?_
  refine jY ?_
  replace ha := ha.as [(1, iv r9), (2, iv f), (3, iv x2), (4, ptr b1 0), (8, .bool false), (9, .slice sb.A sb.n sb.c), (10, .bool (dfrB l f)), (11, ptr b7 0), (12, .bool true)] rfl
  refine jJ (wp_seq (wp_seq (jX [0] (jQ [(0, 34, iv r9)] ha fun a ha => ?_))))
  refine jY (jJ (wp_block (wp_seq (jX [0, 1] (jQ [(0, 36, .bool (decide (r9 = 1))), (1, 35, .bool (decide (r9 = 1)))] ha fun a ha => ?_)))))
  refine jY (jJ ?_)
  by_cases c10 : r9 = 1
  ·
   refine jU ha rfl (decide_eq_true c10) ?_;refine wp_seq (jX [0, 1, 2, 3, 4, 5] (jQ [(0, 37, .slice sb.A sb.n sb.c)] ha fun a ha => ?_));refine jW (qQ 38 (vs := [.slice sb.A sb.n sb.c]) ha (open11_sat hS hrb hoj.1 (by omega) hoj.2) fun v11 w a hp12 ha => ?_);obtain ⟨ro1, rfl, hS⟩ := hp12;refine jQ [(2, 39, iv x2)] ha fun a ha => ?_;refine jW (qQ 40 (vs := [.slice ro1.A ro1.n ro1.c, iv x2]) ha (bhas_sat hS (hS.rdRow (s := ro1) 0 rfl)) fun v13 w a hp14 ha => ?_);obtain ⟨rfl, hS⟩ := hp14;refine jQ [(4, 41, .bool (!(((openL b [0]).contains x2)))), (5, 8, .bool (!(((openL b [0]).contains x2))))] ha fun a ha => ?_;refine jY ?_;replace ha := ha.as [(8, .bool (!(((openL b [0]).contains x2))))] rfl;refine jJ (wp_ret (in_r (qG (jG ha (by kernel_rfl) (qK (t := 8) ha rfl) ?_))));have hE : fndB l r9 f x2 b x = !(((openL b [0]).contains x2)) := by unfold fndB; rw [if_pos c10]
   rw [hE];exact ⟨rfl, Sat.rest [_, _, _, _] hS⟩
  refine jK ha rfl (decide_eq_false c10) ?_
  refine wp_seq (jX [0, 1] (jQ [(0, 43, .bool (decide (r9 = 2))), (1, 42, .bool (decide (r9 = 2)))] ha fun a ha => ?_))
  refine jY (jJ ?_)
  by_cases c15 : r9 = 2
  ·
   refine jU ha rfl (decide_eq_true c15) ?_;refine wp_seq (jX [0, 1, 2, 3, 4, 5, 6, 7] (jQ [(0, 44, ptr b7 0)] ha fun a ha => ?_));refine qZ (d := 45) (b := b7) (j := 0) ha (hS.blk 0 rfl) rfl fun a ha => ?_;refine jQ [(2, 46, .bool (decide (x.f0 = 7))), (3, 47, .bool (decide (x.f0 = 7)))] ha fun a ha => ?_
   by_cases c16 : x.f0 = 7
   ·
    exfalso; omega
   replace ha := ha.turn 46 (.bool false) rfl (congrArg Value.bool (decide_eq_false c16));replace ha := ha.turn 47 (.bool false) rfl (congrArg Value.bool (decide_eq_false c16));refine jQ [(4, 48, undef), (5, 49, undef), (6, 50, .bool false), (7, 8, .bool false)] ha fun a ha => ?_;refine jY ?_;replace ha := ha.as [(8, .bool false)] rfl;refine jJ (wp_ret (in_r (qG (jG ha (by kernel_rfl) (qK (t := 8) ha rfl) ?_))));have hE : fndB l r9 f x2 b x = false := by unfold fndB; rw [if_neg c10, if_pos c15]; simp [c9, c16]
   rw [hE];exact ⟨rfl, Sat.rest [_, _, _] hS⟩
  refine jK ha rfl (decide_eq_false c15) ?_
  refine wp_seq (jX [0, 1] (jQ [(0, 52, .bool (decide (r9 = 3))), (1, 51, .bool (decide (r9 = 3)))] ha fun a ha => ?_))
  refine jY (jJ ?_)
  by_cases c17 : r9 = 3
  ·
   refine jU ha rfl (decide_eq_true c17) ?_;refine wp_seq (jX [0, 1, 2, 3, 4, 5, 6, 7] (jQ [(0, 53, ptr b7 0)] ha fun a ha => ?_));refine qZ (d := 54) (b := b7) (j := 0) ha (hS.blk 0 rfl) rfl fun a ha => ?_;refine jQ [(2, 55, .bool (decide (x.f0 = 9))), (3, 56, .bool (decide (x.f0 = 9)))] ha fun a ha => ?_
   by_cases c18 : x.f0 = 9
   ·
    exfalso; omega
   replace ha := ha.turn 55 (.bool false) rfl (congrArg Value.bool (decide_eq_false c18));replace ha := ha.turn 56 (.bool false) rfl (congrArg Value.bool (decide_eq_false c18));refine jQ [(4, 57, undef), (5, 58, undef), (6, 59, .bool false), (7, 8, .bool false)] ha fun a ha => ?_;refine jY ?_;replace ha := ha.as [(8, .bool false)] rfl;refine jJ (wp_ret (in_r (qG (jG ha (by kernel_rfl) (qK (t := 8) ha rfl) ?_))));have hE : fndB l r9 f x2 b x = false := by unfold fndB; rw [if_neg c10, if_neg c15, if_pos c17]; simp [c9, c18]
   rw [hE];exact ⟨rfl, Sat.rest [_, _, _] hS⟩
  refine jK ha rfl (decide_eq_false c17) ?_
  refine wp_seq (jX [0, 1] (jQ [(0, 61, .bool (decide (r9 = 5))), (1, 60, .bool (decide (r9 = 5)))] ha fun a ha => ?_))
  refine jY (jJ ?_)
  by_cases c19 : r9 = 5
  ·
   refine jU ha rfl (decide_eq_true c19) ?_;refine wp_seq (jX [0, 1, 2, 3, 4, 5, 6, 7, 8, 9, 10] (jQ [(0, 62, ptr b7 0)] ha fun a ha => ?_));refine qZ (d := 63) (b := b7) (j := 0) ha (hS.blk 0 rfl) rfl fun a ha => ?_;refine jQ [(2, 64, .bool (decide (x.f0 = 11))), (3, 65, .bool (decide (x.f0 = 11)))] ha fun a ha => ?_
   by_cases c20 : x.f0 = 11
   ·
    exfalso; omega
   replace ha := ha.turn 64 (.bool false) rfl (congrArg Value.bool (decide_eq_false c20));replace ha := ha.turn 65 (.bool false) rfl (congrArg Value.bool (decide_eq_false c20));refine jQ [(4, 66, undef), (5, 67, undef), (6, 68, undef), (7, 69, undef), (8, 70, undef), (9, 71, .bool false), (10, 8, .bool false)] ha fun a ha => ?_;refine jY ?_;replace ha := ha.as [(8, .bool false)] rfl;refine jJ (wp_ret (in_r (qG (jG ha (by kernel_rfl) (qK (t := 8) ha rfl) ?_))));have hE : fndB l r9 f x2 b x = false := by unfold fndB; rw [if_neg c10, if_neg c15, if_neg c17, if_pos c19]; simp [c9, c20]
   rw [hE];exact ⟨rfl, Sat.rest [_, _, _] hS⟩
  refine jK ha rfl (decide_eq_false c19) ?_
  refine wp_seq (jX [0, 1] (jQ [(0, 73, .bool (decide (r9 = 6))), (1, 72, .bool (decide (r9 = 6)))] ha fun a ha => ?_))
  refine jY (jJ ?_)
  by_cases c21 : r9 = 6
  ·
   refine jU ha rfl (decide_eq_true c21) ?_;refine wp_seq (jX [0, 1, 2, 3, 4, 5, 6, 7, 8, 9, 10, 11, 12] (jQ [(0, 74, ptr b7 0)] ha fun a ha => ?_));refine qZ (d := 75) (b := b7) (j := 0) ha (hS.blk 0 rfl) rfl fun a ha => ?_;refine jQ [(2, 76, .bool (decide (x.f0 = 5))), (3, 77, .bool (decide (x.f0 = 5)))] ha fun a ha => ?_
   by_cases c22 : x.f0 = 5
   ·
    exfalso; omega
   replace ha := ha.turn 76 (.bool false) rfl (congrArg Value.bool (decide_eq_false c22));replace ha := ha.turn 77 (.bool false) rfl (congrArg Value.bool (decide_eq_false c22));refine jQ [(4, 78, undef), (5, 79, undef), (6, 80, undef), (7, 81, undef), (8, 82, undef), (9, 83, undef), (10, 84, undef), (11, 85, .bool false), (12, 8, .bool false)] ha fun a ha => ?_;refine jY ?_;replace ha := ha.as [(8, .bool false)] rfl;refine jJ (wp_ret (in_r (qG (jG ha (by kernel_rfl) (qK (t := 8) ha rfl) ?_))));have hE : fndB l r9 f x2 b x = false := by unfold fndB; rw [if_neg c10, if_neg c15, if_neg c17, if_neg c19, if_pos c21]; simp [c9, c22]
   rw [hE];exact ⟨rfl, Sat.rest [_, _, _] hS⟩
  refine jK ha rfl (decide_eq_false c21) ?_
  refine wp_seq (jX [0, 1] (jQ [(0, 87, .bool (decide (r9 = 7))), (1, 86, .bool (decide (r9 = 7)))] ha fun a ha => ?_))
  refine jY ?_
  replace ha := ha.as [(2, iv f), (4, ptr b1 0), (8, .bool false), (11, ptr b7 0), (12, .bool true), (86, .bool (decide (r9 = 7)))] rfl
  refine jJ ?_
  by_cases c23 : r9 = 7
  ·
   refine jU ha rfl (decide_eq_true c23) ?_;refine wp_seq (jX [0, 1, 2, 3, 4, 5, 6, 7, 8, 9] (jQ [(0, 88, .bool true), (1, 89, .bool true)] ha fun a ha => ?_));refine xH 90 ha (hS.blk 2 rfl) fun a ha => ?_;refine jQ [(3, 91, ptr b7 1)] ha fun a ha => ?_;refine qZ (d := 92) (b := b7) (j := 1) ha (hS.blk 0 rfl) rfl fun a ha => ?_;refine jW (qQ 93 (vs := [.agg #[.slice s.A s.n s.c], iv x.f1]) ha (reachQ_sat hS hr hf hpg (okC_of hpg (List.mem_of_getElem? hb) x (List.mem_of_getElem? hx) (.inl c9))) fun v24 w a hp25 ha => ?_);obtain ⟨rr1, rfl, hS⟩ := hp25;refine jQ [(6, 94, iv f)] ha fun a ha => ?_;refine jW (qQ 95 (vs := [.slice rr1.A rr1.n rr1.c, iv f]) ha (bhas_sat hS (hS.rdRow (s := rr1) 0 rfl)) fun v26 w a hp27 ha => ?_);obtain ⟨rfl, hS⟩ := hp27;refine jQ [(8, 96, .bool ((reachP l x.f1).contains f)), (9, 8, .bool ((reachP l x.f1).contains f))] ha fun a ha => ?_;refine jY (jJ (wp_ret (in_r (qG (jG ha (by kernel_rfl) (qK (t := 8) ha rfl) ?_)))));have hE : fndB l r9 f x2 b x = ((reachP l x.f1).contains f) := by unfold fndB; rw [if_neg c10, if_neg c15, if_neg c17, if_neg c19, if_neg c21, if_pos c23]; simp [c9]
   rw [hE];exact ⟨rfl, Sat.rest [_, _, _, _] hS⟩
  refine jK ha rfl (decide_eq_false c23) ?_
  refine wp_skip (in_n (jJ (wp_seq (jX [0] (jQ [(0, 8, .bool false)] ha fun a ha => ?_)))))
  refine jY (jJ (wp_ret (jG ha (by kernel_rfl) (qK (t := 8) ha rfl) ?_)))
  have hE : fndB l r9 f x2 b x = false := by unfold fndB; rw [if_neg c10, if_neg c15, if_neg c17, if_neg c19, if_neg c21, if_neg c23]
  rw [hE]
  exact ⟨rfl, Sat.rest [_, _, _] hS⟩
 replace ha := ha.turn 28 (.bool false) rfl (congrArg Value.bool (decide_eq_false c9))
 replace ha := ha.turn 29 (.bool false) rfl (congrArg Value.bool (decide_eq_false c9))
 refine jQ [(4, 30, ptr b7 0)] ha fun a ha => ?_
 refine qZ (d := 31) (b := b7) (j := 0) ha (hS.blk 0 rfl) rfl fun a ha => ?_
 refine jQ [(6, 32, .bool (decide (x.f0 = 5))), (7, 33, .bool (decide (x.f0 = 5))), (8, 12, .bool (decide (x.f0 = 5)))] ha fun a ha => ?_
 refine jY ?_
 replace ha := ha.as [(1, iv r9), (2, iv f), (3, iv x2), (4, ptr b1 0), (8, .bool false), (9, .slice sb.A sb.n sb.c), (10, .bool (dfrB l f)), (11, ptr b7 0), (12, .bool (decide (x.f0 = 5)))] rfl
 refine jJ (wp_seq (wp_seq (jX [0] (jQ [(0, 34, iv r9)] ha fun a ha => ?_))))
 refine jY (jJ (wp_block (wp_seq (jX [0, 1] (jQ [(0, 36, .bool (decide (r9 = 1))), (1, 35, .bool (decide (r9 = 1)))] ha fun a ha => ?_)))))
 refine jY (jJ ?_)
 by_cases c28 : r9 = 1
 ·
  refine jU ha rfl (decide_eq_true c28) ?_
  refine wp_seq (jX [0, 1, 2, 3, 4, 5] (jQ [(0, 37, .slice sb.A sb.n sb.c)] ha fun a ha => ?_))
  refine jW (qQ 38 (vs := [.slice sb.A sb.n sb.c]) ha (open11_sat hS hrb hoj.1 (by omega) hoj.2) fun v29 w a hp30 ha => ?_)
  obtain ⟨ro2, rfl, hS⟩ := hp30
  refine jQ [(2, 39, iv x2)] ha fun a ha => ?_
  refine jW (qQ 40 (vs := [.slice ro2.A ro2.n ro2.c, iv x2]) ha (bhas_sat hS (hS.rdRow (s := ro2) 0 rfl)) fun v31 w a hp32 ha => ?_)
  obtain ⟨rfl, hS⟩ := hp32
  refine jQ [(4, 41, .bool (!(((openL b [0]).contains x2)))), (5, 8, .bool (!(((openL b [0]).contains x2))))] ha fun a ha => ?_
  refine jY ?_
  replace ha := ha.as [(8, .bool (!(((openL b [0]).contains x2))))] rfl
  refine jJ (wp_ret (in_r (qG (jG ha (by kernel_rfl) (qK (t := 8) ha rfl) ?_))))
  have hE : fndB l r9 f x2 b x = !(((openL b [0]).contains x2)) := by unfold fndB; rw [if_pos c28]
  rw [hE]
  exact ⟨rfl, Sat.rest [_, _, _, _] hS⟩
 refine jK ha rfl (decide_eq_false c28) ?_
 refine wp_seq (jX [0, 1] (jQ [(0, 43, .bool (decide (r9 = 2))), (1, 42, .bool (decide (r9 = 2)))] ha fun a ha => ?_))
 refine jY (jJ ?_)
 by_cases c33 : r9 = 2
 ·
  refine jU ha rfl (decide_eq_true c33) ?_
  refine wp_seq (jX [0, 1, 2, 3, 4, 5, 6, 7] (jQ [(0, 44, ptr b7 0)] ha fun a ha => ?_))
  refine qZ (d := 45) (b := b7) (j := 0) ha (hS.blk 0 rfl) rfl fun a ha => ?_
  refine jQ [(2, 46, .bool (decide (x.f0 = 7))), (3, 47, .bool (decide (x.f0 = 7)))] ha fun a ha => ?_
  by_cases c34 : x.f0 = 7
  ·
   replace ha := ha.turn 46 (.bool true) rfl (congrArg Value.bool (decide_eq_true c34));replace ha := ha.turn 47 (.bool true) rfl (congrArg Value.bool (decide_eq_true c34));refine jQ [(4, 48, .bool (dfrB l f)), (5, 49, .bool (!((dfrB l f)))), (6, 50, .bool (!((dfrB l f)))), (7, 8, .bool (!((dfrB l f))))] ha fun a ha => ?_;refine jY ?_;replace ha := ha.as [(8, .bool (!((dfrB l f))))] rfl;refine jJ (wp_ret (in_r (qG (jG ha (by kernel_rfl) (qK (t := 8) ha rfl) ?_))));have hE : fndB l r9 f x2 b x = !((dfrB l f)) := by unfold fndB; rw [if_neg c28, if_pos c33]; simp [c9, c34]
   rw [hE];exact ⟨rfl, Sat.rest [_, _, _] hS⟩
  replace ha := ha.turn 46 (.bool false) rfl (congrArg Value.bool (decide_eq_false c34))
  replace ha := ha.turn 47 (.bool false) rfl (congrArg Value.bool (decide_eq_false c34))
  refine jQ [(4, 48, undef), (5, 49, undef), (6, 50, .bool false), (7, 8, .bool false)] ha fun a ha => ?_
  refine jY ?_
  replace ha := ha.as [(8, .bool false)] rfl
  refine jJ (wp_ret (in_r (qG (jG ha (by kernel_rfl) (qK (t := 8) ha rfl) ?_))))
  have hE : fndB l r9 f x2 b x = false := by unfold fndB; rw [if_neg c28, if_pos c33]; simp [c9, c34]
  rw [hE]
  exact ⟨rfl, Sat.rest [_, _, _] hS⟩
 refine jK ha rfl (decide_eq_false c33) ?_
 refine wp_seq (jX [0, 1] (jQ [(0, 52, .bool (decide (r9 = 3))), (1, 51, .bool (decide (r9 = 3)))] ha fun a ha => ?_))
 refine jY (jJ ?_)
 by_cases c35 : r9 = 3
 ·
  refine jU ha rfl (decide_eq_true c35) ?_
  refine wp_seq (jX [0, 1, 2, 3, 4, 5, 6, 7] (jQ [(0, 53, ptr b7 0)] ha fun a ha => ?_))
  refine qZ (d := 54) (b := b7) (j := 0) ha (hS.blk 0 rfl) rfl fun a ha => ?_
  refine jQ [(2, 55, .bool (decide (x.f0 = 9))), (3, 56, .bool (decide (x.f0 = 9)))] ha fun a ha => ?_
  by_cases c36 : x.f0 = 9
  ·
   replace ha := ha.turn 55 (.bool true) rfl (congrArg Value.bool (decide_eq_true c36));replace ha := ha.turn 56 (.bool true) rfl (congrArg Value.bool (decide_eq_true c36));refine jQ [(4, 57, .bool (dfrB l f)), (5, 58, .bool (!((dfrB l f)))), (6, 59, .bool (!((dfrB l f)))), (7, 8, .bool (!((dfrB l f))))] ha fun a ha => ?_;refine jY ?_;replace ha := ha.as [(8, .bool (!((dfrB l f))))] rfl;refine jJ (wp_ret (in_r (qG (jG ha (by kernel_rfl) (qK (t := 8) ha rfl) ?_))));have hE : fndB l r9 f x2 b x = !((dfrB l f)) := by unfold fndB; rw [if_neg c28, if_neg c33, if_pos c35]; simp [c9, c36]
   rw [hE];exact ⟨rfl, Sat.rest [_, _, _] hS⟩
  replace ha := ha.turn 55 (.bool false) rfl (congrArg Value.bool (decide_eq_false c36))
  replace ha := ha.turn 56 (.bool false) rfl (congrArg Value.bool (decide_eq_false c36))
  refine jQ [(4, 57, undef), (5, 58, undef), (6, 59, .bool false), (7, 8, .bool false)] ha fun a ha => ?_
  refine jY ?_
  replace ha := ha.as [(8, .bool false)] rfl
  refine jJ (wp_ret (in_r (qG (jG ha (by kernel_rfl) (qK (t := 8) ha rfl) ?_))))
  have hE : fndB l r9 f x2 b x = false := by unfold fndB; rw [if_neg c28, if_neg c33, if_pos c35]; simp [c9, c36]
  rw [hE]
  exact ⟨rfl, Sat.rest [_, _, _] hS⟩
 refine jK ha rfl (decide_eq_false c35) ?_
 refine wp_seq (jX [0, 1] (jQ [(0, 61, .bool (decide (r9 = 5))), (1, 60, .bool (decide (r9 = 5)))] ha fun a ha => ?_))
 refine jY (jJ ?_)
 by_cases c37 : r9 = 5
 ·
  refine jU ha rfl (decide_eq_true c37) ?_
  refine wp_seq (jX [0, 1, 2, 3, 4, 5, 6, 7, 8, 9, 10] (jQ [(0, 62, ptr b7 0)] ha fun a ha => ?_))
  refine qZ (d := 63) (b := b7) (j := 0) ha (hS.blk 0 rfl) rfl fun a ha => ?_
  refine jQ [(2, 64, .bool (decide (x.f0 = 11))), (3, 65, .bool (decide (x.f0 = 11)))] ha fun a ha => ?_
  by_cases c38 : x.f0 = 11
  ·
   replace ha := ha.turn 64 (.bool true) rfl (congrArg Value.bool (decide_eq_true c38));replace ha := ha.turn 65 (.bool true) rfl (congrArg Value.bool (decide_eq_true c38));refine jQ [(4, 66, ptr b7 1)] ha fun a ha => ?_;refine qZ (d := 67) (b := b7) (j := 1) ha (hS.blk 0 rfl) rfl fun a ha => ?_;refine jQ [(6, 68, iv x2)] ha fun a ha => ?_;refine xJ 69 (x2 + 1) ha fun a ha => ?_;refine jQ [(8, 70, .bool (decide (x.f1 = (x2 + 1)))), (9, 71, .bool (decide (x.f1 = (x2 + 1)))), (10, 8, .bool (decide (x.f1 = (x2 + 1))))] ha fun a ha => ?_;refine jY ?_;replace ha := ha.as [(8, .bool (decide (x.f1 = (x2 + 1))))] rfl;refine jJ (wp_ret (in_r (qG (jG ha (by kernel_rfl) (qK (t := 8) ha rfl) ?_))));have hE : fndB l r9 f x2 b x = decide (x.f1 = (x2 + 1)) := by unfold fndB; rw [if_neg c28, if_neg c33, if_neg c35, if_pos c37]; simp [c9, c38]
   rw [hE];exact ⟨rfl, Sat.rest [_, _, _] hS⟩
  replace ha := ha.turn 64 (.bool false) rfl (congrArg Value.bool (decide_eq_false c38))
  replace ha := ha.turn 65 (.bool false) rfl (congrArg Value.bool (decide_eq_false c38))
  refine jQ [(4, 66, undef), (5, 67, undef), (6, 68, undef), (7, 69, undef), (8, 70, undef), (9, 71, .bool false), (10, 8, .bool false)] ha fun a ha => ?_
  refine jY ?_
  replace ha := ha.as [(8, .bool false)] rfl
  refine jJ (wp_ret (in_r (qG (jG ha (by kernel_rfl) (qK (t := 8) ha rfl) ?_))))
  have hE : fndB l r9 f x2 b x = false := by unfold fndB; rw [if_neg c28, if_neg c33, if_neg c35, if_pos c37]; simp [c9, c38]
  rw [hE]
  exact ⟨rfl, Sat.rest [_, _, _] hS⟩
 refine jK ha rfl (decide_eq_false c37) ?_
 refine wp_seq (jX [0, 1] (jQ [(0, 73, .bool (decide (r9 = 6))), (1, 72, .bool (decide (r9 = 6)))] ha fun a ha => ?_))
 refine jY (jJ ?_)
 by_cases c39 : r9 = 6
 ·
  refine jU ha rfl (decide_eq_true c39) ?_
  refine wp_seq (jX [0, 1, 2, 3, 4, 5, 6, 7, 8, 9, 10, 11, 12] (jQ [(0, 74, ptr b7 0)] ha fun a ha => ?_))
  refine qZ (d := 75) (b := b7) (j := 0) ha (hS.blk 0 rfl) rfl fun a ha => ?_
  refine jQ [(2, 76, .bool (decide (x.f0 = 5))), (3, 77, .bool (decide (x.f0 = 5)))] ha fun a ha => ?_
  by_cases c40 : x.f0 = 5
  ·
   replace ha := ha.turn 12 (.bool true) rfl (congrArg Value.bool (decide_eq_true c40));replace ha := ha.turn 76 (.bool true) rfl (congrArg Value.bool (decide_eq_true c40));replace ha := ha.turn 77 (.bool true) rfl (congrArg Value.bool (decide_eq_true c40));refine jQ [(4, 78, .slice sb.A sb.n sb.c), (5, 79, .slice sb.A sb.n sb.c), (6, 80, iv x2)] ha fun a ha => ?_;refine jW (qQ 81 (vs := [.slice sb.A sb.n sb.c, iv x2]) ha (leadsQ_sat hS hrb hx2 (by omega) hx) fun v41 w a hp42 ha => ?_);obtain ⟨ro3, rfl, hS⟩ := hp42;replace hS : Sat w0 w ((rI ro3 (leadsP b.length x x2)) :: (SX.blk b7 [iv x.f0, iv x.f1, iv x.f2] 72) :: (rI dq1 (dfrQ l)) :: (SX.blk b1 [.slice s.A s.n s.c] 30) :: Rs) := hS;refine jW (qQ 82 (vs := [.slice sb.A sb.n sb.c, .slice ro3.A ro3.n ro3.c]) ha (from11_sat (sa := ro3) (L0 := (leadsP b.length x x2)) hS hrb hoj.1 (by omega) hlr (leads_nd _ _ _) (by have := leadsP_len b.length x x2; omega) hoj.2) fun v43 w a hp44 ha => ?_);obtain ⟨al, R, rfl, hRi, hRm, hRl, hS⟩ := hp44;refine jQ [(9, 83, iv x2)] ha fun a ha => ?_;refine jW (qQ 84 (vs := [.slice al.A al.n al.c, iv x2]) ha (bool_eq (rch_cont hoj.1 hlr hRm hx2.2) (bhas_sat hS (hS.rdRow (s := al) 0 rfl))) fun v45 w a hp46 ha => ?_);obtain ⟨rfl, hS⟩ := hp46;refine jQ [(11, 85, .bool ((openL b (leadsP b.length x x2)).contains x2)), (12, 8, .bool ((openL b (leadsP b.length x x2)).contains x2))] ha fun a ha => ?_;refine jY ?_;replace ha := ha.as [(8, .bool ((openL b (leadsP b.length x x2)).contains x2))] rfl;refine jJ (wp_ret (in_r (qG (jG ha (by kernel_rfl) (qK (t := 8) ha rfl) ?_))));have hE : fndB l r9 f x2 b x = ((openL b (leadsP b.length x x2)).contains x2) := by unfold fndB; rw [if_neg c28, if_neg c33, if_neg c35, if_neg c37, if_pos c39]; simp [c9, c40]
   rw [hE];exact ⟨rfl, Sat.rest [_, _, _, _] hS⟩
  replace ha := ha.turn 12 (.bool false) rfl (congrArg Value.bool (decide_eq_false c40))
  replace ha := ha.turn 76 (.bool false) rfl (congrArg Value.bool (decide_eq_false c40))
  replace ha := ha.turn 77 (.bool false) rfl (congrArg Value.bool (decide_eq_false c40))
  refine jQ [(4, 78, undef), (5, 79, undef), (6, 80, undef), (7, 81, undef), (8, 82, undef), (9, 83, undef), (10, 84, undef), (11, 85, .bool false), (12, 8, .bool false)] ha fun a ha => ?_
  refine jY ?_
  replace ha := ha.as [(8, .bool false)] rfl
  refine jJ (wp_ret (in_r (qG (jG ha (by kernel_rfl) (qK (t := 8) ha rfl) ?_))))
  have hE : fndB l r9 f x2 b x = false := by unfold fndB; rw [if_neg c28, if_neg c33, if_neg c35, if_neg c37, if_pos c39]; simp [c9, c40]
  rw [hE]
  exact ⟨rfl, Sat.rest [_, _, _] hS⟩
 refine jK ha rfl (decide_eq_false c39) ?_
 refine wp_seq (jX [0, 1] (jQ [(0, 87, .bool (decide (r9 = 7))), (1, 86, .bool (decide (r9 = 7)))] ha fun a ha => ?_))
 refine jY ?_
 replace ha := ha.as [(2, iv f), (4, ptr b1 0), (8, .bool false), (11, ptr b7 0), (12, .bool (decide (x.f0 = 5))), (86, .bool (decide (r9 = 7)))] rfl
 refine jJ ?_
 by_cases c47 : r9 = 7
 ·
  refine jU ha rfl (decide_eq_true c47) ?_
  refine wp_seq (jX [0, 1, 2, 3, 4, 5, 6, 7, 8, 9] (jQ [(0, 88, .bool (decide (x.f0 = 5))), (1, 89, .bool (decide (x.f0 = 5)))] ha fun a ha => ?_))
  by_cases c48 : x.f0 = 5
  ·
   replace ha := ha.turn 12 (.bool true) rfl (congrArg Value.bool (decide_eq_true c48));replace ha := ha.turn 88 (.bool true) rfl (congrArg Value.bool (decide_eq_true c48));replace ha := ha.turn 89 (.bool true) rfl (congrArg Value.bool (decide_eq_true c48));refine xH 90 ha (hS.blk 2 rfl) fun a ha => ?_;refine jQ [(3, 91, ptr b7 1)] ha fun a ha => ?_;refine qZ (d := 92) (b := b7) (j := 1) ha (hS.blk 0 rfl) rfl fun a ha => ?_;refine jW (qQ 93 (vs := [.agg #[.slice s.A s.n s.c], iv x.f1]) ha (reachQ_sat hS hr hf hpg (okC_of hpg (List.mem_of_getElem? hb) x (List.mem_of_getElem? hx) (.inr c48))) fun v49 w a hp50 ha => ?_);obtain ⟨rr2, rfl, hS⟩ := hp50;refine jQ [(6, 94, iv f)] ha fun a ha => ?_;refine jW (qQ 95 (vs := [.slice rr2.A rr2.n rr2.c, iv f]) ha (bhas_sat hS (hS.rdRow (s := rr2) 0 rfl)) fun v51 w a hp52 ha => ?_);obtain ⟨rfl, hS⟩ := hp52;refine jQ [(8, 96, .bool ((reachP l x.f1).contains f)), (9, 8, .bool ((reachP l x.f1).contains f))] ha fun a ha => ?_;refine jY (jJ (wp_ret (in_r (qG (jG ha (by kernel_rfl) (qK (t := 8) ha rfl) ?_)))));have hE : fndB l r9 f x2 b x = ((reachP l x.f1).contains f) := by unfold fndB; rw [if_neg c28, if_neg c33, if_neg c35, if_neg c37, if_neg c39, if_pos c47]; simp [c9, c48]
   rw [hE];exact ⟨rfl, Sat.rest [_, _, _, _] hS⟩
  replace ha := ha.turn 12 (.bool false) rfl (congrArg Value.bool (decide_eq_false c48))
  replace ha := ha.turn 88 (.bool false) rfl (congrArg Value.bool (decide_eq_false c48))
  replace ha := ha.turn 89 (.bool false) rfl (congrArg Value.bool (decide_eq_false c48))
  refine jQ [(2, 90, undef), (3, 91, undef), (4, 92, undef), (5, 93, undef), (6, 94, undef), (7, 95, undef), (8, 96, .bool false), (9, 8, .bool false)] ha fun a ha => ?_
  refine jY ?_
  replace ha := ha.as [(8, .bool false)] rfl
  refine jJ (wp_ret (in_r (qG (jG ha (by kernel_rfl) (qK (t := 8) ha rfl) ?_))))
  have hE : fndB l r9 f x2 b x = false := by unfold fndB; rw [if_neg c28, if_neg c33, if_neg c35, if_neg c37, if_neg c39, if_pos c47]; simp [c9, c48]
  rw [hE]
  exact ⟨rfl, Sat.rest [_, _, _] hS⟩
 refine jK ha rfl (decide_eq_false c47) ?_
 refine wp_skip (in_n (jJ (wp_seq (jX [0] (jQ [(0, 8, .bool false)] ha fun a ha => ?_)))))
 refine jY (jJ (wp_ret (jG ha (by kernel_rfl) (qK (t := 8) ha rfl) ?_)))
 have hE : fndB l r9 f x2 b x = false := by unfold fndB; rw [if_neg c28, if_neg c33, if_neg c35, if_neg c37, if_neg c39, if_neg c47]
 rw [hE]
 exact ⟨rfl, Sat.rest [_, _, _] hS⟩
theorem code25 : Try.f25.body = some (Code.seq (cr Try.f25 0 false) (Code.seq (Code.seq (cr Try.f25 1 false) (Code.cond (Operand.tmp 16) (Code.seq (cr Try.f25 2 false) Code.ret) Code.skip)) (Code.seq (cr Try.f25 3 false) (Code.seq (Code.seq (cr Try.f25 4 false) (Code.block 0 (Code.loop (Code.seq (cr Try.f25 5 false) (Code.seq (Code.cond (Operand.tmp 23) Code.skip (Code.exit 0)) (Code.seq (Code.block 1 (Code.seq (cr Try.f25 6 false) (cr Try.f25 7 false))) (cr Try.f25 8 false))))))) (Code.seq (cr Try.f25 9 false) (Code.seq (Code.seq (cr Try.f25 10 false) (Code.block 2 (Code.loop (Code.seq (cr Try.f25 11 false) (Code.seq (Code.cond (Operand.tmp 38) Code.skip (Code.exit 2)) (Code.seq (Code.block 3 (Code.seq (cr Try.f25 12 false) (Code.seq (Code.seq (cr Try.f25 13 false) (Code.cond (Operand.tmp 45) (cr Try.f25 14 false) Code.skip)) (Code.seq (cr Try.f25 15 false) (Code.block 4 (Code.loop (Code.seq (cr Try.f25 16 false) (Code.seq (Code.cond (Operand.tmp 54) Code.skip (Code.exit 4)) (Code.seq (Code.block 5 (Code.seq (cr Try.f25 17 false) (Code.seq (cr Try.f25 18 false) (Code.block 6 (Code.loop (Code.seq (cr Try.f25 19 false) (Code.seq (Code.cond (Operand.tmp 63) Code.skip (Code.exit 6)) (Code.seq (Code.block 7 (Code.seq (cr Try.f25 20 false) (cr Try.f25 21 false))) (cr Try.f25 22 false))))))))) (cr Try.f25 23 false)))))))))) (cr Try.f25 24 false))))))) (Code.seq (cr Try.f25 25 false) (Code.seq (cr Try.f25 26 false) Code.ret)))))))) := by kernel_rfl
theorem impl_LintProgram_sat0 {w0 : World} {s : Sl} {l : List (List ST)} (hr : RdP w0 s l) (hf : Fits l) :
  Calls Try.prog 25 #[.agg #[.slice s.A s.n s.c]] w0 (Ret fun r w' => ∃ o : Sl, r = .tuple #[.slice o.A o.n o.c, .bool (lintR l).2] ∧ Sat w0 w' [SX.row (.slice o.A o.n o.c) 88 3 (encE ((lintR l).1))]) := by
 have hS : Sat w0 w0 [] := Sat.start w0
 have hlen := hf.len
 have hsn := hr.len
 refine enter (n := 79) Try.func25 code25 (by kernel_rfl) (Nat.le_of_ble_eq_true rfl) (fun a ha => ?_)
 replace ha : Has 79 [(0, .agg #[.slice s.A s.n s.c])] a := ha
 refine wp_seq (jX [0, 1, 2] (jW (qY 1 [.slice s.A s.n s.c] 30 (ptr · 0) ha hS fun b1 w a hb2 hS ha => ?_)))
 refine jQ [(1, 2, .slice none 0 0), (2, 3, .bool false)] ha fun a ha => ?_
 refine jY (jJ (wp_seq (wp_seq (jX [0, 1, 2] (xH 14 ha (hS.blk 0 rfl) fun a ha => ?_)))))
 refine jW (qQ 15 (vs := [.agg #[.slice s.A s.n s.c]]) ha (isProgram_sat hS (hr.sat hS) hf) fun v3 w a hp4 ha => ?_)
 obtain ⟨rfl, hS⟩ := hp4
 refine jQ [(2, 16, .bool (!(programB l)))] ha fun a ha => ?_
 refine jY (jJ ?_)
 rcases Bool.eq_false_or_eq_true (programB l) with c5 | c5
 ·
  have hsh := prog_short c5
  have hl1 : 1 ≤ l.length := by have h9 := c5; simp only [programB, Bool.and_eq_true, decide_eq_true_eq] at h9; exact h9.1.1
  refine jK ha rfl (xU c5) ?_
  refine wp_skip (jJ (wp_seq (jX [0, 1, 2, 3] (jW (qY 17 [] 88 (fun b => .slice (some ⟨b, 0, none⟩) 0 0) ha hS fun b6 w a hb7 hS ha => ?_)))))
  refine jW (qY 18 [] 3 (fun b => .slice (some ⟨b, 0, none⟩) 0 0) ha hS fun b8 w a hb9 hS ha => ?_)
  refine jQ [(2, 4, .slice (some ⟨b6, 0, none⟩) 0 0), (3, 5, .slice (some ⟨b8, 0, none⟩) 0 0)] ha fun a ha => ?_
  refine jY (jJ (wp_seq (wp_seq (jX [0, 1, 2, 3] (jQ [(0, 19, ptr b1 0)] ha fun a ha => ?_)))))
  refine qZ (d := 20) (b := b1) (j := 0) ha (hS.blk 2 rfl) rfl fun a ha => ?_
  refine jQ [(2, 21, iv (s.n : Int)), (3, 22, iv 0)] ha fun a ha => ?_
  refine jY (jJ (wp_block ?_))
  replace hS := hS.blk0 1 0 rfl
  replace hS := hS.blk0 3 1 rfl
  replace hS := hS.pickN 3 [2, 1, 0]
  replace hS : Sat w0 w ((SX.blk b1 [.slice s.A s.n s.c] 30) :: (SX.row (.slice ((⟨some ⟨b6, 0, none⟩, 0, 0⟩ : Sl).A) ((⟨some ⟨b6, 0, none⟩, 0, 0⟩ : Sl).n) ((⟨some ⟨b6, 0, none⟩, 0, 0⟩ : Sl).c)) 88 3 (encE [])) :: (rI (⟨some ⟨b8, 0, none⟩, 0, 0⟩ : Sl) (dfrP (l.take 0))) :: []) := hS
  refine wp_loop_ghost (fun n_ a_ w_ => ∃ (i : Nat) (od : Sl), n_ = l.length - i ∧ (i ≤ l.length) ∧ Has 79 [(1, ptr b1 0), (2, .slice none 0 0), (3, .bool false), (4, .slice ((⟨some ⟨b6, 0, none⟩, 0, 0⟩ : Sl).A) ((⟨some ⟨b6, 0, none⟩, 0, 0⟩ : Sl).n) ((⟨some ⟨b6, 0, none⟩, 0, 0⟩ : Sl).c)), (20, .slice s.A s.n s.c), (21, iv (s.n : Int)), (5, .slice od.A od.n od.c), (22, iv (i : Int))] a_ ∧ Sat w0 w_ ((SX.blk b1 [.slice s.A s.n s.c] 30) :: (SX.row (.slice ((⟨some ⟨b6, 0, none⟩, 0, 0⟩ : Sl).A) ((⟨some ⟨b6, 0, none⟩, 0, 0⟩ : Sl).n) ((⟨some ⟨b6, 0, none⟩, 0, 0⟩ : Sl).c)) 88 3 (encE [])) :: (rI od (dfrP (l.take i))) :: [])) _ ⟨0, ⟨some ⟨b8, 0, none⟩, 0, 0⟩, rfl, Nat.zero_le _, ha.keeps [1, 2, 3, 4, 20, 21, 5, 22] _ rfl, hS⟩ ?_
  rintro n_ a w ⟨i, od, rfl, hi, ha, hS⟩
  refine wp_seq (jX [0] (jQ [(0, 23, .bool (decide ((i : Int) < (s.n : Int))))] ha fun a ha => ?_))
  refine jY (jJ (wp_seq ?_))
  by_cases c10 : (i : Int) < (s.n : Int)
  ·
   have hil : i < l.length := by omega
   obtain ⟨b, hb⟩ : ∃ b, l[i]? = some b := ⟨_, List.getElem?_eq_getElem hil⟩;have hb8 := hsh.1 b (List.mem_of_getElem? hb);obtain ⟨hA0, sb, hcb, hrb⟩ := body_rd hr hb;have hsb := hrb.len;refine jU ha rfl (decide_eq_true c10) ?_;refine wp_skip (jJ (wp_seq (wp_block (wp_seq (jX [0, 1, 2] (qX (.pointer (some ⟨bk s, of_ s + i * 1, none⟩)) ha (xW (s := s) (el := 70) (sz := 1) (j := i) ha (xY (t := 28) (x := 20) (y := 22) (d := 24)) rfl rfl (by kernel_rfl) (by kernel_rfl) hA0 (by rw [hr.len]; omega)) fun a ha => ?_))))));refine qX (.slice sb.A sb.n sb.c) ha (qV ha (xK (t := 70) (x := 24) (d := 25) (ty := 70)) rfl (by kernel_rfl) (fun w' hw => by rw [hw]; rw [Nat.mul_one]; exact pw_cell_below hS.below hcb)) fun a ha => ?_;refine jQ [(2, 7, .slice sb.A sb.n sb.c)] ha fun a ha => ?_;refine jY (jJ (jX [0, 1, 2, 3, 4, 5] (jQ [(0, 26, .slice od.A od.n od.c), (1, 27, .slice sb.A sb.n sb.c)] ha fun a ha => ?_)));refine jW (qY 28 [iv 5] 3 (fun b => .slice (some ⟨b, 0, none⟩) 1 1) ha hS fun b11 w a hb12 hS ha => ?_);replace hS := blkRow hS 1 1 0 rfl rfl (by decide);replace hS : Sat w0 w ((rI (⟨some ⟨b11, 0, none⟩, 1, 1⟩ : Sl) [5]) :: (SX.blk b1 [.slice s.A s.n s.c] 30) :: (SX.row (.slice ((⟨some ⟨b6, 0, none⟩, 0, 0⟩ : Sl).A) ((⟨some ⟨b6, 0, none⟩, 0, 0⟩ : Sl).n) ((⟨some ⟨b6, 0, none⟩, 0, 0⟩ : Sl).c)) 88 3 (encE [])) :: (rI od (dfrP (l.take i))) :: []) := hS;refine jW (qQ 29 (vs := [.slice sb.A sb.n sb.c, .slice (some ⟨b11, 0, none⟩) 1 1]) ha (called_sat (sk := (⟨some ⟨b11, 0, none⟩, 1, 1⟩ : Sl)) (ks := [5]) hS hrb (by omega)) fun v13 w a hp14 ha => ?_);obtain ⟨cd1, rfl, hS⟩ := hp14;refine jW (o_appI (s2 := cd1) (z := iv 0) (bytes := 8) 3 0 ha (by decide) (xV (op := (Op.call { callee := (Callee.builtin Builtin.append), args := #[(Operand.tmp 26), (Operand.tmp 29)], argTypes := #[44, 44] })) (d := some 30) (ty := 44)) rfl rfl (by kernel_rfl) (by kernel_rfl) rfl hS rfl rfl (by have h1 := dfrP_len hsh.1 hsh.2 i; have h2 := calledP_len [5] b; omega) (by decide) fun s15 w a hS ha => ?_);refine jQ [(5, 5, .slice s15.A s15.n s15.c)] ha fun a ha => ?_;refine jY (in_n (jJ (jX [0, 1] (xJ 31 ((i : Int) + 1) ha fun a ha => ?_))));refine jQ [(1, 22, iv ((i : Int) + 1))] ha fun a ha => ?_;refine jY (jJ ?_);replace hS := hS.pickN 4 [1, 2, 3];replace hS : Sat w0 w ((SX.blk b1 [.slice s.A s.n s.c] 30) :: (SX.row (.slice ((⟨some ⟨b6, 0, none⟩, 0, 0⟩ : Sl).A) ((⟨some ⟨b6, 0, none⟩, 0, 0⟩ : Sl).n) ((⟨some ⟨b6, 0, none⟩, 0, 0⟩ : Sl).c)) 88 3 (encE [])) :: (rI s15 (dfrP (l.take (i + 1)))) :: []) := by rw [dfrP_next hb]; exact hS
   exact ⟨_, by omega, i + 1, s15, rfl, hil, ha.keeps [1, 2, 3, 4, 20, 21, 5, 22] _ rfl, hS⟩
  refine jK ha rfl (decide_eq_false c10) ?_
  refine wp_exit (qJ (qJ (in_x (jJ (wp_seq (jX [0, 1, 2] (xH 32 ha (hS.blk 0 rfl) fun a ha => ?_)))))))
  refine jW (qQ 33 (vs := [.agg #[.slice s.A s.n s.c], iv 0]) ha (reachI_sat (f := 0) hS hr hf c5 ⟨by omega, by omega⟩) fun v16 w a hp17 ha => ?_)
  obtain ⟨us1, rfl, hS⟩ := hp17
  refine jQ [(2, 8, .slice us1.A us1.n us1.c)] ha fun a ha => ?_
  refine jY (jJ (wp_seq (wp_seq (jX [0, 1, 2, 3] (jQ [(0, 34, ptr b1 0)] ha fun a ha => ?_)))))
  refine qZ (d := 35) (b := b1) (j := 0) ha (hS.blk 1 rfl) rfl fun a ha => ?_
  refine jQ [(2, 36, iv (s.n : Int)), (3, 37, iv 0)] ha fun a ha => ?_
  refine jY (jJ (wp_block ?_))
  replace hS := hS.pickN 4 [1, 2, 3, 0]
  have hie : i = l.length := by omega
  replace hS : Sat w0 w ((SX.blk b1 [.slice s.A s.n s.c] 30) :: (SX.row (.slice ((⟨some ⟨b6, 0, none⟩, 0, 0⟩ : Sl).A) ((⟨some ⟨b6, 0, none⟩, 0, 0⟩ : Sl).n) ((⟨some ⟨b6, 0, none⟩, 0, 0⟩ : Sl).c)) 88 3 (encE (lntI l 0))) :: (rI od (dfrP l)) :: (rI us1 (reachP l 0)) :: []) := by rw [hie, List.take_length] at hS; exact hS
  refine wp_loop_ghost (fun n_ a_ w_ => ∃ (g : Nat) (o1 : Sl), n_ = l.length - g ∧ (g ≤ l.length) ∧ Has 79 [(1, ptr b1 0), (2, .slice none 0 0), (3, .bool false), (5, .slice od.A od.n od.c), (8, .slice us1.A us1.n us1.c), (35, .slice s.A s.n s.c), (36, iv (s.n : Int)), (4, .slice o1.A o1.n o1.c), (37, iv (g : Int))] a_ ∧ Sat w0 w_ ((SX.blk b1 [.slice s.A s.n s.c] 30) :: (SX.row (.slice o1.A o1.n o1.c) 88 3 (encE (lntI l g))) :: (rI od (dfrP l)) :: (rI us1 (reachP l 0)) :: [])) _ ⟨0, ⟨some ⟨b6, 0, none⟩, 0, 0⟩, rfl, Nat.zero_le _, ha.keeps [1, 2, 3, 5, 8, 35, 36, 4, 37] _ rfl, hS⟩ ?_
  rintro n_ a w ⟨g, o1, rfl, hg, ha, hS⟩
  refine wp_seq (jX [0] (jQ [(0, 38, .bool (decide ((g : Int) < (s.n : Int))))] ha fun a ha => ?_))
  refine jY (jJ (wp_seq ?_))
  by_cases c18 : (g : Int) < (s.n : Int)
  ·
   have hgl : g < l.length := by omega
   obtain ⟨b, hb⟩ : ∃ b, l[g]? = some b := ⟨_, List.getElem?_eq_getElem hgl⟩;have hb8 := hsh.1 b (List.mem_of_getElem? hb);obtain ⟨hA0, sb, hcb, hrb⟩ := body_rd hr hb;have hsb := hrb.len;refine jU ha rfl (decide_eq_true c18) ?_;refine wp_skip (jJ (wp_seq (wp_block (wp_seq (jX [0, 1, 2, 3, 4] (jQ [(0, 39, iv (g : Int))] ha fun a ha => ?_))))));refine qX (.pointer (some ⟨bk s, of_ s + g * 1, none⟩)) ha (xW (s := s) (el := 70) (sz := 1) (j := g) ha (xY (t := 28) (x := 35) (y := 37) (d := 40)) rfl rfl (by kernel_rfl) (by kernel_rfl) hA0 (by rw [hr.len]; omega)) fun a ha => ?_;refine qX (.slice sb.A sb.n sb.c) ha (qV ha (xK (t := 70) (x := 40) (d := 41) (ty := 70)) rfl (by kernel_rfl) (fun w' hw => by rw [hw]; rw [Nat.mul_one]; exact pw_cell_below hS.below hcb)) fun a ha => ?_;refine jQ [(3, 9, iv (g : Int)), (4, 10, .slice sb.A sb.n sb.c)] ha fun a ha => ?_;refine jY (jJ (wp_seq (wp_seq (jX [0, 1, 2, 3] (jQ [(0, 42, .slice us1.A us1.n us1.c), (1, 43, iv (g : Int))] ha fun a ha => ?_)))));refine jW (qQ 44 (vs := [.slice us1.A us1.n us1.c, iv (g : Int)]) ha (ocont_sat hS (hS.rdRow (s := us1) 3 rfl) (g : Int)) fun v19 w a hp20 ha => ?_);obtain ⟨rfl, hS⟩ := hp20;refine jQ [(3, 45, .bool (!(((reachP l 0).contains (g : Int)))))] ha fun a ha => ?_;refine jY (jJ ?_)
   rcases Bool.eq_false_or_eq_true ((reachP l 0).contains (g : Int)) with c21 | c21
   ·
    refine jK ha rfl (xU c21) ?_;refine wp_skip (jJ (wp_seq (jX [0, 1, 2] (jQ [(0, 51, .slice sb.A sb.n sb.c), (1, 52, iv (sb.n : Int)), (2, 53, iv 0)] ha fun a ha => ?_))));refine jY (jJ (wp_block ?_));replace hS : Sat w0 w ((SX.blk b1 [.slice s.A s.n s.c] 30) :: (SX.row (.slice o1.A o1.n o1.c) 88 3 (encE (lntI l g))) :: (rI od (dfrP l)) :: (rI us1 (reachP l 0)) :: []) := hS;replace hS : Sat w0 w ((SX.blk b1 [.slice s.A s.n s.c] 30) :: (SX.row (.slice o1.A o1.n o1.c) 88 3 (encE (lntI l g ++ (unu l g ++ bodI l g b 0)))) :: (rI od (dfrP l)) :: (rI us1 (reachP l 0)) :: []) := by rw [unu_yes c21, show bodI l g b 0 = [] from rfl]; have h9 := hS; simp only [List.append_nil, List.nil_append] at h9 ⊢; exact h9
    refine wp_loop_ghost (fun n_ a_ w_ => ∃ (pz : Nat) (o2 : Sl), n_ = b.length - pz ∧ (pz ≤ b.length) ∧ Has 79 [(1, ptr b1 0), (2, .slice none 0 0), (3, .bool false), (5, .slice od.A od.n od.c), (8, .slice us1.A us1.n us1.c), (35, .slice s.A s.n s.c), (36, iv (s.n : Int)), (37, iv (g : Int)), (38, .bool (decide ((g : Int) < (s.n : Int)))), (39, iv (g : Int)), (40, .pointer (some ⟨bk s, of_ s + g * 1, none⟩)), (41, .slice sb.A sb.n sb.c), (9, iv (g : Int)), (10, .slice sb.A sb.n sb.c), (42, .slice us1.A us1.n us1.c), (43, iv (g : Int)), (44, .bool ((reachP l 0).contains (g : Int))), (45, .bool (!(((reachP l 0).contains (g : Int))))), (51, .slice sb.A sb.n sb.c), (52, iv (sb.n : Int)), (4, .slice o2.A o2.n o2.c), (53, iv (pz : Int))] a_ ∧ Sat w0 w_ ((SX.blk b1 [.slice s.A s.n s.c] 30) :: (SX.row (.slice o2.A o2.n o2.c) 88 3 (encE (lntI l g ++ (unu l g ++ bodI l g b pz)))) :: (rI od (dfrP l)) :: (rI us1 (reachP l 0)) :: [])) _ ⟨0, o1, rfl, Nat.zero_le _, ha.keeps [1, 2, 3, 5, 8, 35, 36, 37, 38, 39, 40, 41, 9, 10, 42, 43, 44, 45, 51, 52, 4, 53] _ rfl, hS⟩ ?_
    rintro n_ a w ⟨pz, o2, rfl, haa, ha, hS⟩
    refine wp_seq (jX [0] (jQ [(0, 54, .bool (decide ((pz : Int) < (sb.n : Int))))] ha fun a ha => ?_));refine jY (jJ (wp_seq ?_))
    by_cases c22 : (pz : Int) < (sb.n : Int)
    ·
     have hpz1 : pz < b.length := by omega
     obtain ⟨x, hx⟩ : ∃ x, b[pz]? = some x := ⟨_, List.getElem?_eq_getElem hpz1⟩;refine jU ha rfl (decide_eq_true c22) ?_;refine wp_skip (jJ (wp_seq (wp_block (wp_seq (jX [0, 1] (jQ [(0, 55, iv (pz : Int)), (1, 11, iv (pz : Int))] ha fun a ha => ?_))))));refine jY (jJ (wp_seq (jX [0, 1, 2, 3, 4, 5, 6] (xH 56 ha (hS.blk 0 rfl) fun a ha => ?_))));refine jQ [(1, 57, iv (g : Int)), (2, 58, iv (pz : Int)), (3, 59, .slice od.A od.n od.c)] ha fun a ha => ?_;replace hS := hS.pickN 4 [2, 0, 1, 3];refine jW (qQ 60 (vs := [.agg #[.slice s.A s.n s.c], iv (g : Int), iv (pz : Int), .slice od.A od.n od.c]) ha (lint_sat (sd := od) (f := (g : Int)) (x2 := (pz : Int)) hS hr hf c5 ⟨by omega, by omega⟩ hb ⟨by omega, by omega⟩ hx) fun v23 w a hp24 ha => ?_);obtain ⟨li1, rfl, hS⟩ := hp24;refine jQ [(5, 61, iv (li1.n : Int)), (6, 62, iv 0)] ha fun a ha => ?_;refine jY (jJ (wp_block ?_));replace hS := hS.pickN 5 [2, 3, 1, 4, 0];replace hS : Sat w0 w ((SX.blk b1 [.slice s.A s.n s.c] 30) :: (SX.row (.slice o2.A o2.n o2.c) 88 3 (encE (lntI l g ++ (unu l g ++ (bodI l g b pz ++ tagI g pz ((lintP l (g : Int) (pz : Int) b x).take 0)))))) :: (rI od (dfrP l)) :: (rI us1 (reachP l 0)) :: (SX.row (.slice li1.A li1.n li1.c) 3 1 (encJ (lintP l (g : Int) (pz : Int) b x))) :: []) := by rw [← encJ_I, show tagI g pz ((lintP l (g : Int) (pz : Int) b x).take 0) = [] from rfl, List.append_nil]; exact hS
     have hnl : li1.n = (lintP l (g : Int) (pz : Int) b x).length := hS.rowL (s := li1) (enc := cellsJ) 4 cellsJ_len (by decide) rfl;refine wp_loop_ghost (fun n_ a_ w_ => ∃ (k : Nat) (o3 : Sl), n_ = (lintP l (g : Int) (pz : Int) b x).length - k ∧ (k ≤ (lintP l (g : Int) (pz : Int) b x).length) ∧ Has 79 [(1, ptr b1 0), (2, .slice none 0 0), (3, .bool false), (5, .slice od.A od.n od.c), (8, .slice us1.A us1.n us1.c), (35, .slice s.A s.n s.c), (36, iv (s.n : Int)), (37, iv (g : Int)), (38, .bool (decide ((g : Int) < (s.n : Int)))), (39, iv (g : Int)), (40, .pointer (some ⟨bk s, of_ s + g * 1, none⟩)), (41, .slice sb.A sb.n sb.c), (9, iv (g : Int)), (10, .slice sb.A sb.n sb.c), (42, .slice us1.A us1.n us1.c), (43, iv (g : Int)), (44, .bool ((reachP l 0).contains (g : Int))), (45, .bool (!(((reachP l 0).contains (g : Int))))), (51, .slice sb.A sb.n sb.c), (52, iv (sb.n : Int)), (53, iv (pz : Int)), (54, .bool (decide ((pz : Int) < (sb.n : Int)))), (55, iv (pz : Int)), (11, iv (pz : Int)), (56, .agg #[.slice s.A s.n s.c]), (57, iv (g : Int)), (58, iv (pz : Int)), (59, .slice od.A od.n od.c), (60, .slice li1.A li1.n li1.c), (61, iv (li1.n : Int)), (4, .slice o3.A o3.n o3.c), (62, iv (k : Int))] a_ ∧ Sat w0 w_ ((SX.blk b1 [.slice s.A s.n s.c] 30) :: (SX.row (.slice o3.A o3.n o3.c) 88 3 (encE (lntI l g ++ (unu l g ++ (bodI l g b pz ++ tagI g pz ((lintP l (g : Int) (pz : Int) b x).take k)))))) :: (rI od (dfrP l)) :: (rI us1 (reachP l 0)) :: (SX.row (.slice li1.A li1.n li1.c) 3 1 (encJ (lintP l (g : Int) (pz : Int) b x))) :: [])) _ ⟨0, o2, rfl, Nat.zero_le _, ha.keeps [1, 2, 3, 5, 8, 35, 36, 37, 38, 39, 40, 41, 9, 10, 42, 43, 44, 45, 51, 52, 53, 54, 55, 11, 56, 57, 58, 59, 60, 61, 4, 62] _ rfl, hS⟩ ?_
     rintro n_ a w ⟨k, o3, rfl, hk, ha, hS⟩
     refine wp_seq (jX [0] (jQ [(0, 63, .bool (decide ((k : Int) < (li1.n : Int))))] ha fun a ha => ?_));refine jY (jJ (wp_seq ?_))
     by_cases c25 : (k : Int) < (li1.n : Int)
     ·
      have hkl : k < (lintP l (g : Int) (pz : Int) b x).length := by omega
      have hlp6 := lintP_len l (g : Int) (pz : Int) b x;obtain ⟨u, hu⟩ : ∃ u, (lintP l (g : Int) (pz : Int) b x)[k]? = some u := ⟨_, List.getElem?_eq_getElem hkl⟩;refine jU ha rfl (decide_eq_true c25) ?_;refine wp_skip (jJ (wp_seq (wp_block (wp_seq (jX [0, 1, 2] (qX (.pointer (some ⟨bk li1, k * 1, none⟩)) ha (xQ (s := li1) (el := 3) (sz := 1) (j := k) ha (xY (t := 44) (x := 60) (y := 62) (d := 64)) rfl rfl (by kernel_rfl) (by kernel_rfl) (hS.rowA (s := li1) 4 rfl (by have := (List.getElem?_eq_some_iff.1 hu).1; rw [encJ_length]; omega)) (rfl) (by have h9 := hS.rowL (s := li1) (enc := cellsJ) 4 cellsJ_len (by decide) rfl; have := (List.getElem?_eq_some_iff.1 hu).1; omega)) fun a ha => ?_))))));refine qX (iv u) ha (qV ha (xK (t := 3) (x := 64) (d := 65) (ty := 3)) rfl (by kernel_rfl) (fun w' hw => by rw [hw]; exact (hS.rdC (s := li1) 4 rfl).cells _ _ ((flat_get (enc := cellsJ) (o := 0) cellsJ_len hu (by decide)).trans rfl))) fun a ha => ?_;refine jQ [(2, 13, iv u)] ha fun a ha => ?_;refine jY (jJ (jX [0, 1, 2, 3, 4, 5, 6, 7] (jQ [(0, 66, .slice o3.A o3.n o3.c), (1, 67, iv u), (2, 68, iv (g : Int)), (3, 69, iv (pz : Int)), (4, 70, .agg #[iv u, iv (g : Int), iv (pz : Int)])] ha fun a ha => ?_)));refine jW (qY 71 [iv u, iv (g : Int), iv (pz : Int)] 88 (fun b => .slice (some ⟨b, 0, none⟩) 1 1) ha hS fun b26 w a hb27 hS ha => ?_);refine jW (o_ap 72 2 0 (encE ((lntI l g ++ (unu l g ++ (bodI l g b pz ++ tagI g pz ((lintP l (g : Int) (pz : Int) b x).take k)))) ++ [(u, (g : Int), (pz : Int))])) ha hS rfl rfl (by rw [encE_length]; simp only [List.length_append, List.length_cons, List.length_nil]; have h1 := lntI_len hsh.1 g; have h2 := unu_len l g; have h3 := bodI_len l g b pz; have h4 := tagI_len g pz l (g : Int) (pz : Int) b x k; omega) (encE_snoc _ _ _ _) fun s31 w a hS hn32 ha => ?_);refine jQ [(7, 4, .slice s31.A s31.n s31.c)] ha fun a ha => ?_;refine jY (in_n (jJ (jX [0, 1] (xJ 73 ((k : Int) + 1) ha fun a ha => ?_))));refine jQ [(1, 62, iv ((k : Int) + 1))] ha fun a ha => ?_;refine jY (jJ ?_);replace hS := hS.pickN 6 [1, 2, 3, 4, 5];replace hS : Sat w0 w ((SX.blk b1 [.slice s.A s.n s.c] 30) :: (SX.row (.slice s31.A s31.n s31.c) 88 3 (encE (lntI l g ++ (unu l g ++ (bodI l g b pz ++ tagI g pz ((lintP l (g : Int) (pz : Int) b x).take (k + 1))))))) :: (rI od (dfrP l)) :: (rI us1 (reachP l 0)) :: (SX.row (.slice li1.A li1.n li1.c) 3 1 (encJ (lintP l (g : Int) (pz : Int) b x))) :: []) := by rw [tagI_next hu]; have h9 := hS; simp only [List.append_assoc] at h9 ⊢; exact h9
      exact ⟨_, by omega, k + 1, s31, rfl, hkl, ha.keeps [1, 2, 3, 5, 8, 35, 36, 37, 38, 39, 40, 41, 9, 10, 42, 43, 44, 45, 51, 52, 53, 54, 55, 11, 56, 57, 58, 59, 60, 61, 4, 62] _ rfl, hS⟩
     refine jK ha rfl (decide_eq_false c25) ?_;refine wp_exit (qJ (qJ (in_x (in_n (jJ (jX [0, 1] (xJ 74 ((pz : Int) + 1) ha fun a ha => ?_)))))));refine jQ [(1, 53, iv ((pz : Int) + 1))] ha fun a ha => ?_;refine jY (jJ ?_);replace hS := hS.pickN 5 [0, 1, 2, 3];have hke : k = (lintP l (g : Int) (pz : Int) b x).length := by omega
     replace hS : Sat w0 w ((SX.blk b1 [.slice s.A s.n s.c] 30) :: (SX.row (.slice o3.A o3.n o3.c) 88 3 (encE (lntI l g ++ (unu l g ++ bodI l g b (pz + 1))))) :: (rI od (dfrP l)) :: (rI us1 (reachP l 0)) :: []) := by rw [bodI_next hx]; rw [hke, List.take_length] at hS; exact hS
     exact ⟨_, by omega, pz + 1, o3, rfl, hpz1, ha.keeps [1, 2, 3, 5, 8, 35, 36, 37, 38, 39, 40, 41, 9, 10, 42, 43, 44, 45, 51, 52, 4, 53] _ rfl, hS⟩
    refine jK ha rfl (decide_eq_false c22) ?_;refine wp_exit (qJ (qJ (in_x (in_n (jJ (jX [0, 1] (xJ 75 ((g : Int) + 1) ha fun a ha => ?_)))))));refine jQ [(1, 37, iv ((g : Int) + 1))] ha fun a ha => ?_;refine jY (jJ ?_);replace hS : Sat w0 w ((SX.blk b1 [.slice s.A s.n s.c] 30) :: (SX.row (.slice o2.A o2.n o2.c) 88 3 (encE (lntI l g ++ (unu l g ++ bodI l g b pz)))) :: (rI od (dfrP l)) :: (rI us1 (reachP l 0)) :: []) := hS;have hae : pz = b.length := by omega
    replace hS : Sat w0 w ((SX.blk b1 [.slice s.A s.n s.c] 30) :: (SX.row (.slice o2.A o2.n o2.c) 88 3 (encE (lntI l (g + 1)))) :: (rI od (dfrP l)) :: (rI us1 (reachP l 0)) :: []) := by rw [lntI_next hb, ← hae]; exact hS
    exact ⟨_, by omega, g + 1, o2, rfl, hgl, ha.keeps [1, 2, 3, 5, 8, 35, 36, 4, 37] _ rfl, hS⟩
   refine jU ha rfl (xG c21) ?_;refine jX [0, 1, 2, 3, 4, 5] (jQ [(0, 46, .slice o1.A o1.n o1.c), (1, 47, iv (g : Int)), (2, 48, .agg #[iv 4, iv (g : Int), iv 0])] ha fun a ha => ?_);refine jW (qY 49 [iv 4, iv (g : Int), iv 0] 88 (fun b => .slice (some ⟨b, 0, none⟩) 1 1) ha hS fun b33 w a hb34 hS ha => ?_);refine jW (o_ap 50 2 0 (encE ((lntI l g) ++ [(4, (g : Int), 0)])) ha hS rfl rfl (by rw [encE_length]; simp only [List.length_append, List.length_cons, List.length_nil]; have h1 := lntI_len hsh.1 g; omega) (encE_snoc _ _ _ _) fun s38 w a hS hn39 ha => ?_);refine jQ [(5, 4, .slice s38.A s38.n s38.c)] ha fun a ha => ?_;refine jY (jJ (wp_seq (jX [0, 1, 2] (jQ [(0, 51, .slice sb.A sb.n sb.c), (1, 52, iv (sb.n : Int)), (2, 53, iv 0)] ha fun a ha => ?_))));refine jY (jJ (wp_block ?_));replace hS := hS.pickN 5 [1, 2, 3, 4];replace hS : Sat w0 w ((SX.blk b1 [.slice s.A s.n s.c] 30) :: (SX.row (.slice s38.A s38.n s38.c) 88 3 (encE (lntI l g ++ (unu l g ++ bodI l g b 0)))) :: (rI od (dfrP l)) :: (rI us1 (reachP l 0)) :: []) := by rw [unu_no c21, show bodI l g b 0 = [] from rfl]; have h9 := hS; simp only [List.append_nil, List.nil_append] at h9 ⊢; exact h9
   refine wp_loop_ghost (fun n_ a_ w_ => ∃ (pz : Nat) (o2 : Sl), n_ = b.length - pz ∧ (pz ≤ b.length) ∧ Has 79 [(1, ptr b1 0), (2, .slice none 0 0), (3, .bool false), (5, .slice od.A od.n od.c), (8, .slice us1.A us1.n us1.c), (35, .slice s.A s.n s.c), (36, iv (s.n : Int)), (37, iv (g : Int)), (38, .bool (decide ((g : Int) < (s.n : Int)))), (39, iv (g : Int)), (40, .pointer (some ⟨bk s, of_ s + g * 1, none⟩)), (41, .slice sb.A sb.n sb.c), (9, iv (g : Int)), (10, .slice sb.A sb.n sb.c), (42, .slice us1.A us1.n us1.c), (43, iv (g : Int)), (44, .bool ((reachP l 0).contains (g : Int))), (45, .bool (!(((reachP l 0).contains (g : Int))))), (46, .slice o1.A o1.n o1.c), (47, iv (g : Int)), (48, .agg #[iv 4, iv (g : Int), iv 0]), (49, .slice (some ⟨b33, 0, none⟩) 1 1), (50, .slice s38.A s38.n s38.c), (51, .slice sb.A sb.n sb.c), (52, iv (sb.n : Int)), (4, .slice o2.A o2.n o2.c), (53, iv (pz : Int))] a_ ∧ Sat w0 w_ ((SX.blk b1 [.slice s.A s.n s.c] 30) :: (SX.row (.slice o2.A o2.n o2.c) 88 3 (encE (lntI l g ++ (unu l g ++ bodI l g b pz)))) :: (rI od (dfrP l)) :: (rI us1 (reachP l 0)) :: [])) _ ⟨0, s38, rfl, Nat.zero_le _, ha.keeps [1, 2, 3, 5, 8, 35, 36, 37, 38, 39, 40, 41, 9, 10, 42, 43, 44, 45, 46, 47, 48, 49, 50, 51, 52, 4, 53] _ rfl, hS⟩ ?_
   rintro n_ a w ⟨pz, o2, rfl, haa, ha, hS⟩
   refine wp_seq (jX [0] (jQ [(0, 54, .bool (decide ((pz : Int) < (sb.n : Int))))] ha fun a ha => ?_));refine jY (jJ (wp_seq ?_))
   by_cases c40 : (pz : Int) < (sb.n : Int)
   ·
    have hpz1 : pz < b.length := by omega
    obtain ⟨x, hx⟩ : ∃ x, b[pz]? = some x := ⟨_, List.getElem?_eq_getElem hpz1⟩;refine jU ha rfl (decide_eq_true c40) ?_;refine wp_skip (jJ (wp_seq (wp_block (wp_seq (jX [0, 1] (jQ [(0, 55, iv (pz : Int)), (1, 11, iv (pz : Int))] ha fun a ha => ?_))))));refine jY (jJ (wp_seq (jX [0, 1, 2, 3, 4, 5, 6] (xH 56 ha (hS.blk 0 rfl) fun a ha => ?_))));refine jQ [(1, 57, iv (g : Int)), (2, 58, iv (pz : Int)), (3, 59, .slice od.A od.n od.c)] ha fun a ha => ?_;replace hS := hS.pickN 4 [2, 0, 1, 3];refine jW (qQ 60 (vs := [.agg #[.slice s.A s.n s.c], iv (g : Int), iv (pz : Int), .slice od.A od.n od.c]) ha (lint_sat (sd := od) (f := (g : Int)) (x2 := (pz : Int)) hS hr hf c5 ⟨by omega, by omega⟩ hb ⟨by omega, by omega⟩ hx) fun v41 w a hp42 ha => ?_);obtain ⟨li2, rfl, hS⟩ := hp42;refine jQ [(5, 61, iv (li2.n : Int)), (6, 62, iv 0)] ha fun a ha => ?_;refine jY (jJ (wp_block ?_));replace hS := hS.pickN 5 [2, 3, 1, 4, 0];replace hS : Sat w0 w ((SX.blk b1 [.slice s.A s.n s.c] 30) :: (SX.row (.slice o2.A o2.n o2.c) 88 3 (encE (lntI l g ++ (unu l g ++ (bodI l g b pz ++ tagI g pz ((lintP l (g : Int) (pz : Int) b x).take 0)))))) :: (rI od (dfrP l)) :: (rI us1 (reachP l 0)) :: (SX.row (.slice li2.A li2.n li2.c) 3 1 (encJ (lintP l (g : Int) (pz : Int) b x))) :: []) := by rw [← encJ_I, show tagI g pz ((lintP l (g : Int) (pz : Int) b x).take 0) = [] from rfl, List.append_nil]; exact hS
    have hnl : li2.n = (lintP l (g : Int) (pz : Int) b x).length := hS.rowL (s := li2) (enc := cellsJ) 4 cellsJ_len (by decide) rfl;refine wp_loop_ghost (fun n_ a_ w_ => ∃ (k : Nat) (o3 : Sl), n_ = (lintP l (g : Int) (pz : Int) b x).length - k ∧ (k ≤ (lintP l (g : Int) (pz : Int) b x).length) ∧ Has 79 [(1, ptr b1 0), (2, .slice none 0 0), (3, .bool false), (5, .slice od.A od.n od.c), (8, .slice us1.A us1.n us1.c), (35, .slice s.A s.n s.c), (36, iv (s.n : Int)), (37, iv (g : Int)), (38, .bool (decide ((g : Int) < (s.n : Int)))), (39, iv (g : Int)), (40, .pointer (some ⟨bk s, of_ s + g * 1, none⟩)), (41, .slice sb.A sb.n sb.c), (9, iv (g : Int)), (10, .slice sb.A sb.n sb.c), (42, .slice us1.A us1.n us1.c), (43, iv (g : Int)), (44, .bool ((reachP l 0).contains (g : Int))), (45, .bool (!(((reachP l 0).contains (g : Int))))), (46, .slice o1.A o1.n o1.c), (47, iv (g : Int)), (48, .agg #[iv 4, iv (g : Int), iv 0]), (49, .slice (some ⟨b33, 0, none⟩) 1 1), (50, .slice s38.A s38.n s38.c), (51, .slice sb.A sb.n sb.c), (52, iv (sb.n : Int)), (53, iv (pz : Int)), (54, .bool (decide ((pz : Int) < (sb.n : Int)))), (55, iv (pz : Int)), (11, iv (pz : Int)), (56, .agg #[.slice s.A s.n s.c]), (57, iv (g : Int)), (58, iv (pz : Int)), (59, .slice od.A od.n od.c), (60, .slice li2.A li2.n li2.c), (61, iv (li2.n : Int)), (4, .slice o3.A o3.n o3.c), (62, iv (k : Int))] a_ ∧ Sat w0 w_ ((SX.blk b1 [.slice s.A s.n s.c] 30) :: (SX.row (.slice o3.A o3.n o3.c) 88 3 (encE (lntI l g ++ (unu l g ++ (bodI l g b pz ++ tagI g pz ((lintP l (g : Int) (pz : Int) b x).take k)))))) :: (rI od (dfrP l)) :: (rI us1 (reachP l 0)) :: (SX.row (.slice li2.A li2.n li2.c) 3 1 (encJ (lintP l (g : Int) (pz : Int) b x))) :: [])) _ ⟨0, o2, rfl, Nat.zero_le _, ha.keeps [1, 2, 3, 5, 8, 35, 36, 37, 38, 39, 40, 41, 9, 10, 42, 43, 44, 45, 46, 47, 48, 49, 50, 51, 52, 53, 54, 55, 11, 56, 57, 58, 59, 60, 61, 4, 62] _ rfl, hS⟩ ?_
    rintro n_ a w ⟨k, o3, rfl, hk, ha, hS⟩
    refine wp_seq (jX [0] (jQ [(0, 63, .bool (decide ((k : Int) < (li2.n : Int))))] ha fun a ha => ?_));refine jY (jJ (wp_seq ?_))
    by_cases c43 : (k : Int) < (li2.n : Int)
    ·
     have hkl : k < (lintP l (g : Int) (pz : Int) b x).length := by omega
     have hlp6 := lintP_len l (g : Int) (pz : Int) b x;obtain ⟨u, hu⟩ : ∃ u, (lintP l (g : Int) (pz : Int) b x)[k]? = some u := ⟨_, List.getElem?_eq_getElem hkl⟩;refine jU ha rfl (decide_eq_true c43) ?_;refine wp_skip (jJ (wp_seq (wp_block (wp_seq (jX [0, 1, 2] (qX (.pointer (some ⟨bk li2, k * 1, none⟩)) ha (xQ (s := li2) (el := 3) (sz := 1) (j := k) ha (xY (t := 44) (x := 60) (y := 62) (d := 64)) rfl rfl (by kernel_rfl) (by kernel_rfl) (hS.rowA (s := li2) 4 rfl (by have := (List.getElem?_eq_some_iff.1 hu).1; rw [encJ_length]; omega)) (rfl) (by have h9 := hS.rowL (s := li2) (enc := cellsJ) 4 cellsJ_len (by decide) rfl; have := (List.getElem?_eq_some_iff.1 hu).1; omega)) fun a ha => ?_))))));refine qX (iv u) ha (qV ha (xK (t := 3) (x := 64) (d := 65) (ty := 3)) rfl (by kernel_rfl) (fun w' hw => by rw [hw]; exact (hS.rdC (s := li2) 4 rfl).cells _ _ ((flat_get (enc := cellsJ) (o := 0) cellsJ_len hu (by decide)).trans rfl))) fun a ha => ?_;refine jQ [(2, 13, iv u)] ha fun a ha => ?_;refine jY (jJ (jX [0, 1, 2, 3, 4, 5, 6, 7] (jQ [(0, 66, .slice o3.A o3.n o3.c), (1, 67, iv u), (2, 68, iv (g : Int)), (3, 69, iv (pz : Int)), (4, 70, .agg #[iv u, iv (g : Int), iv (pz : Int)])] ha fun a ha => ?_)));refine jW (qY 71 [iv u, iv (g : Int), iv (pz : Int)] 88 (fun b => .slice (some ⟨b, 0, none⟩) 1 1) ha hS fun b44 w a hb45 hS ha => ?_);refine jW (o_ap 72 2 0 (encE ((lntI l g ++ (unu l g ++ (bodI l g b pz ++ tagI g pz ((lintP l (g : Int) (pz : Int) b x).take k)))) ++ [(u, (g : Int), (pz : Int))])) ha hS rfl rfl (by rw [encE_length]; simp only [List.length_append, List.length_cons, List.length_nil]; have h1 := lntI_len hsh.1 g; have h2 := unu_len l g; have h3 := bodI_len l g b pz; have h4 := tagI_len g pz l (g : Int) (pz : Int) b x k; omega) (encE_snoc _ _ _ _) fun s49 w a hS hn50 ha => ?_);refine jQ [(7, 4, .slice s49.A s49.n s49.c)] ha fun a ha => ?_;refine jY (in_n (jJ (jX [0, 1] (xJ 73 ((k : Int) + 1) ha fun a ha => ?_))));refine jQ [(1, 62, iv ((k : Int) + 1))] ha fun a ha => ?_;refine jY (jJ ?_);replace hS := hS.pickN 6 [1, 2, 3, 4, 5];replace hS : Sat w0 w ((SX.blk b1 [.slice s.A s.n s.c] 30) :: (SX.row (.slice s49.A s49.n s49.c) 88 3 (encE (lntI l g ++ (unu l g ++ (bodI l g b pz ++ tagI g pz ((lintP l (g : Int) (pz : Int) b x).take (k + 1))))))) :: (rI od (dfrP l)) :: (rI us1 (reachP l 0)) :: (SX.row (.slice li2.A li2.n li2.c) 3 1 (encJ (lintP l (g : Int) (pz : Int) b x))) :: []) := by rw [tagI_next hu]; have h9 := hS; simp only [List.append_assoc] at h9 ⊢; exact h9
     exact ⟨_, by omega, k + 1, s49, rfl, hkl, ha.keeps [1, 2, 3, 5, 8, 35, 36, 37, 38, 39, 40, 41, 9, 10, 42, 43, 44, 45, 46, 47, 48, 49, 50, 51, 52, 53, 54, 55, 11, 56, 57, 58, 59, 60, 61, 4, 62] _ rfl, hS⟩
    refine jK ha rfl (decide_eq_false c43) ?_;refine wp_exit (qJ (qJ (in_x (in_n (jJ (jX [0, 1] (xJ 74 ((pz : Int) + 1) ha fun a ha => ?_)))))));refine jQ [(1, 53, iv ((pz : Int) + 1))] ha fun a ha => ?_;refine jY (jJ ?_);replace hS := hS.pickN 5 [0, 1, 2, 3];have hke : k = (lintP l (g : Int) (pz : Int) b x).length := by omega
    replace hS : Sat w0 w ((SX.blk b1 [.slice s.A s.n s.c] 30) :: (SX.row (.slice o3.A o3.n o3.c) 88 3 (encE (lntI l g ++ (unu l g ++ bodI l g b (pz + 1))))) :: (rI od (dfrP l)) :: (rI us1 (reachP l 0)) :: []) := by rw [bodI_next hx]; rw [hke, List.take_length] at hS; exact hS
    exact ⟨_, by omega, pz + 1, o3, rfl, hpz1, ha.keeps [1, 2, 3, 5, 8, 35, 36, 37, 38, 39, 40, 41, 9, 10, 42, 43, 44, 45, 46, 47, 48, 49, 50, 51, 52, 4, 53] _ rfl, hS⟩
   refine jK ha rfl (decide_eq_false c40) ?_;refine wp_exit (qJ (qJ (in_x (in_n (jJ (jX [0, 1] (xJ 75 ((g : Int) + 1) ha fun a ha => ?_)))))));refine jQ [(1, 37, iv ((g : Int) + 1))] ha fun a ha => ?_;refine jY (jJ ?_);replace hS : Sat w0 w ((SX.blk b1 [.slice s.A s.n s.c] 30) :: (SX.row (.slice o2.A o2.n o2.c) 88 3 (encE (lntI l g ++ (unu l g ++ bodI l g b pz)))) :: (rI od (dfrP l)) :: (rI us1 (reachP l 0)) :: []) := hS;have hae : pz = b.length := by omega
   replace hS : Sat w0 w ((SX.blk b1 [.slice s.A s.n s.c] 30) :: (SX.row (.slice o2.A o2.n o2.c) 88 3 (encE (lntI l (g + 1)))) :: (rI od (dfrP l)) :: (rI us1 (reachP l 0)) :: []) := by rw [lntI_next hb, ← hae]; exact hS
   exact ⟨_, by omega, g + 1, o2, rfl, hgl, ha.keeps [1, 2, 3, 5, 8, 35, 36, 4, 37] _ rfl, hS⟩
  refine jK ha rfl (decide_eq_false c18) ?_
  refine wp_exit (qJ (qJ (in_x (jJ (wp_seq ?_)))))
  have hge : g = l.length := by omega
  replace hS : Sat w0 w ((SX.blk b1 [.slice s.A s.n s.c] 30) :: (SX.row (.slice o1.A o1.n o1.c) 88 3 (encE (lntI l l.length))) :: (rI od (dfrP l)) :: (rI us1 (reachP l 0)) :: []) := by rw [hge] at hS; exact hS
  refine jX [0, 1] (jQ [(0, 76, .slice o1.A o1.n o1.c)] ha fun a ha => ?_)
  replace hS := hS.pickN 4 [1, 0, 2, 3]
  refine jW (qQ 77 (vs := [.slice o1.A o1.n o1.c, (.func (.func 84) #[] #[])]) ha (sort3_sat hS (by have := lntI_len hsh.1 l.length; omega)) fun v51 w a hp52 ha => ?_)
  obtain ⟨L9, rfl, hp9, hs9, hS⟩ := hp52
  refine jY ?_
  replace ha := ha.as [(2, .slice none 0 0), (3, .bool false), (4, .slice o1.A o1.n o1.c)] rfl
  refine jJ (wp_seq (jX [0, 1, 2] (jQ [(0, 78, .slice o1.A o1.n o1.c), (1, 2, .slice o1.A o1.n o1.c), (2, 3, .bool true)] ha fun a ha => ?_)))
  refine jY (jJ (wp_ret (yG ha (by kernel_rfl) (qK (t := 2) ha rfl) (qK (t := 3) ha rfl) ?_)))
  have hL9 := lnt_sorted hp9 hs9
  rw [hL9] at hS
  rw [lintR_yes c5]
  exact ⟨o1, rfl, hS.pickN 4 [0]⟩
 refine jU ha rfl (xG c5) ?_
 refine wp_seq (jX [0, 1] (jQ [(0, 2, .slice none 0 0), (1, 3, .bool false)] ha fun a ha => ?_))
 refine jY (jJ (wp_ret (qG (yG ha (by kernel_rfl) (qK (t := 2) ha rfl) (qK (t := 3) ha rfl) ?_))))
 rw [lintR_no c5]
 exact ⟨⟨none, 0, 0⟩, rfl, Sat.nilRow (T := 88) (sz := 3) (Sat.rest [_] hS)⟩
theorem impl_LintProgram_sat {w0 w : World} {Rs : List Asn} {s : Sl} {l : List (List ST)} (hS : Sat w0 w Rs) (hr : RdP w s l) (hf : Fits l) :
  Calls Try.prog 25 #[.agg #[.slice s.A s.n s.c]] w (Ret fun r w' => ∃ o : Sl, r = .tuple #[.slice o.A o.n o.c, .bool (lintR l).2] ∧ Sat w0 w' (SX.row (.slice o.A o.n o.c) 88 3 (encE ((lintR l).1)) :: Rs)) :=
 (impl_LintProgram_sat0 hr hf).mono fun e w' h => by
  cases e with
  | returned r => obtain ⟨o, h1, h2⟩ := h; exact ⟨o, h1, hS.comp h2⟩
  | _ => exact h.elim
theorem code24 : Try.f24.body = some (Code.seq (cr Try.f24 0 false) (Code.seq (cr Try.f24 1 false) (Code.seq (Code.seq (cr Try.f24 2 false) (Code.cond (Operand.tmp 11) (Code.seq (cr Try.f24 3 false) Code.ret) Code.skip)) (Code.seq (Code.seq (cr Try.f24 4 false) (Code.block 0 (Code.loop (Code.seq (Code.seq (cr Try.f24 5 false) (Code.cond (Operand.tmp 14) Code.skip (Code.exit 0))) (Code.seq (Code.block 1 (Code.seq (cr Try.f24 7 false) (Code.block 2 (Code.loop (Code.seq (Code.seq (cr Try.f24 8 false) (Code.cond (Operand.tmp 21) Code.skip (Code.exit 2))) (Code.seq (Code.block 3 (Code.seq (Code.seq (cr Try.f24 10 false) (Code.cond (Operand.tmp 32) (cr Try.f24 11 false) Code.skip)) (Code.seq (cr Try.f24 12 false) (Code.block 4 (Code.loop (Code.seq (Code.seq (cr Try.f24 13 false) (Code.cond (Operand.tmp 46) Code.skip (Code.exit 4))) (Code.seq (Code.block 5 (Code.seq (cr Try.f24 15 false) (Code.cond (Operand.tmp 53) (cr Try.f24 16 false) Code.skip))) (cr Try.f24 14 false)))))))) (cr Try.f24 9 false))))))) (cr Try.f24 6 false)))))) (Code.seq (cr Try.f24 17 false) Code.ret))))) := by kernel_rfl
theorem spec_LintProgram_sat0 {w0 : World} {s : Sl} {l : List (List ST)} (hr : RdP w0 s l) (hf : Fits l) :
  Calls Try.prog 24 #[.agg #[.slice s.A s.n s.c]] w0 (Ret fun r w' => ∃ o : Sl, r = .tuple #[.slice o.A o.n o.c, .bool (lintR l).2] ∧ Sat w0 w' [SX.row (.slice o.A o.n o.c) 88 3 (encE ((lintR l).1))]) := by
 have hS : Sat w0 w0 [] := Sat.start w0
 have hlen := hf.len
 have hsn := hr.len
 refine enter (n := 62) Try.func24 code24 (by kernel_rfl) (Nat.le_of_ble_eq_true rfl) (fun a ha => ?_)
 replace ha : Has 62 [(0, .agg #[.slice s.A s.n s.c])] a := ha
 refine wp_seq (jX [0, 1, 2] (jW (qY 1 [.slice s.A s.n s.c] 30 (ptr · 0) ha hS fun b1 w a hb2 hS ha => ?_)))
 refine jQ [(1, 2, .slice none 0 0), (2, 3, .bool false)] ha fun a ha => ?_
 refine jY (jJ (wp_seq (jX [0, 1] (jW (qY 8 [] 88 (fun b => .slice (some ⟨b, 0, none⟩) 0 0) ha hS fun b3 w a hb4 hS ha => ?_)))))
 refine jQ [(1, 4, .slice (some ⟨b3, 0, none⟩) 0 0)] ha fun a ha => ?_
 refine jY (jJ (wp_seq (wp_seq (jX [0, 1, 2] (xH 9 ha (hS.blk 1 rfl) fun a ha => ?_)))))
 refine jW (qQ 10 (vs := [.agg #[.slice s.A s.n s.c]]) ha (l2Program_sat hS (hr.sat hS) hf) fun v5 w a hp6 ha => ?_)
 obtain ⟨rfl, hS⟩ := hp6
 refine jQ [(2, 11, .bool (!(programB l)))] ha fun a ha => ?_
 refine jY (jJ ?_)
 rcases Bool.eq_false_or_eq_true (programB l) with c7 | c7
 ·
  have hsh := prog_short c7
  have hl1 : 1 ≤ l.length := by have h9 := c7; simp only [programB, Bool.and_eq_true, decide_eq_true_eq] at h9; exact h9.1.1
  refine jK ha rfl (xU c7) ?_
  refine wp_skip (jJ (wp_seq (wp_seq (jX [0] (jQ [(0, 5, iv 1)] ha fun a ha => ?_)))))
  refine jY (jJ (wp_block ?_))
  replace hS := hS.blk0 3 0 rfl
  replace hS := hS.pickN 2 [1, 0]
  replace hS : Sat w0 w ((SX.blk b1 [.slice s.A s.n s.c] 30) :: (SX.row (.slice ((⟨some ⟨b3, 0, none⟩, 0, 0⟩ : Sl).A) ((⟨some ⟨b3, 0, none⟩, 0, 0⟩ : Sl).n) ((⟨some ⟨b3, 0, none⟩, 0, 0⟩ : Sl).c)) 88 3 (encE (lntQ l 0))) :: []) := hS
  refine wp_loop_ghost (fun n_ a_ w_ => ∃ (j : Nat) (o1 : Sl), n_ = 7 - j ∧ (j ≤ 7) ∧ Has 62 [(1, ptr b1 0), (2, .slice none 0 0), (3, .bool false), (4, .slice o1.A o1.n o1.c), (5, iv ((j : Int) + 1))] a_ ∧ Sat w0 w_ ((SX.blk b1 [.slice s.A s.n s.c] 30) :: (SX.row (.slice o1.A o1.n o1.c) 88 3 (encE (lntQ l j))) :: [])) _ ⟨0, ⟨some ⟨b3, 0, none⟩, 0, 0⟩, rfl, Nat.zero_le _, ha.keeps [1, 2, 3, 4, 5] _ rfl, hS⟩ ?_
  rintro n_ a w ⟨j, o1, rfl, hj7, ha, hS⟩
  refine wp_seq (wp_seq (jX [0, 1] (jQ [(0, 13, iv ((j : Int) + 1)), (1, 14, .bool (decide (((j : Int) + 1) ≤ 7)))] ha fun a ha => ?_)))
  refine jY (jJ ?_)
  by_cases c8 : ((j : Int) + 1) ≤ 7
  ·
   refine jU ha rfl (decide_eq_true c8) ?_;refine wp_skip (jJ (wp_seq (wp_block (wp_seq (jX [0] (jQ [(0, 6, iv 0)] ha fun a ha => ?_))))));refine jY (jJ (wp_block ?_));replace hS : Sat w0 w ((SX.blk b1 [.slice s.A s.n s.c] 30) :: (SX.row (.slice o1.A o1.n o1.c) 88 3 (encE (lntQ l j))) :: []) := hS;replace hS : Sat w0 w ((SX.blk b1 [.slice s.A s.n s.c] 30) :: (SX.row (.slice o1.A o1.n o1.c) 88 3 (encE (lntQ l j ++ rulQ l ((j : Int) + 1) 0))) :: []) := by rw [show rulQ l ((j : Int) + 1) 0 = [] from rfl, List.append_nil]; exact hS
   refine wp_loop_ghost (fun n_ a_ w_ => ∃ (g : Nat) (o2 : Sl), n_ = l.length - g ∧ (g ≤ l.length) ∧ Has 62 [(1, ptr b1 0), (2, .slice none 0 0), (3, .bool false), (5, iv ((j : Int) + 1)), (13, iv ((j : Int) + 1)), (14, .bool (decide (((j : Int) + 1) ≤ 7))), (4, .slice o2.A o2.n o2.c), (6, iv (g : Int))] a_ ∧ Sat w0 w_ ((SX.blk b1 [.slice s.A s.n s.c] 30) :: (SX.row (.slice o2.A o2.n o2.c) 88 3 (encE (lntQ l j ++ rulQ l ((j : Int) + 1) g))) :: [])) _ ⟨0, o1, rfl, Nat.zero_le _, ha.keeps [1, 2, 3, 5, 13, 14, 4, 6] _ rfl, hS⟩ ?_
   rintro n_ a w ⟨g, o2, rfl, hg, ha, hS⟩
   refine wp_seq (wp_seq (jX [0, 1, 2, 3, 4] (jQ [(0, 17, iv (g : Int)), (1, 18, ptr b1 0)] ha fun a ha => ?_)));refine qZ (d := 19) (b := b1) (j := 0) ha (hS.blk 0 rfl) rfl fun a ha => ?_;refine jQ [(3, 20, iv (s.n : Int)), (4, 21, .bool (decide ((g : Int) < (s.n : Int))))] ha fun a ha => ?_;refine jY (jJ ?_)
   by_cases c9 : (g : Int) < (s.n : Int)
   ·
    have hgl : g < l.length := by omega
    obtain ⟨b, hb⟩ : ∃ b, l[g]? = some b := ⟨_, List.getElem?_eq_getElem hgl⟩;have hb8 := hsh.1 b (List.mem_of_getElem? hb);obtain ⟨hA0, sb, hcb, hrb⟩ := body_rd hr hb;have hsb := hrb.len;refine jU ha rfl (decide_eq_true c9) ?_;refine wp_skip (jJ (wp_seq (wp_block (wp_seq (wp_seq (jX [0, 1, 2, 3, 4, 5, 6, 7, 8] (jQ [(0, 24, iv ((j : Int) + 1)), (1, 25, .bool (decide (((j : Int) + 1) = 4))), (2, 26, .bool (decide (((j : Int) + 1) = 4)))] ha fun a ha => ?_)))))))
    by_cases c10 : ((j : Int) + 1) = 4
    ·
     replace ha := ha.turn 25 (.bool true) rfl (congrArg Value.bool (decide_eq_true c10));replace ha := ha.turn 26 (.bool true) rfl (congrArg Value.bool (decide_eq_true c10));refine xH 27 ha (hS.blk 0 rfl) fun a ha => ?_;refine jW (qQ 28 (vs := [.agg #[.slice s.A s.n s.c], iv 0]) ha (reachQ_sat (f := 0) hS hr hf c7 ⟨by omega, by omega⟩) fun v11 w a hp12 ha => ?_);obtain ⟨us1, rfl, hS⟩ := hp12;refine jQ [(5, 29, iv (g : Int))] ha fun a ha => ?_;refine jW (qQ 30 (vs := [.slice us1.A us1.n us1.c, iv (g : Int)]) ha (bhas_sat hS (hS.rdRow (s := us1) 0 rfl)) fun v13 w a hp14 ha => ?_);obtain ⟨rfl, hS⟩ := hp14;refine jQ [(7, 31, .bool (!(((reachP l 0).contains (g : Int))))), (8, 32, .bool (!(((reachP l 0).contains (g : Int)))))] ha fun a ha => ?_;refine jY (jJ ?_)
     rcases Bool.eq_false_or_eq_true ((reachP l 0).contains (g : Int)) with c15 | c15
     ·
      refine jK ha rfl (xU c15) ?_;refine wp_skip (jJ (wp_seq (jX [0] (jQ [(0, 7, iv 0)] ha fun a ha => ?_))));refine jY (jJ (wp_block ?_));replace hS := hS.pickN 3 [1, 2];replace hS : Sat w0 w ((SX.blk b1 [.slice s.A s.n s.c] 30) :: (SX.row (.slice o2.A o2.n o2.c) 88 3 (encE (lntQ l j ++ (rulQ l ((j : Int) + 1) g ++ (unuQ l ((j : Int) + 1) g ++ bodQ l ((j : Int) + 1) g b 0))))) :: []) := by rw [unuQ_in c15, show bodQ l ((j : Int) + 1) g b 0 = [] from rfl]; have h9 := hS; simp only [List.append_assoc, List.append_nil, List.nil_append] at h9 ⊢; exact h9
      refine wp_loop_ghost (fun n_ a_ w_ => ∃ (pz : Nat) (o3 : Sl), n_ = b.length - pz ∧ (pz ≤ b.length) ∧ Has 62 [(1, ptr b1 0), (2, .slice none 0 0), (3, .bool false), (5, iv ((j : Int) + 1)), (13, iv ((j : Int) + 1)), (14, .bool (decide (((j : Int) + 1) ≤ 7))), (6, iv (g : Int)), (17, iv (g : Int)), (18, ptr b1 0), (19, .slice s.A s.n s.c), (20, iv (s.n : Int)), (21, .bool (decide ((g : Int) < (s.n : Int)))), (24, iv ((j : Int) + 1)), (25, .bool true), (26, .bool true), (27, .agg #[.slice s.A s.n s.c]), (28, .slice us1.A us1.n us1.c), (29, iv (g : Int)), (30, .bool ((reachP l 0).contains (g : Int))), (31, .bool (!(((reachP l 0).contains (g : Int))))), (32, .bool (!(((reachP l 0).contains (g : Int))))), (4, .slice o3.A o3.n o3.c), (7, iv (pz : Int))] a_ ∧ Sat w0 w_ ((SX.blk b1 [.slice s.A s.n s.c] 30) :: (SX.row (.slice o3.A o3.n o3.c) 88 3 (encE (lntQ l j ++ (rulQ l ((j : Int) + 1) g ++ (unuQ l ((j : Int) + 1) g ++ bodQ l ((j : Int) + 1) g b pz))))) :: [])) _ ⟨0, o2, rfl, Nat.zero_le _, ha.keeps [1, 2, 3, 5, 13, 14, 6, 17, 18, 19, 20, 21, 24, 25, 26, 27, 28, 29, 30, 31, 32, 4, 7] _ rfl, hS⟩ ?_
      rintro n_ a w ⟨pz, o3, rfl, haa, ha, hS⟩
      refine wp_seq (wp_seq (jX [0, 1, 2, 3, 4, 5, 6, 7] (jQ [(0, 39, iv (pz : Int)), (1, 40, ptr b1 0)] ha fun a ha => ?_)));refine qZ (d := 41) (b := b1) (j := 0) ha (hS.blk 0 rfl) rfl fun a ha => ?_;refine jQ [(3, 42, iv (g : Int))] ha fun a ha => ?_;refine qX (.pointer (some ⟨bk s, of_ s + g * 1, none⟩)) ha (xW (s := s) (el := 70) (sz := 1) (j := g) ha (xY (t := 28) (x := 41) (y := 42) (d := 43)) rfl rfl (by kernel_rfl) (by kernel_rfl) hA0 (by rw [hr.len]; omega)) fun a ha => ?_;refine qX (.slice sb.A sb.n sb.c) ha (qV ha (xK (t := 70) (x := 43) (d := 44) (ty := 70)) rfl (by kernel_rfl) (fun w' hw => by rw [hw]; rw [Nat.mul_one]; exact pw_cell_below hS.below hcb)) fun a ha => ?_;refine jQ [(6, 45, iv (sb.n : Int)), (7, 46, .bool (decide ((pz : Int) < (sb.n : Int))))] ha fun a ha => ?_;refine jY (jJ ?_)
      by_cases c16 : (pz : Int) < (sb.n : Int)
      ·
       have hpz1 : pz < b.length := by omega
       obtain ⟨x, hx⟩ : ∃ x, b[pz]? = some x := ⟨_, List.getElem?_eq_getElem hpz1⟩;refine jU ha rfl (decide_eq_true c16) ?_;refine wp_skip (jJ (wp_seq (wp_block (wp_seq (jX [0, 1, 2, 3, 4] (xH 49 ha (hS.blk 0 rfl) fun a ha => ?_))))));refine jQ [(1, 50, iv ((j : Int) + 1)), (2, 51, iv (g : Int)), (3, 52, iv (pz : Int))] ha fun a ha => ?_;refine jW (qQ 53 (vs := [.agg #[.slice s.A s.n s.c], iv ((j : Int) + 1), iv (g : Int), iv (pz : Int)]) ha (found_sat (r9 := (j : Int) + 1) (f := (g : Int)) (x2 := (pz : Int)) hS hr hf c7 ⟨by omega, by omega⟩ hb ⟨by omega, by omega⟩ hx) fun v17 w a hp18 ha => ?_);obtain ⟨rfl, hS⟩ := hp18;refine jY (jJ ?_)
       rcases Bool.eq_false_or_eq_true (fndB l ((j : Int) + 1) (g : Int) (pz : Int) b x) with c19 | c19
       ·
        refine jU ha rfl c19 ?_;refine jX [0, 1, 2, 3, 4, 5, 6, 7] (jQ [(0, 54, .slice o3.A o3.n o3.c), (1, 55, iv ((j : Int) + 1)), (2, 56, iv (g : Int)), (3, 57, iv (pz : Int)), (4, 58, .agg #[iv ((j : Int) + 1), iv (g : Int), iv (pz : Int)])] ha fun a ha => ?_);refine jW (qY 59 [iv ((j : Int) + 1), iv (g : Int), iv (pz : Int)] 88 (fun b => .slice (some ⟨b, 0, none⟩) 1 1) ha hS fun b20 w a hb21 hS ha => ?_);refine jW (o_ap 60 2 0 (encE ((lntQ l j ++ (rulQ l ((j : Int) + 1) g ++ (unuQ l ((j : Int) + 1) g ++ bodQ l ((j : Int) + 1) g b pz))) ++ [((j : Int) + 1, (g : Int), (pz : Int))])) ha hS rfl rfl (by rw [encE_length]; simp only [List.length_append, List.length_cons, List.length_nil]; have h1 := lntQ_len hsh.1 hsh.2 j; have h2 := rulQ_len hsh.1 ((j : Int) + 1) g; have h3 := unuQ_len l ((j : Int) + 1) g; have h4 := bodQ_len l ((j : Int) + 1) g b pz; omega) (encE_snoc _ _ _ _) fun s25 w a hS hn26 ha => ?_);refine jQ [(7, 4, .slice s25.A s25.n s25.c)] ha fun a ha => ?_;refine jY (in_n (jJ (jX [0, 1, 2] (jQ [(0, 47, iv (pz : Int))] ha fun a ha => ?_))));refine xJ 48 ((pz : Int) + 1) ha fun a ha => ?_;refine jQ [(2, 7, iv ((pz : Int) + 1))] ha fun a ha => ?_;refine jY (jJ ?_);replace hS := hS.pickN 3 [1, 2];replace hS : Sat w0 w ((SX.blk b1 [.slice s.A s.n s.c] 30) :: (SX.row (.slice s25.A s25.n s25.c) 88 3 (encE (lntQ l j ++ (rulQ l ((j : Int) + 1) g ++ (unuQ l ((j : Int) + 1) g ++ bodQ l ((j : Int) + 1) g b (pz + 1)))))) :: []) := by rw [bodQ_yes hx c19]; have h9 := hS; simp only [List.append_assoc] at h9 ⊢; exact h9
        exact ⟨_, by omega, pz + 1, s25, rfl, hpz1, ha.keeps [1, 2, 3, 5, 13, 14, 6, 17, 18, 19, 20, 21, 24, 25, 26, 27, 28, 29, 30, 31, 32, 4, 7] _ rfl, hS⟩
       refine jK ha rfl c19 ?_;refine wp_skip (in_n (jJ (jX [0, 1, 2] (jQ [(0, 47, iv (pz : Int))] ha fun a ha => ?_))));refine xJ 48 ((pz : Int) + 1) ha fun a ha => ?_;refine jQ [(2, 7, iv ((pz : Int) + 1))] ha fun a ha => ?_;refine jY (jJ ?_);replace hS : Sat w0 w ((SX.blk b1 [.slice s.A s.n s.c] 30) :: (SX.row (.slice o3.A o3.n o3.c) 88 3 (encE (lntQ l j ++ (rulQ l ((j : Int) + 1) g ++ (unuQ l ((j : Int) + 1) g ++ bodQ l ((j : Int) + 1) g b pz))))) :: []) := hS;replace hS : Sat w0 w ((SX.blk b1 [.slice s.A s.n s.c] 30) :: (SX.row (.slice o3.A o3.n o3.c) 88 3 (encE (lntQ l j ++ (rulQ l ((j : Int) + 1) g ++ (unuQ l ((j : Int) + 1) g ++ bodQ l ((j : Int) + 1) g b (pz + 1)))))) :: []) := by rw [bodQ_no hx c19]; exact hS
       exact ⟨_, by omega, pz + 1, o3, rfl, hpz1, ha.keeps [1, 2, 3, 5, 13, 14, 6, 17, 18, 19, 20, 21, 24, 25, 26, 27, 28, 29, 30, 31, 32, 4, 7] _ rfl, hS⟩
      refine jK ha rfl (decide_eq_false c16) ?_;refine wp_exit (qJ (qJ (in_x (in_n (jJ (jX [0, 1, 2] (jQ [(0, 22, iv (g : Int))] ha fun a ha => ?_)))))));refine xJ 23 ((g : Int) + 1) ha fun a ha => ?_;refine jQ [(2, 6, iv ((g : Int) + 1))] ha fun a ha => ?_;refine jY (jJ ?_);replace hS : Sat w0 w ((SX.blk b1 [.slice s.A s.n s.c] 30) :: (SX.row (.slice o3.A o3.n o3.c) 88 3 (encE (lntQ l j ++ (rulQ l ((j : Int) + 1) g ++ (unuQ l ((j : Int) + 1) g ++ bodQ l ((j : Int) + 1) g b pz))))) :: []) := hS;have hae : pz = b.length := by omega
      replace hS : Sat w0 w ((SX.blk b1 [.slice s.A s.n s.c] 30) :: (SX.row (.slice o3.A o3.n o3.c) 88 3 (encE (lntQ l j ++ rulQ l ((j : Int) + 1) (g + 1)))) :: []) := by rw [rulQ_next hb, ← hae]; exact hS
      exact ⟨_, by omega, g + 1, o3, rfl, hgl, ha.keeps [1, 2, 3, 5, 13, 14, 4, 6] _ rfl, hS⟩
     refine jU ha rfl (xG c15) ?_;refine jX [0, 1, 2, 3, 4, 5, 6] (jQ [(0, 33, .slice o2.A o2.n o2.c), (1, 34, iv ((j : Int) + 1)), (2, 35, iv (g : Int)), (3, 36, .agg #[iv ((j : Int) + 1), iv (g : Int), iv 0])] ha fun a ha => ?_);refine jW (qY 37 [iv ((j : Int) + 1), iv (g : Int), iv 0] 88 (fun b => .slice (some ⟨b, 0, none⟩) 1 1) ha hS fun b27 w a hb28 hS ha => ?_);refine jW (o_ap 38 3 0 (encE ((lntQ l j ++ rulQ l ((j : Int) + 1) g) ++ [((j : Int) + 1, (g : Int), 0)])) ha hS rfl rfl (by rw [encE_length]; simp only [List.length_append, List.length_cons, List.length_nil]; have h1 := lntQ_len hsh.1 hsh.2 j; have h2 := rulQ_len hsh.1 ((j : Int) + 1) g; have h3 := unuQ_len l ((j : Int) + 1) g; omega) (encE_snoc _ _ _ _) fun s32 w a hS hn33 ha => ?_);refine jQ [(6, 4, .slice s32.A s32.n s32.c)] ha fun a ha => ?_;refine jY (jJ (wp_seq (jX [0] (jQ [(0, 7, iv 0)] ha fun a ha => ?_))));refine jY (jJ (wp_block ?_));replace hS := hS.pickN 4 [2, 3];replace hS : Sat w0 w ((SX.blk b1 [.slice s.A s.n s.c] 30) :: (SX.row (.slice s32.A s32.n s32.c) 88 3 (encE (lntQ l j ++ (rulQ l ((j : Int) + 1) g ++ (unuQ l ((j : Int) + 1) g ++ bodQ l ((j : Int) + 1) g b 0))))) :: []) := by rw [unuQ_yes c10 c15, show bodQ l ((j : Int) + 1) g b 0 = [] from rfl]; have h9 := hS; simp only [List.append_assoc, List.append_nil, List.nil_append] at h9 ⊢; exact h9
     refine wp_loop_ghost (fun n_ a_ w_ => ∃ (pz : Nat) (o3 : Sl), n_ = b.length - pz ∧ (pz ≤ b.length) ∧ Has 62 [(1, ptr b1 0), (2, .slice none 0 0), (3, .bool false), (5, iv ((j : Int) + 1)), (13, iv ((j : Int) + 1)), (14, .bool (decide (((j : Int) + 1) ≤ 7))), (6, iv (g : Int)), (17, iv (g : Int)), (18, ptr b1 0), (19, .slice s.A s.n s.c), (20, iv (s.n : Int)), (21, .bool (decide ((g : Int) < (s.n : Int)))), (24, iv ((j : Int) + 1)), (25, .bool true), (26, .bool true), (27, .agg #[.slice s.A s.n s.c]), (28, .slice us1.A us1.n us1.c), (29, iv (g : Int)), (30, .bool ((reachP l 0).contains (g : Int))), (31, .bool (!(((reachP l 0).contains (g : Int))))), (32, .bool (!(((reachP l 0).contains (g : Int))))), (33, .slice o2.A o2.n o2.c), (34, iv ((j : Int) + 1)), (35, iv (g : Int)), (36, .agg #[iv ((j : Int) + 1), iv (g : Int), iv 0]), (37, .slice (some ⟨b27, 0, none⟩) 1 1), (38, .slice s32.A s32.n s32.c), (4, .slice o3.A o3.n o3.c), (7, iv (pz : Int))] a_ ∧ Sat w0 w_ ((SX.blk b1 [.slice s.A s.n s.c] 30) :: (SX.row (.slice o3.A o3.n o3.c) 88 3 (encE (lntQ l j ++ (rulQ l ((j : Int) + 1) g ++ (unuQ l ((j : Int) + 1) g ++ bodQ l ((j : Int) + 1) g b pz))))) :: [])) _ ⟨0, s32, rfl, Nat.zero_le _, ha.keeps [1, 2, 3, 5, 13, 14, 6, 17, 18, 19, 20, 21, 24, 25, 26, 27, 28, 29, 30, 31, 32, 33, 34, 35, 36, 37, 38, 4, 7] _ rfl, hS⟩ ?_
     rintro n_ a w ⟨pz, o3, rfl, haa, ha, hS⟩
     refine wp_seq (wp_seq (jX [0, 1, 2, 3, 4, 5, 6, 7] (jQ [(0, 39, iv (pz : Int)), (1, 40, ptr b1 0)] ha fun a ha => ?_)));refine qZ (d := 41) (b := b1) (j := 0) ha (hS.blk 0 rfl) rfl fun a ha => ?_;refine jQ [(3, 42, iv (g : Int))] ha fun a ha => ?_;refine qX (.pointer (some ⟨bk s, of_ s + g * 1, none⟩)) ha (xW (s := s) (el := 70) (sz := 1) (j := g) ha (xY (t := 28) (x := 41) (y := 42) (d := 43)) rfl rfl (by kernel_rfl) (by kernel_rfl) hA0 (by rw [hr.len]; omega)) fun a ha => ?_;refine qX (.slice sb.A sb.n sb.c) ha (qV ha (xK (t := 70) (x := 43) (d := 44) (ty := 70)) rfl (by kernel_rfl) (fun w' hw => by rw [hw]; rw [Nat.mul_one]; exact pw_cell_below hS.below hcb)) fun a ha => ?_;refine jQ [(6, 45, iv (sb.n : Int)), (7, 46, .bool (decide ((pz : Int) < (sb.n : Int))))] ha fun a ha => ?_;refine jY (jJ ?_)
     by_cases c34 : (pz : Int) < (sb.n : Int)
     ·
      have hpz1 : pz < b.length := by omega
      obtain ⟨x, hx⟩ : ∃ x, b[pz]? = some x := ⟨_, List.getElem?_eq_getElem hpz1⟩;refine jU ha rfl (decide_eq_true c34) ?_;refine wp_skip (jJ (wp_seq (wp_block (wp_seq (jX [0, 1, 2, 3, 4] (xH 49 ha (hS.blk 0 rfl) fun a ha => ?_))))));refine jQ [(1, 50, iv ((j : Int) + 1)), (2, 51, iv (g : Int)), (3, 52, iv (pz : Int))] ha fun a ha => ?_;refine jW (qQ 53 (vs := [.agg #[.slice s.A s.n s.c], iv ((j : Int) + 1), iv (g : Int), iv (pz : Int)]) ha (found_sat (r9 := (j : Int) + 1) (f := (g : Int)) (x2 := (pz : Int)) hS hr hf c7 ⟨by omega, by omega⟩ hb ⟨by omega, by omega⟩ hx) fun v35 w a hp36 ha => ?_);obtain ⟨rfl, hS⟩ := hp36;refine jY (jJ ?_)
      rcases Bool.eq_false_or_eq_true (fndB l ((j : Int) + 1) (g : Int) (pz : Int) b x) with c37 | c37
      ·
       refine jU ha rfl c37 ?_;refine jX [0, 1, 2, 3, 4, 5, 6, 7] (jQ [(0, 54, .slice o3.A o3.n o3.c), (1, 55, iv ((j : Int) + 1)), (2, 56, iv (g : Int)), (3, 57, iv (pz : Int)), (4, 58, .agg #[iv ((j : Int) + 1), iv (g : Int), iv (pz : Int)])] ha fun a ha => ?_);refine jW (qY 59 [iv ((j : Int) + 1), iv (g : Int), iv (pz : Int)] 88 (fun b => .slice (some ⟨b, 0, none⟩) 1 1) ha hS fun b38 w a hb39 hS ha => ?_);refine jW (o_ap 60 2 0 (encE ((lntQ l j ++ (rulQ l ((j : Int) + 1) g ++ (unuQ l ((j : Int) + 1) g ++ bodQ l ((j : Int) + 1) g b pz))) ++ [((j : Int) + 1, (g : Int), (pz : Int))])) ha hS rfl rfl (by rw [encE_length]; simp only [List.length_append, List.length_cons, List.length_nil]; have h1 := lntQ_len hsh.1 hsh.2 j; have h2 := rulQ_len hsh.1 ((j : Int) + 1) g; have h3 := unuQ_len l ((j : Int) + 1) g; have h4 := bodQ_len l ((j : Int) + 1) g b pz; omega) (encE_snoc _ _ _ _) fun s43 w a hS hn44 ha => ?_);refine jQ [(7, 4, .slice s43.A s43.n s43.c)] ha fun a ha => ?_;refine jY (in_n (jJ (jX [0, 1, 2] (jQ [(0, 47, iv (pz : Int))] ha fun a ha => ?_))));refine xJ 48 ((pz : Int) + 1) ha fun a ha => ?_;refine jQ [(2, 7, iv ((pz : Int) + 1))] ha fun a ha => ?_;refine jY (jJ ?_);replace hS := hS.pickN 3 [1, 2];replace hS : Sat w0 w ((SX.blk b1 [.slice s.A s.n s.c] 30) :: (SX.row (.slice s43.A s43.n s43.c) 88 3 (encE (lntQ l j ++ (rulQ l ((j : Int) + 1) g ++ (unuQ l ((j : Int) + 1) g ++ bodQ l ((j : Int) + 1) g b (pz + 1)))))) :: []) := by rw [bodQ_yes hx c37]; have h9 := hS; simp only [List.append_assoc] at h9 ⊢; exact h9
       exact ⟨_, by omega, pz + 1, s43, rfl, hpz1, ha.keeps [1, 2, 3, 5, 13, 14, 6, 17, 18, 19, 20, 21, 24, 25, 26, 27, 28, 29, 30, 31, 32, 33, 34, 35, 36, 37, 38, 4, 7] _ rfl, hS⟩
      refine jK ha rfl c37 ?_;refine wp_skip (in_n (jJ (jX [0, 1, 2] (jQ [(0, 47, iv (pz : Int))] ha fun a ha => ?_))));refine xJ 48 ((pz : Int) + 1) ha fun a ha => ?_;refine jQ [(2, 7, iv ((pz : Int) + 1))] ha fun a ha => ?_;refine jY (jJ ?_);replace hS : Sat w0 w ((SX.blk b1 [.slice s.A s.n s.c] 30) :: (SX.row (.slice o3.A o3.n o3.c) 88 3 (encE (lntQ l j ++ (rulQ l ((j : Int) + 1) g ++ (unuQ l ((j : Int) + 1) g ++ bodQ l ((j : Int) + 1) g b pz))))) :: []) := hS;replace hS : Sat w0 w ((SX.blk b1 [.slice s.A s.n s.c] 30) :: (SX.row (.slice o3.A o3.n o3.c) 88 3 (encE (lntQ l j ++ (rulQ l ((j : Int) + 1) g ++ (unuQ l ((j : Int) + 1) g ++ bodQ l ((j : Int) + 1) g b (pz + 1)))))) :: []) := by rw [bodQ_no hx c37]; exact hS
      exact ⟨_, by omega, pz + 1, o3, rfl, hpz1, ha.keeps [1, 2, 3, 5, 13, 14, 6, 17, 18, 19, 20, 21, 24, 25, 26, 27, 28, 29, 30, 31, 32, 33, 34, 35, 36, 37, 38, 4, 7] _ rfl, hS⟩
     refine jK ha rfl (decide_eq_false c34) ?_;refine wp_exit (qJ (qJ (in_x (in_n (jJ (jX [0, 1, 2] (jQ [(0, 22, iv (g : Int))] ha fun a ha => ?_)))))));refine xJ 23 ((g : Int) + 1) ha fun a ha => ?_;refine jQ [(2, 6, iv ((g : Int) + 1))] ha fun a ha => ?_;refine jY (jJ ?_);replace hS : Sat w0 w ((SX.blk b1 [.slice s.A s.n s.c] 30) :: (SX.row (.slice o3.A o3.n o3.c) 88 3 (encE (lntQ l j ++ (rulQ l ((j : Int) + 1) g ++ (unuQ l ((j : Int) + 1) g ++ bodQ l ((j : Int) + 1) g b pz))))) :: []) := hS;have hae : pz = b.length := by omega
     replace hS : Sat w0 w ((SX.blk b1 [.slice s.A s.n s.c] 30) :: (SX.row (.slice o3.A o3.n o3.c) 88 3 (encE (lntQ l j ++ rulQ l ((j : Int) + 1) (g + 1)))) :: []) := by rw [rulQ_next hb, ← hae]; exact hS
     exact ⟨_, by omega, g + 1, o3, rfl, hgl, ha.keeps [1, 2, 3, 5, 13, 14, 4, 6] _ rfl, hS⟩
    replace ha := ha.turn 25 (.bool false) rfl (congrArg Value.bool (decide_eq_false c10));replace ha := ha.turn 26 (.bool false) rfl (congrArg Value.bool (decide_eq_false c10));refine jQ [(3, 27, undef), (4, 28, undef), (5, 29, undef), (6, 30, undef), (7, 31, undef), (8, 32, .bool false)] ha fun a ha => ?_;refine jY (jJ ?_);refine jK ha rfl rfl ?_;refine wp_skip (jJ (wp_seq (jX [0] (jQ [(0, 7, iv 0)] ha fun a ha => ?_))));refine jY (jJ (wp_block ?_));replace hS : Sat w0 w ((SX.blk b1 [.slice s.A s.n s.c] 30) :: (SX.row (.slice o2.A o2.n o2.c) 88 3 (encE (lntQ l j ++ rulQ l ((j : Int) + 1) g))) :: []) := hS;replace hS : Sat w0 w ((SX.blk b1 [.slice s.A s.n s.c] 30) :: (SX.row (.slice o2.A o2.n o2.c) 88 3 (encE (lntQ l j ++ (rulQ l ((j : Int) + 1) g ++ (unuQ l ((j : Int) + 1) g ++ bodQ l ((j : Int) + 1) g b 0))))) :: []) := by rw [unuQ_no c10, show bodQ l ((j : Int) + 1) g b 0 = [] from rfl]; have h9 := hS; simp only [List.append_assoc, List.append_nil, List.nil_append] at h9 ⊢; exact h9
    refine wp_loop_ghost (fun n_ a_ w_ => ∃ (pz : Nat) (o3 : Sl), n_ = b.length - pz ∧ (pz ≤ b.length) ∧ Has 62 [(1, ptr b1 0), (2, .slice none 0 0), (3, .bool false), (5, iv ((j : Int) + 1)), (13, iv ((j : Int) + 1)), (14, .bool (decide (((j : Int) + 1) ≤ 7))), (6, iv (g : Int)), (17, iv (g : Int)), (18, ptr b1 0), (19, .slice s.A s.n s.c), (20, iv (s.n : Int)), (21, .bool (decide ((g : Int) < (s.n : Int)))), (24, iv ((j : Int) + 1)), (25, .bool false), (26, .bool false), (27, undef), (28, undef), (29, undef), (30, undef), (31, undef), (32, .bool false), (4, .slice o3.A o3.n o3.c), (7, iv (pz : Int))] a_ ∧ Sat w0 w_ ((SX.blk b1 [.slice s.A s.n s.c] 30) :: (SX.row (.slice o3.A o3.n o3.c) 88 3 (encE (lntQ l j ++ (rulQ l ((j : Int) + 1) g ++ (unuQ l ((j : Int) + 1) g ++ bodQ l ((j : Int) + 1) g b pz))))) :: [])) _ ⟨0, o2, rfl, Nat.zero_le _, ha.keeps [1, 2, 3, 5, 13, 14, 6, 17, 18, 19, 20, 21, 24, 25, 26, 27, 28, 29, 30, 31, 32, 4, 7] _ rfl, hS⟩ ?_
    rintro n_ a w ⟨pz, o3, rfl, haa, ha, hS⟩
    refine wp_seq (wp_seq (jX [0, 1, 2, 3, 4, 5, 6, 7] (jQ [(0, 39, iv (pz : Int)), (1, 40, ptr b1 0)] ha fun a ha => ?_)));refine qZ (d := 41) (b := b1) (j := 0) ha (hS.blk 0 rfl) rfl fun a ha => ?_;refine jQ [(3, 42, iv (g : Int))] ha fun a ha => ?_;refine qX (.pointer (some ⟨bk s, of_ s + g * 1, none⟩)) ha (xW (s := s) (el := 70) (sz := 1) (j := g) ha (xY (t := 28) (x := 41) (y := 42) (d := 43)) rfl rfl (by kernel_rfl) (by kernel_rfl) hA0 (by rw [hr.len]; omega)) fun a ha => ?_;refine qX (.slice sb.A sb.n sb.c) ha (qV ha (xK (t := 70) (x := 43) (d := 44) (ty := 70)) rfl (by kernel_rfl) (fun w' hw => by rw [hw]; rw [Nat.mul_one]; exact pw_cell_below hS.below hcb)) fun a ha => ?_;refine jQ [(6, 45, iv (sb.n : Int)), (7, 46, .bool (decide ((pz : Int) < (sb.n : Int))))] ha fun a ha => ?_;refine jY (jJ ?_)
    by_cases c45 : (pz : Int) < (sb.n : Int)
    ·
     have hpz1 : pz < b.length := by omega
     obtain ⟨x, hx⟩ : ∃ x, b[pz]? = some x := ⟨_, List.getElem?_eq_getElem hpz1⟩;refine jU ha rfl (decide_eq_true c45) ?_;refine wp_skip (jJ (wp_seq (wp_block (wp_seq (jX [0, 1, 2, 3, 4] (xH 49 ha (hS.blk 0 rfl) fun a ha => ?_))))));refine jQ [(1, 50, iv ((j : Int) + 1)), (2, 51, iv (g : Int)), (3, 52, iv (pz : Int))] ha fun a ha => ?_;refine jW (qQ 53 (vs := [.agg #[.slice s.A s.n s.c], iv ((j : Int) + 1), iv (g : Int), iv (pz : Int)]) ha (found_sat (r9 := (j : Int) + 1) (f := (g : Int)) (x2 := (pz : Int)) hS hr hf c7 ⟨by omega, by omega⟩ hb ⟨by omega, by omega⟩ hx) fun v46 w a hp47 ha => ?_);obtain ⟨rfl, hS⟩ := hp47;refine jY (jJ ?_)
     rcases Bool.eq_false_or_eq_true (fndB l ((j : Int) + 1) (g : Int) (pz : Int) b x) with c48 | c48
     ·
      refine jU ha rfl c48 ?_;refine jX [0, 1, 2, 3, 4, 5, 6, 7] (jQ [(0, 54, .slice o3.A o3.n o3.c), (1, 55, iv ((j : Int) + 1)), (2, 56, iv (g : Int)), (3, 57, iv (pz : Int)), (4, 58, .agg #[iv ((j : Int) + 1), iv (g : Int), iv (pz : Int)])] ha fun a ha => ?_);refine jW (qY 59 [iv ((j : Int) + 1), iv (g : Int), iv (pz : Int)] 88 (fun b => .slice (some ⟨b, 0, none⟩) 1 1) ha hS fun b49 w a hb50 hS ha => ?_);refine jW (o_ap 60 2 0 (encE ((lntQ l j ++ (rulQ l ((j : Int) + 1) g ++ (unuQ l ((j : Int) + 1) g ++ bodQ l ((j : Int) + 1) g b pz))) ++ [((j : Int) + 1, (g : Int), (pz : Int))])) ha hS rfl rfl (by rw [encE_length]; simp only [List.length_append, List.length_cons, List.length_nil]; have h1 := lntQ_len hsh.1 hsh.2 j; have h2 := rulQ_len hsh.1 ((j : Int) + 1) g; have h3 := unuQ_len l ((j : Int) + 1) g; have h4 := bodQ_len l ((j : Int) + 1) g b pz; omega) (encE_snoc _ _ _ _) fun s54 w a hS hn55 ha => ?_);refine jQ [(7, 4, .slice s54.A s54.n s54.c)] ha fun a ha => ?_;refine jY (in_n (jJ (jX [0, 1, 2] (jQ [(0, 47, iv (pz : Int))] ha fun a ha => ?_))));refine xJ 48 ((pz : Int) + 1) ha fun a ha => ?_;refine jQ [(2, 7, iv ((pz : Int) + 1))] ha fun a ha => ?_;refine jY (jJ ?_);replace hS := hS.pickN 3 [1, 2];replace hS : Sat w0 w ((SX.blk b1 [.slice s.A s.n s.c] 30) :: (SX.row (.slice s54.A s54.n s54.c) 88 3 (encE (lntQ l j ++ (rulQ l ((j : Int) + 1) g ++ (unuQ l ((j : Int) + 1) g ++ bodQ l ((j : Int) + 1) g b (pz + 1)))))) :: []) := by rw [bodQ_yes hx c48]; have h9 := hS; simp only [List.append_assoc] at h9 ⊢; exact h9
      exact ⟨_, by omega, pz + 1, s54, rfl, hpz1, ha.keeps [1, 2, 3, 5, 13, 14, 6, 17, 18, 19, 20, 21, 24, 25, 26, 27, 28, 29, 30, 31, 32, 4, 7] _ rfl, hS⟩
     refine jK ha rfl c48 ?_;refine wp_skip (in_n (jJ (jX [0, 1, 2] (jQ [(0, 47, iv (pz : Int))] ha fun a ha => ?_))));refine xJ 48 ((pz : Int) + 1) ha fun a ha => ?_;refine jQ [(2, 7, iv ((pz : Int) + 1))] ha fun a ha => ?_;refine jY (jJ ?_);replace hS : Sat w0 w ((SX.blk b1 [.slice s.A s.n s.c] 30) :: (SX.row (.slice o3.A o3.n o3.c) 88 3 (encE (lntQ l j ++ (rulQ l ((j : Int) + 1) g ++ (unuQ l ((j : Int) + 1) g ++ bodQ l ((j : Int) + 1) g b pz))))) :: []) := hS;replace hS : Sat w0 w ((SX.blk b1 [.slice s.A s.n s.c] 30) :: (SX.row (.slice o3.A o3.n o3.c) 88 3 (encE (lntQ l j ++ (rulQ l ((j : Int) + 1) g ++ (unuQ l ((j : Int) + 1) g ++ bodQ l ((j : Int) + 1) g b (pz + 1)))))) :: []) := by rw [bodQ_no hx c48]; exact hS
     exact ⟨_, by omega, pz + 1, o3, rfl, hpz1, ha.keeps [1, 2, 3, 5, 13, 14, 6, 17, 18, 19, 20, 21, 24, 25, 26, 27, 28, 29, 30, 31, 32, 4, 7] _ rfl, hS⟩
    refine jK ha rfl (decide_eq_false c45) ?_;refine wp_exit (qJ (qJ (in_x (in_n (jJ (jX [0, 1, 2] (jQ [(0, 22, iv (g : Int))] ha fun a ha => ?_)))))));refine xJ 23 ((g : Int) + 1) ha fun a ha => ?_;refine jQ [(2, 6, iv ((g : Int) + 1))] ha fun a ha => ?_;refine jY (jJ ?_);replace hS : Sat w0 w ((SX.blk b1 [.slice s.A s.n s.c] 30) :: (SX.row (.slice o3.A o3.n o3.c) 88 3 (encE (lntQ l j ++ (rulQ l ((j : Int) + 1) g ++ (unuQ l ((j : Int) + 1) g ++ bodQ l ((j : Int) + 1) g b pz))))) :: []) := hS;have hae : pz = b.length := by omega
    replace hS : Sat w0 w ((SX.blk b1 [.slice s.A s.n s.c] 30) :: (SX.row (.slice o3.A o3.n o3.c) 88 3 (encE (lntQ l j ++ rulQ l ((j : Int) + 1) (g + 1)))) :: []) := by rw [rulQ_next hb, ← hae]; exact hS
    exact ⟨_, by omega, g + 1, o3, rfl, hgl, ha.keeps [1, 2, 3, 5, 13, 14, 4, 6] _ rfl, hS⟩
   refine jK ha rfl (decide_eq_false c9) ?_;refine wp_exit (qJ (qJ (in_x (in_n (jJ (jX [0, 1, 2] (jQ [(0, 15, iv ((j : Int) + 1))] ha fun a ha => ?_)))))));refine xJ 16 (((j : Int) + 1) + 1) ha fun a ha => ?_;refine jQ [(2, 5, iv (((j : Int) + 1) + 1))] ha fun a ha => ?_;refine jY (jJ ?_);replace hS : Sat w0 w ((SX.blk b1 [.slice s.A s.n s.c] 30) :: (SX.row (.slice o2.A o2.n o2.c) 88 3 (encE (lntQ l j ++ rulQ l ((j : Int) + 1) g))) :: []) := hS;have hge : g = l.length := by omega
   replace hS : Sat w0 w ((SX.blk b1 [.slice s.A s.n s.c] 30) :: (SX.row (.slice o2.A o2.n o2.c) 88 3 (encE (lntQ l (j + 1)))) :: []) := by rw [lntQ_next]; rw [hge] at hS; exact hS
   exact ⟨_, by omega, j + 1, o2, rfl, (by omega), ha.keeps [1, 2, 3, 4, 5] _ rfl, hS⟩
  refine jK ha rfl (decide_eq_false c8) ?_
  refine wp_exit (qJ (qJ (in_x (jJ (wp_seq (jX [0, 1, 2] (jQ [(0, 61, .slice o1.A o1.n o1.c), (1, 2, .slice o1.A o1.n o1.c), (2, 3, .bool true)] ha fun a ha => ?_)))))))
  refine jY (jJ (wp_ret (yG ha (by kernel_rfl) (qK (t := 2) ha rfl) (qK (t := 3) ha rfl) ?_)))
  have hje : j = 7 := by omega
  rw [hje] at hS
  rw [lintR_yes c7]
  exact ⟨o1, rfl, hS.pickN 2 [1]⟩
 refine jU ha rfl (xG c7) ?_
 refine wp_seq (jX [0, 1, 2] (jQ [(0, 12, .slice (some ⟨b3, 0, none⟩) 0 0), (1, 2, .slice (some ⟨b3, 0, none⟩) 0 0), (2, 3, .bool false)] ha fun a ha => ?_))
 refine jY (jJ (wp_ret (qG ?_)))
 replace hS := hS.blk0 3 0 rfl
 refine yG ha (by kernel_rfl) (qK (t := 2) ha rfl) (qK (t := 3) ha rfl) ?_
 rw [lintR_no c7]
 exact ⟨⟨some ⟨b3, 0, none⟩, 0, 0⟩, rfl, hS.pickN 2 [0]⟩
theorem spec_LintProgram_sat {w0 w : World} {Rs : List Asn} {s : Sl} {l : List (List ST)} (hS : Sat w0 w Rs) (hr : RdP w s l) (hf : Fits l) :
  Calls Try.prog 24 #[.agg #[.slice s.A s.n s.c]] w (Ret fun r w' => ∃ o : Sl, r = .tuple #[.slice o.A o.n o.c, .bool (lintR l).2] ∧ Sat w0 w' (SX.row (.slice o.A o.n o.c) 88 3 (encE ((lintR l).1)) :: Rs)) :=
 (spec_LintProgram_sat0 hr hf).mono fun e w' h => by
  cases e with
  | returned r => obtain ⟨o, h1, h2⟩ := h; exact ⟨o, h1, hS.comp h2⟩
  | _ => exact h.elim
theorem code5 : Try.f5.body = some (Code.seq (cr Try.f5 0 false) (Code.seq (cr Try.f5 1 false) (Code.seq (cr Try.f5 2 false) (Code.seq (Code.seq (cr Try.f5 3 false) (Code.cond (Operand.tmp 18) (Code.seq (cr Try.f5 4 false) Code.ret) Code.skip)) (Code.seq (cr Try.f5 5 false) (Code.seq (cr Try.f5 6 false) (Code.seq (cr Try.f5 7 false) (Code.seq (Code.seq (cr Try.f5 8 false) (Code.cond (Operand.tmp 40) (Code.seq (cr Try.f5 9 false) Code.ret) Code.skip)) (Code.seq (Code.seq (cr Try.f5 10 true) (Code.cond (Operand.tmp 45) (Code.seq (cr Try.f5 11 false) Code.ret) Code.skip)) (Code.seq (cr Try.f5 12 false) (Code.seq (cr Try.f5 13 false) (Code.seq (Code.seq (cr Try.f5 14 false) (Code.cond (Operand.tmp 61) (Code.seq (cr Try.f5 15 false) Code.ret) Code.skip)) (Code.seq (cr Try.f5 16 false) (Code.seq (cr Try.f5 17 false) (Code.seq (cr Try.f5 18 false) (Code.seq (cr Try.f5 19 false) (Code.seq (Code.seq (cr Try.f5 20 false) (Code.cond (Operand.tmp 69) (Code.seq (cr Try.f5 21 false) Code.ret) Code.skip)) (Code.seq (Code.seq (cr Try.f5 22 false) (Code.cond (Operand.tmp 72) (Code.seq (cr Try.f5 23 false) Code.ret) Code.skip)) (Code.seq (cr Try.f5 24 false) (Code.seq (Code.seq (cr Try.f5 25 false) (Code.cond (Operand.tmp 87) (Code.seq (cr Try.f5 26 false) Code.ret) Code.skip)) (Code.seq (cr Try.f5 27 false) (Code.seq (cr Try.f5 28 false) (Code.seq (Code.seq (cr Try.f5 29 false) (Code.cond (Operand.tmp 92) (Code.seq (cr Try.f5 30 false) Code.ret) Code.skip)) (Code.seq (Code.seq (cr Try.f5 31 false) (Code.cond (Operand.tmp 95) (Code.seq (cr Try.f5 32 false) Code.ret) Code.skip)) (Code.seq (cr Try.f5 33 false) Code.ret))))))))))))))))))))))))) := by kernel_rfl
theorem law5_walk (w0 : World) (s0 : Sl) (l0 : List (List LT)) (hr0 : RdA w0 s0 l0) :
  Calls Try.prog 5 #[.agg #[.slice s0.A s0.n s0.c]] w0 (Ret fun r w' => r = .bool true ∧ Below w0.heap.size w0 w') := by
 have hS : Sat w0 w0 [] := Sat.start w0
 refine enter (n := 96) Try.func5 code5 (by kernel_rfl) (Nat.le_of_ble_eq_true rfl) (fun a ha => ?_)
 replace ha : Has 96 [(0, .agg #[.slice s0.A s0.n s0.c])] a := ha
 refine wp_seq (jX [0, 1] (jW (qY 1 [.slice s0.A s0.n s0.c] 24 (ptr · 0) ha hS fun b1 w a hb2 hS ha => ?_)))
 refine jQ [(1, 2, .bool false)] ha fun a ha => ?_
 refine jY (jJ (wp_seq (jX [0] (jQ [(0, 3, iv 1048576)] ha fun a ha => ?_))))
 refine jY (jJ (wp_seq (jX [0, 1, 2, 3] (xH 14 ha (hS.blk 0 rfl) fun a ha => ?_))))
 refine jQ [(1, 15, iv 1048576)] ha fun a ha => ?_
 refine jW (qQ 16 (vs := [.agg #[.slice s0.A s0.n s0.c], iv 1048576]) ha (szProgram_sat hS (hr0.sat hS) (by omega) (by omega)) fun v3 w a hp4 ha => ?_)
 obtain ⟨rfl, hS⟩ := hp4
 refine jQ [(3, 3, iv (szP l0 1048576))] ha fun a ha => ?_
 refine jY (jJ (wp_seq (wp_seq (jX [0, 1] (jQ [(0, 17, iv (szP l0 1048576)), (1, 18, .bool (decide ((szP l0 1048576) < 0)))] ha fun a ha => ?_)))))
 refine jY (jJ ?_)
 by_cases c5 : (szP l0 1048576) < 0
 ·
  refine jU ha rfl (decide_eq_true c5) ?_
  refine wp_seq (jX [0] (jQ [(0, 2, .bool true)] ha fun a ha => ?_))
  refine jY (jJ (wp_ret (qG (jG ha (by kernel_rfl) (qK (t := 2) ha rfl) ?_))))
  exact ⟨rfl, hS.below⟩
 have hf0 : Fits l0 := by have h8 : 0 ≤ szP l0 1048576 := (by omega); have h9 := szP_ok l0 1048576 h8; exact ⟨by omega, by omega⟩
 have htp0 := (toP_fits hf0).tot
 have hz0 := szP_ok l0 1048576 (by omega)
 refine jK ha rfl (decide_eq_false c5) ?_
 refine wp_skip (jJ (wp_seq (jX [0, 1, 2, 3, 4, 5, 6, 7] (xH 20 ha (hS.blk 0 rfl) fun a ha => ?_))))
 refine jW (qQ 21 (vs := [.agg #[.slice s0.A s0.n s0.c]]) ha (toProgram_sat hS (hr0.sat hS) hf0) fun v6 w a hp7 ha => ?_)
 obtain ⟨sp1, rfl, hS⟩ := hp7
 refine jW (qQ 22 (vs := [.agg #[.slice sp1.A sp1.n sp1.c]]) ha (spec_LintProgram_sat hS (hS.rdS 0 rfl) (toP_fits hf0)) fun v8 w a hp9 ha => ?_)
 obtain ⟨o1, rfl, hS⟩ := hp9
 refine jQ [(3, 19, .tuple #[.slice o1.A o1.n o1.c, .bool ((lintR (toP l0)).2)]), (4, 23, .slice o1.A o1.n o1.c), (5, 24, .bool ((lintR (toP l0)).2)), (6, 4, .slice o1.A o1.n o1.c), (7, 5, .bool ((lintR (toP l0)).2))] ha fun a ha => ?_
 refine jY (jJ (wp_seq (jX [0, 1, 2, 3] (xH 25 ha (hS.blk 2 rfl) fun a ha => ?_))))
 refine jW (qQ 26 (vs := [.agg #[.slice s0.A s0.n s0.c]]) ha (toProgram_sat hS (hr0.sat hS) hf0) fun v10 w a hp11 ha => ?_)
 obtain ⟨sp2, rfl, hS⟩ := hp11
 refine jW (qY 6 [.slice none 0 0] 30 (ptr · 0) ha hS fun b12 w a hb13 hS ha => ?_)
 refine jW (o_sa 0 ha (zJ (t := 30) (x := 6) (y := 26)) hS fun w a hS ha => ?_)
 refine jY (jJ (wp_seq (jX [0, 1, 2, 3, 4, 5, 6] (xH 28 ha (hS.blk 0 rfl) fun a ha => ?_))))
 refine jW (qQ 29 (vs := [.agg #[.slice sp2.A sp2.n sp2.c]]) ha (impl_LintProgram_sat hS (hS.rdS 1 rfl) (toP_fits hf0)) fun v14 w a hp15 ha => ?_)
 obtain ⟨o2, rfl, hS⟩ := hp15
 refine jQ [(2, 27, .tuple #[.slice o2.A o2.n o2.c, .bool ((lintR (toP l0)).2)]), (3, 30, .slice o2.A o2.n o2.c), (4, 31, .bool ((lintR (toP l0)).2)), (5, 7, .slice o2.A o2.n o2.c), (6, 8, .bool ((lintR (toP l0)).2))] ha fun a ha => ?_
 refine jY ?_
 replace ha := ha.as [(1, ptr b1 0), (2, .bool false), (4, .slice o1.A o1.n o1.c), (5, .bool ((lintR (toP l0)).2)), (6, ptr b12 0), (7, .slice o2.A o2.n o2.c), (8, .bool ((lintR (toP l0)).2))] rfl
 refine jJ (wp_seq (wp_seq (jX [0, 1, 2, 3, 4, 5, 6, 7, 8] (jQ [(0, 32, .slice o2.A o2.n o2.c), (1, 33, .slice o1.A o1.n o1.c)] ha fun a ha => ?_))))
 replace hS := hS.pickN 6 [0, 3, 1, 2, 4, 5]
 refine jW (qQ 34 (vs := [.slice o2.A o2.n o2.c, .slice o1.A o1.n o1.c]) ha (eqE_sat hS (Nat.le_trans (lintR_len ..) (by decide))) fun v16 w a hp17 ha => ?_)
 obtain ⟨rfl, hS⟩ := hp17
 refine jQ [(3, 35, .bool false), (4, 36, .bool false), (5, 37, .bool ((lintR (toP l0)).2)), (6, 38, .bool ((lintR (toP l0)).2))] ha fun a ha => ?_
 refine qX (.bool false) ha ((jH (v := .bool (!(((lintR (toP l0)).2) == ((lintR (toP l0)).2)))) ha (AtG.here (gd := 36) ⟨(by kernel_rfl : ((jV Try.f5 8)[7]?).map spec = some ((Op.binOp BinOp.neq 4 (Operand.tmp 37) (Operand.tmp 38) 4), some 39, 4, some (4, false))), by kernel_rfl⟩ ha rfl) (by kernel_rfl) (fun _ => by kernel_rfl)).as (by simp)) fun a ha => ?_
 refine jQ [(8, 40, .bool false)] ha fun a ha => ?_
 refine jY (jJ ?_)
 refine jK ha rfl rfl ?_
 refine wp_skip (jJ (wp_seq (wp_seq (yX 5 5 (hS.pickN 6 [2, 5]) hS fun w hS => ?_))))
 refine zK 0 41 ha (hS.pickN 6 [2, 5]) (fun _ hw => hw.blk 0 rfl) fun a ha => ?_
 refine zK 1 42 ha (hS.pickN 6 [2, 5]) (fun _ hw => hw.blk 1 rfl) fun a ha => ?_
 refine xX 2 (qQ 43 (vs := [.agg #[.slice s0.A s0.n s0.c]]) ha (toProgram_sat hS (hr0.sat hS) hf0) fun v18 w a hp19 ha => ?_)
 obtain ⟨sp4, rfl, hS⟩ := hp19
 refine ⟨.inr (hS.pickN 7 [3, 6]), ?_⟩
 refine xX 3 (qQ 44 (vs := [.agg #[.slice sp2.A sp2.n sp2.c], .agg #[.slice sp4.A sp4.n sp4.c]]) ha (eqP_sat hS (hS.rdS 4 rfl) (hS.rdS 0 rfl) (toP_fits hf0)) fun v20 w a hp21 ha => ?_)
 obtain ⟨rfl, hS⟩ := hp21
 refine ⟨.inr (hS.pickN 7 [3, 6]), ?_⟩
 refine qH (k := 0) [(4, 45, .bool false)] ha (.inr (hS.pickN 7 [3, 6])) fun a ha => ?_
 refine yQ (jJ ?_)
 refine jK ha rfl rfl ?_
 refine wp_skip (jJ (wp_seq (jX [0] (jQ [(0, 9, iv 1)] ha fun a ha => ?_))))
 refine jY (jJ (wp_seq (jX [0, 1, 2, 3] (xH 46 ha (hS.blk 3 rfl) fun a ha => ?_))))
 refine jQ [(1, 47, iv 1)] ha fun a ha => ?_
 replace hS := hS.pickN 7 [4, 0, 1, 2, 3, 5, 6]
 refine jW (qQ 48 (vs := [.agg #[.slice sp2.A sp2.n sp2.c], iv 1]) ha (markProgram_sat hS (toP_fits hf0) (by omega) (by omega)) fun v22 w a hp23 ha => ?_)
 obtain ⟨rfl, hS⟩ := hp23
 refine jQ [(3, 9, iv (1 + 3 * (tot (toP l0) : Int)))] ha fun a ha => ?_
 refine jY ?_
 replace ha := ha.as [(1, ptr b1 0), (2, .bool false), (4, .slice o1.A o1.n o1.c), (5, .bool ((lintR (toP l0)).2)), (7, .slice o2.A o2.n o2.c), (8, .bool ((lintR (toP l0)).2)), (9, iv (1 + 3 * (tot (toP l0) : Int)))] rfl
 refine jJ (wp_seq (wp_seq (jX [0, 1, 2, 3, 4, 5, 6, 7, 8, 9, 10, 11, 12] (jQ [(0, 49, iv (1 + 3 * (tot (toP l0) : Int)))] ha fun a ha => ?_))))
 refine qX (.bool false) ha ((jH (v := .bool (decide (1 + 3 * (tot (toP l0) : Int) < 0))) ha (xV (op := (Op.binOp BinOp.lss 3 (Operand.tmp 49) (Operand.const (Value.int IntKind.i64 0)) 3)) (d := some 50) (ty := 4)) (by kernel_rfl) (fun _ => by kernel_rfl)).as (by rw [decide_eq_false (by omega)])) fun a ha => ?_
 refine jQ [(2, 51, .bool false), (3, 52, .slice o2.A o2.n o2.c), (4, 53, .slice o1.A o1.n o1.c)] ha fun a ha => ?_
 replace hS := hS.pickN 7 [2, 3, 0, 1, 4, 5, 6]
 refine jW (qQ 54 (vs := [.slice o2.A o2.n o2.c, .slice o1.A o1.n o1.c]) ha (eqE_sat hS (Nat.le_trans (lintR_len ..) (by decide))) fun v24 w a hp25 ha => ?_)
 obtain ⟨rfl, hS⟩ := hp25
 refine jQ [(6, 55, .bool false), (7, 56, .bool false), (8, 57, .bool false), (9, 58, .bool ((lintR (toP l0)).2)), (10, 59, .bool ((lintR (toP l0)).2))] ha fun a ha => ?_
 refine qX (.bool false) ha ((jH (v := .bool (!(((lintR (toP l0)).2) == ((lintR (toP l0)).2)))) ha (AtG.here (gd := 57) ⟨(by kernel_rfl : ((jV Try.f5 14)[11]?).map spec = some ((Op.binOp BinOp.neq 4 (Operand.tmp 58) (Operand.tmp 59) 4), some 60, 4, some (8, false))), by kernel_rfl⟩ ha rfl) (by kernel_rfl) (fun _ => by kernel_rfl)).as (by simp)) fun a ha => ?_
 refine jQ [(12, 61, .bool false)] ha fun a ha => ?_
 refine jY (jJ ?_)
 refine jK ha rfl rfl ?_
 refine wp_skip (jJ (wp_seq (jX [0] (jQ [(0, 10, iv 1)] ha fun a ha => ?_))))
 refine jY (jJ (wp_seq (jX [0, 1, 2, 3] (jQ [(0, 62, .slice o2.A o2.n o2.c), (1, 63, iv 1)] ha fun a ha => ?_))))
 replace hS : Sat w0 w ((SX.row (.slice o2.A o2.n o2.c) 88 3 (encE ((lintR (toP l0)).1))) :: (SX.row (.slice o1.A o1.n o1.c) 88 3 (encE ((lintR (toP l0)).1))) :: (prg w0.heap.size sp2 (mkSS 1 (toP l0))) :: (prg w0.heap.size sp4 (toP l0)) :: (SX.blk b12 [.slice sp2.A sp2.n sp2.c] 30) :: (prg w0.heap.size sp1 (toP l0)) :: (SX.blk b1 [.slice s0.A s0.n s0.c] 24) :: []) := hS
 refine jW (qQ 64 (vs := [.slice o2.A o2.n o2.c, iv 1]) ha (markE_sat hS (Nat.le_trans (lintR_len ..) (by decide))) fun v26 w a hp27 ha => ?_)
 obtain ⟨rfl, hS⟩ := hp27
 refine jQ [(3, 10, iv (1 + 3 * (((lintR (toP l0)).1).length : Int)))] ha fun a ha => ?_
 refine jY ?_
 replace ha := ha.as [(1, ptr b1 0), (2, .bool false), (4, .slice o1.A o1.n o1.c), (5, .bool ((lintR (toP l0)).2)), (7, .slice o2.A o2.n o2.c), (10, iv (1 + 3 * (((lintR (toP l0)).1).length : Int)))] rfl
 refine jJ (wp_seq (jX [0] (jQ [(0, 11, iv 1)] ha fun a ha => ?_)))
 refine jY (jJ (wp_seq (jX [0, 1, 2, 3] (jQ [(0, 65, .slice o2.A o2.n o2.c), (1, 66, iv 1)] ha fun a ha => ?_))))
 replace hS : Sat w0 w ((SX.row (.slice o2.A o2.n o2.c) 88 3 (encE (mkE ((lintR (toP l0)).1).length))) :: (SX.row (.slice o1.A o1.n o1.c) 88 3 (encE ((lintR (toP l0)).1))) :: (prg w0.heap.size sp2 (mkSS 1 (toP l0))) :: (prg w0.heap.size sp4 (toP l0)) :: (SX.blk b12 [.slice sp2.A sp2.n sp2.c] 30) :: (prg w0.heap.size sp1 (toP l0)) :: (SX.blk b1 [.slice s0.A s0.n s0.c] 24) :: []) := hS
 refine jW (qQ 67 (vs := [.slice o2.A o2.n o2.c, iv 1]) ha (heldE_sat hS (Nat.le_trans (lintR_len ..) (by decide))) fun v28 w a hp29 ha => ?_)
 obtain ⟨rfl, hS⟩ := hp29
 refine jQ [(3, 11, iv (1 + 3 * (((lintR (toP l0)).1).length : Int)))] ha fun a ha => ?_
 refine jY (jJ (wp_seq (wp_seq (jX [0, 1] (jQ [(0, 68, iv (1 + 3 * (((lintR (toP l0)).1).length : Int)))] ha fun a ha => ?_)))))
 refine qX (.bool false) ha ((jH (v := .bool (decide (1 + 3 * (((lintR (toP l0)).1).length : Int) < 0))) ha (xV (op := (Op.binOp BinOp.lss 3 (Operand.tmp 68) (Operand.const (Value.int IntKind.i64 0)) 3)) (d := some 69) (ty := 4)) (by kernel_rfl) (fun _ => by kernel_rfl)).as (by rw [decide_eq_false (by omega)])) fun a ha => ?_
 refine jY (jJ ?_)
 refine jK ha rfl rfl ?_
 refine wp_skip (jJ (wp_seq (wp_seq (jX [0, 1, 2] (jQ [(0, 70, iv (1 + 3 * (((lintR (toP l0)).1).length : Int))), (1, 71, iv (1 + 3 * (((lintR (toP l0)).1).length : Int)))] ha fun a ha => ?_)))))
 refine qX (.bool false) ha ((jH (v := .bool (!(decide (1 + 3 * (((lintR (toP l0)).1).length : Int) = 1 + 3 * (((lintR (toP l0)).1).length : Int))))) ha (xV (op := (Op.binOp BinOp.neq 3 (Operand.tmp 70) (Operand.tmp 71) 3)) (d := some 72) (ty := 4)) (by kernel_rfl) (fun _ => by kernel_rfl)).as (by simp)) fun a ha => ?_
 refine jY (jJ ?_)
 refine jK ha rfl rfl ?_
 refine wp_skip (jJ (wp_seq (jX [0, 1, 2, 3, 4, 5, 6, 7] (xH 74 ha (hS.blk 6 rfl) fun a ha => ?_))))
 refine jW (qQ 75 (vs := [.agg #[.slice s0.A s0.n s0.c]]) ha (toProgram_sat hS (hr0.sat hS) hf0) fun v30 w a hp31 ha => ?_)
 obtain ⟨sp5, rfl, hS⟩ := hp31
 refine jW (qQ 76 (vs := [.agg #[.slice sp5.A sp5.n sp5.c]]) ha (impl_LintProgram_sat hS (hS.rdS 0 rfl) (toP_fits hf0)) fun v32 w a hp33 ha => ?_)
 obtain ⟨o3, rfl, hS⟩ := hp33
 refine jQ [(3, 73, .tuple #[.slice o3.A o3.n o3.c, .bool ((lintR (toP l0)).2)]), (4, 77, .slice o3.A o3.n o3.c), (5, 78, .bool ((lintR (toP l0)).2)), (6, 12, .slice o3.A o3.n o3.c), (7, 13, .bool ((lintR (toP l0)).2))] ha fun a ha => ?_
 refine jY (jJ (wp_seq (wp_seq (jX [0, 1, 2, 3, 4, 5, 6, 7, 8] (jQ [(0, 79, .slice o3.A o3.n o3.c), (1, 80, .slice o1.A o1.n o1.c)] ha fun a ha => ?_)))))
 replace hS := hS.pickN 9 [0, 3, 1, 2, 4, 5, 6, 7, 8]
 refine jW (qQ 81 (vs := [.slice o3.A o3.n o3.c, .slice o1.A o1.n o1.c]) ha (eqE_sat hS (Nat.le_trans (lintR_len ..) (by decide))) fun v34 w a hp35 ha => ?_)
 obtain ⟨rfl, hS⟩ := hp35
 refine jQ [(3, 82, .bool false), (4, 83, .bool false), (5, 84, .bool ((lintR (toP l0)).2)), (6, 85, .bool ((lintR (toP l0)).2))] ha fun a ha => ?_
 refine qX (.bool false) ha ((jH (v := .bool (!(((lintR (toP l0)).2) == ((lintR (toP l0)).2)))) ha (AtG.here (gd := 83) ⟨(by kernel_rfl : ((jV Try.f5 25)[7]?).map spec = some ((Op.binOp BinOp.neq 4 (Operand.tmp 84) (Operand.tmp 85) 4), some 86, 4, some (4, false))), by kernel_rfl⟩ ha rfl) (by kernel_rfl) (fun _ => by kernel_rfl)).as (by simp)) fun a ha => ?_
 refine jQ [(8, 87, .bool false)] ha fun a ha => ?_
 refine jY ?_
 replace ha := ha.as [(2, .bool false), (7, .slice o2.A o2.n o2.c), (10, iv (1 + 3 * (((lintR (toP l0)).1).length : Int))), (11, iv (1 + 3 * (((lintR (toP l0)).1).length : Int))), (87, .bool false)] rfl
 refine jJ ?_
 refine jK ha rfl rfl ?_
 refine wp_skip (jJ (wp_seq (jX [0] (jQ [(0, 11, iv 1)] ha fun a ha => ?_))))
 refine jY (jJ (wp_seq (jX [0, 1, 2, 3] (jQ [(0, 88, .slice o2.A o2.n o2.c), (1, 89, iv 1)] ha fun a ha => ?_))))
 replace hS := hS.pickN 9 [3, 0, 1, 2, 4, 5, 6, 7, 8]
 refine jW (qQ 90 (vs := [.slice o2.A o2.n o2.c, iv 1]) ha (heldE_sat hS (Nat.le_trans (lintR_len ..) (by decide))) fun v36 w a hp37 ha => ?_)
 obtain ⟨rfl, hS⟩ := hp37
 refine jQ [(3, 11, iv (1 + 3 * (((lintR (toP l0)).1).length : Int)))] ha fun a ha => ?_
 refine jY (jJ (wp_seq (wp_seq (jX [0, 1] (jQ [(0, 91, iv (1 + 3 * (((lintR (toP l0)).1).length : Int)))] ha fun a ha => ?_)))))
 refine qX (.bool false) ha ((jH (v := .bool (decide (1 + 3 * (((lintR (toP l0)).1).length : Int) < 0))) ha (xV (op := (Op.binOp BinOp.lss 3 (Operand.tmp 91) (Operand.const (Value.int IntKind.i64 0)) 3)) (d := some 92) (ty := 4)) (by kernel_rfl) (fun _ => by kernel_rfl)).as (by rw [decide_eq_false (by omega)])) fun a ha => ?_
 refine jY (jJ ?_)
 refine jK ha rfl rfl ?_
 refine wp_skip (jJ (wp_seq (wp_seq (jX [0, 1, 2] (jQ [(0, 93, iv (1 + 3 * (((lintR (toP l0)).1).length : Int))), (1, 94, iv (1 + 3 * (((lintR (toP l0)).1).length : Int)))] ha fun a ha => ?_)))))
 refine qX (.bool false) ha ((jH (v := .bool (!(decide (1 + 3 * (((lintR (toP l0)).1).length : Int) = 1 + 3 * (((lintR (toP l0)).1).length : Int))))) ha (xV (op := (Op.binOp BinOp.neq 3 (Operand.tmp 93) (Operand.tmp 94) 3)) (d := some 95) (ty := 4)) (by kernel_rfl) (fun _ => by kernel_rfl)).as (by simp)) fun a ha => ?_
 refine jY (jJ ?_)
 refine jK ha rfl rfl ?_
 refine wp_skip (jJ (wp_seq (jX [0] (jQ [(0, 2, .bool true)] ha fun a ha => ?_))))
 refine jY (jJ (wp_ret (jG ha (by kernel_rfl) (qK (t := 2) ha rfl) ?_)))
 exact ⟨rfl, hS.below⟩
end Go.Proofs.Ytpenhegoilccoaa.G
