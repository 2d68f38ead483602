/- What the claim FnExactLeastLimit rests on, part 18 of 20; the last part proves it: for every input the law answers true, and its arguments read behind the call as before it. No condition. -/
import Derived.Test.YtggahaddkoifkaaQLeastLimit17
section
namespace Go.Proofs.Ytggahaddkoifkaa.G
open Go.RowKit Go.Proofs.Ytggahaddkoifkaa.SX Go.Proofs.YtggahaddkoifkaaW.PrintWords Go.Proofs.YtggahaddkoifkaaW.PrintLast Go.Proofs.YtggahaddkoifkaaW.PrintMore
set_option linter.unusedVariables false
set_option linter.unusedSimpArgs false
def jobsB (l : List (List ST)) (f fuel : Int) (jobs : List Int) : Bool := !(badJ jobs) && (askB l f 0 fuel && decide (jobs.length ≤ 20))
def watchB (limit span : Int) : Bool := inB limit 0 20 && inB span 0 1000
theorem keepOkB_eq (l : List (List ST)) (f fuel limit span : Int) (jobs : List Int) : keepOkB l f fuel limit span jobs = (jobsB l f fuel jobs && watchB limit span) := by
 unfold keepOkB jobsB watchB askB isFB
 rw [show numB 0 = true by decide, Bool.and_true]
 cases inB limit 0 20 <;> cases inB span 0 1000 <;> cases decide (jobs.length ≤ 20) <;> cases programB l <;> cases inB f 0 ((l.length : Int) - 1) <;> cases inB fuel 0 200 <;> cases badJ jobs <;> rfl
theorem code56 : Try.f56.body = some (Code.seq (cr Try.f56 0 false) (Code.seq (Code.seq (cr Try.f56 1 false) (Code.block 0 (Code.loop (Code.seq (Code.seq (cr Try.f56 2 false) (Code.cond (Operand.tmp 13) Code.skip (Code.exit 0))) (Code.seq (Code.block 1 (Code.seq (cr Try.f56 4 false) (Code.cond (Operand.tmp 21) (Code.seq (cr Try.f56 5 false) Code.ret) Code.skip))) (cr Try.f56 3 false)))))) (Code.seq (cr Try.f56 6 false) Code.ret))) := by kernel_rfl
set_option maxRecDepth 20000 in
set_option maxHeartbeats 1000000 in
theorem jobs_sat0 {w0 : World} {s sj : Sl} {l : List (List ST)} {f fuel : Int} {jobs : List Int} (hr : RdP w0 s l) (hf : Fits l) (hrj : RdI w0 sj jobs) :
  Calls Try.prog 56 #[.agg #[.slice s.A s.n s.c], .int .i64 f, .slice sj.A sj.n sj.c, .int .i64 fuel] w0 (Ret fun r w' => r = .bool (jobsB l f fuel jobs) ∧ Sat w0 w' []) := by
 have hS : Sat w0 w0 [] := Sat.start w0
 have hjl := hrj.len
 have hbig := hrj.big
 refine enter (n := 31) Try.func56 code56 (by kernel_rfl) (Nat.le_of_ble_eq_true rfl) (fun a ha => ?_)
 replace ha : Has 31 [(0, .agg #[.slice s.A s.n s.c]), (1, iv f), (2, .slice sj.A sj.n sj.c), (3, iv fuel)] a := ha
 refine wp_seq (jZ [0, 1] (jU (xY 4 [.slice s.A s.n s.c] 30 (ptr · 0) ha hS fun b1 w a hb2 hS ha => ?_)))
 refine jY [(1, 8, .bool false)] ha fun a ha => ?_
 refine jW (jQ (wp_seq (wp_seq (jZ [0] (jY [(0, 9, iv 0)] ha fun a ha => ?_)))))
 refine jW (jQ (wp_block ?_))
 refine wp_loop_ghost (fun n_ a_ w_ => ∃ (i : Nat), n_ = jobs.length - i ∧ (i ≤ jobs.length) ∧ (∀ j : Nat, j < i → numB (jobs.getD j 0) = true) ∧ Has 31 [(1, iv f), (2, .slice sj.A sj.n sj.c), (3, iv fuel), (4, ptr b1 0), (9, iv (i : Int))] a_ ∧ Sat w0 w_ ((SX.blk b1 [.slice s.A s.n s.c] 30) :: [])) _ ⟨0, rfl, Nat.zero_le _, (fun j hj => by omega), ha.keeps [1, 2, 3, 4, 9] _ rfl, hS⟩ ?_
 rintro n_ a w ⟨i, rfl, hi, hall, ha, hS⟩
 refine wp_seq (wp_seq (jZ [0, 1, 2, 3] (jY [(0, 10, iv (i : Int)), (1, 11, .slice sj.A sj.n sj.c), (2, 12, iv (sj.n : Int)), (3, 13, .bool (decide ((i : Int) < (sj.n : Int))))] ha fun a ha => ?_)))
 refine jW (jQ ?_)
 by_cases c3 : (i : Int) < (sj.n : Int)
 ·
  have hlt : i < jobs.length := by omega
  obtain ⟨x9, hx9⟩ : ∃ x, jobs[i]? = some x := ⟨_, List.getElem?_eq_getElem hlt⟩
  refine qX ha rfl (decide_eq_true c3) ?_
  refine wp_skip (jQ (wp_seq (wp_block (wp_seq (jZ [0, 1, 2, 3, 4, 5] (jY [(0, 16, .slice sj.A sj.n sj.c), (1, 17, iv (i : Int))] ha fun a ha => ?_))))))
  refine zU (.pointer (some ⟨bk sj, of_ sj + i * 1, none⟩)) ha (zH (el := 3) (sz := 1) (j := i) ha (zX (t := 36) (x := 16) (y := 17) (d := 18)) rfl rfl (by kernel_rfl) (by kernel_rfl) ((hrj.sat hS).at_ hlt).1 (by rw [((hrj.sat hS)).len]; exact hlt)) fun a ha => ?_
  refine zU (iv x9) ha (zG (p := ⟨bk sj, of_ sj + i * 1, none⟩) ha (kQ (t := 3) (x := 18) (d := 19) (ty := 3)) rfl (by kernel_rfl) (fun w' hw => by rw [hw, Nat.mul_one, ← getD_of hx9]; exact ((hrj.sat hS).at_ hlt).2)) fun a ha => ?_
  refine jU (xU 20 (vs := [iv x9]) ha (q_num hS _) fun v4 w a hp5 ha => ?_)
  obtain ⟨rfl, hS⟩ := hp5
  refine jY [(5, 21, .bool (!((numB x9))))] ha fun a ha => ?_
  refine jW (jQ ?_)
  rcases Bool.eq_false_or_eq_true (numB x9) with c6 | c6
  ·
   refine qJ ha rfl (yW c6) ?_
   refine wp_skip (in_n (jQ (jZ [0, 1, 2] (jY [(0, 14, iv (i : Int))] ha fun a ha => ?_))))
   refine zZ 15 ((i : Int) + 1) ha fun a ha => ?_
   refine jY [(2, 9, iv ((i : Int) + 1))] ha fun a ha => ?_
   refine jW (jQ ?_)
   exact ⟨_, by omega, i + 1, rfl, by omega, all_num hx9 hall c6, ha.keeps [1, 2, 3, 4, 9] _ rfl, hS⟩
  refine qX ha rfl (zV c6) ?_
  refine wp_seq (jZ [0] (jY [(0, 8, .bool false)] ha fun a ha => ?_))
  refine jW (jQ (wp_ret (in_r (qH (qH (in_r (qH (xX ha (by kernel_rfl) (yY (t := 8) ha rfl) ?_))))))))
  have hB : badJ jobs = true := badJ_yes hx9 c6
  have hE : jobsB l f fuel jobs = false := by unfold jobsB; rw [hB]; simp
  rw [hE]
  exact ⟨rfl, Sat.rest [_] hS⟩
 refine qJ ha rfl (decide_eq_false c3) ?_
 refine wp_exit (yJ (yJ (in_x (jQ (wp_seq (jZ [0, 1, 2, 3, 4, 5, 6, 7, 8, 9] (zY 22 ha (hS.blk 0 rfl) fun a ha => ?_)))))))
 refine jY [(1, 23, iv f), (2, 24, iv fuel)] ha fun a ha => ?_
 refine jU (xU 25 (vs := [.agg #[.slice s.A s.n s.c], iv f, iv 0, iv fuel]) ha (ask_sat hS (hr.sat hS) hf) fun v7 w a hp8 ha => ?_)
 obtain ⟨rfl, hS⟩ := hp8
 refine jY [(4, 26, .bool (askB l f 0 fuel))] ha fun a ha => ?_
 rcases Bool.eq_false_or_eq_true (askB l f 0 fuel) with c9 | c9
 ·
  replace ha := ha.turn 25 (.bool true) rfl (congrArg Value.bool c9)
  replace ha := ha.turn 26 (.bool true) rfl (congrArg Value.bool c9)
  refine jY [(5, 27, .slice sj.A sj.n sj.c), (6, 28, iv (sj.n : Int)), (7, 29, .bool (decide ((sj.n : Int) ≤ 20))), (8, 30, .bool (decide ((sj.n : Int) ≤ 20))), (9, 8, .bool (decide ((sj.n : Int) ≤ 20)))] ha fun a ha => ?_
  refine jW ?_
  replace ha := ha.as [(8, .bool (decide ((sj.n : Int) ≤ 20)))] rfl
  refine jQ (wp_ret (xX ha (by kernel_rfl) (yY (t := 8) ha rfl) ?_))
  have hB : badJ jobs = false := badJ_no (fun j hj => hall j (by omega))
  have hE : jobsB l f fuel jobs = decide ((sj.n : Int) ≤ 20) := by unfold jobsB; rw [hB]; simp [c9]; try omega
  rw [hE]
  exact ⟨rfl, Sat.rest [_] hS⟩
 replace ha := ha.turn 25 (.bool false) rfl (congrArg Value.bool c9)
 replace ha := ha.turn 26 (.bool false) rfl (congrArg Value.bool c9)
 refine jY [(5, 27, undef), (6, 28, undef), (7, 29, undef), (8, 30, .bool false), (9, 8, .bool false)] ha fun a ha => ?_
 refine jW ?_
 replace ha := ha.as [(8, .bool false)] rfl
 refine jQ (wp_ret (xX ha (by kernel_rfl) (yY (t := 8) ha rfl) ?_))
 have hB : badJ jobs = false := badJ_no (fun j hj => hall j (by omega))
 have hE : jobsB l f fuel jobs = false := by unfold jobsB; rw [hB]; simp [c9]; try omega
 rw [hE]
 exact ⟨rfl, Sat.rest [_] hS⟩
theorem jobs_sat {w0 w : World} {Rs : List Asn} {s sj : Sl} {l : List (List ST)} {f fuel : Int} {jobs : List Int} (hS : Sat w0 w Rs) (hr : RdP w s l) (hf : Fits l) (hrj : RdI w sj jobs) :
  Calls Try.prog 56 #[.agg #[.slice s.A s.n s.c], .int .i64 f, .slice sj.A sj.n sj.c, .int .i64 fuel] w (Ret fun r w' => r = .bool (jobsB l f fuel jobs) ∧ Sat w0 w' Rs) := lift0 hS (jobs_sat0 hr hf hrj)
theorem code57 : Try.f57.body = some (Code.seq (cr Try.f57 0 false) (Code.seq (cr Try.f57 1 false) Code.ret)) := by kernel_rfl
set_option maxRecDepth 20000 in
set_option maxHeartbeats 1000000 in
theorem watch_sat {w0 w : World} {Rs : List Asn} {limit span : Int} (hS : Sat w0 w Rs) :
  Calls Try.prog 57 #[.agg #[.int .i64 limit, .int .i64 span]] w (Ret fun r w' => r = .bool (watchB limit span) ∧ Sat w0 w' Rs) := by
 refine enter (n := 11) Try.func57 code57 (by kernel_rfl) (Nat.le_of_ble_eq_true rfl) (fun a ha => ?_)
 replace ha : Has 11 [(0, .agg #[iv limit, iv span])] a := ha
 refine wp_seq (jZ [0, 1] (jU (xY 1 [iv limit, iv span] 42 (ptr · 0) ha hS fun b1 w a hb2 hS ha => ?_)))
 refine jY [(1, 2, .bool false)] ha fun a ha => ?_
 refine jW (jQ (wp_seq (jZ [0, 1, 2, 3, 4, 5, 6, 7, 8] (jY [(0, 3, ptr b1 0)] ha fun a ha => ?_))))
 refine qZ (d := 4) (b := b1) (j := 0) ha (hS.blk 0 rfl) rfl fun a ha => ?_
 refine jU (xU 5 (vs := [iv limit, iv 0, iv 20]) ha (q_in hS _ _ _) fun v3 w a hp4 ha => ?_)
 obtain ⟨rfl, hS⟩ := hp4
 refine jY [(3, 6, .bool (inB limit 0 20))] ha fun a ha => ?_
 rcases Bool.eq_false_or_eq_true (inB limit 0 20) with c5 | c5
 ·
  replace ha := ha.turn 5 (.bool true) rfl (congrArg Value.bool c5)
  replace ha := ha.turn 6 (.bool true) rfl (congrArg Value.bool c5)
  refine jY [(4, 7, ptr b1 1)] ha fun a ha => ?_
  refine qZ (d := 8) (b := b1) (j := 1) ha (hS.blk 0 rfl) rfl fun a ha => ?_
  refine jU (xU 9 (vs := [iv span, iv 0, iv 1000]) ha (q_in hS _ _ _) fun v6 w a hp7 ha => ?_)
  obtain ⟨rfl, hS⟩ := hp7
  refine jY [(7, 10, .bool (inB span 0 1000)), (8, 2, .bool (inB span 0 1000))] ha fun a ha => ?_
  refine jW (jQ (wp_ret (xX ha (by kernel_rfl) (yY (t := 2) ha rfl) ?_)))
  have hE : watchB limit span = (inB span 0 1000) := by unfold watchB; simp [c5]
  rw [hE]
  exact ⟨rfl, Sat.rest [_] hS⟩
 replace ha := ha.turn 5 (.bool false) rfl (congrArg Value.bool c5)
 replace ha := ha.turn 6 (.bool false) rfl (congrArg Value.bool c5)
 refine jY [(4, 7, undef), (5, 8, undef), (6, 9, undef), (7, 10, .bool false), (8, 2, .bool false)] ha fun a ha => ?_
 refine jW (jQ (wp_ret (xX ha (by kernel_rfl) (yY (t := 2) ha rfl) ?_)))
 have hE : watchB limit span = false := by unfold watchB; simp [c5]
 rw [hE]
 exact ⟨rfl, Sat.rest [_] hS⟩
end Go.Proofs.Ytggahaddkoifkaa.G
end
section
namespace Go.Proofs.Ytggahaddkoifkaa.G
open Go.RowKit Go.Proofs.Ytggahaddkoifkaa.SX Go.Proofs.YtggahaddkoifkaaW.PrintWords Go.Proofs.YtggahaddkoifkaaW.PrintLast Go.Proofs.YtggahaddkoifkaaW.PrintMore
set_option linter.unusedVariables false
set_option linter.unusedSimpArgs false
def leastK (g : Nat → Bool) : Nat := ((List.range 20).find? fun j => !g j).getD 20
theorem least_eq {g : Nat → Bool} {k : Nat} (h0 : ∀ j, j < k → g j = true) (h1 : k ≤ 20) (h2 : g k = false) : leastK g = k := by
 unfold leastK
 by_cases hk : k = 20
 · rw [List.find?_range_eq_none.2 (fun j hj => by rw [h0 j (by omega)]; rfl), hk]; rfl
 · rw [List.find?_range_eq_some.2 ⟨by rw [h2]; rfl, List.mem_range.2 (by omega), fun j hj => by rw [h0 j hj]; rfl⟩]; rfl
theorem keep20 {l : List (List ST)} {f fuel span : Int} {jobs : List Int} : ∀ n, n ≤ 20 → (keepN l f fuel 20 span jobs n).fails.length ≤ n ∧ (keepN l f fuel 20 span jobs n).gave = false := by
  intro n
  induction n with
  | zero => intro _; exact ⟨Nat.le_refl _, rfl⟩
  | succ n ih =>
    intro hn
    obtain ⟨h1, h2⟩ := ih (by omega)
    show (if _ then _ else _ : KS).fails.length ≤ n + 1 ∧ (if _ then _ else _ : KS).gave = false
    rw [if_neg (by rw [h2]; decide)]
    unfold keepStep
    split
    · refine ⟨by simp only [List.length_append, List.length_cons, List.length_nil]; omega, decide_eq_false ?_⟩
      have := (lateN_le ((keepN l f fuel 20 span jobs n).fails ++ [(keepN l f fuel 20 span jobs n).clock + (rn l f (jobs.getD n 0) fuel).m.made]) ((keepN l f fuel 20 span jobs n).fails.length + 1) ((keepN l f fuel 20 span jobs n).clock + (rn l f (jobs.getD n 0) fuel).m.made - span)).2
      omega
    · exact ⟨by dsimp only; omega, h2⟩
theorem jobsB_20 {l : List (List ST)} {f fuel : Int} {jobs : List Int} (h : jobsB l f fuel jobs = true) : jobs.length ≤ 20 := by
 simp only [jobsB, Bool.and_eq_true, decide_eq_true_eq] at h; exact h.2.2
theorem jobsB_ask {l : List (List ST)} {f fuel : Int} {jobs : List Int} (h : jobsB l f fuel jobs = true) : ∀ x ∈ jobs, askB l f x fuel = true := by
 simp only [jobsB, Bool.and_eq_true, askB, Bool.not_eq_true'] at h
 obtain ⟨h1, ⟨⟨⟨h2, h3⟩, _⟩, h4⟩, _⟩ := h
 exact fun x hx => keep_ask (by unfold isFB; rw [h2, h3]; rfl) h4 h1 hx
def leastG (l : List (List ST)) (f fuel span : Int) (jobs : List Int) (n : Nat) : Bool := (keepN l f fuel (n : Int) span jobs jobs.length).gave
theorem leastG_20 {l : List (List ST)} {f fuel span : Int} {jobs : List Int} (h : jobs.length ≤ 20) : leastG l f fuel span jobs 20 = false := (keep20 _ h).2
def leastP (l : List (List ST)) (f : Int) (jobs : List Int) (fuel span : Int) : Int × Bool := if jobsB l f fuel jobs = true ∧ watchB 0 span = true then ((leastK (leastG l f fuel span jobs) : Int), true) else (0, false)
theorem watchB_n {span : Int} {n : Nat} (h : n ≤ 20) : watchB (n : Int) span = watchB 0 span := by
 unfold watchB inB
 rw [decide_eq_true (show (0 : Int) ≤ (n : Int) by omega), decide_eq_true (show (n : Int) ≤ 20 by omega)]; rfl
theorem keepIq {w0 w : World} {Rs : List Asn} {s sj : Sl} {l : List (List ST)} {f fuel limit span : Int} {jobs : List Int} (hS : Sat w0 w Rs) (hr : RdP w s l) (hf : Fits l) (hrj : RdI w sj jobs) :
  Calls Try.prog 59 #[.agg #[.slice s.A s.n s.c], .int .i64 f, .slice sj.A sj.n sj.c, .int .i64 fuel, .agg #[.int .i64 limit, .int .i64 span]] w (Ret fun r w' => ∃ (o1 o2 : Sl) (ck : Int), r = .tuple #[.agg #[.slice o1.A o1.n o1.c, .slice o2.A o2.n o2.c, .int .i64 ck, .bool (keepI l f fuel limit span jobs).gave], .bool (keepOkB l f fuel limit span jobs)] ∧ Sat w0 w' Rs) :=
 (keepI_sat0 hr hf hrj).mono fun e w' h => by
  cases e with
  | returned r => obtain ⟨o1, o2, h1, h2⟩ := h; exact ⟨o1, o2, _, h1, Sat.rest [_, _] (hS.comp h2)⟩
  | _ => exact h.elim
theorem keepQq {w0 w : World} {Rs : List Asn} {s sj : Sl} {l : List (List ST)} {f fuel limit span : Int} {jobs : List Int} (hS : Sat w0 w Rs) (hr : RdP w s l) (hrj : RdI w sj jobs) (hj : jobsB l f fuel jobs = true) (hw : watchB 0 span = true) :
  Calls Try.prog 58 #[.agg #[.slice s.A s.n s.c], .int .i64 f, .slice sj.A sj.n sj.c, .int .i64 fuel, .agg #[.int .i64 limit, .int .i64 span]] w (Ret fun r w' => ∃ (o1 o2 : Sl) (ck : Int), r = .agg #[.slice o1.A o1.n o1.c, .slice o2.A o2.n o2.c, .int .i64 ck, .bool (keepN l f fuel limit span jobs jobs.length).gave] ∧ Sat w0 w' Rs) :=
 (keepQ_sat0 hr hrj (jobsB_20 hj) (by simp only [watchB, Bool.and_eq_true] at hw; exact inB_le hw.2) (jobsB_ask hj)).mono fun e w' h => by
  cases e with
  | returned r => obtain ⟨o1, o2, h1, h2⟩ := h; exact ⟨o1, o2, _, h1, Sat.rest [_, _] (hS.comp h2)⟩
  | _ => exact h.elim
theorem keepI_gave {l : List (List ST)} {f fuel span : Int} {jobs : List Int} {n : Nat} (h : keepOkB l f fuel (n : Int) span jobs = true) : (keepI l f fuel (n : Int) span jobs).gave = leastG l f fuel span jobs n := by rw [keepI_yes h]; rfl
theorem code48 : Try.f48.body = some (Code.seq (cr Try.f48 0 false) (Code.seq (Code.seq (cr Try.f48 1 false) (Code.cond (Operand.tmp 24) (Code.seq (cr Try.f48 2 false) Code.ret) Code.skip)) (Code.seq (cr Try.f48 3 false) (Code.seq (Code.block 0 (Code.loop (Code.seq (Code.seq (cr Try.f48 4 false) (Code.cond (Operand.tmp 33) Code.skip (Code.exit 0))) (Code.block 1 (cr Try.f48 5 false))))) (Code.seq (cr Try.f48 6 false) Code.ret))))) := by kernel_rfl
set_option maxRecDepth 20000 in
set_option maxHeartbeats 1000000 in
theorem spec_LeastLimit_sat0 {w0 : World} {s sj : Sl} {l : List (List ST)} {f fuel span : Int} {jobs : List Int} (hr : RdP w0 s l) (hf : Fits l) (hrj : RdI w0 sj jobs) :
  Calls Try.prog 48 #[.agg #[.slice s.A s.n s.c], .int .i64 f, .slice sj.A sj.n sj.c, .int .i64 fuel, .int .i64 span] w0 (Ret fun r w' => r = .tuple #[.int .i64 ((leastP l f jobs fuel span).1), .bool ((leastP l f jobs fuel span).2)] ∧ Sat w0 w' []) := by
 have hS : Sat w0 w0 [] := Sat.start w0
 have hjl := hrj.len
 refine enter (n := 37) Try.func48 code48 (by kernel_rfl) (Nat.le_of_ble_eq_true rfl) (fun a ha => ?_)
 replace ha : Has 37 [(0, .agg #[.slice s.A s.n s.c]), (1, iv f), (2, .slice sj.A sj.n sj.c), (3, iv fuel), (4, iv span)] a := ha
 refine wp_seq (jZ [0, 1, 2] (jU (xY 5 [.slice s.A s.n s.c] 30 (ptr · 0) ha hS fun b1 w a hb2 hS ha => ?_)))
 refine jY [(1, 10, iv 0), (2, 11, .bool false)] ha fun a ha => ?_
 refine jW (jQ (wp_seq (wp_seq (jZ [0, 1, 2, 3, 4, 5, 6, 7, 8, 9, 10, 11] (zY 13 ha (hS.blk 0 rfl) fun a ha => ?_)))))
 refine jY [(1, 14, iv f), (2, 15, .slice sj.A sj.n sj.c), (3, 16, iv fuel)] ha fun a ha => ?_
 refine jU (xU 17 (vs := [.agg #[.slice s.A s.n s.c], iv f, .slice sj.A sj.n sj.c, iv fuel]) ha (jobs_sat hS (hr.sat hS) hf (hrj.sat hS)) fun v3 w a hp4 ha => ?_)
 obtain ⟨rfl, hS⟩ := hp4
 refine jY [(5, 18, .bool (!((jobsB l f fuel jobs)))), (6, 19, .bool (!((jobsB l f fuel jobs))))] ha fun a ha => ?_
 rcases Bool.eq_false_or_eq_true (jobsB l f fuel jobs) with c5 | c5
 ·
  replace ha := ha.turn 17 (.bool true) rfl (congrArg Value.bool c5)
  replace ha := ha.turn 18 (.bool false) rfl (congrArg Value.bool (yW c5))
  replace ha := ha.turn 19 (.bool false) rfl (congrArg Value.bool (yW c5))
  refine jY [(7, 20, iv span), (8, 21, .agg #[iv 0, iv span])] ha fun a ha => ?_
  refine jU (xU 22 (vs := [.agg #[iv 0, iv span]]) ha (watch_sat hS) fun v6 w a hp7 ha => ?_)
  obtain ⟨rfl, hS⟩ := hp7
  refine jY [(10, 23, .bool (!((watchB 0 span)))), (11, 24, .bool (!((watchB 0 span))))] ha fun a ha => ?_
  refine jW (jQ ?_)
  rcases Bool.eq_false_or_eq_true (watchB 0 span) with c8 | c8
  ·
   refine qJ ha rfl (yW c8) ?_
   refine wp_skip (jQ (wp_seq (jZ [0] (jY [(0, 12, iv 0)] ha fun a ha => ?_))))
   refine jW (jQ (wp_seq (wp_block ?_)))
   replace hS : Sat w0 w ((SX.blk b1 [.slice s.A s.n s.c] 30) :: []) := hS
   refine wp_loop_ghost (fun n_ a_ w_ => ∃ (n : Nat), n_ = 21 - n ∧ (n ≤ 20) ∧ (∀ j : Nat, j < n → leastG l f fuel span jobs j = true) ∧ Has 37 [(1, iv f), (2, .slice sj.A sj.n sj.c), (3, iv fuel), (4, iv span), (5, ptr b1 0), (12, iv (n : Int))] a_ ∧ Sat w0 w_ ((SX.blk b1 [.slice s.A s.n s.c] 30) :: [])) _ ⟨0, rfl, Nat.zero_le _, (fun j hj => by omega), ha.keeps [1, 2, 3, 4, 5, 12] _ rfl, hS⟩ ?_
   rintro n_ a w ⟨n, rfl, hn, hall, ha, hS⟩
   refine wp_seq (wp_seq (jZ [0, 1, 2, 3, 4, 5, 6, 7, 8] (zY 25 ha (hS.blk 0 rfl) fun a ha => ?_)))
   refine jY [(1, 26, iv f), (2, 27, .slice sj.A sj.n sj.c), (3, 28, iv fuel), (4, 29, iv (n : Int)), (5, 30, iv span), (6, 31, .agg #[iv (n : Int), iv span])] ha fun a ha => ?_
   refine jU (xU 32 (vs := [.agg #[.slice s.A s.n s.c], iv f, .slice sj.A sj.n sj.c, iv fuel, .agg #[iv (n : Int), iv span]]) ha (keepQq hS (hr.sat hS) (hrj.sat hS) c5 c8) fun v9 w a hp10 ha => ?_)
   obtain ⟨oa, ob, ck, rfl, hS⟩ := hp10
   refine jY [(8, 33, .bool ((keepN l f fuel (n : Int) span jobs jobs.length).gave))] ha fun a ha => ?_
   refine jW (jQ ?_)
   rcases Bool.eq_false_or_eq_true ((keepN l f fuel (n : Int) span jobs jobs.length).gave) with c11 | c11
   ·
    refine qX ha rfl c11 ?_
    refine wp_skip (jQ (wp_block (jZ [0, 1, 2] (jY [(0, 34, iv (n : Int))] ha fun a ha => ?_))))
    refine zZ 35 ((n : Int) + 1) ha fun a ha => ?_
    refine jY [(2, 12, iv ((n : Int) + 1))] ha fun a ha => ?_
    refine jW (in_n (jQ ?_))
    replace hS : Sat w0 w ((SX.blk b1 [.slice s.A s.n s.c] 30) :: []) := hS
    have hg9 : leastG l f fuel span jobs n = true := c11
    have hn9 : n ≠ 20 := fun he => by rw [he, leastG_20 (jobsB_20 c5)] at hg9; cases hg9
    exact ⟨_, by omega, n + 1, rfl, by omega, (fun j hj => if he : j = n then he ▸ hg9 else hall j (by omega)), ha.keeps [1, 2, 3, 4, 5, 12] _ rfl, hS⟩
   refine qJ ha rfl c11 ?_
   refine wp_exit (yJ (yJ (in_x (jQ (wp_seq (jZ [0, 1, 2] (jY [(0, 36, iv (n : Int)), (1, 10, iv (n : Int)), (2, 11, .bool true)] ha fun a ha => ?_)))))))
   refine jW ?_
   replace ha := ha.as [(10, iv (n : Int)), (11, .bool true)] rfl
   refine jQ (wp_ret (yV ha (by kernel_rfl) (yY (t := 10) ha rfl) (yY (t := 11) ha rfl) ?_))
   have hE : leastP l f jobs fuel span = ((n : Int), true) := by unfold leastP; rw [if_pos ⟨c5, c8⟩, least_eq hall hn (show leastG l f fuel span jobs n = false from c11)]
   rw [hE]
   exact ⟨rfl, Sat.rest [_] hS⟩
  refine qX ha rfl (zV c8) ?_
  refine wp_seq (jZ [0, 1] (jY [(0, 10, iv 0), (1, 11, .bool false)] ha fun a ha => ?_))
  refine jW (jQ (wp_ret (qH (yV ha (by kernel_rfl) (yY (t := 10) ha rfl) (yY (t := 11) ha rfl) ?_))))
  have hE : leastP l f jobs fuel span = (0, false) := by unfold leastP; rw [if_neg (fun h9 => by rw [c8] at h9; exact Bool.noConfusion h9.2)]
  rw [hE]
  exact ⟨rfl, Sat.rest [_] hS⟩
 replace ha := ha.turn 17 (.bool false) rfl (congrArg Value.bool c5)
 replace ha := ha.turn 18 (.bool true) rfl (congrArg Value.bool (zV c5))
 replace ha := ha.turn 19 (.bool true) rfl (congrArg Value.bool (zV c5))
 refine jY [(7, 20, undef), (8, 21, undef), (9, 22, undef), (10, 23, undef), (11, 24, .bool true)] ha fun a ha => ?_
 refine jW (jQ ?_)
 refine qX ha rfl rfl ?_
 refine wp_seq (jZ [0, 1] (jY [(0, 10, iv 0), (1, 11, .bool false)] ha fun a ha => ?_))
 refine jW (jQ (wp_ret (qH (yV ha (by kernel_rfl) (yY (t := 10) ha rfl) (yY (t := 11) ha rfl) ?_))))
 have hE : leastP l f jobs fuel span = (0, false) := by unfold leastP; rw [if_neg (fun h9 => by rw [c5] at h9; exact Bool.noConfusion h9.1)]
 rw [hE]
 exact ⟨rfl, Sat.rest [_] hS⟩
theorem spec_LeastLimit_sat {w0 w : World} {Rs : List Asn} {s sj : Sl} {l : List (List ST)} {f fuel span : Int} {jobs : List Int} (hS : Sat w0 w Rs) (hr : RdP w s l) (hf : Fits l) (hrj : RdI w sj jobs) :
  Calls Try.prog 48 #[.agg #[.slice s.A s.n s.c], .int .i64 f, .slice sj.A sj.n sj.c, .int .i64 fuel, .int .i64 span] w (Ret fun r w' => r = .tuple #[.int .i64 ((leastP l f jobs fuel span).1), .bool ((leastP l f jobs fuel span).2)] ∧ Sat w0 w' Rs) := lift0 hS (spec_LeastLimit_sat0 hr hf hrj)
theorem code49 : Try.f49.body = some (Code.seq (cr Try.f49 0 false) (Code.seq (Code.seq (cr Try.f49 1 false) (Code.block 0 (Code.loop (Code.seq (cr Try.f49 2 false) (Code.seq (Code.cond (Operand.tmp 16) Code.skip (Code.exit 0)) (Code.seq (Code.block 1 (Code.seq (cr Try.f49 3 false) (Code.seq (cr Try.f49 4 false) (Code.seq (Code.seq (cr Try.f49 5 false) (Code.cond (Operand.tmp 30) (Code.seq (cr Try.f49 6 false) Code.ret) Code.skip)) (Code.seq (cr Try.f49 7 false) (Code.cond (Operand.tmp 33) (Code.seq (cr Try.f49 8 false) Code.ret) Code.skip)))))) (cr Try.f49 9 false))))))) (Code.seq (cr Try.f49 10 false) Code.ret))) := by kernel_rfl
set_option maxRecDepth 20000 in
set_option maxHeartbeats 1000000 in
theorem impl_LeastLimit_sat0 {w0 : World} {s sj : Sl} {l : List (List ST)} {f fuel span : Int} {jobs : List Int} (hr : RdP w0 s l) (hf : Fits l) (hrj : RdI w0 sj jobs) :
  Calls Try.prog 49 #[.agg #[.slice s.A s.n s.c], .int .i64 f, .slice sj.A sj.n sj.c, .int .i64 fuel, .int .i64 span] w0 (Ret fun r w' => r = .tuple #[.int .i64 ((leastP l f jobs fuel span).1), .bool ((leastP l f jobs fuel span).2)] ∧ Sat w0 w' []) := by
 have hS : Sat w0 w0 [] := Sat.start w0
 have hjl := hrj.len
 refine enter (n := 36) Try.func49 code49 (by kernel_rfl) (Nat.le_of_ble_eq_true rfl) (fun a ha => ?_)
 replace ha : Has 36 [(0, .agg #[.slice s.A s.n s.c]), (1, iv f), (2, .slice sj.A sj.n sj.c), (3, iv fuel), (4, iv span)] a := ha
 refine wp_seq (jZ [0, 1, 2] (jU (xY 5 [.slice s.A s.n s.c] 30 (ptr · 0) ha hS fun b1 w a hb2 hS ha => ?_)))
 refine jY [(1, 10, iv 0), (2, 11, .bool false)] ha fun a ha => ?_
 refine jW (jQ (wp_seq (wp_seq (jZ [0] (jY [(0, 15, iv 0)] ha fun a ha => ?_)))))
 refine jW (jQ (wp_block ?_))
 replace hS : Sat w0 w ((SX.blk b1 [.slice s.A s.n s.c] 30) :: []) := hS
 refine wp_loop_ghost (fun n_ a_ w_ => ∃ (n : Nat), n_ = 21 - n ∧ (n ≤ 21) ∧ (∀ j : Nat, j < n → leastG l f fuel span jobs j = true) ∧ (0 < n → jobsB l f fuel jobs = true) ∧ Has 36 [(1, iv f), (2, .slice sj.A sj.n sj.c), (3, iv fuel), (4, iv span), (5, ptr b1 0), (15, iv (n : Int))] a_ ∧ Sat w0 w_ ((SX.blk b1 [.slice s.A s.n s.c] 30) :: [])) _ ⟨0, rfl, Nat.zero_le _, (fun j hj => by omega), (fun h => by omega), ha.keeps [1, 2, 3, 4, 5, 15] _ rfl, hS⟩ ?_
 rintro n_ a w ⟨n, rfl, hn, hall, hjb, ha, hS⟩
 refine wp_seq (jZ [0] (jY [(0, 16, .bool (decide ((n : Int) < 21)))] ha fun a ha => ?_))
 refine jW (jQ (wp_seq ?_))
 by_cases c3 : (n : Int) < 21
 ·
  refine qX ha rfl (decide_eq_true c3) ?_
  refine wp_skip (jQ (wp_seq (wp_block (wp_seq (jZ [0, 1] (jY [(0, 17, iv (n : Int)), (1, 12, iv (n : Int))] ha fun a ha => ?_))))))
  refine jW (jQ (wp_seq (jZ [0, 1, 2, 3, 4, 5, 6, 7, 8, 9, 10, 11, 12, 13] (zY 19 ha (hS.blk 0 rfl) fun a ha => ?_))))
  refine jY [(1, 20, iv f), (2, 21, .slice sj.A sj.n sj.c), (3, 22, iv fuel), (4, 23, iv (n : Int)), (5, 24, iv span), (6, 25, .agg #[iv (n : Int), iv span])] ha fun a ha => ?_
  refine jU (xU 26 (vs := [.agg #[.slice s.A s.n s.c], iv f, .slice sj.A sj.n sj.c, iv fuel, .agg #[iv (n : Int), iv span]]) ha (keepIq hS (hr.sat hS) hf (hrj.sat hS)) fun v4 w a hp5 ha => ?_)
  obtain ⟨oa, ob, ck, rfl, hS⟩ := hp5
  refine jY [(8, 18, .tuple #[.agg #[.slice oa.A oa.n oa.c, .slice ob.A ob.n ob.c, iv ck, .bool ((keepI l f fuel (n : Int) span jobs).gave)], .bool (keepOkB l f fuel (n : Int) span jobs)]), (9, 27, .agg #[.slice oa.A oa.n oa.c, .slice ob.A ob.n ob.c, iv ck, .bool ((keepI l f fuel (n : Int) span jobs).gave)]), (10, 28, .bool (keepOkB l f fuel (n : Int) span jobs))] ha fun a ha => ?_
  refine jU (xY 13 [.slice none 0 0, .slice none 0 0, iv 0, .bool false] 89 (ptr · 0) ha hS fun b6 w a hb7 hS ha => ?_)
  refine jU (jG 0 ha (xW (t := 89) (x := 13) (y := 27)) rfl rfl rfl (by kernel_rfl) hS rfl (Nat.le_of_ble_eq_true rfl) rfl fun w a hS ha => ?_)
  refine jY [(13, 14, .bool (keepOkB l f fuel (n : Int) span jobs))] ha fun a ha => ?_
  refine jW (jQ (wp_seq (wp_seq (jZ [0, 1] (jY [(0, 29, .bool (keepOkB l f fuel (n : Int) span jobs)), (1, 30, .bool (!((keepOkB l f fuel (n : Int) span jobs))))] ha fun a ha => ?_)))))
  refine jW (jQ ?_)
  rcases Bool.eq_false_or_eq_true (keepOkB l f fuel (n : Int) span jobs) with c8 | c8
  ·
   refine qJ ha rfl (yW c8) ?_
   refine wp_skip (jQ (wp_seq (jZ [0, 1, 2] (jY [(0, 31, ptr b6 3)] ha fun a ha => ?_))))
   refine qZ (d := 32) (b := b6) (j := 3) ha (hS.blk 0 rfl) rfl fun a ha => ?_
   refine jY [(2, 33, .bool (!((keepI l f fuel (n : Int) span jobs).gave)))] ha fun a ha => ?_
   refine jW (jQ ?_)
   rcases Bool.eq_false_or_eq_true ((keepI l f fuel (n : Int) span jobs).gave) with c9 | c9
   ·
    refine qJ ha rfl (yW c9) ?_
    refine wp_skip (in_n (jQ (jZ [0, 1] (zZ 35 ((n : Int) + 1) ha fun a ha => ?_))))
    refine jY [(1, 15, iv ((n : Int) + 1))] ha fun a ha => ?_
    refine jW (jQ ?_)
    replace hS : Sat w0 w ((SX.blk b1 [.slice s.A s.n s.c] 30) :: []) := hS.pickN 2 [1] (by decide) rfl
    have hg9 : leastG l f fuel span jobs n = true := (keepI_gave c8).symm.trans c9
    exact ⟨_, by omega, n + 1, rfl, by omega, (fun j hj => if he : j = n then he ▸ hg9 else hall j (by omega)), (fun _ => by have h9 := c8; rw [keepOkB_eq, Bool.and_eq_true] at h9; exact h9.1), ha.keeps [1, 2, 3, 4, 5, 15] _ rfl, hS⟩
   refine qX ha rfl (zV c9) ?_
   refine wp_seq (jZ [0, 1, 2] (jY [(0, 34, iv (n : Int)), (1, 10, iv (n : Int)), (2, 11, .bool true)] ha fun a ha => ?_))
   refine jW (jQ (wp_ret (in_r (qH (qH (in_r (qH ?_)))))))
   have hk9 := c8
   rw [keepOkB_eq, watchB_n (by omega)] at hk9
   rw [Bool.and_eq_true] at hk9
   refine yV ha (by kernel_rfl) (yY (t := 10) ha rfl) (yY (t := 11) ha rfl) ?_
   have hE : leastP l f jobs fuel span = ((n : Int), true) := by unfold leastP; rw [if_pos hk9, least_eq hall (by omega) ((keepI_gave c8).symm.trans c9)]
   rw [hE]
   exact ⟨rfl, Sat.rest [_, _] hS⟩
  refine qX ha rfl (zV c8) ?_
  refine wp_seq (jZ [0, 1] (jY [(0, 10, iv 0), (1, 11, .bool false)] ha fun a ha => ?_))
  refine jW (jQ (wp_ret (qH (in_r (qH (qH (in_r (qH ?_))))))))
  have hk9 := c8
  rw [keepOkB_eq, watchB_n (by omega)] at hk9
  refine yV ha (by kernel_rfl) (yY (t := 10) ha rfl) (yY (t := 11) ha rfl) ?_
  have hE : leastP l f jobs fuel span = (0, false) := by unfold leastP; rw [if_neg (fun h9 => by rw [h9.1, h9.2] at hk9; cases hk9)]
  rw [hE]
  exact ⟨rfl, Sat.rest [_, _] hS⟩
 refine qJ ha rfl (decide_eq_false c3) ?_
 refine wp_exit (yJ (yJ (in_x (jQ (wp_seq (jZ [0, 1] (jY [(0, 10, iv 0), (1, 11, .bool false)] ha fun a ha => ?_)))))))
 refine jW (jQ (wp_ret ?_))
 exfalso
 have h20 := hall 20 (by omega)
 rw [leastG_20 (jobsB_20 (hjb (by omega)))] at h20
 cases h20
theorem impl_LeastLimit_sat {w0 w : World} {Rs : List Asn} {s sj : Sl} {l : List (List ST)} {f fuel span : Int} {jobs : List Int} (hS : Sat w0 w Rs) (hr : RdP w s l) (hf : Fits l) (hrj : RdI w sj jobs) :
  Calls Try.prog 49 #[.agg #[.slice s.A s.n s.c], .int .i64 f, .slice sj.A sj.n sj.c, .int .i64 fuel, .int .i64 span] w (Ret fun r w' => r = .tuple #[.int .i64 ((leastP l f jobs fuel span).1), .bool ((leastP l f jobs fuel span).2)] ∧ Sat w0 w' Rs) := lift0 hS (impl_LeastLimit_sat0 hr hf hrj)
end Go.Proofs.Ytggahaddkoifkaa.G
end
section
namespace Go.Proofs.Ytggahaddkoifkaa
namespace SX
open Go.RowKit Go.Proofs.YtggahaddkoifkaaW.PrintWords
set_option linter.unusedVariables false
section
variable {α : Type} {enc : α → List Value} {sz : Nat} {w0 w w' : World} {Rs : List Asn} {s : Sl} {l : List α}
end
section
variable {P : Program} {R : Array Oper} {n : Nat} {e : Env} {a : Act} {w : World}
end
section
variable {P : Program} {R : Array Oper} {Q : Exit → Act → World → Prop} {n : Nat} {e : Env} {a : Act} {w w0 : World} {Rs : List Asn}
theorem made_flat {α : Type} {enc : α → List Value} {x0 : α} {z : Value} {sz : Nat} (hz : z.cells.toList = enc x0) (hsz : ∀ x, (enc x).length = sz) (h0 : 0 < sz) (m : Nat) : madeCells z.cells (m * sz) = ((List.replicate m x0).flatMap enc).toArray := by
  have hzs : z.cells.size = sz := by rw [← Array.length_toList, hz, hsz]
  refine Array.toList_inj.1 (List.ext_getElem? fun i => ?_)
  show (madeCells z.cells (m * sz)).toList[i]? = ((List.replicate m x0).flatMap enc)[i]?
  by_cases hi : i < m * sz
  · have hj : i / sz < m := (Nat.div_lt_iff_lt_mul h0).2 hi
    have ho : i % sz < sz := Nat.mod_lt _ h0
    have e1 := flat_get (enc := enc) (o := i % sz) (x := x0) (j := i / sz) (l := List.replicate m x0) hsz (by rw [List.getElem?_replicate, if_pos hj]) ho
    rw [show i / sz * sz + i % sz = i by rw [Nat.mul_comm]; exact Nat.div_add_mod i sz] at e1
    have ho2 : i % sz < z.cells.size := by rw [hzs]; exact ho
    rw [e1, ← hz]
    simp only [madeCells, Array.getElem?_toList, Array.getElem?_map, Array.getElem?_range, hzs, hi, if_true, Option.map_some, getElem!_pos z.cells (i % sz) ho2, Array.getElem?_eq_getElem ho2]
  · rw [List.getElem?_eq_none (by rw [Array.length_toList, size_madeCells]; omega), List.getElem?_eq_none (by rw [flat_length hsz, List.length_replicate]; omega)]
theorem o_makeR {α : Type} {enc : α → List Value} {x0 : α} {i d : Nat} {x y : Operand} {t el ty : TypeId} {m bytes sz : Nat} {z : Value} {K : Act → World → Prop} (h : Has n e a) (hd : d < n) (ho : AtW R i (.makeSlice t x y) (some d) ty a) (hx : ev e x = some (.int .i64 (m : Int))) (hy : ev e y = some (.int .i64 (m : Int)))
    (ht : P.underlying t = some (.slice el)) (hinfo : (P.info? el).map (fun i => (i.zero, i.size, i.bytes)) = some (some z, sz, bytes)) (hz : z.cells.toList = enc x0) (hsz : ∀ x, (enc x).length = sz) (h0 : 0 < sz) (hb0 : 0 < bytes) (hn : m * bytes ≤ 281474976710656) (hS : Sat w0 w Rs)
    (k : ∀ (s : Sl) w' a', s.n = m → Sat w0 w' (SX.row s.v el sz ((List.replicate m x0).flatMap enc) :: Rs) → Has n ((d, .slice s.A s.n s.c) :: e) a' → K a' w') : wpOp P R Q i K a w := by
  have hm : m ≤ 281474976710656 := Nat.le_trans (Nat.le_mul_of_pos_right _ hb0) hn
  refine o_new (cs := (List.replicate m x0).flatMap enc) (T := el) (fun b => .slice (some ⟨b, 0, none⟩) m m) h hd ho (by simp [covers, Op.operands, hx, hy, notSelect]) hS (fun w => ?_) (fun b w' a' hb hS' ha' => ?_)
  · obtain ⟨ti, hti, he⟩ := Option.map_eq_some_iff.1 hinfo
    simp only [Prod.mk.injEq] at he
    obtain ⟨e1, e2, e3⟩ := he
    have hr := run_make (P := P) w t el ti z ht hti e1 .i64 .i64 (m : Int) (m : Int) (by omega) (Int.le_refl _) (by rw [e3, ← Int.natCast_mul, Nat.mul_comm]; omega) (by omega)
    rw [Int.toNat_natCast, e2, made_flat hz hsz h0] at hr
    simp [execOp, opr, evD, hx, hy, hr]
  · have hS2 : Sat w0 w' (SX.blk b ((List.replicate m x0).flatMap enc ++ []) el :: Rs) := by rw [List.append_nil]; exact hS'
    exact k ⟨some ⟨b, 0, none⟩, m, m⟩ w' a' rfl (Sat.shutRow (g := b) (n := m) (cap := m) (sz := sz) (xs := (List.replicate m x0).flatMap enc) (cur := []) hS2 0 rfl (by rw [flat_length hsz, List.length_replicate]) (Nat.le_refl _) (by simp only [maxLen]; omega) (by rw [List.append_nil, flat_length hsz, List.length_replicate])) ha'
end
end SX
end Go.Proofs.Ytggahaddkoifkaa
end
section
namespace Go.Proofs.Ytggahaddkoifkaa.G
open Go.RowKit Go.Proofs.Ytggahaddkoifkaa.SX Go.Proofs.YtggahaddkoifkaaW.PrintWords Go.Proofs.YtggahaddkoifkaaW.PrintLast Go.Proofs.YtggahaddkoifkaaW.PrintMore
set_option linter.unusedVariables false
set_option linter.unusedSimpArgs false
theorem tk_next {α : Type} {l : List α} {z0 x : α} {j : Nat} (hx : l[j]? = some x) : (l.take j ++ List.replicate (l.length - j) z0).set j x = l.take (j + 1) ++ List.replicate (l.length - (j + 1)) z0 := by
 have h := (List.getElem?_eq_some_iff.1 hx).1
 have h2 : (l.take j).length = j := by rw [List.length_take]; omega
 rw [List.set_append_right _ _ (by omega), h2, Nat.sub_self, show l.length - j = (l.length - (j + 1)) + 1 by omega, List.replicate_succ, List.set_cons_zero, List.take_add_one, hx, List.append_assoc]; rfl
theorem tk_some {α : Type} {l : List α} {z0 : α} {j : Nat} (h : j < l.length) : ∃ z, (l.take j ++ List.replicate (l.length - j) z0)[j]? = some z := ⟨_, List.getElem?_eq_getElem (by rw [List.length_append, List.length_take, List.length_replicate]; omega)⟩
theorem tk_end {α : Type} {l : List α} {z0 : α} {j : Nat} (h : j = l.length) : l.take j ++ List.replicate (l.length - j) z0 = l := by rw [h, List.take_length, Nat.sub_self, List.replicate_zero, List.append_nil]
theorem getD_at {l : List Int} {n : Nat} {x : Int} (h : l[n]? = some x) : l.getD n 0 = x := by rw [List.getD_eq_getElem?_getD, h]; rfl
def cellsJ (x : Int) : List Value := [.int .i64 x]
def encJ (l : List Int) : List Value := l.flatMap cellsJ
theorem cellsJ_len (x : Int) : (cellsJ x).length = 1 := rfl
theorem encJ_length (l : List Int) : (encJ l).length = l.length * 1 := flat_length cellsJ_len l
theorem encJ_I (l : List Int) : encI l = encJ l := by
 induction l with
 | nil => rfl
 | cons x l ih => show Value.int .i64 x :: encI l = Value.int .i64 x :: encJ l; rw [ih]
theorem code21 : Try.f21.body = some (Code.seq (cr Try.f21 0 false) (Code.seq (cr Try.f21 1 false) (Code.seq (Code.seq (cr Try.f21 2 false) (Code.block 0 (Code.loop (Code.seq (Code.seq (cr Try.f21 3 false) (Code.cond (Operand.tmp 11) Code.skip (Code.exit 0))) (Code.seq (Code.block 1 (cr Try.f21 5 false)) (cr Try.f21 4 false)))))) (Code.seq (cr Try.f21 6 false) Code.ret)))) := by kernel_rfl
set_option maxRecDepth 20000 in
set_option maxHeartbeats 1000000 in
theorem toIntS_sat0 {w0 : World} {sa : Sl} {l : List Int} (hra : RdI w0 sa l) (hbig : l.length ≤ 4000000) :
  Calls Try.prog 21 #[.slice sa.A sa.n sa.c] w0 (Ret fun r w' => ∃ o : Sl, r = .slice o.A o.n o.c ∧ Sat w0 w' (SX.row (.slice o.A o.n o.c) 3 1 (encI l) :: [])) := by
 have hS : Sat w0 w0 [] := Sat.start w0
 have hlen := hra.len
 refine enter (n := 22) Try.func21 code21 (by kernel_rfl) (Nat.le_of_ble_eq_true rfl) (fun a ha => ?_)
 replace ha : Has 22 [(0, .slice sa.A sa.n sa.c)] a := ha
 refine wp_seq (jZ [0] (jY [(0, 2, .slice none 0 0)] ha fun a ha => ?_))
 refine jW (jQ (wp_seq (jZ [0, 1, 2, 3] (jY [(0, 5, .slice sa.A sa.n sa.c), (1, 6, iv (sa.n : Int))] ha fun a ha => ?_))))
 refine jU (o_makeR (enc := cellsJ) (x0 := (0 : Int)) (z := .int .i64 0) (m := sa.n) (bytes := 8) (el := 3) ha (by decide) (zK (op := (Op.makeSlice 36 (Operand.tmp 6) (Operand.tmp 6))) (d := some 7) (ty := 36)) rfl rfl (by kernel_rfl) (by kernel_rfl) rfl cellsJ_len (by decide) (by decide) (by omega) hS fun o w a hon hS ha => ?_)
 refine jY [(3, 3, .slice o.A o.n o.c)] ha fun a ha => ?_
 refine jW (jQ (wp_seq (wp_seq (jZ [0] (jY [(0, 4, iv 0)] ha fun a ha => ?_)))))
 refine jW (jQ (wp_block ?_))
 replace hS : Sat w0 w ((SX.row (.slice o.A o.n o.c) 3 1 (encJ (l.take 0 ++ List.replicate (l.length - 0) (0 : Int)))) :: []) := by have hh := hS; rw [hlen] at hh; exact hh
 refine wp_loop_ghost (fun n_ a_ w_ => ∃ (i : Nat), n_ = l.length - i ∧ (i ≤ l.length) ∧ Has 22 [(0, .slice sa.A sa.n sa.c), (3, .slice o.A o.n o.c), (4, iv (i : Int))] a_ ∧ Sat w0 w_ ((SX.row (.slice o.A o.n o.c) 3 1 (encJ (l.take i ++ List.replicate (l.length - i) (0 : Int)))) :: [])) _ ⟨0, rfl, Nat.zero_le _, ha.keeps [0, 3, 4] _ rfl, hS⟩ ?_
 rintro n_ a w ⟨i, rfl, hi, ha, hS⟩
 refine wp_seq (wp_seq (jZ [0, 1, 2, 3] (jY [(0, 8, iv (i : Int)), (1, 9, .slice sa.A sa.n sa.c), (2, 10, iv (sa.n : Int)), (3, 11, .bool (decide ((i : Int) < (sa.n : Int))))] ha fun a ha => ?_)))
 refine jW (jQ ?_)
 by_cases c1 : (i : Int) < (sa.n : Int)
 ·
  have hlt : i < l.length := by omega
  obtain ⟨x9, hx9⟩ : ∃ x, l[i]? = some x := ⟨_, List.getElem?_eq_getElem hlt⟩
  obtain ⟨z, hz⟩ := tk_some (l := l) (z0 := (0 : Int)) hlt
  refine qX ha rfl (decide_eq_true c1) ?_
  refine wp_skip (jQ (wp_seq (wp_block (jZ [0, 1, 2, 3, 4, 5, 6, 7] (jY [(0, 14, .slice o.A o.n o.c), (1, 15, iv (i : Int)), (2, 16, .slice sa.A sa.n sa.c), (3, 17, iv (i : Int))] ha fun a ha => ?_)))))
  refine zU (.pointer (some ⟨bk sa, of_ sa + i * 1, none⟩)) ha (zH (el := 3) (sz := 1) (j := i) ha (zX (t := 36) (x := 16) (y := 17) (d := 18)) rfl rfl (by kernel_rfl) (by kernel_rfl) ((hra.sat hS).at_ ((List.getElem?_eq_some_iff.1 hx9).1)).1 (by rw [((hra.sat hS)).len]; exact (List.getElem?_eq_some_iff.1 hx9).1)) fun a ha => ?_
  refine zU (iv x9) ha (zG (p := ⟨bk sa, of_ sa + i * 1, none⟩) ha (kQ (t := 3) (x := 18) (d := 19) (ty := 3)) rfl (by kernel_rfl) (fun w' hw => by rw [hw, Nat.mul_one, ← getD_at hx9]; exact ((hra.sat hS).at_ ((List.getElem?_eq_some_iff.1 hx9).1)).2)) fun a ha => ?_
  refine zU (.pointer (some ⟨bk o, i * 1, none⟩)) ha (kX (s := o) (el := 3) (sz := 1) (j := i) ha (zX (t := 36) (x := 14) (y := 15) (d := 20)) rfl rfl (by kernel_rfl) (by kernel_rfl) (hS.rowA (s := o) 0 rfl (by have := (List.getElem?_eq_some_iff.1 hz).1; rw [encJ_length]; omega)) (rfl) (by have h9 := hS.rowL (s := o) (enc := cellsJ) 0 cellsJ_len (by decide) rfl; have := (List.getElem?_eq_some_iff.1 hz).1; omega)) fun a ha => ?_
  refine jU (kK (s := o) (j := i * 1 + 0) (xs := encJ (l.take i ++ List.replicate (l.length - i) (0 : Int))) (xs' := encJ ((l.take i ++ List.replicate (l.length - i) (0 : Int)).set i x9)) 0 ha (xW (t := 3) (x := 20) (y := 19)) rfl rfl rfl (by kernel_rfl) hS rfl (by have := (List.getElem?_eq_some_iff.1 hz).1; rw [encJ_length]; omega) ((flat_set (enc := cellsJ) (x' := x9) cellsJ_len hz (by decide) rfl)) (fun w a (hS : Sat w0 w ((SX.row (.slice o.A o.n o.c) 3 1 (encJ ((l.take i ++ List.replicate (l.length - i) (0 : Int)).set i x9))) :: [])) ha => ?_))
  refine jW (in_n (jQ (jZ [0, 1, 2] (jY [(0, 12, iv (i : Int))] ha fun a ha => ?_))))
  refine zZ 13 ((i : Int) + 1) ha fun a ha => ?_
  refine jY [(2, 4, iv ((i : Int) + 1))] ha fun a ha => ?_
  refine jW (jQ ?_)
  replace hS : Sat w0 w ((SX.row (.slice o.A o.n o.c) 3 1 (encJ (l.take (i + 1) ++ List.replicate (l.length - (i + 1)) (0 : Int)))) :: []) := by rw [← tk_next hx9]; exact hS
  exact ⟨_, by omega, i + 1, rfl, by omega, ha.keeps [0, 3, 4] _ rfl, hS⟩
 refine qJ ha rfl (decide_eq_false c1) ?_
 refine wp_exit (yJ (yJ (in_x (jQ (wp_seq (jZ [0, 1] (jY [(0, 21, .slice o.A o.n o.c), (1, 2, .slice o.A o.n o.c)] ha fun a ha => ?_)))))))
 refine jW (jQ (wp_ret (xX ha (by kernel_rfl) (yY (t := 2) ha rfl) ?_)))
 have hie : i = l.length := by omega
 rw [tk_end hie] at hS
 exact ⟨o, rfl, by rw [encJ_I]; exact hS⟩
theorem toIntS_sat {w0 w : World} {Rs : List Asn} {sa : Sl} {l : List Int} (hS : Sat w0 w Rs) (hra : RdI w sa l) (hbig : l.length ≤ 4000000) :
  Calls Try.prog 21 #[.slice sa.A sa.n sa.c] w (Ret fun r w' => ∃ o : Sl, r = .slice o.A o.n o.c ∧ Sat w0 w' (SX.row (.slice o.A o.n o.c) 3 1 (encI l) :: Rs)) :=
 (toIntS_sat0 hra hbig).mono fun e w' h => by
  cases e with
  | returned r => obtain ⟨o, h1, h2⟩ := h; exact ⟨o, h1, hS.comp h2⟩
  | _ => exact h.elim
theorem code24 : Try.f24.body = some (Code.seq (cr Try.f24 0 false) (Code.seq (Code.seq (cr Try.f24 1 false) (Code.cond (Operand.tmp 10) (Code.seq (cr Try.f24 2 false) Code.ret) Code.skip)) (Code.seq (Code.seq (cr Try.f24 3 false) (Code.block 0 (Code.loop (Code.seq (Code.seq (cr Try.f24 4 false) (Code.cond (Operand.tmp 14) Code.skip (Code.exit 0))) (Code.seq (Code.block 1 (Code.seq (cr Try.f24 6 true) (Code.cond (Operand.tmp 25) (Code.seq (cr Try.f24 7 false) Code.ret) Code.skip))) (cr Try.f24 5 false)))))) (Code.seq (cr Try.f24 8 false) Code.ret)))) := by kernel_rfl
set_option maxRecDepth 20000 in
set_option maxHeartbeats 1000000 in
theorem eqIntS_sat0 {w0 : World} {sa sb : Sl} {l : List Int} (hra : RdI w0 sa l) (hrb : RdI w0 sb l) :
  Calls Try.prog 24 #[.slice sa.A sa.n sa.c, .slice sb.A sb.n sb.c] w0 (Ret fun r w' => r = .bool true ∧ Sat w0 w' []) := by
 have hS : Sat w0 w0 [] := Sat.start w0
 have hbig := hra.big
 have hlen := hra.len
 have hlen2 := hrb.len
 refine enter (n := 26) Try.func24 code24 (by kernel_rfl) (Nat.le_of_ble_eq_true rfl) (fun a ha => ?_)
 replace ha : Has 26 [(0, .slice sa.A sa.n sa.c), (1, .slice sb.A sb.n sb.c)] a := ha
 refine wp_seq (jZ [0] (jY [(0, 4, .bool false)] ha fun a ha => ?_))
 refine jW (jQ (wp_seq (wp_seq (jZ [0, 1, 2, 3, 4] (jY [(0, 6, .slice sa.A sa.n sa.c), (1, 7, iv (sa.n : Int)), (2, 8, .slice sb.A sb.n sb.c), (3, 9, iv (sb.n : Int)), (4, 10, .bool (!(decide ((sa.n : Int) = (sb.n : Int)))))] ha fun a ha => ?_)))))
 refine jW (jQ ?_)
 by_cases c1 : (sa.n : Int) = (sb.n : Int)
 ·
  refine qJ ha rfl (yW (decide_eq_true c1)) ?_
  refine wp_skip (jQ (wp_seq (wp_seq (jZ [0] (jY [(0, 5, iv 0)] ha fun a ha => ?_)))))
  refine jW (jQ (wp_block ?_))
  refine wp_loop_ghost (fun n_ a_ w_ => ∃ (i : Nat), n_ = l.length - i ∧ (i ≤ l.length) ∧ Has 26 [(0, .slice sa.A sa.n sa.c), (1, .slice sb.A sb.n sb.c), (5, iv (i : Int))] a_ ∧ Sat w0 w_ ([])) _ ⟨0, rfl, Nat.zero_le _, ha.keeps [0, 1, 5] _ rfl, hS⟩ ?_
  rintro n_ a w ⟨i, rfl, hi, ha, hS⟩
  refine wp_seq (wp_seq (jZ [0, 1, 2, 3] (jY [(0, 11, iv (i : Int)), (1, 12, .slice sa.A sa.n sa.c), (2, 13, iv (sa.n : Int)), (3, 14, .bool (decide ((i : Int) < (sa.n : Int))))] ha fun a ha => ?_)))
  refine jW (jQ ?_)
  by_cases c2 : (i : Int) < (sa.n : Int)
  ·
   have hlt : i < l.length := by omega
   obtain ⟨x9, hx9⟩ : ∃ x, l[i]? = some x := ⟨_, List.getElem?_eq_getElem hlt⟩
   refine qX ha rfl (decide_eq_true c2) ?_
   refine wp_skip (jQ (wp_seq (wp_block (wp_seq (yX 9 9 hS fun w hS => ?_)))))
   refine jV (k := 7) [(0, 17, .slice sa.A sa.n sa.c), (1, 18, iv (i : Int))] ha (.inr hS) (jJ (jK (jJ (jJ (jK (jJ (jX))))))) fun a ha => ?_
   refine zJ 2 (.pointer (some ⟨bk sa, of_ sa + i * 1, none⟩)) ha (zH (el := 3) (sz := 1) (j := i) ha (zX (t := 36) (x := 17) (y := 18) (d := 19)) rfl rfl (by kernel_rfl) (by kernel_rfl) ((hra.sat hS).at_ ((List.getElem?_eq_some_iff.1 hx9).1)).1 (by rw [((hra.sat hS)).len]; exact (List.getElem?_eq_some_iff.1 hx9).1)) (.inr hS) (jJ (jK (jJ (jJ (jK (jJ (jX))))))) fun a ha => ?_
   refine kZ 3 (iv x9) ha (zG (p := ⟨bk sa, of_ sa + i * 1, none⟩) ha (kQ (t := 3) (x := 19) (d := 20) (ty := 3)) rfl (by kernel_rfl) (fun w' hw => by rw [Nat.mul_one, ← getD_at hx9]; exact (((hra.sat hw)).at_ ((List.getElem?_eq_some_iff.1 hx9).1)).2)) hS (jJ (jK (jJ (jJ (jK (jJ (jX))))))) fun a ha => ?_
   refine jV (k := 3) [(4, 21, .slice sb.A sb.n sb.c), (5, 22, iv (i : Int))] ha (.inr hS) (jJ (jK (jJ (jJ (jK (jJ (jX))))))) fun a ha => ?_
   refine zJ 6 (.pointer (some ⟨bk sb, of_ sb + i * 1, none⟩)) ha (zH (el := 3) (sz := 1) (j := i) ha (zX (t := 36) (x := 21) (y := 22) (d := 23)) rfl rfl (by kernel_rfl) (by kernel_rfl) ((hrb.sat hS).at_ ((List.getElem?_eq_some_iff.1 hx9).1)).1 (by rw [((hrb.sat hS)).len]; exact (List.getElem?_eq_some_iff.1 hx9).1)) (.inr hS) (jJ (jK (jJ (jJ (jK (jJ (jX))))))) fun a ha => ?_
   refine kZ 7 (iv x9) ha (zG (p := ⟨bk sb, of_ sb + i * 1, none⟩) ha (kQ (t := 3) (x := 23) (d := 24) (ty := 3)) rfl (by kernel_rfl) (fun w' hw => by rw [Nat.mul_one, ← getD_at hx9]; exact (((hrb.sat hw)).at_ ((List.getElem?_eq_some_iff.1 hx9).1)).2)) hS (jJ (jK (jJ (jJ (jK (jJ (jX))))))) fun a ha => ?_
   refine zJ 8 (.bool false) ha ((yQ (v := .bool (!(decide (x9 = x9)))) ha (zK (op := (Op.binOp BinOp.neq 3 (Operand.tmp 20) (Operand.tmp 24) 3)) (d := some 25) (ty := 4)) (by kernel_rfl) (fun _ => by kernel_rfl)).as (by simp)) (.inr hS) (jJ (jK (jJ (jJ (jK (jJ (jX))))))) fun a ha => ?_
   refine xV (jQ ?_)
   refine qJ ha rfl rfl ?_
   refine wp_skip (in_n (jQ (jZ [0, 1, 2] (jY [(0, 15, iv (i : Int))] ha fun a ha => ?_))))
   refine zZ 16 ((i : Int) + 1) ha fun a ha => ?_
   refine jY [(2, 5, iv ((i : Int) + 1))] ha fun a ha => ?_
   refine jW (jQ ?_)
   exact ⟨_, by omega, i + 1, rfl, by omega, ha.keeps [0, 1, 5] _ rfl, hS⟩
  refine qJ ha rfl (decide_eq_false c2) ?_
  refine wp_exit (yJ (yJ (in_x (jQ (wp_seq (jZ [0] (jY [(0, 4, .bool true)] ha fun a ha => ?_)))))))
  refine jW (jQ (wp_ret (xX ha (by kernel_rfl) (yY (t := 4) ha rfl) ?_)))
  exact ⟨rfl, hS⟩
 refine qX ha rfl (zV (decide_eq_false c1)) ?_
 refine wp_seq (jZ [0] (jY [(0, 4, .bool false)] ha fun a ha => ?_))
 refine jW (jQ (wp_ret (qH ?_)))
 exfalso; omega
theorem eqIntS_sat {w0 w : World} {Rs : List Asn} {sa sb : Sl} {l : List Int} (hS : Sat w0 w Rs) (hra : RdI w sa l) (hrb : RdI w sb l) :
  Calls Try.prog 24 #[.slice sa.A sa.n sa.c, .slice sb.A sb.n sb.c] w (Ret fun r w' => r = .bool true ∧ Sat w0 w' Rs) := lift0 hS (eqIntS_sat0 hra hrb)
end Go.Proofs.Ytggahaddkoifkaa.G
end
section
namespace Go.Proofs.Ytggahaddkoifkaa.G
open Go.RowKit Go.Proofs.Ytggahaddkoifkaa.SX Go.Proofs.YtggahaddkoifkaaW.PrintWords Go.Proofs.YtggahaddkoifkaaW.PrintLast Go.Proofs.YtggahaddkoifkaaW.PrintMore
set_option linter.unusedVariables false
set_option linter.unusedSimpArgs false
theorem code12 : Try.f12.body = some (Code.seq (cr Try.f12 0 false) (Code.seq (Code.seq (cr Try.f12 1 false) (Code.cond (Operand.tmp 20) (Code.seq (cr Try.f12 2 false) Code.ret) Code.skip)) (Code.seq (cr Try.f12 3 false) (Code.seq (cr Try.f12 4 false) (Code.seq (Code.seq (cr Try.f12 5 false) (Code.cond (Operand.tmp 25) (Code.seq (cr Try.f12 6 false) Code.ret) Code.skip)) (Code.seq (cr Try.f12 7 false) (Code.seq (cr Try.f12 8 false) (Code.seq (cr Try.f12 9 false) (Code.seq (cr Try.f12 10 false) (Code.seq (Code.seq (cr Try.f12 11 false) (Code.cond (Operand.tmp 57) (Code.seq (cr Try.f12 12 false) Code.ret) Code.skip)) (Code.seq (Code.seq (cr Try.f12 13 true) (Code.cond (Operand.tmp 62) (Code.seq (cr Try.f12 14 false) Code.ret) Code.skip)) (Code.seq (Code.seq (cr Try.f12 15 false) (Code.cond (Operand.tmp 67) (Code.seq (cr Try.f12 16 false) Code.ret) Code.skip)) (Code.seq (cr Try.f12 17 false) Code.ret))))))))))))) := by kernel_rfl
set_option maxRecDepth 20000 in
set_option maxHeartbeats 1000000 in
theorem law12_walk (w0 : World) (s0 : Sl) (l0 : List (List LT)) (f : Int) (rjobs : Sl) (jobs : List Int) (fuel : Int) (span : Int) (hr0 : RdA w0 s0 l0) (hrjobs : RdI w0 rjobs jobs) :
  Calls Try.prog 12 #[.agg #[.slice s0.A s0.n s0.c], iv f, .slice rjobs.A rjobs.n rjobs.c, iv fuel, iv span] w0 (Ret fun r w' => r = .bool true ∧ Below w0.heap.size w0 w') := by
 have hS : Sat w0 w0 [] := Sat.start w0
 have hnjobs := hrjobs.len
 refine enter (n := 68) Try.func12 code12 (by kernel_rfl) (Nat.le_of_ble_eq_true rfl) (fun a ha => ?_)
 replace ha : Has 68 [(0, .agg #[.slice s0.A s0.n s0.c]), (1, iv f), (2, .slice rjobs.A rjobs.n rjobs.c), (3, iv fuel), (4, iv span)] a := ha
 refine wp_seq (jZ [0, 1] (jU (xY 5 [.slice s0.A s0.n s0.c] 24 (ptr · 0) ha hS fun b1 w a hb2 hS ha => ?_)))
 refine jY [(1, 10, .bool false)] ha fun a ha => ?_
 refine jW (jQ (wp_seq (wp_seq (jZ [0, 1, 2] (jY [(0, 18, .slice rjobs.A rjobs.n rjobs.c), (1, 19, iv (rjobs.n : Int)), (2, 20, .bool (decide ((rjobs.n : Int) > 1048576)))] ha fun a ha => ?_)))))
 refine jW (jQ ?_)
 by_cases c3 : (rjobs.n : Int) > 1048576
 ·
  refine qX ha rfl (decide_eq_true c3) ?_
  refine wp_seq (jZ [0] (jY [(0, 10, .bool true)] ha fun a ha => ?_))
  refine jW (jQ (wp_ret (qH (xX ha (by kernel_rfl) (yY (t := 10) ha rfl) ?_))))
  exact ⟨rfl, hS.below⟩
 refine qJ ha rfl (decide_eq_false c3) ?_
 refine wp_skip (jQ (wp_seq (jZ [0] (jY [(0, 11, iv 1048576)] ha fun a ha => ?_))))
 refine jW (jQ (wp_seq (jZ [0, 1, 2, 3] (zY 21 ha (hS.blk 0 rfl) fun a ha => ?_))))
 refine jY [(1, 22, iv 1048576)] ha fun a ha => ?_
 refine jU (xU 23 (vs := [.agg #[.slice s0.A s0.n s0.c], iv 1048576]) ha (szProgram_sat hS (hr0.sat hS) (by omega) (by omega)) fun v4 w a hp5 ha => ?_)
 obtain ⟨rfl, hS⟩ := hp5
 refine jY [(3, 11, iv (szP l0 1048576))] ha fun a ha => ?_
 refine jW (jQ (wp_seq (wp_seq (jZ [0, 1] (jY [(0, 24, iv (szP l0 1048576)), (1, 25, .bool (decide ((szP l0 1048576) < 0)))] ha fun a ha => ?_)))))
 refine jW (jQ ?_)
 by_cases c6 : (szP l0 1048576) < 0
 ·
  refine qX ha rfl (decide_eq_true c6) ?_
  refine wp_seq (jZ [0] (jY [(0, 10, .bool true)] ha fun a ha => ?_))
  refine jW (jQ (wp_ret (qH (xX ha (by kernel_rfl) (yY (t := 10) ha rfl) ?_))))
  exact ⟨rfl, hS.below⟩
 have hf0 : Fits l0 := by have h8 : 0 ≤ szP l0 1048576 := (by omega); have h9 := szP_ok l0 1048576 h8; exact ⟨by omega, by omega⟩
 have htp0 := (toP_fits hf0).tot
 have hz0 := szP_ok l0 1048576 (by omega)
 refine qJ ha rfl (decide_eq_false c6) ?_
 refine wp_skip (jQ (wp_seq (jZ [0, 1, 2, 3, 4, 5, 6, 7, 8, 9, 10, 11, 12] (zY 27 ha (hS.blk 0 rfl) fun a ha => ?_))))
 refine jU (xU 28 (vs := [.agg #[.slice s0.A s0.n s0.c]]) ha (toProgram_sat hS (hr0.sat hS) hf0) fun v7 w a hp8 ha => ?_)
 obtain ⟨sp1, rfl, hS⟩ := hp8
 refine jY [(2, 29, iv f), (3, 30, .slice rjobs.A rjobs.n rjobs.c)] ha fun a ha => ?_
 refine jU (xU 31 (vs := [.slice rjobs.A rjobs.n rjobs.c]) ha (toIntS_sat hS (hrjobs.sat hS) (by omega)) fun v9 w a hp10 ha => ?_)
 obtain ⟨o1, rfl, hS⟩ := hp10
 refine jY [(5, 32, iv fuel), (6, 33, iv span)] ha fun a ha => ?_
 refine jU (xU 34 (vs := [.agg #[.slice sp1.A sp1.n sp1.c], iv f, .slice o1.A o1.n o1.c, iv fuel, iv span]) ha (spec_LeastLimit_sat hS (hS.rdS 1 rfl) (toP_fits hf0) (hS.rdRow (s := o1) 0 rfl)) fun v11 w a hp12 ha => ?_)
 obtain ⟨rfl, hS⟩ := hp12
 refine jY [(8, 26, .tuple #[iv ((leastP (toP l0) f jobs fuel span).1), .bool ((leastP (toP l0) f jobs fuel span).2)]), (9, 35, iv ((leastP (toP l0) f jobs fuel span).1)), (10, 36, .bool ((leastP (toP l0) f jobs fuel span).2)), (11, 12, iv ((leastP (toP l0) f jobs fuel span).1)), (12, 13, .bool ((leastP (toP l0) f jobs fuel span).2))] ha fun a ha => ?_
 refine jW ?_
 replace ha := ha.as [(1, iv f), (2, .slice rjobs.A rjobs.n rjobs.c), (3, iv fuel), (4, iv span), (5, ptr b1 0), (10, .bool false), (12, iv ((leastP (toP l0) f jobs fuel span).1)), (13, .bool ((leastP (toP l0) f jobs fuel span).2))] rfl
 refine jQ (wp_seq (jZ [0, 1, 2, 3] (zY 37 ha (hS.blk 2 rfl) fun a ha => ?_)))
 refine jU (xU 38 (vs := [.agg #[.slice s0.A s0.n s0.c]]) ha (toProgram_sat hS (hr0.sat hS) hf0) fun v13 w a hp14 ha => ?_)
 obtain ⟨sp2, rfl, hS⟩ := hp14
 refine jU (xY 14 [.slice none 0 0] 30 (ptr · 0) ha hS fun b15 w a hb16 hS ha => ?_)
 refine jU (jG 0 ha (xW (t := 30) (x := 14) (y := 38)) rfl rfl rfl (by kernel_rfl) hS rfl (Nat.le_of_ble_eq_true rfl) rfl fun w a hS ha => ?_)
 refine jW (jQ (wp_seq (jZ [0, 1, 2] (jY [(0, 39, .slice rjobs.A rjobs.n rjobs.c)] ha fun a ha => ?_))))
 refine jU (xU 40 (vs := [.slice rjobs.A rjobs.n rjobs.c]) ha (toIntS_sat hS (hrjobs.sat hS) (by omega)) fun v17 w a hp18 ha => ?_)
 obtain ⟨o2, rfl, hS⟩ := hp18
 refine jY [(2, 15, .slice o2.A o2.n o2.c)] ha fun a ha => ?_
 refine jW (jQ (wp_seq (jZ [0, 1, 2, 3, 4, 5, 6, 7, 8, 9, 10] (zY 42 ha (hS.blk 1 rfl) fun a ha => ?_))))
 refine jY [(1, 43, iv f), (2, 44, .slice o2.A o2.n o2.c), (3, 45, iv fuel), (4, 46, iv span)] ha fun a ha => ?_
 refine jU (xU 47 (vs := [.agg #[.slice sp2.A sp2.n sp2.c], iv f, .slice o2.A o2.n o2.c, iv fuel, iv span]) ha (impl_LeastLimit_sat hS (hS.rdS 2 rfl) (toP_fits hf0) (hS.rdRow (s := o2) 0 rfl)) fun v19 w a hp20 ha => ?_)
 obtain ⟨rfl, hS⟩ := hp20
 refine jY [(6, 41, .tuple #[iv ((leastP (toP l0) f jobs fuel span).1), .bool ((leastP (toP l0) f jobs fuel span).2)]), (7, 48, iv ((leastP (toP l0) f jobs fuel span).1)), (8, 49, .bool ((leastP (toP l0) f jobs fuel span).2)), (9, 16, iv ((leastP (toP l0) f jobs fuel span).1)), (10, 17, .bool ((leastP (toP l0) f jobs fuel span).2))] ha fun a ha => ?_
 refine jW (jQ (wp_seq (wp_seq (jZ [0, 1, 2, 3, 4, 5, 6, 7] (jY [(0, 50, iv ((leastP (toP l0) f jobs fuel span).1)), (1, 51, iv ((leastP (toP l0) f jobs fuel span).1))] ha fun a ha => ?_)))))
 refine zU (.bool false) ha ((yQ (v := .bool (!(decide ((leastP (toP l0) f jobs fuel span).1 = (leastP (toP l0) f jobs fuel span).1)))) ha (zK (op := (Op.binOp BinOp.neq 3 (Operand.tmp 50) (Operand.tmp 51) 3)) (d := some 52) (ty := 4)) (by kernel_rfl) (fun _ => by kernel_rfl)).as (by simp)) fun a ha => ?_
 refine jY [(3, 53, .bool false), (4, 54, .bool ((leastP (toP l0) f jobs fuel span).2)), (5, 55, .bool ((leastP (toP l0) f jobs fuel span).2))] ha fun a ha => ?_
 refine zU (.bool false) ha ((yQ (v := .bool (!(((leastP (toP l0) f jobs fuel span).2) == ((leastP (toP l0) f jobs fuel span).2)))) ha (AtG.here (gd := 53) ⟨(by kernel_rfl : ((xJ Try.f12 11)[6]?).map spec = some ((Op.binOp BinOp.neq 4 (Operand.tmp 54) (Operand.tmp 55) 4), some 56, 4, some (3, false))), by kernel_rfl⟩ ha rfl) (by kernel_rfl) (fun _ => by kernel_rfl)).as (by simp)) fun a ha => ?_
 refine jY [(7, 57, .bool false)] ha fun a ha => ?_
 refine jW ?_
 replace ha := ha.as [(2, .slice rjobs.A rjobs.n rjobs.c), (5, ptr b1 0), (10, .bool false), (14, ptr b15 0), (15, .slice o2.A o2.n o2.c), (57, .bool false)] rfl
 refine jQ ?_
 refine qJ ha rfl rfl ?_
 refine wp_skip (jQ (wp_seq (wp_seq (xG 5 5 (hS.pickN 6 [1, 5] (by decide) rfl) hS fun w hS => ?_))))
 refine yZ 0 58 ha (hS.pickN 6 [1, 5] (by decide) rfl) (jJ (jJ (jX))) (fun _ hw => hw.blk 0 rfl) fun a ha => ?_
 refine yZ 1 59 ha (hS.pickN 6 [1, 5] (by decide) rfl) (jJ (jJ (jX))) (fun _ hw => hw.blk 1 rfl) fun a ha => ?_
 refine qK 2 (xU 60 (vs := [.agg #[.slice s0.A s0.n s0.c]]) ha (toProgram_sat hS (hr0.sat hS) hf0) fun v21 w a hp22 ha => ?_)
 obtain ⟨sp3, rfl, hS⟩ := hp22
 refine ⟨.inr (hS.pickN 7 [2, 6] (by decide) rfl), ?_⟩
 refine qK 3 (xU 61 (vs := [.agg #[.slice sp2.A sp2.n sp2.c], .agg #[.slice sp3.A sp3.n sp3.c]]) ha (eqP_sat hS (hS.rdS 3 rfl) (hS.rdS 0 rfl) (toP_fits hf0)) fun v23 w a hp24 ha => ?_)
 obtain ⟨rfl, hS⟩ := hp24
 refine ⟨.inr (hS.pickN 7 [2, 6] (by decide) rfl), ?_⟩
 refine jV (k := 0) [(4, 62, .bool false)] ha (.inr (hS.pickN 7 [2, 6] (by decide) rfl)) (jJ (jJ (jX))) fun a ha => ?_
 refine xV (jQ ?_)
 refine qJ ha rfl rfl ?_
 refine wp_skip (jQ (wp_seq (wp_seq (jZ [0, 1, 2, 3, 4] (jY [(0, 63, .slice o2.A o2.n o2.c), (1, 64, .slice rjobs.A rjobs.n rjobs.c)] ha fun a ha => ?_)))))
 refine jU (xU 65 (vs := [.slice rjobs.A rjobs.n rjobs.c]) ha (toIntS_sat hS (hrjobs.sat hS) (by omega)) fun v25 w a hp26 ha => ?_)
 obtain ⟨o3, rfl, hS⟩ := hp26
 refine jU (xU 66 (vs := [.slice o2.A o2.n o2.c, .slice o3.A o3.n o3.c]) ha (eqIntS_sat hS (hS.rdRow (s := o2) 2 rfl) (hS.rdRow (s := o3) 0 rfl)) fun v27 w a hp28 ha => ?_)
 obtain ⟨rfl, hS⟩ := hp28
 refine jY [(4, 67, .bool false)] ha fun a ha => ?_
 refine jW (jQ ?_)
 refine qJ ha rfl rfl ?_
 refine wp_skip (jQ (wp_seq (jZ [0] (jY [(0, 10, .bool true)] ha fun a ha => ?_))))
 refine jW ?_
 replace ha := ha.as [(10, .bool true)] rfl
 refine jQ (wp_ret (xX ha (by kernel_rfl) (yY (t := 10) ha rfl) ?_))
 exact ⟨rfl, hS.below⟩
end Go.Proofs.Ytggahaddkoifkaa.G
end
