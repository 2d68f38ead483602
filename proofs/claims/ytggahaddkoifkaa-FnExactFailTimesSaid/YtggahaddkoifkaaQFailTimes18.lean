/- What the claim FnExactFailTimes rests on, part 18 of 20; the last part proves it: for every input the law answers true, and its arguments read behind the call as before it. No condition. -/
import Derived.Test.YtggahaddkoifkaaQFailTimes17
section
namespace Go.Proofs.Ytggahaddkoifkaa.G
open Go.RowKit Go.Proofs.Ytggahaddkoifkaa.SX Go.Proofs.YtggahaddkoifkaaW.PrintWords Go.Proofs.YtggahaddkoifkaaW.PrintLast Go.Proofs.YtggahaddkoifkaaW.PrintMore
set_option linter.unusedVariables false
set_option linter.unusedSimpArgs false
def jobsB (l : List (List ST)) (f fuel : Int) (jobs : List Int) : Bool := !(badJ jobs) && (askB l f 0 fuel && decide (jobs.length ≤ 20))
def watchB (limit span : Int) : Bool := inB limit 0 20 && inB span 0 1000
theorem keepOkB_eq (l : List (List ST)) (f fuel limit span : Int) (jobs : List Int) : keepOkB l f fuel limit span jobs = (jobsB l f fuel jobs && watchB limit span) := by
 unfold keepOkB jobsB watchB askB isFB
 rw [show numB 0 = true by decide, Bool.and_true]
 cases inB limit 0 20 <;> cases inB span 0 1000 <;> cases decide (jobs.length ≤ 20) <;> cases programB l <;> cases inB f 0 ((l.length : Int) - 1) <;> cases inB fuel 0 200 <;> cases badJ jobs <;> rfl
theorem code56 : Try.f56.body = some (Code.seq (cr Try.f56 0 false) (Code.seq (Code.seq (cr Try.f56 1 false) (Code.block 0 (Code.loop (Code.seq (Code.seq (cr Try.f56 2 false) (Code.cond (Operand.tmp 13) Code.skip (Code.exit 0))) (Code.seq (Code.block 1 (Code.seq (cr Try.f56 4 false) (Code.cond (Operand.tmp 21) (Code.seq (cr Try.f56 5 false) Code.ret) Code.skip))) (cr Try.f56 3 false)))))) (Code.seq (cr Try.f56 6 false) Code.ret))) := by kernel_rfl
set_option maxRecDepth 20000 in
set_option maxHeartbeats 1000000 in
theorem jobs_sat0 {w0 : World} {s sj : Sl} {l : List (List ST)} {f fuel : Int} {jobs : List Int} (hr : RdP w0 s l) (hf : Fits l) (hrj : RdI w0 sj jobs) :
  Calls Try.prog 56 #[.agg #[.slice s.A s.n s.c], .int .i64 f, .slice sj.A sj.n sj.c, .int .i64 fuel] w0 (Ret fun r w' => r = .bool (jobsB l f fuel jobs) ∧ Sat w0 w' []) := by
 have hS : Sat w0 w0 [] := Sat.start w0
 have hjl := hrj.len
 have hbig := hrj.big
 refine enter (n := 31) Try.func56 code56 (by kernel_rfl) (Nat.le_of_ble_eq_true rfl) (fun a ha => ?_)
 replace ha : Has 31 [(0, .agg #[.slice s.A s.n s.c]), (1, iv f), (2, .slice sj.A sj.n sj.c), (3, iv fuel)] a := ha
 refine wp_seq (jZ [0, 1] (jU (xY 4 [.slice s.A s.n s.c] 30 (ptr · 0) ha hS fun b1 w a hb2 hS ha => ?_)))
 refine jY [(1, 8, .bool false)] ha fun a ha => ?_
 refine jW (jQ (wp_seq (wp_seq (jZ [0] (jY [(0, 9, iv 0)] ha fun a ha => ?_)))))
 refine jW (jQ (wp_block ?_))
 refine wp_loop_ghost (fun n_ a_ w_ => ∃ (i : Nat), n_ = jobs.length - i ∧ (i ≤ jobs.length) ∧ (∀ j : Nat, j < i → numB (jobs.getD j 0) = true) ∧ Has 31 [(1, iv f), (2, .slice sj.A sj.n sj.c), (3, iv fuel), (4, ptr b1 0), (9, iv (i : Int))] a_ ∧ Sat w0 w_ ((SX.blk b1 [.slice s.A s.n s.c] 30) :: [])) _ ⟨0, rfl, Nat.zero_le _, (fun j hj => by omega), ha.keeps [1, 2, 3, 4, 9] _ rfl, hS⟩ ?_
 rintro n_ a w ⟨i, rfl, hi, hall, ha, hS⟩
 refine wp_seq (wp_seq (jZ [0, 1, 2, 3] (jY [(0, 10, iv (i : Int)), (1, 11, .slice sj.A sj.n sj.c), (2, 12, iv (sj.n : Int)), (3, 13, .bool (decide ((i : Int) < (sj.n : Int))))] ha fun a ha => ?_)))
 refine jW (jQ ?_)
 by_cases c3 : (i : Int) < (sj.n : Int)
 ·
  have hlt : i < jobs.length := by omega
  obtain ⟨x9, hx9⟩ : ∃ x, jobs[i]? = some x := ⟨_, List.getElem?_eq_getElem hlt⟩
  refine qX ha rfl (decide_eq_true c3) ?_
  refine wp_skip (jQ (wp_seq (wp_block (wp_seq (jZ [0, 1, 2, 3, 4, 5] (jY [(0, 16, .slice sj.A sj.n sj.c), (1, 17, iv (i : Int))] ha fun a ha => ?_))))))
  refine zY (.pointer (some ⟨bk sj, of_ sj + i * 1, none⟩)) ha (zH (el := 3) (sz := 1) (j := i) ha (zQ (t := 36) (x := 16) (y := 17) (d := 18)) rfl rfl (by kernel_rfl) (by kernel_rfl) ((hrj.sat hS).at_ hlt).1 (by rw [((hrj.sat hS)).len]; exact hlt)) fun a ha => ?_
  refine zY (iv x9) ha (zU (p := ⟨bk sj, of_ sj + i * 1, none⟩) ha (kJ (t := 3) (x := 18) (d := 19) (ty := 3)) rfl (by kernel_rfl) (fun w' hw => by rw [hw, Nat.mul_one, ← getD_of hx9]; exact ((hrj.sat hS).at_ hlt).2)) fun a ha => ?_
  refine jU (xZ 20 (vs := [iv x9]) ha (q_num hS _) fun v4 w a hp5 ha => ?_)
  obtain ⟨rfl, hS⟩ := hp5
  refine jY [(5, 21, .bool (!((numB x9))))] ha fun a ha => ?_
  refine jW (jQ ?_)
  rcases Bool.eq_false_or_eq_true (numB x9) with c6 | c6
  ·
   refine jH ha rfl (yW c6) ?_
   refine wp_skip (in_n (jQ (jZ [0, 1, 2] (jY [(0, 14, iv (i : Int))] ha fun a ha => ?_))))
   refine zW 15 ((i : Int) + 1) ha fun a ha => ?_
   refine jY [(2, 9, iv ((i : Int) + 1))] ha fun a ha => ?_
   refine jW (jQ ?_)
   exact ⟨_, by omega, i + 1, rfl, by omega, all_num hx9 hall c6, ha.keeps [1, 2, 3, 4, 9] _ rfl, hS⟩
  refine qX ha rfl (zG c6) ?_
  refine wp_seq (jZ [0] (jY [(0, 8, .bool false)] ha fun a ha => ?_))
  refine jW (jQ (wp_ret (in_r (xK (xK (in_r (xK (xQ ha (by kernel_rfl) (yY (t := 8) ha rfl) ?_))))))))
  have hB : badJ jobs = true := badJ_yes hx9 c6
  have hE : jobsB l f fuel jobs = false := by unfold jobsB; rw [hB]; simp
  rw [hE]
  exact ⟨rfl, Sat.rest [_] hS⟩
 refine jH ha rfl (decide_eq_false c3) ?_
 refine wp_exit (yQ (yQ (in_x (jQ (wp_seq (jZ [0, 1, 2, 3, 4, 5, 6, 7, 8, 9] (zZ 22 ha (hS.blk 0 rfl) fun a ha => ?_)))))))
 refine jY [(1, 23, iv f), (2, 24, iv fuel)] ha fun a ha => ?_
 refine jU (xZ 25 (vs := [.agg #[.slice s.A s.n s.c], iv f, iv 0, iv fuel]) ha (ask_sat hS (hr.sat hS) hf) fun v7 w a hp8 ha => ?_)
 obtain ⟨rfl, hS⟩ := hp8
 refine jY [(4, 26, .bool (askB l f 0 fuel))] ha fun a ha => ?_
 rcases Bool.eq_false_or_eq_true (askB l f 0 fuel) with c9 | c9
 ·
  replace ha := ha.turn 25 (.bool true) rfl (congrArg Value.bool c9)
  replace ha := ha.turn 26 (.bool true) rfl (congrArg Value.bool c9)
  refine jY [(5, 27, .slice sj.A sj.n sj.c), (6, 28, iv (sj.n : Int)), (7, 29, .bool (decide ((sj.n : Int) ≤ 20))), (8, 30, .bool (decide ((sj.n : Int) ≤ 20))), (9, 8, .bool (decide ((sj.n : Int) ≤ 20)))] ha fun a ha => ?_
  refine jW ?_
  replace ha := ha.as [(8, .bool (decide ((sj.n : Int) ≤ 20)))] rfl
  refine jQ (wp_ret (xQ ha (by kernel_rfl) (yY (t := 8) ha rfl) ?_))
  have hB : badJ jobs = false := badJ_no (fun j hj => hall j (by omega))
  have hE : jobsB l f fuel jobs = decide ((sj.n : Int) ≤ 20) := by unfold jobsB; rw [hB]; simp [c9]; try omega
  rw [hE]
  exact ⟨rfl, Sat.rest [_] hS⟩
 replace ha := ha.turn 25 (.bool false) rfl (congrArg Value.bool c9)
 replace ha := ha.turn 26 (.bool false) rfl (congrArg Value.bool c9)
 refine jY [(5, 27, undef), (6, 28, undef), (7, 29, undef), (8, 30, .bool false), (9, 8, .bool false)] ha fun a ha => ?_
 refine jW ?_
 replace ha := ha.as [(8, .bool false)] rfl
 refine jQ (wp_ret (xQ ha (by kernel_rfl) (yY (t := 8) ha rfl) ?_))
 have hB : badJ jobs = false := badJ_no (fun j hj => hall j (by omega))
 have hE : jobsB l f fuel jobs = false := by unfold jobsB; rw [hB]; simp [c9]; try omega
 rw [hE]
 exact ⟨rfl, Sat.rest [_] hS⟩
theorem jobs_sat {w0 w : World} {Rs : List Asn} {s sj : Sl} {l : List (List ST)} {f fuel : Int} {jobs : List Int} (hS : Sat w0 w Rs) (hr : RdP w s l) (hf : Fits l) (hrj : RdI w sj jobs) :
  Calls Try.prog 56 #[.agg #[.slice s.A s.n s.c], .int .i64 f, .slice sj.A sj.n sj.c, .int .i64 fuel] w (Ret fun r w' => r = .bool (jobsB l f fuel jobs) ∧ Sat w0 w' Rs) := lift0 hS (jobs_sat0 hr hf hrj)
theorem code57 : Try.f57.body = some (Code.seq (cr Try.f57 0 false) (Code.seq (cr Try.f57 1 false) Code.ret)) := by kernel_rfl
set_option maxRecDepth 20000 in
set_option maxHeartbeats 1000000 in
theorem watch_sat {w0 w : World} {Rs : List Asn} {limit span : Int} (hS : Sat w0 w Rs) :
  Calls Try.prog 57 #[.agg #[.int .i64 limit, .int .i64 span]] w (Ret fun r w' => r = .bool (watchB limit span) ∧ Sat w0 w' Rs) := by
 refine enter (n := 11) Try.func57 code57 (by kernel_rfl) (Nat.le_of_ble_eq_true rfl) (fun a ha => ?_)
 replace ha : Has 11 [(0, .agg #[iv limit, iv span])] a := ha
 refine wp_seq (jZ [0, 1] (jU (xY 1 [iv limit, iv span] 42 (ptr · 0) ha hS fun b1 w a hb2 hS ha => ?_)))
 refine jY [(1, 2, .bool false)] ha fun a ha => ?_
 refine jW (jQ (wp_seq (jZ [0, 1, 2, 3, 4, 5, 6, 7, 8] (jY [(0, 3, ptr b1 0)] ha fun a ha => ?_))))
 refine qK (d := 4) (b := b1) (j := 0) ha (hS.blk 0 rfl) rfl fun a ha => ?_
 refine jU (xZ 5 (vs := [iv limit, iv 0, iv 20]) ha (q_in hS _ _ _) fun v3 w a hp4 ha => ?_)
 obtain ⟨rfl, hS⟩ := hp4
 refine jY [(3, 6, .bool (inB limit 0 20))] ha fun a ha => ?_
 rcases Bool.eq_false_or_eq_true (inB limit 0 20) with c5 | c5
 ·
  replace ha := ha.turn 5 (.bool true) rfl (congrArg Value.bool c5)
  replace ha := ha.turn 6 (.bool true) rfl (congrArg Value.bool c5)
  refine jY [(4, 7, ptr b1 1)] ha fun a ha => ?_
  refine qK (d := 8) (b := b1) (j := 1) ha (hS.blk 0 rfl) rfl fun a ha => ?_
  refine jU (xZ 9 (vs := [iv span, iv 0, iv 1000]) ha (q_in hS _ _ _) fun v6 w a hp7 ha => ?_)
  obtain ⟨rfl, hS⟩ := hp7
  refine jY [(7, 10, .bool (inB span 0 1000)), (8, 2, .bool (inB span 0 1000))] ha fun a ha => ?_
  refine jW (jQ (wp_ret (xQ ha (by kernel_rfl) (yY (t := 2) ha rfl) ?_)))
  have hE : watchB limit span = (inB span 0 1000) := by unfold watchB; simp [c5]
  rw [hE]
  exact ⟨rfl, Sat.rest [_] hS⟩
 replace ha := ha.turn 5 (.bool false) rfl (congrArg Value.bool c5)
 replace ha := ha.turn 6 (.bool false) rfl (congrArg Value.bool c5)
 refine jY [(4, 7, undef), (5, 8, undef), (6, 9, undef), (7, 10, .bool false), (8, 2, .bool false)] ha fun a ha => ?_
 refine jW (jQ (wp_ret (xQ ha (by kernel_rfl) (yY (t := 2) ha rfl) ?_)))
 have hE : watchB limit span = false := by unfold watchB; simp [c5]
 rw [hE]
 exact ⟨rfl, Sat.rest [_] hS⟩
end Go.Proofs.Ytggahaddkoifkaa.G
end
section
namespace Go.Proofs.Ytggahaddkoifkaa.G
open Go.RowKit Go.Proofs.Ytggahaddkoifkaa.SX Go.Proofs.YtggahaddkoifkaaW.PrintWords Go.Proofs.YtggahaddkoifkaaW.PrintLast Go.Proofs.YtggahaddkoifkaaW.PrintMore
set_option linter.unusedVariables false
set_option linter.unusedSimpArgs false
def failP (l : List (List ST)) (f : Int) (jobs : List Int) (fuel limit span : Int) : List Int × Bool := ((keepI l f fuel limit span jobs).fails, keepOkB l f fuel limit span jobs)
theorem keepN_len {l : List (List ST)} {f fuel limit span : Int} {jobs : List Int} : ∀ n, (keepN l f fuel limit span jobs n).kinds.length ≤ n ∧ (keepN l f fuel limit span jobs n).fails.length ≤ n := by
 intro n
 induction n with
 | zero => exact ⟨Nat.le_refl _, Nat.le_refl _⟩
 | succ n ih =>
  show (if _ then _ else _ : KS).kinds.length ≤ n + 1 ∧ (if _ then _ else _ : KS).fails.length ≤ n + 1
  by_cases hg : (keepN l f fuel limit span jobs n).gave = true
  · rw [if_pos hg]; omega
  · rw [if_neg hg]; unfold keepStep; split <;> simp only [List.length_append, List.length_cons, List.length_nil] <;> omega
theorem keepI_len {l : List (List ST)} {f fuel limit span : Int} {jobs : List Int} : (keepI l f fuel limit span jobs).kinds.length ≤ 1000000 ∧ (keepI l f fuel limit span jobs).fails.length ≤ 1000000 := by
 cases h : keepOkB l f fuel limit span jobs with
 | false => rw [keepI_no h]; exact ⟨by simp, by simp⟩
 | true =>
  rw [keepI_yes h]
  have h1 := keepN_len (l := l) (f := f) (fuel := fuel) (limit := limit) (span := span) (jobs := jobs) jobs.length
  have h2 : jobs.length ≤ 20 := by unfold keepOkB at h; simp only [Bool.and_eq_true, decide_eq_true_eq] at h; exact h.1.1.1.2
  omega
theorem failP_len (l : List (List ST)) (f : Int) (jobs : List Int) (fuel limit span : Int) : (failP l f jobs fuel limit span).1.length ≤ 1000000 := keepI_len.2
theorem jobsB_20' {l : List (List ST)} {f fuel : Int} {jobs : List Int} (h : jobsB l f fuel jobs = true) : jobs.length ≤ 20 := by
 simp only [jobsB, Bool.and_eq_true, decide_eq_true_eq] at h; exact h.2.2
theorem jobsB_ask' {l : List (List ST)} {f fuel : Int} {jobs : List Int} (h : jobsB l f fuel jobs = true) : ∀ x ∈ jobs, askB l f x fuel = true := by
 simp only [jobsB, Bool.and_eq_true, askB, Bool.not_eq_true'] at h
 obtain ⟨h1, ⟨⟨⟨h2, h3⟩, _⟩, h4⟩, _⟩ := h
 exact fun x hx => keep_ask (by unfold isFB; rw [h2, h3]; rfl) h4 h1 hx
theorem keepOk_no {l : List (List ST)} {f fuel limit span : Int} {jobs : List Int} (h : jobsB l f fuel jobs = false ∨ watchB limit span = false) : keepOkB l f fuel limit span jobs = false := by
 rw [keepOkB_eq]; rcases h with h | h <;> simp [h]
theorem keepOk_yes {l : List (List ST)} {f fuel limit span : Int} {jobs : List Int} (h : jobsB l f fuel jobs = true) (h2 : watchB limit span = true) : keepOkB l f fuel limit span jobs = true := by
 rw [keepOkB_eq, h, h2]; rfl
theorem keepI2 {w0 w : World} {Rs : List Asn} {s sj : Sl} {l : List (List ST)} {f fuel limit span : Int} {jobs : List Int} (hS : Sat w0 w Rs) (hr : RdP w s l) (hf : Fits l) (hrj : RdI w sj jobs) :
  Calls Try.prog 59 #[.agg #[.slice s.A s.n s.c], .int .i64 f, .slice sj.A sj.n sj.c, .int .i64 fuel, .agg #[.int .i64 limit, .int .i64 span]] w (Ret fun r w' => ∃ o1 o2 : Sl, r = .tuple #[.agg #[.slice o1.A o1.n o1.c, .slice o2.A o2.n o2.c, .int .i64 (keepI l f fuel limit span jobs).clock, .bool (keepI l f fuel limit span jobs).gave], .bool (keepOkB l f fuel limit span jobs)] ∧ Sat w0 w' (rI o1 ((keepI l f fuel limit span jobs).kinds) :: rI o2 ((keepI l f fuel limit span jobs).fails) :: Rs)) :=
 (keepI_sat0 hr hf hrj).mono fun e w' h => by
  cases e with
  | returned r => obtain ⟨o1, o2, h1, h2⟩ := h; exact ⟨o1, o2, h1, hS.comp h2⟩
  | _ => exact h.elim
theorem keepQ2 {w0 w : World} {Rs : List Asn} {s sj : Sl} {l : List (List ST)} {f fuel limit span : Int} {jobs : List Int} (hS : Sat w0 w Rs) (hr : RdP w s l) (hrj : RdI w sj jobs) (hj : jobsB l f fuel jobs = true) (hw : watchB limit span = true) :
  Calls Try.prog 58 #[.agg #[.slice s.A s.n s.c], .int .i64 f, .slice sj.A sj.n sj.c, .int .i64 fuel, .agg #[.int .i64 limit, .int .i64 span]] w (Ret fun r w' => ∃ o1 o2 : Sl, r = .agg #[.slice o1.A o1.n o1.c, .slice o2.A o2.n o2.c, .int .i64 (keepN l f fuel limit span jobs jobs.length).clock, .bool (keepN l f fuel limit span jobs jobs.length).gave] ∧ Sat w0 w' (rI o1 ((keepN l f fuel limit span jobs jobs.length).kinds) :: rI o2 ((keepN l f fuel limit span jobs jobs.length).fails) :: Rs)) :=
 (keepQ_sat0 hr hrj (jobsB_20' hj) (by simp only [watchB, Bool.and_eq_true] at hw; exact inB_le hw.2) (jobsB_ask' hj)).mono fun e w' h => by
  cases e with
  | returned r => obtain ⟨o1, o2, h1, h2⟩ := h; exact ⟨o1, o2, h1, hS.comp h2⟩
  | _ => exact h.elim
theorem code23 : Try.f23.body = some (Code.seq (cr Try.f23 0 false) (Code.seq (cr Try.f23 1 false) (Code.seq (cr Try.f23 2 false) Code.ret))) := by kernel_rfl
set_option maxRecDepth 20000 in
set_option maxHeartbeats 1000000 in
theorem impl_FailTimes_sat0 {w0 : World} {s sj : Sl} {l : List (List ST)} {f fuel limit span : Int} {jobs : List Int} (hr : RdP w0 s l) (hf : Fits l) (hrj : RdI w0 sj jobs) :
  Calls Try.prog 23 #[.agg #[.slice s.A s.n s.c], iv f, .slice sj.A sj.n sj.c, iv fuel, .agg #[iv limit, iv span]] w0 (Ret fun r w' => ∃ o0 : Sl, r = .tuple #[.slice o0.A o0.n o0.c, .bool ((failP l f jobs fuel limit span).2)] ∧ Sat w0 w' (SX.row (.slice o0.A o0.n o0.c) 3 1 (encI ((failP l f jobs fuel limit span).1)) :: [])) := by
 have hS : Sat w0 w0 [] := Sat.start w0
 have hjl := hrj.len
 refine enter (n := 26) Try.func23 code23 (by kernel_rfl) (Nat.le_of_ble_eq_true rfl) (fun a ha => ?_)
 replace ha : Has 26 [(0, .agg #[.slice s.A s.n s.c]), (1, iv f), (2, .slice sj.A sj.n sj.c), (3, iv fuel), (4, .agg #[iv limit, iv span])] a := ha
 refine wp_seq (jZ [0, 1, 2, 3] (jU (xY 5 [.slice s.A s.n s.c] 30 (ptr · 0) ha hS fun b1 w a hb2 hS ha => ?_)))
 refine jU (xY 9 [iv limit, iv span] 42 (ptr · 0) ha hS fun b3 w a hb4 hS ha => ?_)
 refine jY [(2, 10, .slice none 0 0), (3, 11, .bool false)] ha fun a ha => ?_
 refine jW (jQ (wp_seq (jZ [0, 1, 2, 3, 4, 5, 6, 7, 8, 9, 10, 11] (zZ 15 ha (hS.blk 1 rfl) fun a ha => ?_))))
 refine jY [(1, 16, iv f), (2, 17, .slice sj.A sj.n sj.c), (3, 18, iv fuel)] ha fun a ha => ?_
 refine zZ 19 ha (hS.blk 0 rfl) fun a ha => ?_
 refine jU (xZ 20 (vs := [.agg #[.slice s.A s.n s.c], iv f, .slice sj.A sj.n sj.c, iv fuel, .agg #[iv limit, iv span]]) ha (keepI2 hS (hr.sat hS) hf (hrj.sat hS)) fun v5 w a hp6 ha => ?_)
 obtain ⟨oa, ob, rfl, hS⟩ := hp6
 refine jY [(6, 14, .tuple #[.agg #[.slice oa.A oa.n oa.c, .slice ob.A ob.n ob.c, iv ((keepI l f fuel limit span jobs).clock), .bool ((keepI l f fuel limit span jobs).gave)], .bool (keepOkB l f fuel limit span jobs)]), (7, 21, .agg #[.slice oa.A oa.n oa.c, .slice ob.A ob.n ob.c, iv ((keepI l f fuel limit span jobs).clock), .bool ((keepI l f fuel limit span jobs).gave)]), (8, 22, .bool (keepOkB l f fuel limit span jobs))] ha fun a ha => ?_
 refine jU (xY 12 [.slice none 0 0, .slice none 0 0, iv 0, .bool false] 89 (ptr · 0) ha hS fun b7 w a hb8 hS ha => ?_)
 refine jU (jG 0 ha (xU (t := 89) (x := 12) (y := 21)) rfl rfl rfl (by kernel_rfl) hS rfl (Nat.le_of_ble_eq_true rfl) rfl fun w a hS ha => ?_)
 refine jY [(11, 13, .bool (keepOkB l f fuel limit span jobs))] ha fun a ha => ?_
 refine jW (jQ (wp_seq (jZ [0, 1, 2, 3, 4] (jY [(0, 23, ptr b7 1)] ha fun a ha => ?_))))
 refine qK (d := 24) (b := b7) (j := 1) ha (hS.blk 0 rfl) rfl fun a ha => ?_
 refine jY [(2, 25, .bool (keepOkB l f fuel limit span jobs)), (3, 10, .slice ob.A ob.n ob.c), (4, 11, .bool (keepOkB l f fuel limit span jobs))] ha fun a ha => ?_
 refine jW ?_
 replace ha := ha.as [(10, .slice ob.A ob.n ob.c), (11, .bool (keepOkB l f fuel limit span jobs))] rfl
 refine jQ (wp_ret (yV ha (by kernel_rfl) (yY (t := 10) ha rfl) (yY (t := 11) ha rfl) ?_))
 have hE : (failP l f jobs fuel limit span) = (((keepI l f fuel limit span jobs).fails), (keepOkB l f fuel limit span jobs)) := by rfl
 rw [hE]
 exact ⟨ob, rfl, hS.pickN 5 [2] (by decide) rfl⟩
theorem impl_FailTimes_sat {w0 w : World} {Rs : List Asn} {s sj : Sl} {l : List (List ST)} {f fuel limit span : Int} {jobs : List Int} (hS : Sat w0 w Rs) (hr : RdP w s l) (hf : Fits l) (hrj : RdI w sj jobs) :
  Calls Try.prog 23 #[.agg #[.slice s.A s.n s.c], iv f, .slice sj.A sj.n sj.c, iv fuel, .agg #[iv limit, iv span]] w (Ret fun r w' => ∃ o0 : Sl, r = .tuple #[.slice o0.A o0.n o0.c, .bool ((failP l f jobs fuel limit span).2)] ∧ Sat w0 w' (SX.row (.slice o0.A o0.n o0.c) 3 1 (encI ((failP l f jobs fuel limit span).1)) :: Rs)) :=
 (impl_FailTimes_sat0 hr hf hrj).mono fun e w' h => by
  cases e with
  | returned r => obtain ⟨o0, h1, h2⟩ := h; exact ⟨o0, h1, hS.comp h2⟩
  | _ => exact h.elim
theorem code20 : Try.f20.body = some (Code.seq (cr Try.f20 0 false) (Code.seq (Code.seq (cr Try.f20 1 false) (Code.cond (Operand.tmp 22) (Code.seq (cr Try.f20 2 false) Code.ret) Code.skip)) (Code.seq (cr Try.f20 3 false) Code.ret))) := by kernel_rfl
set_option maxRecDepth 20000 in
set_option maxHeartbeats 1000000 in
theorem spec_FailTimes_sat0 {w0 : World} {s sj : Sl} {l : List (List ST)} {f fuel limit span : Int} {jobs : List Int} (hr : RdP w0 s l) (hf : Fits l) (hrj : RdI w0 sj jobs) :
  Calls Try.prog 20 #[.agg #[.slice s.A s.n s.c], iv f, .slice sj.A sj.n sj.c, iv fuel, .agg #[iv limit, iv span]] w0 (Ret fun r w' => ∃ o0 : Sl, r = .tuple #[.slice o0.A o0.n o0.c, .bool ((failP l f jobs fuel limit span).2)] ∧ Sat w0 w' (SX.row (.slice o0.A o0.n o0.c) 3 1 (encI ((failP l f jobs fuel limit span).1)) :: [])) := by
 have hS : Sat w0 w0 [] := Sat.start w0
 have hjl := hrj.len
 refine enter (n := 31) Try.func20 code20 (by kernel_rfl) (Nat.le_of_ble_eq_true rfl) (fun a ha => ?_)
 replace ha : Has 31 [(0, .agg #[.slice s.A s.n s.c]), (1, iv f), (2, .slice sj.A sj.n sj.c), (3, iv fuel), (4, .agg #[iv limit, iv span])] a := ha
 refine wp_seq (jZ [0, 1, 2, 3] (jU (xY 5 [.slice s.A s.n s.c] 30 (ptr · 0) ha hS fun b1 w a hb2 hS ha => ?_)))
 refine jU (xY 9 [iv limit, iv span] 42 (ptr · 0) ha hS fun b3 w a hb4 hS ha => ?_)
 refine jY [(2, 10, .slice none 0 0), (3, 11, .bool false)] ha fun a ha => ?_
 refine jW (jQ (wp_seq (wp_seq (jZ [0, 1, 2, 3, 4, 5, 6, 7, 8, 9, 10] (zZ 12 ha (hS.blk 1 rfl) fun a ha => ?_)))))
 refine jY [(1, 13, iv f), (2, 14, .slice sj.A sj.n sj.c), (3, 15, iv fuel)] ha fun a ha => ?_
 refine jU (xZ 16 (vs := [.agg #[.slice s.A s.n s.c], iv f, .slice sj.A sj.n sj.c, iv fuel]) ha (jobs_sat hS (hr.sat hS) hf (hrj.sat hS)) fun v5 w a hp6 ha => ?_)
 obtain ⟨rfl, hS⟩ := hp6
 refine jY [(5, 17, .bool (!((jobsB l f fuel jobs)))), (6, 18, .bool (!((jobsB l f fuel jobs))))] ha fun a ha => ?_
 rcases Bool.eq_false_or_eq_true (jobsB l f fuel jobs) with c7 | c7
 ·
  replace ha := ha.turn 16 (.bool true) rfl (congrArg Value.bool c7)
  replace ha := ha.turn 17 (.bool false) rfl (congrArg Value.bool (yW c7))
  replace ha := ha.turn 18 (.bool false) rfl (congrArg Value.bool (yW c7))
  refine zZ 19 ha (hS.blk 0 rfl) fun a ha => ?_
  refine jU (xZ 20 (vs := [.agg #[iv limit, iv span]]) ha (watch_sat hS) fun v8 w a hp9 ha => ?_)
  obtain ⟨rfl, hS⟩ := hp9
  refine jY [(9, 21, .bool (!((watchB limit span)))), (10, 22, .bool (!((watchB limit span))))] ha fun a ha => ?_
  refine jW (jQ ?_)
  rcases Bool.eq_false_or_eq_true (watchB limit span) with c10 | c10
  ·
   refine jH ha rfl (yW c10) ?_
   refine wp_skip (jQ (wp_seq (jZ [0, 1, 2, 3, 4, 5, 6, 7, 8] (zZ 24 ha (hS.blk 1 rfl) fun a ha => ?_))))
   refine jY [(1, 25, iv f), (2, 26, .slice sj.A sj.n sj.c), (3, 27, iv fuel)] ha fun a ha => ?_
   refine zZ 28 ha (hS.blk 0 rfl) fun a ha => ?_
   refine jU (xZ 29 (vs := [.agg #[.slice s.A s.n s.c], iv f, .slice sj.A sj.n sj.c, iv fuel, .agg #[iv limit, iv span]]) ha (keepQ2 hS (hr.sat hS) (hrj.sat hS) c7 c10) fun v11 w a hp12 ha => ?_)
   obtain ⟨oa, ob, rfl, hS⟩ := hp12
   refine jY [(6, 30, .slice ob.A ob.n ob.c), (7, 10, .slice ob.A ob.n ob.c), (8, 11, .bool true)] ha fun a ha => ?_
   refine jW ?_
   replace ha := ha.as [(10, .slice ob.A ob.n ob.c), (11, .bool true)] rfl
   refine jQ (wp_ret ?_)
   have hk9 := keepOk_yes c7 c10
   refine yV ha (by kernel_rfl) (yY (t := 10) ha rfl) (yY (t := 11) ha rfl) ?_
   have hE : (failP l f jobs fuel limit span) = (((keepN l f fuel limit span jobs jobs.length).fails), true) := by unfold failP; rw [keepI_yes hk9, hk9]
   rw [hE]
   exact ⟨ob, rfl, hS.pickN 4 [1] (by decide) rfl⟩
  refine qX ha rfl (zG c10) ?_
  refine wp_seq (jZ [0, 1, 2] (jU (xY 23 [] 3 (fun b => .slice (some ⟨b, 0, none⟩) 0 0) ha hS fun b13 w a hb14 hS ha => ?_)))
  refine jY [(1, 10, .slice (some ⟨b13, 0, none⟩) 0 0), (2, 11, .bool false)] ha fun a ha => ?_
  refine jW (jQ (wp_ret (xK ?_)))
  have hk9 := keepOk_no (limit := limit) (span := span) (l := l) (f := f) (fuel := fuel) (jobs := jobs) (.inr c10)
  refine yV ha (by kernel_rfl) (yY (t := 10) ha rfl) (yY (t := 11) ha rfl) ?_
  replace hS := hS.blk0 1 0 rfl
  have hE : (failP l f jobs fuel limit span) = ([], false) := by unfold failP; rw [keepI_no hk9, hk9]
  rw [hE]
  exact ⟨⟨some ⟨b13, 0, none⟩, 0, 0⟩, rfl, hS.pickN 3 [0] (by decide) rfl⟩
 replace ha := ha.turn 16 (.bool false) rfl (congrArg Value.bool c7)
 replace ha := ha.turn 17 (.bool true) rfl (congrArg Value.bool (zG c7))
 replace ha := ha.turn 18 (.bool true) rfl (congrArg Value.bool (zG c7))
 refine jY [(7, 19, undef), (8, 20, undef), (9, 21, undef), (10, 22, .bool true)] ha fun a ha => ?_
 refine jW (jQ ?_)
 refine qX ha rfl rfl ?_
 refine wp_seq (jZ [0, 1, 2] (jU (xY 23 [] 3 (fun b => .slice (some ⟨b, 0, none⟩) 0 0) ha hS fun b15 w a hb16 hS ha => ?_)))
 refine jY [(1, 10, .slice (some ⟨b15, 0, none⟩) 0 0), (2, 11, .bool false)] ha fun a ha => ?_
 refine jW (jQ (wp_ret (xK ?_)))
 have hk9 := keepOk_no (limit := limit) (span := span) (l := l) (f := f) (fuel := fuel) (jobs := jobs) (.inl c7)
 refine yV ha (by kernel_rfl) (yY (t := 10) ha rfl) (yY (t := 11) ha rfl) ?_
 replace hS := hS.blk0 1 0 rfl
 have hE : (failP l f jobs fuel limit span) = ([], false) := by unfold failP; rw [keepI_no hk9, hk9]
 rw [hE]
 exact ⟨⟨some ⟨b15, 0, none⟩, 0, 0⟩, rfl, hS.pickN 3 [0] (by decide) rfl⟩
theorem spec_FailTimes_sat {w0 w : World} {Rs : List Asn} {s sj : Sl} {l : List (List ST)} {f fuel limit span : Int} {jobs : List Int} (hS : Sat w0 w Rs) (hr : RdP w s l) (hf : Fits l) (hrj : RdI w sj jobs) :
  Calls Try.prog 20 #[.agg #[.slice s.A s.n s.c], iv f, .slice sj.A sj.n sj.c, iv fuel, .agg #[iv limit, iv span]] w (Ret fun r w' => ∃ o0 : Sl, r = .tuple #[.slice o0.A o0.n o0.c, .bool ((failP l f jobs fuel limit span).2)] ∧ Sat w0 w' (SX.row (.slice o0.A o0.n o0.c) 3 1 (encI ((failP l f jobs fuel limit span).1)) :: Rs)) :=
 (spec_FailTimes_sat0 hr hf hrj).mono fun e w' h => by
  cases e with
  | returned r => obtain ⟨o0, h1, h2⟩ := h; exact ⟨o0, h1, hS.comp h2⟩
  | _ => exact h.elim
end Go.Proofs.Ytggahaddkoifkaa.G
end
section
namespace Go.Proofs.Ytggahaddkoifkaa
namespace SX
open Go.RowKit Go.Proofs.YtggahaddkoifkaaW.PrintWords
set_option linter.unusedVariables false
section
variable {α : Type} {enc : α → List Value} {sz : Nat} {w0 w w' : World} {Rs : List Asn} {s : Sl} {l : List α}
end
section
variable {P : Program} {R : Array Oper} {n : Nat} {e : Env} {a : Act} {w : World}
end
section
variable {P : Program} {R : Array Oper} {Q : Exit → Act → World → Prop} {n : Nat} {e : Env} {a : Act} {w w0 : World} {Rs : List Asn}
theorem made_flat {α : Type} {enc : α → List Value} {x0 : α} {z : Value} {sz : Nat} (hz : z.cells.toList = enc x0) (hsz : ∀ x, (enc x).length = sz) (h0 : 0 < sz) (m : Nat) : madeCells z.cells (m * sz) = ((List.replicate m x0).flatMap enc).toArray := by
  have hzs : z.cells.size = sz := by rw [← Array.length_toList, hz, hsz]
  refine Array.toList_inj.1 (List.ext_getElem? fun i => ?_)
  show (madeCells z.cells (m * sz)).toList[i]? = ((List.replicate m x0).flatMap enc)[i]?
  by_cases hi : i < m * sz
  · have hj : i / sz < m := (Nat.div_lt_iff_lt_mul h0).2 hi
    have ho : i % sz < sz := Nat.mod_lt _ h0
    have e1 := flat_get (enc := enc) (o := i % sz) (x := x0) (j := i / sz) (l := List.replicate m x0) hsz (by rw [List.getElem?_replicate, if_pos hj]) ho
    rw [show i / sz * sz + i % sz = i by rw [Nat.mul_comm]; exact Nat.div_add_mod i sz] at e1
    have ho2 : i % sz < z.cells.size := by rw [hzs]; exact ho
    rw [e1, ← hz]
    simp only [madeCells, Array.getElem?_toList, Array.getElem?_map, Array.getElem?_range, hzs, hi, if_true, Option.map_some, getElem!_pos z.cells (i % sz) ho2, Array.getElem?_eq_getElem ho2]
  · rw [List.getElem?_eq_none (by rw [Array.length_toList, size_madeCells]; omega), List.getElem?_eq_none (by rw [flat_length hsz, List.length_replicate]; omega)]
theorem o_makeR {α : Type} {enc : α → List Value} {x0 : α} {i d : Nat} {x y : Operand} {t el ty : TypeId} {m bytes sz : Nat} {z : Value} {K : Act → World → Prop} (h : Has n e a) (hd : d < n) (ho : AtW R i (.makeSlice t x y) (some d) ty a) (hx : ev e x = some (.int .i64 (m : Int))) (hy : ev e y = some (.int .i64 (m : Int)))
    (ht : P.underlying t = some (.slice el)) (hinfo : (P.info? el).map (fun i => (i.zero, i.size, i.bytes)) = some (some z, sz, bytes)) (hz : z.cells.toList = enc x0) (hsz : ∀ x, (enc x).length = sz) (h0 : 0 < sz) (hb0 : 0 < bytes) (hn : m * bytes ≤ 281474976710656) (hS : Sat w0 w Rs)
    (k : ∀ (s : Sl) w' a', s.n = m → Sat w0 w' (SX.row s.v el sz ((List.replicate m x0).flatMap enc) :: Rs) → Has n ((d, .slice s.A s.n s.c) :: e) a' → K a' w') : wpOp P R Q i K a w := by
  have hm : m ≤ 281474976710656 := Nat.le_trans (Nat.le_mul_of_pos_right _ hb0) hn
  refine o_new (cs := (List.replicate m x0).flatMap enc) (T := el) (fun b => .slice (some ⟨b, 0, none⟩) m m) h hd ho (by simp [covers, Op.operands, hx, hy, notSelect]) hS (fun w => ?_) (fun b w' a' hb hS' ha' => ?_)
  · obtain ⟨ti, hti, he⟩ := Option.map_eq_some_iff.1 hinfo
    simp only [Prod.mk.injEq] at he
    obtain ⟨e1, e2, e3⟩ := he
    have hr := run_make (P := P) w t el ti z ht hti e1 .i64 .i64 (m : Int) (m : Int) (by omega) (Int.le_refl _) (by rw [e3, ← Int.natCast_mul, Nat.mul_comm]; omega) (by omega)
    rw [Int.toNat_natCast, e2, made_flat hz hsz h0] at hr
    simp [execOp, opr, evD, hx, hy, hr]
  · have hS2 : Sat w0 w' (SX.blk b ((List.replicate m x0).flatMap enc ++ []) el :: Rs) := by rw [List.append_nil]; exact hS'
    exact k ⟨some ⟨b, 0, none⟩, m, m⟩ w' a' rfl (Sat.shutRow (g := b) (n := m) (cap := m) (sz := sz) (xs := (List.replicate m x0).flatMap enc) (cur := []) hS2 0 rfl (by rw [flat_length hsz, List.length_replicate]) (Nat.le_refl _) (by simp only [maxLen]; omega) (by rw [List.append_nil, flat_length hsz, List.length_replicate])) ha'
end
end SX
end Go.Proofs.Ytggahaddkoifkaa
end
section
namespace Go.Proofs.Ytggahaddkoifkaa.G
open Go.RowKit Go.Proofs.Ytggahaddkoifkaa.SX Go.Proofs.YtggahaddkoifkaaW.PrintWords Go.Proofs.YtggahaddkoifkaaW.PrintLast Go.Proofs.YtggahaddkoifkaaW.PrintMore
set_option linter.unusedVariables false
set_option linter.unusedSimpArgs false
def mkG (k0 : Int) (n : Nat) : List Int := (List.range n).map fun (j : Nat) => k0 + (j : Int)
theorem mkG_len (k0 : Int) (n : Nat) : (mkG k0 n).length = n := by simp [mkG]
theorem mkG_at {k0 : Int} {n j : Nat} {k : Int} (hk : k = k0 + (j : Int)) (h : j < (mkG k0 n).length) : (mkG k0 n).getD j 0 = k := by
 rw [mkG_len] at h; unfold mkG; rw [List.getD_eq_getElem?_getD, List.getElem?_map, List.getElem?_range h, hk]; rfl
theorem set_drop {α : Type} {f : Nat → List α} {l : List α} {j : Nat} {x : α} (hf : (f j).length = j) (h : j < l.length) (hn : f (j + 1) = f j ++ [x]) : (f j ++ l.drop j).set j x = f (j + 1) ++ l.drop (j + 1) := by
 rw [List.set_append_right _ _ (by rw [hf]; exact Nat.le_refl _), hf, Nat.sub_self, List.drop_eq_getElem_cons h, List.set_cons_zero, hn, List.append_assoc]; rfl
theorem mkG_next {k0 : Int} {l : List Int} {j : Nat} {k : Int} (hk : k = k0 + (j : Int)) (h : j < l.length) : (mkG k0 j ++ l.drop j).set j k = mkG k0 (j + 1) ++ l.drop (j + 1) :=
 set_drop (mkG_len k0 j) h (by unfold mkG; rw [List.range_succ, List.map_append, hk]; rfl)
theorem mkG_some {k0 : Int} {l : List Int} {j : Nat} (h : j < l.length) : ∃ z, (mkG k0 j ++ l.drop j)[j]? = some z := ⟨_, List.getElem?_eq_getElem (by rw [List.length_append, mkG_len, List.length_drop]; omega)⟩
theorem tk_next {α : Type} {l : List α} {z0 x : α} {j : Nat} (hx : l[j]? = some x) : (l.take j ++ List.replicate (l.length - j) z0).set j x = l.take (j + 1) ++ List.replicate (l.length - (j + 1)) z0 := by
 have h := (List.getElem?_eq_some_iff.1 hx).1
 have h2 : (l.take j).length = j := by rw [List.length_take]; omega
 rw [List.set_append_right _ _ (by omega), h2, Nat.sub_self, show l.length - j = (l.length - (j + 1)) + 1 by omega, List.replicate_succ, List.set_cons_zero, List.take_add_one, hx, List.append_assoc]; rfl
theorem tk_some {α : Type} {l : List α} {z0 : α} {j : Nat} (h : j < l.length) : ∃ z, (l.take j ++ List.replicate (l.length - j) z0)[j]? = some z := ⟨_, List.getElem?_eq_getElem (by rw [List.length_append, List.length_take, List.length_replicate]; omega)⟩
theorem tk_end {α : Type} {l : List α} {z0 : α} {j : Nat} (h : j = l.length) : l.take j ++ List.replicate (l.length - j) z0 = l := by rw [h, List.take_length, Nat.sub_self, List.replicate_zero, List.append_nil]
theorem getD_at {l : List Int} {n : Nat} {x : Int} (h : l[n]? = some x) : l.getD n 0 = x := by rw [List.getD_eq_getElem?_getD, h]; rfl
def cellsJ (x : Int) : List Value := [.int .i64 x]
def encJ (l : List Int) : List Value := l.flatMap cellsJ
theorem cellsJ_len (x : Int) : (cellsJ x).length = 1 := rfl
theorem encJ_length (l : List Int) : (encJ l).length = l.length * 1 := flat_length cellsJ_len l
theorem encJ_I (l : List Int) : encI l = encJ l := by
 induction l with
 | nil => rfl
 | cons x l ih => show Value.int .i64 x :: encI l = Value.int .i64 x :: encJ l; rw [ih]
theorem code22 : Try.f22.body = some (Code.seq (cr Try.f22 0 false) (Code.seq (cr Try.f22 1 false) (Code.seq (cr Try.f22 2 false) (Code.seq (cr Try.f22 3 false) (Code.seq (cr Try.f22 4 false) Code.ret))))) := by kernel_rfl
set_option maxRecDepth 20000 in
set_option maxHeartbeats 1000000 in
theorem toWatch_sat {w0 w : World} {Rs : List Asn} {x0 x1 : Int} (hS : Sat w0 w Rs) :
  Calls Try.prog 22 #[.agg #[iv x0, iv x1]] w (Ret fun r w' => r = .agg #[iv x0, iv x1] ∧ Sat w0 w' Rs) := by
 refine enter (n := 11) Try.func22 code22 (by kernel_rfl) (Nat.le_of_ble_eq_true rfl) (fun a ha => ?_)
 replace ha : Has 11 [(0, .agg #[iv x0, iv x1])] a := ha
 refine wp_seq (jZ [0, 1] (jU (xY 1 [iv x0, iv x1] 38 (ptr · 0) ha hS fun b1 w a hb2 hS ha => ?_)))
 refine jU (xY 2 [iv 0, iv 0] 42 (ptr · 0) ha hS fun b3 w a hb4 hS ha => ?_)
 refine jW (jQ (wp_seq (jZ [0] (jU (xY 3 [iv 0, iv 0] 42 (ptr · 0) ha hS fun b5 w a hb6 hS ha => ?_)))))
 refine jW (jQ (wp_seq (jZ [0, 1, 2, 3] (jY [(0, 4, ptr b1 0)] ha fun a ha => ?_))))
 refine qK (d := 5) (b := b1) (j := 0) ha (hS.blk 2 rfl) rfl fun a ha => ?_
 refine jY [(2, 6, ptr b5 0)] ha fun a ha => ?_
 refine jU (xW b5 0 (iv x0) 0 ha hS rfl rfl fun w a hS ha => ?_)
 refine jW (jQ (wp_seq (jZ [0, 1, 2, 3] (jY [(0, 7, ptr b1 1)] ha fun a ha => ?_))))
 refine qK (d := 8) (b := b1) (j := 1) ha (hS.blk 2 rfl) rfl fun a ha => ?_
 refine jY [(2, 9, ptr b5 1)] ha fun a ha => ?_
 refine jU (xW b5 1 (iv x1) 0 ha hS rfl rfl fun w a hS ha => ?_)
 refine jW (jQ (wp_seq (jZ [0, 1] (zZ 10 ha (hS.blk 0 rfl) fun a ha => ?_))))
 refine jU (jG 1 ha (xU (t := 42) (x := 2) (y := 10)) rfl rfl rfl (by kernel_rfl) hS rfl (Nat.le_of_ble_eq_true rfl) rfl fun w a hS ha => ?_)
 refine jW (jQ (wp_ret (xQ ha (by kernel_rfl) (yJ (t := 2) (ty := 42) (i := 1) ha rfl hS rfl (by kernel_rfl)) ?_)))
 exact ⟨rfl, Sat.rest [_, _, _] hS⟩
theorem code21 : Try.f21.body = some (Code.seq (cr Try.f21 0 false) (Code.seq (cr Try.f21 1 false) (Code.seq (Code.seq (cr Try.f21 2 false) (Code.block 0 (Code.loop (Code.seq (Code.seq (cr Try.f21 3 false) (Code.cond (Operand.tmp 11) Code.skip (Code.exit 0))) (Code.seq (Code.block 1 (cr Try.f21 5 false)) (cr Try.f21 4 false)))))) (Code.seq (cr Try.f21 6 false) Code.ret)))) := by kernel_rfl
set_option maxRecDepth 20000 in
set_option maxHeartbeats 1000000 in
theorem toIntS_sat0 {w0 : World} {sa : Sl} {l : List Int} (hra : RdI w0 sa l) (hbig : l.length ≤ 4000000) :
  Calls Try.prog 21 #[.slice sa.A sa.n sa.c] w0 (Ret fun r w' => ∃ o : Sl, r = .slice o.A o.n o.c ∧ Sat w0 w' (SX.row (.slice o.A o.n o.c) 3 1 (encI l) :: [])) := by
 have hS : Sat w0 w0 [] := Sat.start w0
 have hlen := hra.len
 refine enter (n := 22) Try.func21 code21 (by kernel_rfl) (Nat.le_of_ble_eq_true rfl) (fun a ha => ?_)
 replace ha : Has 22 [(0, .slice sa.A sa.n sa.c)] a := ha
 refine wp_seq (jZ [0] (jY [(0, 2, .slice none 0 0)] ha fun a ha => ?_))
 refine jW (jQ (wp_seq (jZ [0, 1, 2, 3] (jY [(0, 5, .slice sa.A sa.n sa.c), (1, 6, iv (sa.n : Int))] ha fun a ha => ?_))))
 refine jU (o_makeR (enc := cellsJ) (x0 := (0 : Int)) (z := .int .i64 0) (m := sa.n) (bytes := 8) (el := 3) ha (by decide) (zK (op := (Op.makeSlice 36 (Operand.tmp 6) (Operand.tmp 6))) (d := some 7) (ty := 36)) rfl rfl (by kernel_rfl) (by kernel_rfl) rfl cellsJ_len (by decide) (by decide) (by omega) hS fun o w a hon hS ha => ?_)
 refine jY [(3, 3, .slice o.A o.n o.c)] ha fun a ha => ?_
 refine jW (jQ (wp_seq (wp_seq (jZ [0] (jY [(0, 4, iv 0)] ha fun a ha => ?_)))))
 refine jW (jQ (wp_block ?_))
 replace hS : Sat w0 w ((SX.row (.slice o.A o.n o.c) 3 1 (encJ (l.take 0 ++ List.replicate (l.length - 0) (0 : Int)))) :: []) := by have hh := hS; rw [hlen] at hh; exact hh
 refine wp_loop_ghost (fun n_ a_ w_ => ∃ (i : Nat), n_ = l.length - i ∧ (i ≤ l.length) ∧ Has 22 [(0, .slice sa.A sa.n sa.c), (3, .slice o.A o.n o.c), (4, iv (i : Int))] a_ ∧ Sat w0 w_ ((SX.row (.slice o.A o.n o.c) 3 1 (encJ (l.take i ++ List.replicate (l.length - i) (0 : Int)))) :: [])) _ ⟨0, rfl, Nat.zero_le _, ha.keeps [0, 3, 4] _ rfl, hS⟩ ?_
 rintro n_ a w ⟨i, rfl, hi, ha, hS⟩
 refine wp_seq (wp_seq (jZ [0, 1, 2, 3] (jY [(0, 8, iv (i : Int)), (1, 9, .slice sa.A sa.n sa.c), (2, 10, iv (sa.n : Int)), (3, 11, .bool (decide ((i : Int) < (sa.n : Int))))] ha fun a ha => ?_)))
 refine jW (jQ ?_)
 by_cases c1 : (i : Int) < (sa.n : Int)
 ·
  have hlt : i < l.length := by omega
  obtain ⟨x9, hx9⟩ : ∃ x, l[i]? = some x := ⟨_, List.getElem?_eq_getElem hlt⟩
  obtain ⟨z, hz⟩ := tk_some (l := l) (z0 := (0 : Int)) hlt
  refine qX ha rfl (decide_eq_true c1) ?_
  refine wp_skip (jQ (wp_seq (wp_block (jZ [0, 1, 2, 3, 4, 5, 6, 7] (jY [(0, 14, .slice o.A o.n o.c), (1, 15, iv (i : Int)), (2, 16, .slice sa.A sa.n sa.c), (3, 17, iv (i : Int))] ha fun a ha => ?_)))))
  refine zY (.pointer (some ⟨bk sa, of_ sa + i * 1, none⟩)) ha (zH (el := 3) (sz := 1) (j := i) ha (zQ (t := 36) (x := 16) (y := 17) (d := 18)) rfl rfl (by kernel_rfl) (by kernel_rfl) ((hra.sat hS).at_ ((List.getElem?_eq_some_iff.1 hx9).1)).1 (by rw [((hra.sat hS)).len]; exact (List.getElem?_eq_some_iff.1 hx9).1)) fun a ha => ?_
  refine zY (iv x9) ha (zU (p := ⟨bk sa, of_ sa + i * 1, none⟩) ha (kJ (t := 3) (x := 18) (d := 19) (ty := 3)) rfl (by kernel_rfl) (fun w' hw => by rw [hw, Nat.mul_one, ← getD_at hx9]; exact ((hra.sat hS).at_ ((List.getElem?_eq_some_iff.1 hx9).1)).2)) fun a ha => ?_
  refine zY (.pointer (some ⟨bk o, i * 1, none⟩)) ha (kX (s := o) (el := 3) (sz := 1) (j := i) ha (zQ (t := 36) (x := 14) (y := 15) (d := 20)) rfl rfl (by kernel_rfl) (by kernel_rfl) (hS.rowA (s := o) 0 rfl (by have := (List.getElem?_eq_some_iff.1 hz).1; rw [encJ_length]; omega)) (rfl) (by have h9 := hS.rowL (s := o) (enc := cellsJ) 0 cellsJ_len (by decide) rfl; have := (List.getElem?_eq_some_iff.1 hz).1; omega)) fun a ha => ?_
  refine jU (kK (s := o) (j := i * 1 + 0) (xs := encJ (l.take i ++ List.replicate (l.length - i) (0 : Int))) (xs' := encJ ((l.take i ++ List.replicate (l.length - i) (0 : Int)).set i x9)) 0 ha (xU (t := 3) (x := 20) (y := 19)) rfl rfl rfl (by kernel_rfl) hS rfl (by have := (List.getElem?_eq_some_iff.1 hz).1; rw [encJ_length]; omega) ((flat_set (enc := cellsJ) (x' := x9) cellsJ_len hz (by decide) rfl)) (fun w a (hS : Sat w0 w ((SX.row (.slice o.A o.n o.c) 3 1 (encJ ((l.take i ++ List.replicate (l.length - i) (0 : Int)).set i x9))) :: [])) ha => ?_))
  refine jW (in_n (jQ (jZ [0, 1, 2] (jY [(0, 12, iv (i : Int))] ha fun a ha => ?_))))
  refine zW 13 ((i : Int) + 1) ha fun a ha => ?_
  refine jY [(2, 4, iv ((i : Int) + 1))] ha fun a ha => ?_
  refine jW (jQ ?_)
  replace hS : Sat w0 w ((SX.row (.slice o.A o.n o.c) 3 1 (encJ (l.take (i + 1) ++ List.replicate (l.length - (i + 1)) (0 : Int)))) :: []) := by rw [← tk_next hx9]; exact hS
  exact ⟨_, by omega, i + 1, rfl, by omega, ha.keeps [0, 3, 4] _ rfl, hS⟩
 refine jH ha rfl (decide_eq_false c1) ?_
 refine wp_exit (yQ (yQ (in_x (jQ (wp_seq (jZ [0, 1] (jY [(0, 21, .slice o.A o.n o.c), (1, 2, .slice o.A o.n o.c)] ha fun a ha => ?_)))))))
 refine jW (jQ (wp_ret (xQ ha (by kernel_rfl) (yY (t := 2) ha rfl) ?_)))
 have hie : i = l.length := by omega
 rw [tk_end hie] at hS
 exact ⟨o, rfl, by rw [encJ_I]; exact hS⟩
theorem toIntS_sat {w0 w : World} {Rs : List Asn} {sa : Sl} {l : List Int} (hS : Sat w0 w Rs) (hra : RdI w sa l) (hbig : l.length ≤ 4000000) :
  Calls Try.prog 21 #[.slice sa.A sa.n sa.c] w (Ret fun r w' => ∃ o : Sl, r = .slice o.A o.n o.c ∧ Sat w0 w' (SX.row (.slice o.A o.n o.c) 3 1 (encI l) :: Rs)) :=
 (toIntS_sat0 hra hbig).mono fun e w' h => by
  cases e with
  | returned r => obtain ⟨o, h1, h2⟩ := h; exact ⟨o, h1, hS.comp h2⟩
  | _ => exact h.elim
theorem code24 : Try.f24.body = some (Code.seq (cr Try.f24 0 false) (Code.seq (Code.seq (cr Try.f24 1 false) (Code.cond (Operand.tmp 10) (Code.seq (cr Try.f24 2 false) Code.ret) Code.skip)) (Code.seq (Code.seq (cr Try.f24 3 false) (Code.block 0 (Code.loop (Code.seq (Code.seq (cr Try.f24 4 false) (Code.cond (Operand.tmp 14) Code.skip (Code.exit 0))) (Code.seq (Code.block 1 (Code.seq (cr Try.f24 6 true) (Code.cond (Operand.tmp 25) (Code.seq (cr Try.f24 7 false) Code.ret) Code.skip))) (cr Try.f24 5 false)))))) (Code.seq (cr Try.f24 8 false) Code.ret)))) := by kernel_rfl
set_option maxRecDepth 20000 in
set_option maxHeartbeats 1000000 in
theorem eqIntS_sat0 {w0 : World} {sa sb : Sl} {l : List Int} (hra : RdI w0 sa l) (hrb : RdI w0 sb l) :
  Calls Try.prog 24 #[.slice sa.A sa.n sa.c, .slice sb.A sb.n sb.c] w0 (Ret fun r w' => r = .bool true ∧ Sat w0 w' []) := by
 have hS : Sat w0 w0 [] := Sat.start w0
 have hbig := hra.big
 have hlen := hra.len
 have hlen2 := hrb.len
 refine enter (n := 26) Try.func24 code24 (by kernel_rfl) (Nat.le_of_ble_eq_true rfl) (fun a ha => ?_)
 replace ha : Has 26 [(0, .slice sa.A sa.n sa.c), (1, .slice sb.A sb.n sb.c)] a := ha
 refine wp_seq (jZ [0] (jY [(0, 4, .bool false)] ha fun a ha => ?_))
 refine jW (jQ (wp_seq (wp_seq (jZ [0, 1, 2, 3, 4] (jY [(0, 6, .slice sa.A sa.n sa.c), (1, 7, iv (sa.n : Int)), (2, 8, .slice sb.A sb.n sb.c), (3, 9, iv (sb.n : Int)), (4, 10, .bool (!(decide ((sa.n : Int) = (sb.n : Int)))))] ha fun a ha => ?_)))))
 refine jW (jQ ?_)
 by_cases c1 : (sa.n : Int) = (sb.n : Int)
 ·
  refine jH ha rfl (yW (decide_eq_true c1)) ?_
  refine wp_skip (jQ (wp_seq (wp_seq (jZ [0] (jY [(0, 5, iv 0)] ha fun a ha => ?_)))))
  refine jW (jQ (wp_block ?_))
  refine wp_loop_ghost (fun n_ a_ w_ => ∃ (i : Nat), n_ = l.length - i ∧ (i ≤ l.length) ∧ Has 26 [(0, .slice sa.A sa.n sa.c), (1, .slice sb.A sb.n sb.c), (5, iv (i : Int))] a_ ∧ Sat w0 w_ ([])) _ ⟨0, rfl, Nat.zero_le _, ha.keeps [0, 1, 5] _ rfl, hS⟩ ?_
  rintro n_ a w ⟨i, rfl, hi, ha, hS⟩
  refine wp_seq (wp_seq (jZ [0, 1, 2, 3] (jY [(0, 11, iv (i : Int)), (1, 12, .slice sa.A sa.n sa.c), (2, 13, iv (sa.n : Int)), (3, 14, .bool (decide ((i : Int) < (sa.n : Int))))] ha fun a ha => ?_)))
  refine jW (jQ ?_)
  by_cases c2 : (i : Int) < (sa.n : Int)
  ·
   have hlt : i < l.length := by omega
   obtain ⟨x9, hx9⟩ : ∃ x, l[i]? = some x := ⟨_, List.getElem?_eq_getElem hlt⟩
   refine qX ha rfl (decide_eq_true c2) ?_
   refine wp_skip (jQ (wp_seq (wp_block (wp_seq (yX 9 9 hS fun w hS => ?_)))))
   refine jV (k := 7) [(0, 17, .slice sa.A sa.n sa.c), (1, 18, iv (i : Int))] ha (.inr hS) (jJ (jK (jJ (jJ (jK (jJ (jX))))))) fun a ha => ?_
   refine zJ 2 (.pointer (some ⟨bk sa, of_ sa + i * 1, none⟩)) ha (zH (el := 3) (sz := 1) (j := i) ha (zQ (t := 36) (x := 17) (y := 18) (d := 19)) rfl rfl (by kernel_rfl) (by kernel_rfl) ((hra.sat hS).at_ ((List.getElem?_eq_some_iff.1 hx9).1)).1 (by rw [((hra.sat hS)).len]; exact (List.getElem?_eq_some_iff.1 hx9).1)) (.inr hS) (jJ (jK (jJ (jJ (jK (jJ (jX))))))) fun a ha => ?_
   refine kZ 3 (iv x9) ha (zU (p := ⟨bk sa, of_ sa + i * 1, none⟩) ha (kJ (t := 3) (x := 19) (d := 20) (ty := 3)) rfl (by kernel_rfl) (fun w' hw => by rw [Nat.mul_one, ← getD_at hx9]; exact (((hra.sat hw)).at_ ((List.getElem?_eq_some_iff.1 hx9).1)).2)) hS (jJ (jK (jJ (jJ (jK (jJ (jX))))))) fun a ha => ?_
   refine jV (k := 3) [(4, 21, .slice sb.A sb.n sb.c), (5, 22, iv (i : Int))] ha (.inr hS) (jJ (jK (jJ (jJ (jK (jJ (jX))))))) fun a ha => ?_
   refine zJ 6 (.pointer (some ⟨bk sb, of_ sb + i * 1, none⟩)) ha (zH (el := 3) (sz := 1) (j := i) ha (zQ (t := 36) (x := 21) (y := 22) (d := 23)) rfl rfl (by kernel_rfl) (by kernel_rfl) ((hrb.sat hS).at_ ((List.getElem?_eq_some_iff.1 hx9).1)).1 (by rw [((hrb.sat hS)).len]; exact (List.getElem?_eq_some_iff.1 hx9).1)) (.inr hS) (jJ (jK (jJ (jJ (jK (jJ (jX))))))) fun a ha => ?_
   refine kZ 7 (iv x9) ha (zU (p := ⟨bk sb, of_ sb + i * 1, none⟩) ha (kJ (t := 3) (x := 23) (d := 24) (ty := 3)) rfl (by kernel_rfl) (fun w' hw => by rw [Nat.mul_one, ← getD_at hx9]; exact (((hrb.sat hw)).at_ ((List.getElem?_eq_some_iff.1 hx9).1)).2)) hS (jJ (jK (jJ (jJ (jK (jJ (jX))))))) fun a ha => ?_
   refine zJ 8 (.bool false) ha ((qU (v := .bool (!(decide (x9 = x9)))) ha (zK (op := (Op.binOp BinOp.neq 3 (Operand.tmp 20) (Operand.tmp 24) 3)) (d := some 25) (ty := 4)) (by kernel_rfl) (fun _ => by kernel_rfl)).as (by simp)) (.inr hS) (jJ (jK (jJ (jJ (jK (jJ (jX))))))) fun a ha => ?_
   refine xG (jQ ?_)
   refine jH ha rfl rfl ?_
   refine wp_skip (in_n (jQ (jZ [0, 1, 2] (jY [(0, 15, iv (i : Int))] ha fun a ha => ?_))))
   refine zW 16 ((i : Int) + 1) ha fun a ha => ?_
   refine jY [(2, 5, iv ((i : Int) + 1))] ha fun a ha => ?_
   refine jW (jQ ?_)
   exact ⟨_, by omega, i + 1, rfl, by omega, ha.keeps [0, 1, 5] _ rfl, hS⟩
  refine jH ha rfl (decide_eq_false c2) ?_
  refine wp_exit (yQ (yQ (in_x (jQ (wp_seq (jZ [0] (jY [(0, 4, .bool true)] ha fun a ha => ?_)))))))
  refine jW (jQ (wp_ret (xQ ha (by kernel_rfl) (yY (t := 4) ha rfl) ?_)))
  exact ⟨rfl, hS⟩
 refine qX ha rfl (zG (decide_eq_false c1)) ?_
 refine wp_seq (jZ [0] (jY [(0, 4, .bool false)] ha fun a ha => ?_))
 refine jW (jQ (wp_ret (xK ?_)))
 exfalso; omega
theorem eqIntS_sat {w0 w : World} {Rs : List Asn} {sa sb : Sl} {l : List Int} (hS : Sat w0 w Rs) (hra : RdI w sa l) (hrb : RdI w sb l) :
  Calls Try.prog 24 #[.slice sa.A sa.n sa.c, .slice sb.A sb.n sb.c] w (Ret fun r w' => r = .bool true ∧ Sat w0 w' Rs) := lift0 hS (eqIntS_sat0 hra hrb)
theorem code26 : Try.f26.body = some (Code.seq (cr Try.f26 0 false) (Code.seq (Code.seq (cr Try.f26 1 false) (Code.block 0 (Code.loop (Code.seq (Code.seq (cr Try.f26 2 false) (Code.cond (Operand.tmp 9) Code.skip (Code.exit 0))) (Code.seq (Code.block 1 (Code.seq (cr Try.f26 4 false) (cr Try.f26 5 false))) (cr Try.f26 3 false)))))) (Code.seq (cr Try.f26 6 false) Code.ret))) := by kernel_rfl
set_option maxRecDepth 20000 in
set_option maxHeartbeats 1000000 in
theorem markG_sat {w0 w : World} {Rs : List Asn} {o : Sl} {l : List Int} {k0 : Int} (hS : Sat w0 w (SX.row (.slice o.A o.n o.c) 3 1 (encI l) :: Rs)) (h0 : 0 ≤ k0) (h1 : k0 ≤ 100000000) (hl : l.length ≤ 4000000) :
  Calls Try.prog 26 #[.slice o.A o.n o.c, .int .i64 k0] w (Ret fun r w' => r = .int .i64 (k0 + (l.length : Int)) ∧ Sat w0 w' (SX.row (.slice o.A o.n o.c) 3 1 (encI (mkG k0 l.length)) :: Rs)) := by
 have hlen := (hS.rdRow (s := o) 0 rfl).len
 replace hS : Sat w0 w (SX.row (.slice o.A o.n o.c) 3 1 (encJ l) :: Rs) := by rw [← encJ_I]; exact hS
 refine enter (n := 19) Try.func26 code26 (by kernel_rfl) (Nat.le_of_ble_eq_true rfl) (fun a ha => ?_)
 replace ha : Has 19 [(0, .slice o.A o.n o.c), (1, iv k0)] a := ha
 refine wp_seq (jZ [0] (jY [(0, 4, iv 0)] ha fun a ha => ?_))
 refine jW (jQ (wp_seq (wp_seq (jZ [0] (jY [(0, 5, iv 0)] ha fun a ha => ?_)))))
 refine jW (jQ (wp_block ?_))
 replace hS : Sat w0 w ((SX.row (.slice o.A o.n o.c) 3 1 (encJ (mkG k0 0 ++ l.drop 0))) :: Rs) := hS
 refine wp_loop_ghost (fun n_ a_ w_ => ∃ (i : Nat) (k : Int), n_ = l.length - i ∧ (i ≤ l.length) ∧ (k = k0 + (i : Int)) ∧ Has 19 [(0, .slice o.A o.n o.c), (1, iv k), (5, iv (i : Int))] a_ ∧ Sat w0 w_ ((SX.row (.slice o.A o.n o.c) 3 1 (encJ (mkG k0 i ++ l.drop i))) :: Rs)) _ ⟨0, k0, rfl, Nat.zero_le _, by omega, ha.keeps [0, 1, 5] _ rfl, hS⟩ ?_
 rintro n_ a w ⟨i, k, rfl, hi, hk, ha, hS⟩
 refine wp_seq (wp_seq (jZ [0, 1, 2, 3] (jY [(0, 6, iv (i : Int)), (1, 7, .slice o.A o.n o.c), (2, 8, iv (o.n : Int)), (3, 9, .bool (decide ((i : Int) < (o.n : Int))))] ha fun a ha => ?_)))
 refine jW (jQ ?_)
 by_cases c1 : (i : Int) < (o.n : Int)
 ·
  have hlt : i < l.length := by omega
  obtain ⟨z, hz⟩ := mkG_some (k0 := k0) hlt
  refine qX ha rfl (decide_eq_true c1) ?_
  refine wp_skip (jQ (wp_seq (wp_block (wp_seq (jZ [0, 1, 2, 3, 4] (jY [(0, 12, .slice o.A o.n o.c), (1, 13, iv (i : Int)), (2, 14, iv k)] ha fun a ha => ?_))))))
  refine zY (.pointer (some ⟨bk o, i * 1, none⟩)) ha (kX (s := o) (el := 3) (sz := 1) (j := i) ha (zQ (t := 36) (x := 12) (y := 13) (d := 15)) rfl rfl (by kernel_rfl) (by kernel_rfl) (hS.rowA (s := o) 0 rfl (by have := (List.getElem?_eq_some_iff.1 hz).1; rw [encJ_length]; omega)) (rfl) (by have h9 := hS.rowL (s := o) (enc := cellsJ) 0 cellsJ_len (by decide) rfl; have := (List.getElem?_eq_some_iff.1 hz).1; omega)) fun a ha => ?_
  refine jU (kK (s := o) (j := i * 1 + 0) (xs := encJ (mkG k0 i ++ l.drop i)) (xs' := encJ ((mkG k0 i ++ l.drop i).set i k)) 0 ha (xU (t := 3) (x := 15) (y := 14)) rfl rfl rfl (by kernel_rfl) hS rfl (by have := (List.getElem?_eq_some_iff.1 hz).1; rw [encJ_length]; omega) ((flat_set (enc := cellsJ) (x' := k) cellsJ_len hz (by decide) rfl)) (fun w a (hS : Sat w0 w ((SX.row (.slice o.A o.n o.c) 3 1 (encJ ((mkG k0 i ++ l.drop i).set i k))) :: Rs)) ha => ?_))
  refine jW (jQ (jZ [0, 1, 2] (jY [(0, 16, iv k)] ha fun a ha => ?_)))
  refine zW 17 (k + 1) ha fun a ha => ?_
  refine jY [(2, 1, iv (k + 1))] ha fun a ha => ?_
  refine jW (in_n (jQ (jZ [0, 1, 2] (jY [(0, 10, iv (i : Int))] ha fun a ha => ?_))))
  refine zW 11 ((i : Int) + 1) ha fun a ha => ?_
  refine jY [(2, 5, iv ((i : Int) + 1))] ha fun a ha => ?_
  refine jW (jQ ?_)
  replace hS : Sat w0 w ((SX.row (.slice o.A o.n o.c) 3 1 (encJ (mkG k0 (i + 1) ++ l.drop (i + 1)))) :: Rs) := by rw [← mkG_next hk (by omega)]; exact hS
  exact ⟨_, by omega, i + 1, k + 1, rfl, by omega, by omega, ha.keeps [0, 1, 5] _ rfl, hS⟩
 refine jH ha rfl (decide_eq_false c1) ?_
 refine wp_exit (yQ (yQ (in_x (jQ (wp_seq (jZ [0, 1] (jY [(0, 18, iv k), (1, 4, iv k)] ha fun a ha => ?_)))))))
 refine jW (jQ (wp_ret (xQ ha (by kernel_rfl) (yY (t := 4) ha rfl) ?_)))
 obtain rfl : i = l.length := by omega
 rw [List.drop_length, List.append_nil] at hS
 exact ⟨by rw [hk], by rw [encJ_I]; exact hS⟩
theorem code27 : Try.f27.body = some (Code.seq (cr Try.f27 0 false) (Code.seq (Code.seq (cr Try.f27 1 false) (Code.block 0 (Code.loop (Code.seq (Code.seq (cr Try.f27 2 false) (Code.cond (Operand.tmp 9) Code.skip (Code.exit 0))) (Code.seq (Code.block 1 (Code.seq (Code.seq (cr Try.f27 4 false) (Code.cond (Operand.tmp 17) (Code.seq (cr Try.f27 5 false) Code.ret) Code.skip)) (cr Try.f27 6 false))) (cr Try.f27 3 false)))))) (Code.seq (cr Try.f27 7 false) Code.ret))) := by kernel_rfl
set_option maxRecDepth 20000 in
set_option maxHeartbeats 1000000 in
theorem heldI_sat0 {w0 : World} {o : Sl} {n : Nat} (hra : RdI w0 o (mkG 1 n)) (hl : n ≤ 4000000) :
  Calls Try.prog 27 #[.slice o.A o.n o.c, .int .i64 1] w0 (Ret fun r w' => r = .int .i64 (1 + (n : Int)) ∧ Sat w0 w' []) := by
 have hS : Sat w0 w0 [] := Sat.start w0
 have hlen := hra.len
 rw [mkG_len] at hlen
 refine enter (n := 21) Try.func27 code27 (by kernel_rfl) (Nat.le_of_ble_eq_true rfl) (fun a ha => ?_)
 replace ha : Has 21 [(0, .slice o.A o.n o.c), (1, iv 1)] a := ha
 refine wp_seq (jZ [0] (jY [(0, 4, iv 0)] ha fun a ha => ?_))
 refine jW (jQ (wp_seq (wp_seq (jZ [0] (jY [(0, 5, iv 0)] ha fun a ha => ?_)))))
 refine jW (jQ (wp_block ?_))
 refine wp_loop_ghost (fun n_ a_ w_ => ∃ (i : Nat) (k : Int), n_ = n - i ∧ (i ≤ n) ∧ (k = 1 + (i : Int)) ∧ Has 21 [(0, .slice o.A o.n o.c), (1, iv k), (5, iv (i : Int))] a_ ∧ Sat w0 w_ ([])) _ ⟨0, 1, rfl, Nat.zero_le _, rfl, ha.keeps [0, 1, 5] _ rfl, hS⟩ ?_
 rintro n_ a w ⟨i, k, rfl, hi, hk, ha, hS⟩
 refine wp_seq (wp_seq (jZ [0, 1, 2, 3] (jY [(0, 6, iv (i : Int)), (1, 7, .slice o.A o.n o.c), (2, 8, iv (o.n : Int)), (3, 9, .bool (decide ((i : Int) < (o.n : Int))))] ha fun a ha => ?_)))
 refine jW (jQ ?_)
 by_cases c1 : (i : Int) < (o.n : Int)
 ·
  refine qX ha rfl (decide_eq_true c1) ?_
  refine wp_skip (jQ (wp_seq (wp_block (wp_seq (wp_seq (jZ [0, 1, 2, 3, 4, 5] (jY [(0, 12, .slice o.A o.n o.c), (1, 13, iv (i : Int))] ha fun a ha => ?_)))))))
  refine zY (.pointer (some ⟨bk o, of_ o + i * 1, none⟩)) ha (zH (el := 3) (sz := 1) (j := i) ha (zQ (t := 36) (x := 12) (y := 13) (d := 14)) rfl rfl (by kernel_rfl) (by kernel_rfl) ((hra.sat hS).at_ (show i < (mkG 1 n).length by rw [mkG_len]; omega)).1 (by rw [((hra.sat hS)).len]; exact (show i < (mkG 1 n).length by rw [mkG_len]; omega))) fun a ha => ?_
  refine zY (iv k) ha (zU (p := ⟨bk o, of_ o + i * 1, none⟩) ha (kJ (t := 3) (x := 14) (d := 15) (ty := 3)) rfl (by kernel_rfl) (fun w' hw => by rw [hw, Nat.mul_one, ← mkG_at hk (show i < (mkG 1 n).length by rw [mkG_len]; omega)]; exact ((hra.sat hS).at_ (show i < (mkG 1 n).length by rw [mkG_len]; omega)).2)) fun a ha => ?_
  refine jY [(4, 16, iv k)] ha fun a ha => ?_
  refine zY (.bool false) ha ((qU (v := .bool (!(decide (k = k)))) ha (zK (op := (Op.binOp BinOp.neq 3 (Operand.tmp 15) (Operand.tmp 16) 3)) (d := some 17) (ty := 4)) (by kernel_rfl) (fun _ => by kernel_rfl)).as (by simp)) fun a ha => ?_
  refine jW (jQ ?_)
  refine jH ha rfl rfl ?_
  refine wp_skip (jQ (jZ [0, 1, 2] (jY [(0, 18, iv k)] ha fun a ha => ?_)))
  refine zW 19 (k + 1) ha fun a ha => ?_
  refine jY [(2, 1, iv (k + 1))] ha fun a ha => ?_
  refine jW (in_n (jQ (jZ [0, 1, 2] (jY [(0, 10, iv (i : Int))] ha fun a ha => ?_))))
  refine zW 11 ((i : Int) + 1) ha fun a ha => ?_
  refine jY [(2, 5, iv ((i : Int) + 1))] ha fun a ha => ?_
  refine jW (jQ ?_)
  exact ⟨_, by omega, i + 1, k + 1, rfl, by omega, by omega, ha.keeps [0, 1, 5] _ rfl, hS⟩
 refine jH ha rfl (decide_eq_false c1) ?_
 refine wp_exit (yQ (yQ (in_x (jQ (wp_seq (jZ [0, 1] (jY [(0, 20, iv k), (1, 4, iv k)] ha fun a ha => ?_)))))))
 refine jW (jQ (wp_ret (xQ ha (by kernel_rfl) (yY (t := 4) ha rfl) ?_)))
 obtain rfl : i = n := by omega
 exact ⟨by rw [hk], hS⟩
theorem heldI_sat {w0 w : World} {Rs : List Asn} {o : Sl} {n : Nat} (hS : Sat w0 w Rs) (hra : RdI w o (mkG 1 n)) (hl : n ≤ 4000000) :
  Calls Try.prog 27 #[.slice o.A o.n o.c, .int .i64 1] w (Ret fun r w' => r = .int .i64 (1 + (n : Int)) ∧ Sat w0 w' Rs) := lift0 hS (heldI_sat0 hra hl)
end Go.Proofs.Ytggahaddkoifkaa.G
end
section
namespace Go.Proofs.Ytggahaddkoifkaa.G
open Go.RowKit Go.Proofs.Ytggahaddkoifkaa.SX Go.Proofs.YtggahaddkoifkaaW.PrintWords Go.Proofs.YtggahaddkoifkaaW.PrintLast Go.Proofs.YtggahaddkoifkaaW.PrintMore
set_option linter.unusedVariables false
set_option linter.unusedSimpArgs false
theorem code5 : Try.f5.body = some (Code.seq (cr Try.f5 0 false) (Code.seq (Code.seq (cr Try.f5 1 false) (Code.cond (Operand.tmp 25) (Code.seq (cr Try.f5 2 false) Code.ret) Code.skip)) (Code.seq (cr Try.f5 3 false) (Code.seq (cr Try.f5 4 false) (Code.seq (Code.seq (cr Try.f5 5 false) (Code.cond (Operand.tmp 30) (Code.seq (cr Try.f5 6 false) Code.ret) Code.skip)) (Code.seq (cr Try.f5 7 true) (Code.seq (cr Try.f5 8 false) (Code.seq (cr Try.f5 9 false) (Code.seq (cr Try.f5 10 true) (Code.seq (Code.seq (cr Try.f5 11 false) (Code.cond (Operand.tmp 65) (Code.seq (cr Try.f5 12 false) Code.ret) Code.skip)) (Code.seq (Code.seq (cr Try.f5 13 true) (Code.cond (Operand.tmp 70) (Code.seq (cr Try.f5 14 false) Code.ret) Code.skip)) (Code.seq (Code.seq (cr Try.f5 15 false) (Code.cond (Operand.tmp 75) (Code.seq (cr Try.f5 16 false) Code.ret) Code.skip)) (Code.seq (cr Try.f5 17 false) (Code.seq (cr Try.f5 18 false) (Code.seq (cr Try.f5 19 false) (Code.seq (Code.seq (cr Try.f5 20 false) (Code.cond (Operand.tmp 94) (Code.seq (cr Try.f5 21 false) Code.ret) Code.skip)) (Code.seq (cr Try.f5 22 false) (Code.seq (cr Try.f5 23 false) (Code.seq (cr Try.f5 24 false) (Code.seq (cr Try.f5 25 false) (Code.seq (Code.seq (cr Try.f5 26 false) (Code.cond (Operand.tmp 102) (Code.seq (cr Try.f5 27 false) Code.ret) Code.skip)) (Code.seq (Code.seq (cr Try.f5 28 false) (Code.cond (Operand.tmp 105) (Code.seq (cr Try.f5 29 false) Code.ret) Code.skip)) (Code.seq (cr Try.f5 30 true) (Code.seq (Code.seq (cr Try.f5 31 false) (Code.cond (Operand.tmp 126) (Code.seq (cr Try.f5 32 false) Code.ret) Code.skip)) (Code.seq (cr Try.f5 33 false) (Code.seq (cr Try.f5 34 false) (Code.seq (Code.seq (cr Try.f5 35 false) (Code.cond (Operand.tmp 131) (Code.seq (cr Try.f5 36 false) Code.ret) Code.skip)) (Code.seq (Code.seq (cr Try.f5 37 false) (Code.cond (Operand.tmp 134) (Code.seq (cr Try.f5 38 false) Code.ret) Code.skip)) (Code.seq (cr Try.f5 39 false) Code.ret))))))))))))))))))))))))))))) := by kernel_rfl
set_option maxRecDepth 20000 in
set_option maxHeartbeats 1000000 in
theorem law5_walk (w0 : World) (s0 : Sl) (l0 : List (List LT)) (f : Int) (rjobs : Sl) (jobs : List Int) (fuel : Int) (limit span : Int) (hr0 : RdA w0 s0 l0) (hrjobs : RdI w0 rjobs jobs) :
  Calls Try.prog 5 #[.agg #[.slice s0.A s0.n s0.c], iv f, .slice rjobs.A rjobs.n rjobs.c, iv fuel, .agg #[iv limit, iv span]] w0 (Ret fun r w' => r = .bool true ∧ Below w0.heap.size w0 w') := by
 have hS : Sat w0 w0 [] := Sat.start w0
 have hnjobs := hrjobs.len
 refine enter (n := 135) Try.func5 code5 (by kernel_rfl) (Nat.le_of_ble_eq_true rfl) (fun a ha => ?_)
 replace ha : Has 135 [(0, .agg #[.slice s0.A s0.n s0.c]), (1, iv f), (2, .slice rjobs.A rjobs.n rjobs.c), (3, iv fuel), (4, .agg #[iv limit, iv span])] a := ha
 refine wp_seq (jZ [0, 1, 2] (jU (xY 5 [.slice s0.A s0.n s0.c] 24 (ptr · 0) ha hS fun b1 w a hb2 hS ha => ?_)))
 refine jU (xY 9 [iv limit, iv span] 38 (ptr · 0) ha hS fun b3 w a hb4 hS ha => ?_)
 refine jY [(2, 10, .bool false)] ha fun a ha => ?_
 refine jW (jQ (wp_seq (wp_seq (jZ [0, 1, 2] (jY [(0, 23, .slice rjobs.A rjobs.n rjobs.c), (1, 24, iv (rjobs.n : Int)), (2, 25, .bool (decide ((rjobs.n : Int) > 1048576)))] ha fun a ha => ?_)))))
 refine jW (jQ ?_)
 by_cases c5 : (rjobs.n : Int) > 1048576
 ·
  refine qX ha rfl (decide_eq_true c5) ?_
  refine wp_seq (jZ [0] (jY [(0, 10, .bool true)] ha fun a ha => ?_))
  refine jW (jQ (wp_ret (xK (xQ ha (by kernel_rfl) (yY (t := 10) ha rfl) ?_))))
  exact ⟨rfl, hS.below⟩
 refine jH ha rfl (decide_eq_false c5) ?_
 refine wp_skip (jQ (wp_seq (jZ [0] (jY [(0, 11, iv 1048576)] ha fun a ha => ?_))))
 refine jW (jQ (wp_seq (jZ [0, 1, 2, 3] (zZ 26 ha (hS.blk 1 rfl) fun a ha => ?_))))
 refine jY [(1, 27, iv 1048576)] ha fun a ha => ?_
 refine jU (xZ 28 (vs := [.agg #[.slice s0.A s0.n s0.c], iv 1048576]) ha (szProgram_sat hS (hr0.sat hS) (by omega) (by omega)) fun v6 w a hp7 ha => ?_)
 obtain ⟨rfl, hS⟩ := hp7
 refine jY [(3, 11, iv (szP l0 1048576))] ha fun a ha => ?_
 refine jW (jQ (wp_seq (wp_seq (jZ [0, 1] (jY [(0, 29, iv (szP l0 1048576)), (1, 30, .bool (decide ((szP l0 1048576) < 0)))] ha fun a ha => ?_)))))
 refine jW (jQ ?_)
 by_cases c8 : (szP l0 1048576) < 0
 ·
  refine qX ha rfl (decide_eq_true c8) ?_
  refine wp_seq (jZ [0] (jY [(0, 10, .bool true)] ha fun a ha => ?_))
  refine jW (jQ (wp_ret (xK (xQ ha (by kernel_rfl) (yY (t := 10) ha rfl) ?_))))
  exact ⟨rfl, hS.below⟩
 have hf0 : Fits l0 := by have h8 : 0 ≤ szP l0 1048576 := (by omega); have h9 := szP_ok l0 1048576 h8; exact ⟨by omega, by omega⟩
 have htp0 := (toP_fits hf0).tot
 have hz0 := szP_ok l0 1048576 (by omega)
 refine jH ha rfl (decide_eq_false c8) ?_
 refine wp_skip (jQ (wp_seq (xH 14 14 (hS.pickN 2 [0, 1] (by decide) rfl) hS fun w hS => ?_)))
 refine yZ 0 32 ha (hS.pickN 2 [0, 1] (by decide) rfl) (jJ (jX)) (fun _ hw => hw.blk 1 rfl) fun a ha => ?_
 refine jV (k := 10) [(2, 34, iv f), (3, 35, .slice rjobs.A rjobs.n rjobs.c), (5, 37, iv fuel)] ha (.inr (hS.pickN 2 [0, 1] (by decide) rfl)) (jJ (jX)) fun a ha => ?_
 refine yZ 6 38 ha (hS.pickN 2 [0, 1] (by decide) rfl) (jJ (jX)) (fun _ hw => hw.blk 0 rfl) fun a ha => ?_
 refine qZ 1 (xZ 33 (vs := [.agg #[.slice s0.A s0.n s0.c]]) ha (toProgram_sat hS (hr0.sat hS) hf0) fun v9 w a hp10 ha => ?_)
 obtain ⟨sp1, rfl, hS⟩ := hp10
 refine ⟨.inr (hS.pickN 3 [1, 2] (by decide) rfl), ?_⟩
 refine qZ 4 (xZ 36 (vs := [.slice rjobs.A rjobs.n rjobs.c]) ha (toIntS_sat hS (hrjobs.sat hS) (by omega)) fun v11 w a hp12 ha => ?_)
 obtain ⟨o1, rfl, hS⟩ := hp12
 refine ⟨.inr (hS.pickN 4 [2, 3] (by decide) rfl), ?_⟩
 refine qZ 7 (xZ 39 (vs := [.agg #[iv limit, iv span]]) ha (toWatch_sat hS) fun v13 w a hp14 ha => ?_)
 obtain ⟨rfl, hS⟩ := hp14
 refine ⟨.inr (hS.pickN 4 [2, 3] (by decide) rfl), ?_⟩
 refine qZ 8 (xZ 40 (vs := [.agg #[.slice sp1.A sp1.n sp1.c], iv f, .slice o1.A o1.n o1.c, iv fuel, .agg #[iv limit, iv span]]) ha (spec_FailTimes_sat hS (hS.rdS 1 rfl) (toP_fits hf0) (hS.rdRow (s := o1) 0 rfl)) fun v15 w a hp16 ha => ?_)
 obtain ⟨o2, rfl, hS⟩ := hp16
 refine ⟨.inr (hS.pickN 5 [3, 4] (by decide) rfl), ?_⟩
 refine jV (k := 0) [(9, 31, .tuple #[.slice o2.A o2.n o2.c, .bool ((failP (toP l0) f jobs fuel limit span).2)]), (10, 41, .slice o2.A o2.n o2.c), (11, 42, .bool ((failP (toP l0) f jobs fuel limit span).2)), (12, 12, .slice o2.A o2.n o2.c), (13, 13, .bool ((failP (toP l0) f jobs fuel limit span).2))] ha (.inr (hS.pickN 5 [3, 4] (by decide) rfl)) (jJ (jX)) fun a ha => ?_
 refine xG ?_
 replace ha := ha.as [(1, iv f), (2, .slice rjobs.A rjobs.n rjobs.c), (3, iv fuel), (5, ptr b1 0), (9, ptr b3 0), (10, .bool false), (12, .slice o2.A o2.n o2.c), (13, .bool ((failP (toP l0) f jobs fuel limit span).2))] rfl
 refine jQ (wp_seq (jZ [0, 1, 2, 3] (zZ 43 ha (hS.blk 4 rfl) fun a ha => ?_)))
 refine jU (xZ 44 (vs := [.agg #[.slice s0.A s0.n s0.c]]) ha (toProgram_sat hS (hr0.sat hS) hf0) fun v17 w a hp18 ha => ?_)
 obtain ⟨sp2, rfl, hS⟩ := hp18
 refine jU (xY 14 [.slice none 0 0] 30 (ptr · 0) ha hS fun b19 w a hb20 hS ha => ?_)
 refine jU (jG 0 ha (xU (t := 30) (x := 14) (y := 44)) rfl rfl rfl (by kernel_rfl) hS rfl (Nat.le_of_ble_eq_true rfl) rfl fun w a hS ha => ?_)
 refine jW (jQ (wp_seq (jZ [0, 1, 2] (jY [(0, 45, .slice rjobs.A rjobs.n rjobs.c)] ha fun a ha => ?_))))
 refine jU (xZ 46 (vs := [.slice rjobs.A rjobs.n rjobs.c]) ha (toIntS_sat hS (hrjobs.sat hS) (by omega)) fun v21 w a hp22 ha => ?_)
 obtain ⟨o3, rfl, hS⟩ := hp22
 refine jY [(2, 15, .slice o3.A o3.n o3.c)] ha fun a ha => ?_
 refine jW (jQ (wp_seq (xH 12 12 (hS.pickN 8 [1, 6, 7] (by decide) rfl) hS fun w hS => ?_)))
 refine yZ 0 48 ha (hS.pickN 8 [1, 6, 7] (by decide) rfl) (jJ (jX)) (fun _ hw => hw.blk 0 rfl) fun a ha => ?_
 refine jV (k := 8) [(1, 49, iv f), (2, 50, .slice o3.A o3.n o3.c), (3, 51, iv fuel)] ha (.inr (hS.pickN 8 [1, 6, 7] (by decide) rfl)) (jJ (jX)) fun a ha => ?_
 refine yZ 4 52 ha (hS.pickN 8 [1, 6, 7] (by decide) rfl) (jJ (jX)) (fun _ hw => hw.blk 1 rfl) fun a ha => ?_
 refine qZ 5 (xZ 53 (vs := [.agg #[iv limit, iv span]]) ha (toWatch_sat hS) fun v23 w a hp24 ha => ?_)
 obtain ⟨rfl, hS⟩ := hp24
 refine ⟨.inr (hS.pickN 8 [1, 6, 7] (by decide) rfl), ?_⟩
 refine qZ 6 (xZ 54 (vs := [.agg #[.slice sp2.A sp2.n sp2.c], iv f, .slice o3.A o3.n o3.c, iv fuel, .agg #[iv limit, iv span]]) ha (impl_FailTimes_sat hS (hS.rdS 2 rfl) (toP_fits hf0) (hS.rdRow (s := o3) 0 rfl)) fun v25 w a hp26 ha => ?_)
 obtain ⟨o4, rfl, hS⟩ := hp26
 refine ⟨.inr (hS.pickN 9 [2, 7, 8] (by decide) rfl), ?_⟩
 refine jV (k := 0) [(7, 47, .tuple #[.slice o4.A o4.n o4.c, .bool ((failP (toP l0) f jobs fuel limit span).2)]), (8, 55, .slice o4.A o4.n o4.c), (9, 56, .bool ((failP (toP l0) f jobs fuel limit span).2)), (10, 16, .slice o4.A o4.n o4.c), (11, 17, .bool ((failP (toP l0) f jobs fuel limit span).2))] ha (.inr (hS.pickN 9 [2, 7, 8] (by decide) rfl)) (jJ (jX)) fun a ha => ?_
 refine xG (jQ (wp_seq (wp_seq (jZ [0, 1, 2, 3, 4, 5, 6, 7, 8] (jY [(0, 57, .slice o4.A o4.n o4.c), (1, 58, .slice o2.A o2.n o2.c)] ha fun a ha => ?_)))))
 refine jU (xZ 59 (vs := [.slice o4.A o4.n o4.c, .slice o2.A o2.n o2.c]) ha (eqIntS_sat hS (hS.rdRow (s := o4) 0 rfl) (hS.rdRow (s := o2) 4 rfl)) fun v27 w a hp28 ha => ?_)
 obtain ⟨rfl, hS⟩ := hp28
 refine jY [(3, 60, .bool false), (4, 61, .bool false), (5, 62, .bool ((failP (toP l0) f jobs fuel limit span).2)), (6, 63, .bool ((failP (toP l0) f jobs fuel limit span).2))] ha fun a ha => ?_
 refine zY (.bool false) ha ((qU (v := .bool (!(((failP (toP l0) f jobs fuel limit span).2) == ((failP (toP l0) f jobs fuel limit span).2)))) ha (AtG.here (gd := 61) ⟨(by kernel_rfl : ((qW Try.f5 11)[7]?).map spec = some ((Op.binOp BinOp.neq 4 (Operand.tmp 62) (Operand.tmp 63) 4), some 64, 4, some (4, false))), by kernel_rfl⟩ ha rfl) (by kernel_rfl) (fun _ => by kernel_rfl)).as (by simp)) fun a ha => ?_
 refine jY [(8, 65, .bool false)] ha fun a ha => ?_
 refine jW ?_
 replace ha := ha.as [(1, iv f), (2, .slice rjobs.A rjobs.n rjobs.c), (3, iv fuel), (5, ptr b1 0), (9, ptr b3 0), (10, .bool false), (12, .slice o2.A o2.n o2.c), (13, .bool ((failP (toP l0) f jobs fuel limit span).2)), (14, ptr b19 0), (15, .slice o3.A o3.n o3.c), (16, .slice o4.A o4.n o4.c), (17, .bool ((failP (toP l0) f jobs fuel limit span).2)), (65, .bool false)] rfl
 refine jQ ?_
 refine jH ha rfl rfl ?_
 refine wp_skip (jQ (wp_seq (wp_seq (xH 5 5 (hS.pickN 9 [2, 7, 8] (by decide) rfl) hS fun w hS => ?_))))
 refine yZ 0 66 ha (hS.pickN 9 [2, 7, 8] (by decide) rfl) (jJ (jJ (jX))) (fun _ hw => hw.blk 0 rfl) fun a ha => ?_
 refine yZ 1 67 ha (hS.pickN 9 [2, 7, 8] (by decide) rfl) (jJ (jJ (jX))) (fun _ hw => hw.blk 2 rfl) fun a ha => ?_
 refine qZ 2 (xZ 68 (vs := [.agg #[.slice s0.A s0.n s0.c]]) ha (toProgram_sat hS (hr0.sat hS) hf0) fun v29 w a hp30 ha => ?_)
 obtain ⟨sp3, rfl, hS⟩ := hp30
 refine ⟨.inr (hS.pickN 10 [3, 8, 9] (by decide) rfl), ?_⟩
 refine qZ 3 (xZ 69 (vs := [.agg #[.slice sp2.A sp2.n sp2.c], .agg #[.slice sp3.A sp3.n sp3.c]]) ha (eqP_sat hS (hS.rdS 4 rfl) (hS.rdS 0 rfl) (toP_fits hf0)) fun v31 w a hp32 ha => ?_)
 obtain ⟨rfl, hS⟩ := hp32
 refine ⟨.inr (hS.pickN 10 [3, 8, 9] (by decide) rfl), ?_⟩
 refine jV (k := 0) [(4, 70, .bool false)] ha (.inr (hS.pickN 10 [3, 8, 9] (by decide) rfl)) (jJ (jJ (jX))) fun a ha => ?_
 refine xG (jQ ?_)
 refine jH ha rfl rfl ?_
 refine wp_skip (jQ (wp_seq (wp_seq (jZ [0, 1, 2, 3, 4] (jY [(0, 71, .slice o3.A o3.n o3.c), (1, 72, .slice rjobs.A rjobs.n rjobs.c)] ha fun a ha => ?_)))))
 refine jU (xZ 73 (vs := [.slice rjobs.A rjobs.n rjobs.c]) ha (toIntS_sat hS (hrjobs.sat hS) (by omega)) fun v33 w a hp34 ha => ?_)
 obtain ⟨o5, rfl, hS⟩ := hp34
 refine jU (xZ 74 (vs := [.slice o3.A o3.n o3.c, .slice o5.A o5.n o5.c]) ha (eqIntS_sat hS (hS.rdRow (s := o3) 3 rfl) (hS.rdRow (s := o5) 0 rfl)) fun v35 w a hp36 ha => ?_)
 obtain ⟨rfl, hS⟩ := hp36
 refine jY [(4, 75, .bool false)] ha fun a ha => ?_
 refine jW (jQ ?_)
 refine jH ha rfl rfl ?_
 refine wp_skip (jQ (wp_seq (jZ [0] (jY [(0, 18, iv 1)] ha fun a ha => ?_))))
 refine jW (jQ (wp_seq (jZ [0, 1, 2, 3] (zZ 76 ha (hS.blk 4 rfl) fun a ha => ?_))))
 refine jY [(1, 77, iv 1)] ha fun a ha => ?_
 replace hS : Sat w0 w ((prg w0.heap.size sp2 (toP l0)) :: (SX.row (.slice o5.A o5.n o5.c) 3 1 (encI jobs)) :: (prg w0.heap.size sp3 (toP l0)) :: (SX.row (.slice o4.A o4.n o4.c) 3 1 (encI ((failP (toP l0) f jobs fuel limit span).1))) :: (SX.row (.slice o3.A o3.n o3.c) 3 1 (encI jobs)) :: (SX.blk b19 [.slice sp2.A sp2.n sp2.c] 30) :: (SX.row (.slice o2.A o2.n o2.c) 3 1 (encI ((failP (toP l0) f jobs fuel limit span).1))) :: (SX.row (.slice o1.A o1.n o1.c) 3 1 (encI jobs)) :: (prg w0.heap.size sp1 (toP l0)) :: (SX.blk b3 [iv limit, iv span] 38) :: (SX.blk b1 [.slice s0.A s0.n s0.c] 24) :: []) := hS.pickN 11 [5, 0, 1, 2, 3, 4, 6, 7, 8, 9, 10] (by decide) rfl
 refine jU (xZ 78 (vs := [.agg #[.slice sp2.A sp2.n sp2.c], iv 1]) ha (markProgram_sat hS (toP_fits hf0) (by omega) (by omega)) fun v37 w a hp38 ha => ?_)
 obtain ⟨rfl, hS⟩ := hp38
 refine jY [(3, 18, iv (1 + 3 * (tot (toP l0) : Int)))] ha fun a ha => ?_
 refine jW ?_
 replace ha := ha.as [(1, iv f), (2, .slice rjobs.A rjobs.n rjobs.c), (3, iv fuel), (5, ptr b1 0), (9, ptr b3 0), (10, .bool false), (12, .slice o2.A o2.n o2.c), (13, .bool ((failP (toP l0) f jobs fuel limit span).2)), (15, .slice o3.A o3.n o3.c), (16, .slice o4.A o4.n o4.c), (17, .bool ((failP (toP l0) f jobs fuel limit span).2)), (18, iv (1 + 3 * (tot (toP l0) : Int)))] rfl
 refine jQ (wp_seq (jZ [0, 1, 2, 3] (jY [(0, 79, .slice o3.A o3.n o3.c), (1, 80, iv (1 + 3 * (tot (toP l0) : Int)))] ha fun a ha => ?_)))
 replace hS : Sat w0 w ((SX.row (.slice o3.A o3.n o3.c) 3 1 (encI jobs)) :: (prg w0.heap.size sp2 (mkSS 1 (toP l0))) :: (SX.row (.slice o5.A o5.n o5.c) 3 1 (encI jobs)) :: (prg w0.heap.size sp3 (toP l0)) :: (SX.row (.slice o4.A o4.n o4.c) 3 1 (encI ((failP (toP l0) f jobs fuel limit span).1))) :: (SX.blk b19 [.slice sp2.A sp2.n sp2.c] 30) :: (SX.row (.slice o2.A o2.n o2.c) 3 1 (encI ((failP (toP l0) f jobs fuel limit span).1))) :: (SX.row (.slice o1.A o1.n o1.c) 3 1 (encI jobs)) :: (prg w0.heap.size sp1 (toP l0)) :: (SX.blk b3 [iv limit, iv span] 38) :: (SX.blk b1 [.slice s0.A s0.n s0.c] 24) :: []) := hS.pickN 11 [4, 0, 1, 2, 3, 5, 6, 7, 8, 9, 10] (by decide) rfl
 refine jU (xZ 81 (vs := [.slice o3.A o3.n o3.c, iv (1 + 3 * (tot (toP l0) : Int))]) ha (markG_sat hS (by omega) (by omega) (by omega)) fun v39 w a hp40 ha => ?_)
 obtain ⟨rfl, hS⟩ := hp40
 refine jY [(3, 18, iv ((1 + 3 * (tot (toP l0) : Int)) + (jobs.length : Int)))] ha fun a ha => ?_
 refine jW (jQ (wp_seq (wp_seq (jZ [0, 1, 2, 3, 4, 5, 6, 7, 8, 9, 10, 11, 12] (jY [(0, 82, iv ((1 + 3 * (tot (toP l0) : Int)) + (jobs.length : Int)))] ha fun a ha => ?_)))))
 refine zY (.bool false) ha ((qU (v := .bool (decide ((1 + 3 * (tot (toP l0) : Int)) + (jobs.length : Int) < 0))) ha (zK (op := (Op.binOp BinOp.lss 3 (Operand.tmp 82) (Operand.const (Value.int IntKind.i64 0)) 3)) (d := some 83) (ty := 4)) (by kernel_rfl) (fun _ => by kernel_rfl)).as (by rw [decide_eq_false (by omega)])) fun a ha => ?_
 refine jY [(2, 84, .bool false), (3, 85, .slice o4.A o4.n o4.c), (4, 86, .slice o2.A o2.n o2.c)] ha fun a ha => ?_
 refine jU (xZ 87 (vs := [.slice o4.A o4.n o4.c, .slice o2.A o2.n o2.c]) ha (eqIntS_sat hS (hS.rdRow (s := o4) 4 rfl) (hS.rdRow (s := o2) 6 rfl)) fun v41 w a hp42 ha => ?_)
 obtain ⟨rfl, hS⟩ := hp42
 refine jY [(6, 88, .bool false), (7, 89, .bool false), (8, 90, .bool false), (9, 91, .bool ((failP (toP l0) f jobs fuel limit span).2)), (10, 92, .bool ((failP (toP l0) f jobs fuel limit span).2))] ha fun a ha => ?_
 refine zY (.bool false) ha ((qU (v := .bool (!(((failP (toP l0) f jobs fuel limit span).2) == ((failP (toP l0) f jobs fuel limit span).2)))) ha (AtG.here (gd := 90) ⟨(by kernel_rfl : ((qW Try.f5 20)[11]?).map spec = some ((Op.binOp BinOp.neq 4 (Operand.tmp 91) (Operand.tmp 92) 4), some 93, 4, some (8, false))), by kernel_rfl⟩ ha rfl) (by kernel_rfl) (fun _ => by kernel_rfl)).as (by simp)) fun a ha => ?_
 refine jY [(12, 94, .bool false)] ha fun a ha => ?_
 refine jW ?_
 replace ha := ha.as [(1, iv f), (2, .slice rjobs.A rjobs.n rjobs.c), (3, iv fuel), (5, ptr b1 0), (9, ptr b3 0), (10, .bool false), (12, .slice o2.A o2.n o2.c), (13, .bool ((failP (toP l0) f jobs fuel limit span).2)), (16, .slice o4.A o4.n o4.c), (94, .bool false)] rfl
 refine jQ ?_
 refine jH ha rfl rfl ?_
 refine wp_skip (jQ (wp_seq (jZ [0] (jY [(0, 19, iv 1)] ha fun a ha => ?_))))
 refine jW (jQ (wp_seq (jZ [0, 1, 2, 3] (jY [(0, 95, .slice o4.A o4.n o4.c), (1, 96, iv 1)] ha fun a ha => ?_))))
 replace hS : Sat w0 w ((SX.row (.slice o4.A o4.n o4.c) 3 1 (encI ((failP (toP l0) f jobs fuel limit span).1))) :: (SX.row (.slice o3.A o3.n o3.c) 3 1 (encI (mkG (1 + 3 * (tot (toP l0) : Int)) jobs.length))) :: (prg w0.heap.size sp2 (mkSS 1 (toP l0))) :: (SX.row (.slice o5.A o5.n o5.c) 3 1 (encI jobs)) :: (prg w0.heap.size sp3 (toP l0)) :: (SX.blk b19 [.slice sp2.A sp2.n sp2.c] 30) :: (SX.row (.slice o2.A o2.n o2.c) 3 1 (encI ((failP (toP l0) f jobs fuel limit span).1))) :: (SX.row (.slice o1.A o1.n o1.c) 3 1 (encI jobs)) :: (prg w0.heap.size sp1 (toP l0)) :: (SX.blk b3 [iv limit, iv span] 38) :: (SX.blk b1 [.slice s0.A s0.n s0.c] 24) :: []) := hS.pickN 11 [4, 0, 1, 2, 3, 5, 6, 7, 8, 9, 10] (by decide) rfl
 refine jU (xZ 97 (vs := [.slice o4.A o4.n o4.c, iv 1]) ha (markG_sat hS (by omega) (by omega) (Nat.le_trans (failP_len ..) (by decide))) fun v43 w a hp44 ha => ?_)
 obtain ⟨rfl, hS⟩ := hp44
 refine jY [(3, 19, iv (1 + (((failP (toP l0) f jobs fuel limit span).1).length : Int)))] ha fun a ha => ?_
 refine jW (jQ (wp_seq (jZ [0] (jY [(0, 20, iv 1)] ha fun a ha => ?_))))
 refine jW (jQ (wp_seq (jZ [0, 1, 2, 3] (jY [(0, 98, .slice o4.A o4.n o4.c), (1, 99, iv 1)] ha fun a ha => ?_))))
 refine jU (xZ 100 (vs := [.slice o4.A o4.n o4.c, iv 1]) ha (heldI_sat hS (hS.rdRow (s := o4) 0 rfl) (Nat.le_trans (failP_len ..) (by decide))) fun v45 w a hp46 ha => ?_)
 obtain ⟨rfl, hS⟩ := hp46
 refine jY [(3, 20, iv (1 + (((failP (toP l0) f jobs fuel limit span).1).length : Int)))] ha fun a ha => ?_
 refine jW (jQ (wp_seq (wp_seq (jZ [0, 1] (jY [(0, 101, iv (1 + (((failP (toP l0) f jobs fuel limit span).1).length : Int)))] ha fun a ha => ?_)))))
 refine zY (.bool false) ha ((qU (v := .bool (decide (1 + (((failP (toP l0) f jobs fuel limit span).1).length : Int) < 0))) ha (zK (op := (Op.binOp BinOp.lss 3 (Operand.tmp 101) (Operand.const (Value.int IntKind.i64 0)) 3)) (d := some 102) (ty := 4)) (by kernel_rfl) (fun _ => by kernel_rfl)).as (by rw [decide_eq_false (by omega)])) fun a ha => ?_
 refine jW (jQ ?_)
 refine jH ha rfl rfl ?_
 refine wp_skip (jQ (wp_seq (wp_seq (jZ [0, 1, 2] (jY [(0, 103, iv (1 + (((failP (toP l0) f jobs fuel limit span).1).length : Int))), (1, 104, iv (1 + (((failP (toP l0) f jobs fuel limit span).1).length : Int)))] ha fun a ha => ?_)))))
 refine zY (.bool false) ha ((qU (v := .bool (!(decide (1 + (((failP (toP l0) f jobs fuel limit span).1).length : Int) = 1 + (((failP (toP l0) f jobs fuel limit span).1).length : Int))))) ha (zK (op := (Op.binOp BinOp.neq 3 (Operand.tmp 103) (Operand.tmp 104) 3)) (d := some 105) (ty := 4)) (by kernel_rfl) (fun _ => by kernel_rfl)).as (by simp)) fun a ha => ?_
 refine jW (jQ ?_)
 refine jH ha rfl rfl ?_
 refine wp_skip (jQ (wp_seq (xH 14 14 (hS.pickN 11 [5, 9, 10] (by decide) rfl) hS fun w hS => ?_)))
 refine yZ 0 107 ha (hS.pickN 11 [5, 9, 10] (by decide) rfl) (jJ (jX)) (fun _ hw => hw.blk 2 rfl) fun a ha => ?_
 refine jV (k := 10) [(2, 109, iv f), (3, 110, .slice rjobs.A rjobs.n rjobs.c), (5, 112, iv fuel)] ha (.inr (hS.pickN 11 [5, 9, 10] (by decide) rfl)) (jJ (jX)) fun a ha => ?_
 refine yZ 6 113 ha (hS.pickN 11 [5, 9, 10] (by decide) rfl) (jJ (jX)) (fun _ hw => hw.blk 1 rfl) fun a ha => ?_
 refine qZ 1 (xZ 108 (vs := [.agg #[.slice s0.A s0.n s0.c]]) ha (toProgram_sat hS (hr0.sat hS) hf0) fun v47 w a hp48 ha => ?_)
 obtain ⟨sp4, rfl, hS⟩ := hp48
 refine ⟨.inr (hS.pickN 12 [6, 10, 11] (by decide) rfl), ?_⟩
 refine qZ 4 (xZ 111 (vs := [.slice rjobs.A rjobs.n rjobs.c]) ha (toIntS_sat hS (hrjobs.sat hS) (by omega)) fun v49 w a hp50 ha => ?_)
 obtain ⟨o6, rfl, hS⟩ := hp50
 refine ⟨.inr (hS.pickN 13 [7, 11, 12] (by decide) rfl), ?_⟩
 refine qZ 7 (xZ 114 (vs := [.agg #[iv limit, iv span]]) ha (toWatch_sat hS) fun v51 w a hp52 ha => ?_)
 obtain ⟨rfl, hS⟩ := hp52
 refine ⟨.inr (hS.pickN 13 [7, 11, 12] (by decide) rfl), ?_⟩
 refine qZ 8 (xZ 115 (vs := [.agg #[.slice sp4.A sp4.n sp4.c], iv f, .slice o6.A o6.n o6.c, iv fuel, .agg #[iv limit, iv span]]) ha (impl_FailTimes_sat hS (hS.rdS 1 rfl) (toP_fits hf0) (hS.rdRow (s := o6) 0 rfl)) fun v53 w a hp54 ha => ?_)
 obtain ⟨o7, rfl, hS⟩ := hp54
 refine ⟨.inr (hS.pickN 14 [8, 12, 13] (by decide) rfl), ?_⟩
 refine jV (k := 0) [(9, 106, .tuple #[.slice o7.A o7.n o7.c, .bool ((failP (toP l0) f jobs fuel limit span).2)]), (10, 116, .slice o7.A o7.n o7.c), (11, 117, .bool ((failP (toP l0) f jobs fuel limit span).2)), (12, 21, .slice o7.A o7.n o7.c), (13, 22, .bool ((failP (toP l0) f jobs fuel limit span).2))] ha (.inr (hS.pickN 14 [8, 12, 13] (by decide) rfl)) (jJ (jX)) fun a ha => ?_
 refine xG ?_
 replace ha := ha.as [(10, .bool false), (12, .slice o2.A o2.n o2.c), (13, .bool ((failP (toP l0) f jobs fuel limit span).2)), (16, .slice o4.A o4.n o4.c), (19, iv (1 + (((failP (toP l0) f jobs fuel limit span).1).length : Int))), (20, iv (1 + (((failP (toP l0) f jobs fuel limit span).1).length : Int))), (21, .slice o7.A o7.n o7.c), (22, .bool ((failP (toP l0) f jobs fuel limit span).2))] rfl
 refine jQ (wp_seq (wp_seq (jZ [0, 1, 2, 3, 4, 5, 6, 7, 8] (jY [(0, 118, .slice o7.A o7.n o7.c), (1, 119, .slice o2.A o2.n o2.c)] ha fun a ha => ?_))))
 refine jU (xZ 120 (vs := [.slice o7.A o7.n o7.c, .slice o2.A o2.n o2.c]) ha (eqIntS_sat hS (hS.rdRow (s := o7) 0 rfl) (hS.rdRow (s := o2) 9 rfl)) fun v55 w a hp56 ha => ?_)
 obtain ⟨rfl, hS⟩ := hp56
 refine jY [(3, 121, .bool false), (4, 122, .bool false), (5, 123, .bool ((failP (toP l0) f jobs fuel limit span).2)), (6, 124, .bool ((failP (toP l0) f jobs fuel limit span).2))] ha fun a ha => ?_
 refine zY (.bool false) ha ((qU (v := .bool (!(((failP (toP l0) f jobs fuel limit span).2) == ((failP (toP l0) f jobs fuel limit span).2)))) ha (AtG.here (gd := 122) ⟨(by kernel_rfl : ((qW Try.f5 31)[7]?).map spec = some ((Op.binOp BinOp.neq 4 (Operand.tmp 123) (Operand.tmp 124) 4), some 125, 4, some (4, false))), by kernel_rfl⟩ ha rfl) (by kernel_rfl) (fun _ => by kernel_rfl)).as (by simp)) fun a ha => ?_
 refine jY [(8, 126, .bool false)] ha fun a ha => ?_
 refine jW (jQ ?_)
 refine jH ha rfl rfl ?_
 refine wp_skip (jQ (wp_seq (jZ [0] (jY [(0, 20, iv 1)] ha fun a ha => ?_))))
 refine jW (jQ (wp_seq (jZ [0, 1, 2, 3] (jY [(0, 127, .slice o4.A o4.n o4.c), (1, 128, iv 1)] ha fun a ha => ?_))))
 refine jU (xZ 129 (vs := [.slice o4.A o4.n o4.c, iv 1]) ha (heldI_sat hS (hS.rdRow (s := o4) 3 rfl) (Nat.le_trans (failP_len ..) (by decide))) fun v57 w a hp58 ha => ?_)
 obtain ⟨rfl, hS⟩ := hp58
 refine jY [(3, 20, iv (1 + (((failP (toP l0) f jobs fuel limit span).1).length : Int)))] ha fun a ha => ?_
 refine jW ?_
 replace ha := ha.as [(10, .bool false), (19, iv (1 + (((failP (toP l0) f jobs fuel limit span).1).length : Int))), (20, iv (1 + (((failP (toP l0) f jobs fuel limit span).1).length : Int)))] rfl
 refine jQ (wp_seq (wp_seq (jZ [0, 1] (jY [(0, 130, iv (1 + (((failP (toP l0) f jobs fuel limit span).1).length : Int)))] ha fun a ha => ?_))))
 refine zY (.bool false) ha ((qU (v := .bool (decide (1 + (((failP (toP l0) f jobs fuel limit span).1).length : Int) < 0))) ha (zK (op := (Op.binOp BinOp.lss 3 (Operand.tmp 130) (Operand.const (Value.int IntKind.i64 0)) 3)) (d := some 131) (ty := 4)) (by kernel_rfl) (fun _ => by kernel_rfl)).as (by rw [decide_eq_false (by omega)])) fun a ha => ?_
 refine jW (jQ ?_)
 refine jH ha rfl rfl ?_
 refine wp_skip (jQ (wp_seq (wp_seq (jZ [0, 1, 2] (jY [(0, 132, iv (1 + (((failP (toP l0) f jobs fuel limit span).1).length : Int))), (1, 133, iv (1 + (((failP (toP l0) f jobs fuel limit span).1).length : Int)))] ha fun a ha => ?_)))))
 refine zY (.bool false) ha ((qU (v := .bool (!(decide (1 + (((failP (toP l0) f jobs fuel limit span).1).length : Int) = 1 + (((failP (toP l0) f jobs fuel limit span).1).length : Int))))) ha (zK (op := (Op.binOp BinOp.neq 3 (Operand.tmp 132) (Operand.tmp 133) 3)) (d := some 134) (ty := 4)) (by kernel_rfl) (fun _ => by kernel_rfl)).as (by simp)) fun a ha => ?_
 refine jW (jQ ?_)
 refine jH ha rfl rfl ?_
 refine wp_skip (jQ (wp_seq (jZ [0] (jY [(0, 10, .bool true)] ha fun a ha => ?_))))
 refine jW (jQ (wp_ret (xQ ha (by kernel_rfl) (yY (t := 10) ha rfl) ?_)))
 exact ⟨rfl, hS.below⟩
end Go.Proofs.Ytggahaddkoifkaa.G
end
