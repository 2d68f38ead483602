/- What the claim FnExactStuckDeeds rests on, part 21 of 22; the last part proves it: for every input the law answers true, and its arguments read behind the call as before it. No condition. -/
import Derived.Test.YtggahaddkoifkaaQStuckDeeds18
import Derived.Test.YtggahaddkoifkaaQStuckDeeds19
section
namespace Go.Proofs.Ytggahaddkoifkaa.G
open Go.RowKit Go.Proofs.Ytggahaddkoifkaa.SX Go.Proofs.YtggahaddkoifkaaW.PrintWords Go.Proofs.YtggahaddkoifkaaW.PrintLast Go.Proofs.YtggahaddkoifkaaW.PrintMore
set_option linter.unusedVariables false
set_option linter.unusedSimpArgs false
theorem rn_num {l : List (List ST)} {f arg fuel : Int} (h : askB l f arg fuel = true) : numB (rn l f arg fuel).v = true := by
  obtain ⟨hP, h1, h2, h3⟩ := ask_parts h
  have hE := run_eq hP (shared := 0) (arg := arg) h1.1 h1.2 h3
  show numB (runS (PL l) 0 f arg fuel).v = true
  rw [← hE.val]; unfold qVal
  have key : ∀ {x : Int}, Sm x → numB x = true := fun h => by simp only [numB, Bool.and_eq_true, decide_eq_true_eq]; exact ⟨h.lo, h.hi⟩
  by_cases hs : (qRun (PL l) 0 f arg fuel).1.spent = true
  · rw [if_pos hs]; decide
  · rw [if_neg hs]
    have hk := (qCall_ok hP fuel 8 (qStart 0) (FQ.new f 1 arg) 10 (qStart_ok ⟨by omega, by omega⟩ h3) (OkC.new h1.1 h1.2 ⟨h2.1, h2.2⟩) rfl (by simpa [qRun] using hs)).2.1
    split
    · exact key hk.a1
    · split
      · exact key hk.va
      · decide
def cRes (l : List (List ST)) (fuel : Int) : Int → List (Int × Int) → List Int
 | _, [] => []
 | a, d :: ds => if (rn l d.1 a fuel).k = 1 then (rn l d.1 a fuel).v :: cRes l fuel (rn l d.1 a fuel).v ds else []
def bkF (L : List (Nat × Int)) : List Int := L.map fun p => (p.1 : Int)
def stF (l : List (List ST)) (fuel : Int) (dl : List (Int × Int)) (L : List (Nat × Int)) : List Int := (L.filter fun p => decide (¬ (rn l (dl.getD p.1 (0, 0)).2 p.2 fuel).k = 1)).map fun p => (p.1 : Int)
def lastZ (rs : List Int) : Int := rs.getLastD 0
theorem lastZ_app (rs : List Int) (v : Int) : lastZ (rs ++ [v]) = v := by simp [lastZ]
def badD (l : List (List ST)) (dl : List (Int × Int)) : Bool := dl.any fun d => !(isFB l d.1 && isFB l d.2)
def deedsB (l : List (List ST)) (dl : List (Int × Int)) : Bool := !(badD l dl) && decide (dl.length ≤ 8)
def dOkB (l : List (List ST)) (arg fuel : Int) (dl : List (Int × Int)) : Bool := askB l 0 arg fuel && deedsB l dl
theorem ask_prog {l : List (List ST)} {f arg fuel : Int} (h : askB l f arg fuel = true) : programB l = true := by
 simp only [askB, Bool.and_eq_true] at h; exact h.1.1.1
theorem ask0 {l : List (List ST)} {arg fuel : Int} : askB l 0 arg fuel = (programB l && numB arg && inB fuel 0 200) := by
 unfold askB
 cases hp : programB l with
 | false => rfl
 | true =>
  have : 1 ≤ l.length := by simp only [programB, Bool.and_eq_true, decide_eq_true_eq] at hp; exact hp.1.1
  rw [show inB 0 0 ((l.length : Int) - 1) = true by simp only [inB, Bool.and_eq_true, decide_eq_true_eq]; omega]; rfl
theorem badD_yes {l : List (List ST)} {dl : List (Int × Int)} {n : Nat} {d : Int × Int} (hd : dl[n]? = some d) (h : isFB l d.1 = false ∨ isFB l d.2 = false) : badD l dl = true := by
 unfold badD; rw [List.any_eq_true]; exact ⟨d, List.mem_of_getElem? hd, by rcases h with h | h <;> simp [h]⟩
theorem badD_no {l : List (List ST)} {dl : List (Int × Int)} {n : Nat} (h : ∀ j d, j < n → dl[j]? = some d → (isFB l d.1 && isFB l d.2) = true) (hn : dl.length ≤ n) : badD l dl = false := by
 unfold badD; rw [List.any_eq_false]; intro x hx
 obtain ⟨j, hj⟩ := List.getElem?_of_mem hx
 rw [h j x (by have := (List.getElem?_eq_some_iff.1 hj).1; omega) hj]; decide
theorem allD {l : List (List ST)} {dl : List (Int × Int)} {n : Nat} {x : Int × Int} (hx : dl[n]? = some x) (hall : ∀ j d, j < n → dl[j]? = some d → (isFB l d.1 && isFB l d.2) = true) (h1 : isFB l x.1 = true) (h2 : isFB l x.2 = true) : ∀ j d, j < n + 1 → dl[j]? = some d → (isFB l d.1 && isFB l d.2) = true := by
 intro j d hj hd
 by_cases he : j = n
 · subst he; rw [hx] at hd; cases hd; rw [h1, h2]; rfl
 · exact hall j d (by omega) hd
theorem dOk_parts {l : List (List ST)} {arg fuel : Int} {dl : List (Int × Int)} (h : dOkB l arg fuel dl = true) : programB l = true ∧ numB arg = true ∧ inB fuel 0 200 = true ∧ badD l dl = false ∧ dl.length ≤ 8 := by
 simp only [dOkB, deedsB, ask0, Bool.and_eq_true, Bool.not_eq_true', decide_eq_true_eq] at h
 exact ⟨h.1.1.1, h.1.1.2, h.1.2, h.2.1, h.2.2⟩
theorem carry_ask {l : List (List ST)} {arg fuel x : Int} {dl : List (Int × Int)} {i : Nat} {d : Int × Int} (h : dOkB l arg fuel dl = true) (hd : dl[i]? = some d) (hx : numB x = true) : askB l d.1 x fuel = true ∧ askB l d.2 x fuel = true := by
 obtain ⟨_, _, h3, h4, _⟩ := dOk_parts h
 unfold badD at h4; rw [List.any_eq_false] at h4
 have h5 := h4 d (List.mem_of_getElem? hd)
 have h6 : isFB l d.1 = true ∧ isFB l d.2 = true := by
  cases h7 : isFB l d.1 <;> cases h8 : isFB l d.2 <;> simp [h7, h8] at h5 ⊢
 simp only [isFB, Bool.and_eq_true] at h6
 simp only [askB, Bool.and_eq_true]
 exact ⟨⟨⟨h6.1, hx⟩, h3⟩, ⟨⟨h6.2, hx⟩, h3⟩⟩
theorem cRes_next {l : List (List ST)} {fuel a arg : Int} {dl : List (Int × Int)} {rs : List Int} {i : Nat} {x : Int × Int} (hx : dl[i]? = some x) (h : rs ++ cRes l fuel a (dl.drop i) = cRes l fuel arg dl) (hk : (rn l x.1 a fuel).k = 1) : (rs ++ [(rn l x.1 a fuel).v]) ++ cRes l fuel (rn l x.1 a fuel).v (dl.drop (i + 1)) = cRes l fuel arg dl := by
 have hi := (List.getElem?_eq_some_iff.1 hx).1
 have e : dl.drop i = x :: dl.drop (i + 1) := by rw [List.drop_eq_getElem_cons hi, (List.getElem?_eq_some_iff.1 hx).2]
 rw [e, cRes, if_pos hk] at h
 rw [List.append_assoc]; exact h
theorem cRes_stop {l : List (List ST)} {fuel a arg : Int} {dl : List (Int × Int)} {rs : List Int} {i : Nat} {x : Int × Int} (hx : dl[i]? = some x) (h : rs ++ cRes l fuel a (dl.drop i) = cRes l fuel arg dl) (hk : ¬ (rn l x.1 a fuel).k = 1) : cRes l fuel arg dl = rs := by
 have hi := (List.getElem?_eq_some_iff.1 hx).1
 have e : dl.drop i = x :: dl.drop (i + 1) := by rw [List.drop_eq_getElem_cons hi, (List.getElem?_eq_some_iff.1 hx).2]
 rw [e, cRes, if_neg hk, List.append_nil] at h
 exact h.symm
theorem cRes_end {l : List (List ST)} {fuel a arg : Int} {dl : List (Int × Int)} {rs : List Int} {i : Nat} (hi : i = dl.length) (h : rs ++ cRes l fuel a (dl.drop i) = cRes l fuel arg dl) : cRes l fuel arg dl = rs := by
 rw [hi, List.drop_length, cRes, List.append_nil] at h; exact h.symm
theorem bk_app (L : List (Nat × Int)) (p : Nat × Int) : bkF (L ++ [p]) = bkF L ++ [(p.1 : Int)] := by simp [bkF]
theorem st_app1 {l : List (List ST)} {fuel : Int} {dl : List (Int × Int)} (L : List (Nat × Int)) {q : Nat} {v : Int} {d : Int × Int} (hd : dl[q]? = some d) (hk : (rn l d.2 v fuel).k = 1) : stF l fuel dl (L ++ [(q, v)]) = stF l fuel dl L := by
 have e : dl.getD q (0, 0) = d := by rw [List.getD_eq_getElem?_getD, hd]; rfl
 unfold stF; rw [List.filter_append, List.map_append]
 have e2 : dl[q]?.getD (0, 0) = d := by rw [hd]; rfl
 simp [e2, hk]
theorem st_app2 {l : List (List ST)} {fuel : Int} {dl : List (Int × Int)} (L : List (Nat × Int)) {q : Nat} {v : Int} {d : Int × Int} (hd : dl[q]? = some d) (hk : ¬ (rn l d.2 v fuel).k = 1) : stF l fuel dl (L ++ [(q, v)]) = stF l fuel dl L ++ [(q : Int)] := by
 unfold stF; rw [List.filter_append, List.map_append]
 have e2 : dl[q]?.getD (0, 0) = d := by rw [hd]; rfl
 simp [e2, hk]
theorem bwd_at {zs : List Int} {j q : Nat} {v : Int} (hq : q + 1 + j = zs.length) (hv : zs[q]? = some v) : bwd zs (j + 1) = bwd zs j ++ [(q, v)] := by
 rw [bwd_succ, show zs.length - 1 - j = q by omega, List.getD_eq_getElem?_getD, hv]; rfl
def cZ (l : List (List ST)) (dl : List (Int × Int)) (arg fuel : Int) : List Int := if dOkB l arg fuel dl = true then cRes l fuel arg dl else []
def cBk (l : List (List ST)) (dl : List (Int × Int)) (arg fuel : Int) : List Int := if dOkB l arg fuel dl = true then (if (cRes l fuel arg dl).length = dl.length then [] else bkF (bwd (cRes l fuel arg dl) (cRes l fuel arg dl).length)) else []
def cSt (l : List (List ST)) (dl : List (Int × Int)) (arg fuel : Int) : List Int := if dOkB l arg fuel dl = true then (if (cRes l fuel arg dl).length = dl.length then [] else stF l fuel dl (bwd (cRes l fuel arg dl) (cRes l fuel arg dl).length)) else []
theorem c_no {l : List (List ST)} {dl : List (Int × Int)} {arg fuel : Int} (h : dOkB l arg fuel dl = false) : cZ l dl arg fuel = [] ∧ cBk l dl arg fuel = [] ∧ cSt l dl arg fuel = [] := by
 unfold cZ cBk cSt; rw [h]; exact ⟨rfl, rfl, rfl⟩
theorem c_all {l : List (List ST)} {dl : List (Int × Int)} {arg fuel : Int} {rs : List Int} (h : dOkB l arg fuel dl = true) (hz : cRes l fuel arg dl = rs) (hl : rs.length = dl.length) : cZ l dl arg fuel = rs ∧ cBk l dl arg fuel = [] ∧ cSt l dl arg fuel = [] := by
 unfold cZ cBk cSt; rw [if_pos h, if_pos h, if_pos h, hz, if_pos hl, if_pos hl]; exact ⟨rfl, rfl, rfl⟩
theorem c_some {l : List (List ST)} {dl : List (Int × Int)} {arg fuel : Int} {rs : List Int} (h : dOkB l arg fuel dl = true) (hz : cRes l fuel arg dl = rs) (hl : ¬ rs.length = dl.length) : cZ l dl arg fuel = rs ∧ cBk l dl arg fuel = bkF (bwd rs rs.length) ∧ cSt l dl arg fuel = stF l fuel dl (bwd rs rs.length) := by
 unfold cZ cBk cSt; rw [if_pos h, if_pos h, if_pos h, hz, if_neg hl, if_neg hl]; exact ⟨rfl, rfl, rfl⟩
theorem ipr_sat {w0 w : World} {Rs : List Asn} {s : Sl} {l : List (List ST)} (hS : Sat w0 w Rs) (hr : RdP w s l) :
  Calls Try.prog 104 #[.agg #[.slice s.A s.n s.c]] w (Ret fun r w' => r = .bool (programB l) ∧ Sat w0 w' Rs) := by
 have := impl_IsProgram.calls s.A s.c l (programB l) w hr.rd hr.le rfl
 rw [← hr.len] at this
 refine this.mono ?_
 rintro e w' ⟨rfl, hb⟩
 exact ⟨rfl, Sat.skip hS hb⟩
theorem qF_sat {w0 w : World} {Rs : List Asn} {s : Sl} {l : List (List ST)} {x : Int} (hS : Sat w0 w Rs) (hr : RdP w s l) (hf : Fits l) (hp : programB l = true) :
  Calls Try.prog 109 #[.agg #[.slice s.A s.n s.c], .int .i64 x] w (Ret fun r w' => r = .bool (isFB l x) ∧ Sat w0 w' Rs) := by
 have h3 := hf.len
 refine (q_fun hS x (pv := s) (by rw [hr.len]; omega)).mono fun e w' h => ?_
 cases e with
 | returned r => exact ⟨by rw [h.1, hr.len]; unfold isFB inB; rw [hp]; rfl, h.2⟩
 | _ => exact h.elim
theorem code106 : Try.f106.body = some (Code.seq (cr Try.f106 0 false) (Code.seq (cr Try.f106 1 false) Code.ret)) := by kernel_rfl
set_option maxRecDepth 20000 in
set_option maxHeartbeats 1000000 in
theorem kd_sat {w0 w : World} {Rs : List Asn} {s : Sl} {l : List (List ST)} {bp : Nat} {x0 x1 : Int} (hS : Sat w0 w (SX.blk bp [.slice s.A s.n s.c] 30 :: Rs)) (hr : RdP w0 s l) (hf : Fits l) :
  Calls Try.prog 106 #[.agg #[.int .i64 x0, .int .i64 x1], ptr bp 0] w (Ret fun r w' => r = .bool (!(isFB l x0 && isFB l x1)) ∧ Sat w0 w' (SX.blk bp [.slice s.A s.n s.c] 30 :: Rs)) := by
 have hr0 := hr
 refine enter (n := 16) Try.func106 code106 (by kernel_rfl) (Nat.le_of_ble_eq_true rfl) (fun a ha => ?_)
 replace ha : Has 16 [(0, .agg #[iv x0, iv x1]), (1, ptr bp 0)] a := ha
 refine wp_seq (jZ [0, 1] (jU (xZ 2 [iv x0, iv x1] 98 (ptr · 0) ha hS fun b1 w a hb2 hS ha => ?_)))
 refine jY [(1, 3, .bool false)] ha fun a ha => ?_
 refine jW (jQ (wp_seq (jZ [0, 1, 2, 3, 4, 5, 6, 7, 8, 9, 10, 11, 12] (zZ 4 ha (hS.blk 1 rfl) fun a ha => ?_))))
 refine jY [(1, 5, ptr b1 0)] ha fun a ha => ?_
 refine qK (d := 6) (b := b1) (j := 0) ha (hS.blk 0 rfl) rfl fun a ha => ?_
 refine jU (xK 7 (vs := [.agg #[.slice s.A s.n s.c], iv x0]) ha (isF_sat hS (hr.sat hS) hf) fun v3 w a hp4 ha => ?_)
 obtain ⟨rfl, hS⟩ := hp4
 refine jY [(4, 8, .bool (!((isFB l x0)))), (5, 9, .bool (!((isFB l x0))))] ha fun a ha => ?_
 rcases Bool.eq_false_or_eq_true (isFB l x0) with c5 | c5
 ·
  replace ha := ha.turn 7 (.bool true) rfl (congrArg Value.bool c5)
  replace ha := ha.turn 8 (.bool false) rfl (congrArg Value.bool (yU c5))
  replace ha := ha.turn 9 (.bool false) rfl (congrArg Value.bool (yU c5))
  refine zZ 10 ha (hS.blk 1 rfl) fun a ha => ?_
  refine jY [(7, 11, ptr b1 1)] ha fun a ha => ?_
  refine qK (d := 12) (b := b1) (j := 1) ha (hS.blk 0 rfl) rfl fun a ha => ?_
  refine jU (xK 13 (vs := [.agg #[.slice s.A s.n s.c], iv x1]) ha (isF_sat hS (hr.sat hS) hf) fun v6 w a hp7 ha => ?_)
  obtain ⟨rfl, hS⟩ := hp7
  refine jY [(10, 14, .bool (!((isFB l x1)))), (11, 15, .bool (!((isFB l x1)))), (12, 3, .bool (!((isFB l x1))))] ha fun a ha => ?_
  refine jW (jQ (wp_ret (qG ha (by kernel_rfl) (yX (t := 3) ha rfl) ?_)))
  have hE : (!(isFB l x0 && isFB l x1)) = !((isFB l x1)) := by simp [c5]
  rw [hE]
  replace hS : Sat w0 w ((SX.blk bp [.slice s.A s.n s.c] 30) :: Rs) := hS.pickN 2 [1] (by decide) rfl
  exact ⟨rfl, hS⟩
 replace ha := ha.turn 7 (.bool false) rfl (congrArg Value.bool c5)
 replace ha := ha.turn 8 (.bool true) rfl (congrArg Value.bool (zH c5))
 replace ha := ha.turn 9 (.bool true) rfl (congrArg Value.bool (zH c5))
 refine jY [(6, 10, undef), (7, 11, undef), (8, 12, undef), (9, 13, undef), (10, 14, undef), (11, 15, .bool true), (12, 3, .bool true)] ha fun a ha => ?_
 refine jW (jQ (wp_ret (qG ha (by kernel_rfl) (yX (t := 3) ha rfl) ?_)))
 have hE : (!(isFB l x0 && isFB l x1)) = true := by simp [c5]
 rw [hE]
 replace hS : Sat w0 w ((SX.blk bp [.slice s.A s.n s.c] 30) :: Rs) := hS.pickN 2 [1] (by decide) rfl
 exact ⟨rfl, hS⟩
theorem code136 : Try.f136.body = some (Code.seq (cr Try.f136 0 false) (Code.seq (Code.seq (cr Try.f136 1 false) (Code.block 0 (Code.loop (Code.seq (cr Try.f136 2 false) (Code.seq (Code.cond (Operand.tmp 9) Code.skip (Code.exit 0)) (Code.seq (Code.block 1 (Code.seq (cr Try.f136 3 false) (Code.seq (cr Try.f136 4 false) (Code.cond (Operand.tmp 16) (Code.seq (cr Try.f136 5 false) Code.ret) Code.skip)))) (cr Try.f136 6 false))))))) (Code.seq (cr Try.f136 7 false) Code.ret))) := by kernel_rfl
set_option maxRecDepth 20000 in
set_option maxHeartbeats 1000000 in
theorem idxD_sat {w0 w : World} {Rs : List Asn} {s sd : Sl} {l : List (List ST)} {dl : List (Int × Int)} {bp : Nat} (hS : Sat w0 w (SX.blk bp [.slice s.A s.n s.c] 30 :: Rs)) (hr : RdP w0 s l) (hf : Fits l) (hrd : RdE cellsR 2 w0 sd dl) :
  Calls Try.prog 136 #[.slice sd.A sd.n sd.c, .func (.func 106) #[] #[ptr bp 0]] w (Ret fun r w' => ∃ kx : Int, r = .int .i64 kx ∧ decide (kx ≥ 0) = badD l dl ∧ Sat w0 w' (SX.blk bp [.slice s.A s.n s.c] 30 :: Rs)) := by
 have hdl := hrd.len
 have hbig := hrd.big
 refine enter (n := 19) Try.func136 code136 (by kernel_rfl) (Nat.le_of_ble_eq_true rfl) (fun a ha => ?_)
 replace ha : Has 19 [(0, .slice sd.A sd.n sd.c), (1, .func (.func 106) #[] #[ptr bp 0])] a := ha
 refine wp_seq (jZ [0] (jY [(0, 4, iv 0)] ha fun a ha => ?_))
 refine jW (jQ (wp_seq (wp_seq (jZ [0, 1, 2] (jY [(0, 6, .slice sd.A sd.n sd.c), (1, 7, iv (sd.n : Int)), (2, 8, iv 0)] ha fun a ha => ?_)))))
 refine jW (jQ (wp_block ?_))
 refine wp_loop_ghost (fun n_ a_ w_ => ∃ (i : Nat), n_ = dl.length - i ∧ (i ≤ dl.length) ∧ (∀ j d, j < i → dl[j]? = some d → (isFB l d.1 && isFB l d.2) = true) ∧ Has 19 [(0, .slice sd.A sd.n sd.c), (1, .func (.func 106) #[] #[ptr bp 0]), (7, iv (sd.n : Int)), (8, iv (i : Int))] a_ ∧ Sat w0 w_ ((SX.blk bp [.slice s.A s.n s.c] 30) :: Rs)) _ ⟨0, rfl, Nat.zero_le _, (fun j d hj => by omega), ha.keeps [0, 1, 7, 8] _ rfl, hS⟩ ?_
 rintro n_ a w ⟨i, rfl, hi, hall, ha, hS⟩
 refine wp_seq (jZ [0] (jY [(0, 9, .bool (decide ((i : Int) < (sd.n : Int))))] ha fun a ha => ?_))
 refine jW (jQ (wp_seq ?_))
 by_cases c1 : (i : Int) < (sd.n : Int)
 ·
  have hlt : i < dl.length := by omega
  obtain ⟨x9, hx9⟩ : ∃ x, dl[i]? = some x := ⟨_, List.getElem?_eq_getElem hlt⟩
  refine qY ha rfl (decide_eq_true c1) ?_
  refine wp_skip (jQ (wp_seq (wp_block (wp_seq (jZ [0, 1] (jY [(0, 10, iv (i : Int)), (1, 5, iv (i : Int))] ha fun a ha => ?_))))))
  refine jW (jQ (wp_seq (jZ [0, 1, 2, 3, 4, 5] (jY [(0, 11, .func (.func 106) #[] #[ptr bp 0]), (1, 12, .slice sd.A sd.n sd.c), (2, 13, iv (i : Int))] ha fun a ha => ?_))))
  refine zY (.pointer (some ⟨bk sd, of_ sd + i * 2, none⟩)) ha (kZ (el := 98) (sz := 2) (j := i) ha (zQ (t := 53) (x := 12) (y := 13) (d := 14)) rfl rfl (by kernel_rfl) (by kernel_rfl) (RdE.at_ (hrd.sat hS) _ _ hx9).1 (rfl) (by rw [((hrd.sat hS)).len]; exact (List.getElem?_eq_some_iff.1 hx9).1)) fun a ha => ?_
  refine zY (.agg #[iv x9.1, iv x9.2]) ha (v_loadE (b := bk sd) (f := of_ sd + i * 2) (vs := [iv x9.1, iv x9.2]) ha (zU (t := 98) (x := 14) (d := 15) (ty := 98)) rfl (by kernel_rfl) (fun w' hw o u hu => by rw [hw]; exact (RdE.at_ (hrd.sat hS) _ _ hx9).2 o u hu)) fun a ha => ?_
  replace hS : Sat w0 w ((SX.blk bp [.slice s.A s.n s.c] 30) :: Rs) := hS
  refine jU (o_retF (t := 11) (f := 106) (cap := [ptr bp 0]) ha (by decide) (zK (op := (Op.call { callee := (Callee.value (Operand.tmp 11)), args := #[(Operand.tmp 15)], argTypes := #[98] })) (d := some 16) (ty := 4)) rfl rfl Try.func106 (by kernel_rfl) (kd_sat (x0 := x9.1) (x1 := x9.2) hS hr hf) fun v2 w a hp3 ha => ?_)
  obtain ⟨rfl, hS⟩ := hp3
  refine jW (jQ ?_)
  rcases Bool.eq_false_or_eq_true (!(isFB l x9.1 && isFB l x9.2)) with c4 | c4
  ·
   refine qY ha rfl c4 ?_
   refine wp_seq (jZ [0, 1] (jY [(0, 17, iv (i : Int)), (1, 4, iv (i : Int))] ha fun a ha => ?_))
   refine jW (jQ (wp_ret (in_r (xJ (xJ (in_r (xJ (qG ha (by kernel_rfl) (yX (t := 4) ha rfl) ?_))))))))
   have hb9 : isFB l x9.1 = false ∨ isFB l x9.2 = false := by cases h7 : isFB l x9.1 <;> cases h8 : isFB l x9.2 <;> simp [h7, h8] at c4 ⊢
   exact ⟨_, rfl, by rw [badD_yes hx9 hb9]; exact decide_eq_true (by omega), hS⟩
  refine jH ha rfl c4 ?_
  refine wp_skip (in_n (jQ (jZ [0, 1] (kX 18 ((i : Int) + 1) ha fun a ha => ?_))))
  refine jY [(1, 8, iv ((i : Int) + 1))] ha fun a ha => ?_
  refine jW (jQ ?_)
  have hb9 : (isFB l x9.1 && isFB l x9.2) = true := by simpa using c4
  exact ⟨_, by omega, i + 1, rfl, by omega, allD hx9 hall (Bool.and_eq_true_iff.1 hb9).1 (Bool.and_eq_true_iff.1 hb9).2, ha.keeps [0, 1, 7, 8] _ rfl, hS⟩
 refine jH ha rfl (decide_eq_false c1) ?_
 refine wp_exit (yK (yK (in_x (jQ (wp_seq (jZ [0] (jY [(0, 4, iv (-1))] ha fun a ha => ?_)))))))
 refine jW (jQ (wp_ret (qG ha (by kernel_rfl) (yX (t := 4) ha rfl) ?_)))
 exact ⟨_, rfl, by rw [badD_no hall (by omega)]; decide, hS⟩
theorem code105 : Try.f105.body = some (Code.seq (cr Try.f105 0 false) (Code.seq (cr Try.f105 1 false) Code.ret)) := by kernel_rfl
set_option maxRecDepth 20000 in
set_option maxHeartbeats 1000000 in
theorem conD_sat {w0 w : World} {Rs : List Asn} {s sd : Sl} {l : List (List ST)} {dl : List (Int × Int)} {bp : Nat} (hS : Sat w0 w (SX.blk bp [.slice s.A s.n s.c] 30 :: Rs)) (hr : RdP w0 s l) (hf : Fits l) (hrd : RdE cellsR 2 w0 sd dl) :
  Calls Try.prog 105 #[.slice sd.A sd.n sd.c, .func (.func 106) #[] #[ptr bp 0]] w (Ret fun r w' => r = .bool (badD l dl) ∧ Sat w0 w' (SX.blk bp [.slice s.A s.n s.c] 30 :: Rs)) := by
 refine enter (n := 9) Try.func105 code105 (by kernel_rfl) (Nat.le_of_ble_eq_true rfl) (fun a ha => ?_)
 replace ha : Has 9 [(0, .slice sd.A sd.n sd.c), (1, .func (.func 106) #[] #[ptr bp 0])] a := ha
 refine wp_seq (jZ [0] (jY [(0, 4, .bool false)] ha fun a ha => ?_))
 refine jW (jQ (wp_seq (jZ [0, 1, 2, 3, 4] (jY [(0, 5, .slice sd.A sd.n sd.c), (1, 6, .func (.func 106) #[] #[ptr bp 0])] ha fun a ha => ?_))))
 refine jU (xK 7 (vs := [.slice sd.A sd.n sd.c, .func (.func 106) #[] #[ptr bp 0]]) ha (idxD_sat hS hr hf hrd) fun v1 w a hp2 ha => ?_)
 obtain ⟨kx, rfl, hkx, hS⟩ := hp2
 refine jY [(3, 8, .bool (decide (kx ≥ 0))), (4, 4, .bool (decide (kx ≥ 0)))] ha fun a ha => ?_
 refine jW (jQ (wp_ret (qG ha (by kernel_rfl) (yX (t := 4) ha rfl) ?_)))
 exact ⟨congrArg Value.bool (show (decide (kx ≥ 0)) = badD l dl from hkx), hS⟩
theorem code103 : Try.f103.body = some (Code.seq (cr Try.f103 0 false) (Code.seq (Code.seq (cr Try.f103 1 false) (Code.block 0 (Code.loop (Code.seq (Code.seq (cr Try.f103 2 false) (Code.cond (Operand.tmp 9) Code.skip (Code.exit 0))) (Code.seq (Code.block 1 (Code.seq (cr Try.f103 4 true) (Code.cond (Operand.tmp 29) (Code.seq (cr Try.f103 5 false) Code.ret) Code.skip))) (cr Try.f103 3 false)))))) (Code.seq (cr Try.f103 6 false) Code.ret))) := by kernel_rfl
set_option maxRecDepth 20000 in
set_option maxHeartbeats 1000000 in
theorem deeds_sat0 {w0 : World} {s sd : Sl} {l : List (List ST)} {dl : List (Int × Int)} (hr : RdP w0 s l) (hf : Fits l) (hrd : RdE cellsR 2 w0 sd dl) (hp : programB l = true) :
  Calls Try.prog 103 #[.agg #[.slice s.A s.n s.c], .slice sd.A sd.n sd.c] w0 (Ret fun r w' => r = .bool (deedsB l dl) ∧ Sat w0 w' []) := by
 have hS : Sat w0 w0 [] := Sat.start w0
 have hdl := hrd.len
 have hbig := hrd.big
 refine enter (n := 33) Try.func103 code103 (by kernel_rfl) (Nat.le_of_ble_eq_true rfl) (fun a ha => ?_)
 replace ha : Has 33 [(0, .agg #[.slice s.A s.n s.c]), (1, .slice sd.A sd.n sd.c)] a := ha
 refine wp_seq (jZ [0, 1] (jU (xZ 2 [.slice s.A s.n s.c] 30 (ptr · 0) ha hS fun b1 w a hb2 hS ha => ?_)))
 refine jY [(1, 4, .bool false)] ha fun a ha => ?_
 refine jW (jQ (wp_seq (wp_seq (jZ [0] (jY [(0, 5, iv 0)] ha fun a ha => ?_)))))
 refine jW (jQ (wp_block ?_))
 refine wp_loop_ghost (fun n_ a_ w_ => ∃ (i : Nat), n_ = dl.length - i ∧ (i ≤ dl.length) ∧ (∀ j d, j < i → dl[j]? = some d → (isFB l d.1 && isFB l d.2) = true) ∧ Has 33 [(1, .slice sd.A sd.n sd.c), (2, ptr b1 0), (5, iv (i : Int))] a_ ∧ Sat w0 w_ ((SX.blk b1 [.slice s.A s.n s.c] 30) :: [])) _ ⟨0, rfl, Nat.zero_le _, (fun j d hj => by omega), ha.keeps [1, 2, 5] _ rfl, hS⟩ ?_
 rintro n_ a w ⟨i, rfl, hi, hall, ha, hS⟩
 refine wp_seq (wp_seq (jZ [0, 1, 2, 3] (jY [(0, 6, iv (i : Int)), (1, 7, .slice sd.A sd.n sd.c), (2, 8, iv (sd.n : Int)), (3, 9, .bool (decide ((i : Int) < (sd.n : Int))))] ha fun a ha => ?_)))
 refine jW (jQ ?_)
 by_cases c3 : (i : Int) < (sd.n : Int)
 ·
  have hlt : i < dl.length := by omega
  obtain ⟨x9, hx9⟩ : ∃ x, dl[i]? = some x := ⟨_, List.getElem?_eq_getElem hlt⟩
  refine qY ha rfl (decide_eq_true c3) ?_
  refine wp_skip (jQ (wp_seq (wp_block (wp_seq (xH 18 18 (hS.pickN 1 [0] (by decide) rfl) hS fun w hS => ?_)))))
  refine yY 0 12 ha (hS.pickN 1 [0] (by decide) rfl) (jJ (jK (jJ (jJ (jK (jJ (jX))))))) (fun _ hw => hw.blk 0 rfl) fun a ha => ?_
  refine jV (k := 15) [(1, 13, .slice sd.A sd.n sd.c), (2, 14, iv (i : Int))] ha (.inr (hS.pickN 1 [0] (by decide) rfl)) (jJ (jK (jJ (jJ (jK (jJ (jX))))))) fun a ha => ?_
  refine yV 3 (.pointer (some ⟨bk sd, of_ sd + i * 2, none⟩)) ha (kZ (el := 98) (sz := 2) (j := i) ha (zQ (t := 53) (x := 13) (y := 14) (d := 15)) rfl rfl (by kernel_rfl) (by kernel_rfl) (RdE.at_ (hrd.sat hS) _ _ hx9).1 (rfl) (by rw [((hrd.sat hS)).len]; exact (List.getElem?_eq_some_iff.1 hx9).1)) (.inr (hS.pickN 1 [0] (by decide) rfl)) (jJ (jK (jJ (jJ (jK (jJ (jX))))))) fun a ha => ?_
  refine jV (k := 13) [(4, 16, .pointer (some ⟨bk sd, of_ sd + i * 2, none⟩))] ha (.inr (hS.pickN 1 [0] (by decide) rfl)) (jJ (jK (jJ (jJ (jK (jJ (jX))))))) fun a ha => ?_
  refine kJ 5 (iv x9.1) ha (kQ ha (zU (t := 3) (x := 16) (d := 17) (ty := 3)) rfl (by kernel_rfl) (fun w' hw => by exact (RdE.at_ ((hrd.sat hw)) _ _ hx9).2 0 _ rfl)) (hS.pickN 1 [0] (by decide) rfl) (jJ (jK (jJ (jJ (jK (jJ (jX))))))) fun a ha => ?_
  refine qZ 6 (xK 18 (vs := [.agg #[.slice s.A s.n s.c], iv x9.1]) ha (qF_sat hS (hr.sat hS) hf hp) fun v4 w a hp5 ha => ?_)
  obtain ⟨rfl, hS⟩ := hp5
  refine ⟨.inr (hS.pickN 1 [0] (by decide) rfl), ?_⟩
  refine jV (k := 9) [(7, 19, .bool (!((isFB l x9.1)))), (8, 20, .bool (!((isFB l x9.1))))] ha (.inr (hS.pickN 1 [0] (by decide) rfl)) (jJ (jK (jJ (jJ (jK (jJ (jX))))))) fun a ha => ?_
  rcases Bool.eq_false_or_eq_true (isFB l x9.1) with c6 | c6
  ·
   replace ha := ha.turn 18 (.bool true) rfl (congrArg Value.bool c6)
   replace ha := ha.turn 19 (.bool false) rfl (congrArg Value.bool (yU c6))
   replace ha := ha.turn 20 (.bool false) rfl (congrArg Value.bool (yU c6))
   refine yY 9 21 ha (hS.pickN 1 [0] (by decide) rfl) (jJ (jK (jJ (jJ (jK (jJ (jX))))))) (fun _ hw => hw.blk 0 rfl) fun a ha => ?_
   refine jV (k := 6) [(10, 22, .slice sd.A sd.n sd.c), (11, 23, iv (i : Int))] ha (.inr (hS.pickN 1 [0] (by decide) rfl)) (jJ (jK (jJ (jJ (jK (jJ (jX))))))) fun a ha => ?_
   refine yV 12 (.pointer (some ⟨bk sd, of_ sd + i * 2, none⟩)) ha (kZ (el := 98) (sz := 2) (j := i) ha (AtG.here (gd := 20) ⟨(by kernel_rfl : ((qW Try.f103 4)[12]?).map spec = some ((Op.indexAddr 53 (Operand.tmp 22) (Operand.tmp 23)), some 24, 0, some (8, false))), by kernel_rfl⟩ ha rfl) rfl rfl (by kernel_rfl) (by kernel_rfl) (RdE.at_ (hrd.sat hS) _ _ hx9).1 (rfl) (by rw [((hrd.sat hS)).len]; exact (List.getElem?_eq_some_iff.1 hx9).1)) (.inr (hS.pickN 1 [0] (by decide) rfl)) (jJ (jK (jJ (jJ (jK (jJ (jX))))))) fun a ha => ?_
   refine jV (k := 4) [(13, 25, .pointer (some ⟨bk sd, of_ sd + i * 2 + 1, none⟩))] ha (.inr (hS.pickN 1 [0] (by decide) rfl)) (jJ (jK (jJ (jJ (jK (jJ (jX))))))) fun a ha => ?_
   refine kJ 14 (iv x9.2) ha (kQ ha (AtG.here (gd := 20) ⟨(by kernel_rfl : ((qW Try.f103 4)[14]?).map spec = some ((Op.load 3 (Operand.tmp 25)), some 26, 3, some (8, false))), by kernel_rfl⟩ ha rfl) rfl (by kernel_rfl) (fun w' hw => by exact (RdE.at_ ((hrd.sat hw)) _ _ hx9).2 1 _ rfl)) (hS.pickN 1 [0] (by decide) rfl) (jJ (jK (jJ (jJ (jK (jJ (jX))))))) fun a ha => ?_
   refine qZ 15 (xK 27 (vs := [.agg #[.slice s.A s.n s.c], iv x9.2]) ha (qF_sat hS (hr.sat hS) hf hp) fun v7 w a hp8 ha => ?_)
   obtain ⟨rfl, hS⟩ := hp8
   refine ⟨.inr (hS.pickN 1 [0] (by decide) rfl), ?_⟩
   refine jV (k := 0) [(16, 28, .bool (!((isFB l x9.2)))), (17, 29, .bool (!((isFB l x9.2))))] ha (.inr (hS.pickN 1 [0] (by decide) rfl)) (jJ (jK (jJ (jJ (jK (jJ (jX))))))) fun a ha => ?_
   refine xU (jQ ?_)
   rcases Bool.eq_false_or_eq_true (isFB l x9.2) with c9 | c9
   ·
    refine jH ha rfl (yU c9) ?_
    refine wp_skip (in_n (jQ (jZ [0, 1, 2] (jY [(0, 10, iv (i : Int))] ha fun a ha => ?_))))
    refine kX 11 ((i : Int) + 1) ha fun a ha => ?_
    refine jY [(2, 5, iv ((i : Int) + 1))] ha fun a ha => ?_
    refine jW (jQ ?_)
    exact ⟨_, by omega, i + 1, rfl, by omega, allD hx9 hall c6 c9, ha.keeps [1, 2, 5] _ rfl, hS⟩
   refine qY ha rfl (zH c9) ?_
   refine wp_seq (jZ [0] (jY [(0, 4, .bool false)] ha fun a ha => ?_))
   refine jW (jQ (wp_ret (in_r (xJ (xJ (in_r (xJ (qG ha (by kernel_rfl) (yX (t := 4) ha rfl) ?_))))))))
   have hB : badD l dl = true := badD_yes hx9 (.inr c9)
   have hE : deedsB l dl = false := by unfold deedsB; rw [hB]; simp; try omega
   rw [hE]
   exact ⟨rfl, Sat.rest [_] hS⟩
  replace ha := ha.turn 18 (.bool false) rfl (congrArg Value.bool c6)
  replace ha := ha.turn 19 (.bool true) rfl (congrArg Value.bool (zH c6))
  replace ha := ha.turn 20 (.bool true) rfl (congrArg Value.bool (zH c6))
  refine jV (k := 0) [(9, 21, undef), (10, 22, undef), (11, 23, undef), (12, 24, undef), (13, 25, undef), (14, 26, undef), (15, 27, undef), (16, 28, undef), (17, 29, .bool true)] ha (.inr (hS.pickN 1 [0] (by decide) rfl)) (jJ (jK (jJ (jJ (jK (jJ (jX))))))) fun a ha => ?_
  refine xU (jQ ?_)
  refine qY ha rfl rfl ?_
  refine wp_seq (jZ [0] (jY [(0, 4, .bool false)] ha fun a ha => ?_))
  refine jW (jQ (wp_ret (in_r (xJ (xJ (in_r (xJ (qG ha (by kernel_rfl) (yX (t := 4) ha rfl) ?_))))))))
  have hB : badD l dl = true := badD_yes hx9 (.inl c6)
  have hE : deedsB l dl = false := by unfold deedsB; rw [hB]; simp; try omega
  rw [hE]
  exact ⟨rfl, Sat.rest [_] hS⟩
 refine jH ha rfl (decide_eq_false c3) ?_
 refine wp_exit (yK (yK (in_x (jQ (wp_seq (jZ [0, 1, 2, 3] (jY [(0, 30, .slice sd.A sd.n sd.c), (1, 31, iv (sd.n : Int)), (2, 32, .bool (decide ((sd.n : Int) ≤ 8))), (3, 4, .bool (decide ((sd.n : Int) ≤ 8)))] ha fun a ha => ?_)))))))
 refine jW (jQ (wp_ret (qG ha (by kernel_rfl) (yX (t := 4) ha rfl) ?_)))
 have hB : badD l dl = false := badD_no hall (by omega)
 have hE : deedsB l dl = decide ((sd.n : Int) ≤ 8) := by unfold deedsB; rw [hB]; simp; try omega
 rw [hE]
 exact ⟨rfl, Sat.rest [_] hS⟩
theorem deeds_sat {w0 w : World} {Rs : List Asn} {s sd : Sl} {l : List (List ST)} {dl : List (Int × Int)} (hS : Sat w0 w Rs) (hr : RdP w0 s l) (hf : Fits l) (hrd : RdE cellsR 2 w0 sd dl) (hp : programB l = true) :
  Calls Try.prog 103 #[.agg #[.slice s.A s.n s.c], .slice sd.A sd.n sd.c] w (Ret fun r w' => r = .bool (deedsB l dl) ∧ Sat w0 w' Rs) := lift0 hS (deeds_sat0 (hr.sat hS) hf (hrd.sat hS) hp)
theorem code61 : Try.f61.body = some (Code.seq (cr Try.f61 0 false) (Code.seq (cr Try.f61 1 false) Code.ret)) := by kernel_rfl
set_option maxRecDepth 20000 in
set_option maxHeartbeats 1000000 in
theorem ask8_sat0 {w0 : World} {s sd : Sl} {l : List (List ST)} {dl : List (Int × Int)} {arg fuel : Int} (hr : RdP w0 s l) (hf : Fits l) (hrd : RdE cellsR 2 w0 sd dl) :
  Calls Try.prog 61 #[.agg #[.slice s.A s.n s.c], .slice sd.A sd.n sd.c, .int .i64 arg, .int .i64 fuel] w0 (Ret fun r w' => r = .bool (dOkB l arg fuel dl) ∧ Sat w0 w' []) := by
 have hS : Sat w0 w0 [] := Sat.start w0
 have hdl := hrd.len
 refine enter (n := 18) Try.func61 code61 (by kernel_rfl) (Nat.le_of_ble_eq_true rfl) (fun a ha => ?_)
 replace ha : Has 18 [(0, .agg #[.slice s.A s.n s.c]), (1, .slice sd.A sd.n sd.c), (2, iv arg), (3, iv fuel)] a := ha
 refine wp_seq (jZ [0, 1] (jU (xZ 4 [.slice s.A s.n s.c] 30 (ptr · 0) ha hS fun b1 w a hb2 hS ha => ?_)))
 refine jY [(1, 8, .bool false)] ha fun a ha => ?_
 refine jW (jQ (wp_seq (jZ [0, 1, 2, 3, 4, 5, 6, 7, 8, 9] (zZ 9 ha (hS.blk 0 rfl) fun a ha => ?_))))
 refine jY [(1, 10, iv arg), (2, 11, iv fuel)] ha fun a ha => ?_
 refine jU (xK 12 (vs := [.agg #[.slice s.A s.n s.c], iv 0, iv arg, iv fuel]) ha (ask_sat hS (hr.sat hS) hf) fun v3 w a hp4 ha => ?_)
 obtain ⟨rfl, hS⟩ := hp4
 refine jY [(4, 13, .bool (askB l 0 arg fuel))] ha fun a ha => ?_
 rcases Bool.eq_false_or_eq_true (askB l 0 arg fuel) with c5 | c5
 ·
  replace ha := ha.turn 12 (.bool true) rfl (congrArg Value.bool c5)
  replace ha := ha.turn 13 (.bool true) rfl (congrArg Value.bool c5)
  refine zZ 14 ha (hS.blk 0 rfl) fun a ha => ?_
  refine jY [(6, 15, .slice sd.A sd.n sd.c)] ha fun a ha => ?_
  refine jU (xK 16 (vs := [.agg #[.slice s.A s.n s.c], .slice sd.A sd.n sd.c]) ha (deeds_sat hS hr hf hrd (ask_prog c5)) fun v6 w a hp7 ha => ?_)
  obtain ⟨rfl, hS⟩ := hp7
  refine jY [(8, 17, .bool (deedsB l dl)), (9, 8, .bool (deedsB l dl))] ha fun a ha => ?_
  refine jW (jQ (wp_ret (qG ha (by kernel_rfl) (yX (t := 8) ha rfl) ?_)))
  have hE : dOkB l arg fuel dl = (deedsB l dl) := by unfold dOkB; simp [c5]
  rw [hE]
  exact ⟨rfl, Sat.rest [_] hS⟩
 replace ha := ha.turn 12 (.bool false) rfl (congrArg Value.bool c5)
 replace ha := ha.turn 13 (.bool false) rfl (congrArg Value.bool c5)
 refine jY [(5, 14, undef), (6, 15, undef), (7, 16, undef), (8, 17, .bool false), (9, 8, .bool false)] ha fun a ha => ?_
 refine jW (jQ (wp_ret (qG ha (by kernel_rfl) (yX (t := 8) ha rfl) ?_)))
 have hE : dOkB l arg fuel dl = false := by unfold dOkB; simp [c5]
 rw [hE]
 exact ⟨rfl, Sat.rest [_] hS⟩
theorem ask8_sat {w0 w : World} {Rs : List Asn} {s sd : Sl} {l : List (List ST)} {dl : List (Int × Int)} {arg fuel : Int} (hS : Sat w0 w Rs) (hr : RdP w0 s l) (hf : Fits l) (hrd : RdE cellsR 2 w0 sd dl) :
  Calls Try.prog 61 #[.agg #[.slice s.A s.n s.c], .slice sd.A sd.n sd.c, .int .i64 arg, .int .i64 fuel] w (Ret fun r w' => r = .bool (dOkB l arg fuel dl) ∧ Sat w0 w' Rs) := lift0 hS (ask8_sat0 (hr.sat hS) hf (hrd.sat hS))
theorem code107 : Try.f107.body = some (Code.seq (cr Try.f107 0 false) (Code.seq (cr Try.f107 1 false) Code.ret)) := by kernel_rfl
set_option maxRecDepth 20000 in
set_option maxHeartbeats 1000000 in
theorem backw_sat {w0 w : World} {Rs : List Asn} {o : Sl} (hS : Sat w0 w Rs) :
  Calls Try.prog 107 #[.slice o.A o.n o.c] w (Ret fun r w' => ∃ b9 : Nat, r = .func (.func 137) #[] #[ptr b9 0] ∧ Sat w0 w' (SX.blk b9 [.slice o.A o.n o.c] 36 :: Rs)) := by
 refine enter (n := 4) Try.func107 code107 (by kernel_rfl) (Nat.le_of_ble_eq_true rfl) (fun a ha => ?_)
 replace ha : Has 4 [(0, .slice o.A o.n o.c)] a := ha
 refine wp_seq (jZ [0, 1] (jU (xZ 1 [.slice o.A o.n o.c] 36 (ptr · 0) ha hS fun b1 w a hb2 hS ha => ?_)))
 refine jY [(1, 2, Value.nilFunc)] ha fun a ha => ?_
 refine jW (jQ (wp_seq (jZ [0, 1] (jY [(0, 3, .func (.func 137) #[] #[ptr b1 0]), (1, 2, .func (.func 137) #[] #[ptr b1 0])] ha fun a ha => ?_))))
 refine jW (jQ (wp_ret (qG ha (by kernel_rfl) (yX (t := 2) ha rfl) ?_)))
 exact ⟨b1, rfl, hS⟩
end Go.Proofs.Ytggahaddkoifkaa.G
end
section
namespace Go.Proofs.Ytggahaddkoifkaa.G
open Go.RowKit Go.Proofs.Ytggahaddkoifkaa.SX Go.Proofs.YtggahaddkoifkaaW.PrintWords Go.Proofs.YtggahaddkoifkaaW.PrintLast Go.Proofs.YtggahaddkoifkaaW.PrintMore
set_option linter.unusedVariables false
set_option linter.unusedSimpArgs false
theorem c_ok {l : List (List ST)} {arg fuel : Int} {dl : List (Int × Int)} (h1 : dl.length ≤ 8) (h2 : numB arg = true) (h3 : inB fuel 0 200 = true) (h4 : programB l = true) (h5 : badD l dl = false) : dOkB l arg fuel dl = true := by
 unfold dOkB deedsB; rw [ask0, h2, h3, h4, h5, decide_eq_true h1]; rfl
theorem c_bad {l : List (List ST)} {arg fuel : Int} {dl : List (Int × Int)} (h : 8 < dl.length ∨ numB arg = false ∨ inB fuel 0 200 = false ∨ programB l = false ∨ badD l dl = true) : dOkB l arg fuel dl = false := by
 unfold dOkB deedsB; rw [ask0]
 rcases h with h | h | h | h | h
 · rw [decide_eq_false (show ¬ dl.length ≤ 8 by omega)]; simp
 all_goals simp [h]
theorem code64 : Try.f64.body = some (Code.seq (cr Try.f64 0 false) (Code.seq (Code.seq (cr Try.f64 1 false) (Code.cond (Operand.tmp 42) (Code.seq (cr Try.f64 2 false) Code.ret) Code.skip)) (Code.seq (cr Try.f64 3 false) (Code.seq (Code.seq (cr Try.f64 4 false) (Code.block 0 (Code.loop (Code.seq (cr Try.f64 5 false) (Code.seq (Code.cond (Operand.tmp 49) Code.skip (Code.exit 0)) (Code.seq (Code.block 1 (Code.seq (cr Try.f64 6 false) (Code.seq (cr Try.f64 7 false) (Code.seq (Code.seq (cr Try.f64 8 false) (Code.cond (Operand.tmp 66) (Code.exit 0) Code.skip)) (Code.seq (cr Try.f64 9 false) (Code.seq (cr Try.f64 10 false) (cr Try.f64 11 false))))))) (cr Try.f64 12 false))))))) (Code.seq (Code.seq (cr Try.f64 13 false) (Code.cond (Operand.tmp 87) (Code.seq (cr Try.f64 14 false) Code.ret) Code.skip)) (Code.seq (Code.seq (cr Try.f64 15 false) (Code.block 2 (Code.rangeFunc (Operand.tmp 90) #[91, 92] (Code.seq (cr Try.f64 16 false) (cr Try.f64 17 false)) (Code.block 3 (Code.seq (cr Try.f64 18 true) (Code.seq (cr Try.f64 19 false) (Code.seq (cr Try.f64 20 false) (Code.cond (Operand.tmp 116) (cr Try.f64 21 false) Code.skip)))))))) (Code.seq (cr Try.f64 22 false) Code.ret))))))) := by kernel_rfl
set_option maxRecDepth 20000 in
set_option maxHeartbeats 1000000 in
theorem carryI_sat0 {w0 : World} {s sd : Sl} {l : List (List ST)} {dl : List (Int × Int)} {arg fuel : Int} (hr : RdP w0 s l) (hf : Fits l) (hrd : RdE cellsR 2 w0 sd dl) :
  Calls Try.prog 64 #[.agg #[.slice s.A s.n s.c], .slice sd.A sd.n sd.c, iv arg, iv fuel] w0 (Ret fun r w' => ∃ o1 o2 : Sl, r = .tuple #[.agg #[.int .i64 ((cZ l dl arg fuel).length : Int), .int .i64 (lastZ (cZ l dl arg fuel)), .slice o1.A o1.n o1.c, .slice o2.A o2.n o2.c], .bool (dOkB l arg fuel dl)] ∧ Sat w0 w' (rI o1 (cBk l dl arg fuel) :: rI o2 (cSt l dl arg fuel) :: [])) := by
 have hS : Sat w0 w0 [] := Sat.start w0
 have hdl := hrd.len
 have hbig := hrd.big
 refine enterM (n := 124) Try.func64 code64 (by kernel_rfl) (Nat.le_of_ble_eq_true rfl) (fun a ha => ?_)
 replace ha : Has 124 [(0, .agg #[.slice s.A s.n s.c]), (1, .slice sd.A sd.n sd.c), (2, iv arg), (3, iv fuel)] a := ha
 refine wp_seq ?_
 refine jZ [0, 1, 2, 3, 4] ?_
 refine jU (xZ 4 [.slice s.A s.n s.c] 30 (ptr · 0) ha hS fun b1 w a hb2 hS ha => ?_)
 refine jU (xZ 5 [.slice sd.A sd.n sd.c] 53 (ptr · 0) ha hS fun b3 w a hb4 hS ha => ?_)
 refine jU (xZ 7 [iv fuel] 3 (ptr · 0) ha hS fun b5 w a hb6 hS ha => ?_)
 refine jU (xZ 8 [iv 0, iv 0, .slice none 0 0, .slice none 0 0] 102 (ptr · 0) ha hS fun b7 w a hb8 hS ha => ?_)
 refine jY [(4, 9, .bool false)] ha fun a ha => ?_
 refine jW ?_
 refine jQ ?_
 refine wp_seq ?_
 refine wp_seq ?_
 refine jZ [0, 1, 2, 3, 4, 5, 6, 7, 8, 9, 10, 11, 12, 13, 14, 15, 16, 17, 18, 19, 20, 21, 22] ?_
 refine qK (d := 20) (b := b3) (j := 0) ha (hS.blk 2 rfl) rfl fun a ha => ?_
 refine jY [(1, 21, iv (sd.n : Int)), (2, 22, .bool (decide ((sd.n : Int) > 8))), (3, 23, .bool (decide ((sd.n : Int) > 8)))] ha fun a ha => ?_
 by_cases c9 : (sd.n : Int) > 8
 ·
  replace ha := ha.turn 22 (.bool true) rfl (congrArg Value.bool (decide_eq_true c9))
  replace ha := ha.turn 23 (.bool true) rfl (congrArg Value.bool (decide_eq_true c9))
  refine jY [(4, 24, undef), (5, 25, undef), (6, 26, undef), (7, 27, .bool true), (8, 28, .bool true), (9, 29, undef), (10, 30, undef), (11, 31, undef), (12, 32, .bool true), (13, 33, .bool true), (14, 34, undef), (15, 35, undef), (16, 36, undef), (17, 37, .bool true), (18, 38, .bool true), (19, 39, undef), (20, 40, undef), (21, 41, undef), (22, 42, .bool true)] ha fun a ha => ?_
  refine jW ?_
  replace ha := ha.as [(2, iv arg), (4, ptr b1 0), (5, ptr b3 0), (7, ptr b5 0), (8, ptr b7 0), (9, .bool false), (42, .bool true)] rfl
  refine jQ ?_
  refine qY ha rfl rfl ?_
  refine wp_seq ?_
  refine jZ [0, 1, 2] ?_
  refine jY [(0, 43, .agg #[iv 0, iv 0, .slice none 0 0, .slice none 0 0])] ha fun a ha => ?_
  refine jU (jG 0 ha (xV (t := 102) (x := 8) (y := 43)) rfl rfl rfl (by kernel_rfl) hS rfl (Nat.le_of_ble_eq_true rfl) rfl fun w a hS ha => ?_)
  refine jY [(2, 9, .bool false)] ha fun a ha => ?_
  refine jW ?_
  refine jQ ?_
  refine wp_ret ?_
  refine xJ ?_
  refine endM_res2 ha (by kernel_rfl) (yJ (t := 8) (ty := 102) (i := 0) ha rfl hS rfl (by kernel_rfl)) (yX (t := 9) ha rfl) ?_
  have hO := c_bad (l := l) (arg := arg) (fuel := fuel) (dl := dl) (.inl (by omega))
  obtain ⟨q1, q2, q3⟩ := c_no hO
  rw [q1, q2, q3, hO]
  exact ⟨⟨none, 0, 0⟩, ⟨none, 0, 0⟩, rfl, Sat.nilRow (Sat.nilRow (Sat.rest [_, _, _, _] hS))⟩
 ·
  replace ha := ha.turn 22 (.bool false) rfl (congrArg Value.bool (decide_eq_false c9))
  replace ha := ha.turn 23 (.bool false) rfl (congrArg Value.bool (decide_eq_false c9))
  refine jY [(4, 24, iv arg)] ha fun a ha => ?_
  refine jU (xK 25 (vs := [iv arg]) ha (num_sat hS _) fun v10 w a hp11 ha => ?_)
  obtain ⟨rfl, hS⟩ := hp11
  refine jY [(6, 26, .bool (!((numB arg)))), (7, 27, .bool (!((numB arg)))), (8, 28, .bool (!((numB arg))))] ha fun a ha => ?_
  rcases Bool.eq_false_or_eq_true (numB arg) with c12 | c12
  ·
   replace ha := ha.turn 25 (.bool true) rfl (congrArg Value.bool c12)
   replace ha := ha.turn 26 (.bool false) rfl (congrArg Value.bool (yU c12))
   replace ha := ha.turn 27 (.bool false) rfl (congrArg Value.bool (yU c12))
   replace ha := ha.turn 28 (.bool false) rfl (congrArg Value.bool (yU c12))
   refine qK (d := 29) (b := b5) (j := 0) ha (hS.blk 1 rfl) rfl fun a ha => ?_
   refine jU (xK 30 (vs := [iv fuel, iv 0, iv 200]) ha (in_sat hS _ _ _) fun v13 w a hp14 ha => ?_)
   obtain ⟨rfl, hS⟩ := hp14
   refine jY [(11, 31, .bool (!((inB fuel 0 200)))), (12, 32, .bool (!((inB fuel 0 200)))), (13, 33, .bool (!((inB fuel 0 200))))] ha fun a ha => ?_
   rcases Bool.eq_false_or_eq_true (inB fuel 0 200) with c15 | c15
   ·
    replace ha := ha.turn 30 (.bool true) rfl (congrArg Value.bool c15)
    replace ha := ha.turn 31 (.bool false) rfl (congrArg Value.bool (yU c15))
    replace ha := ha.turn 32 (.bool false) rfl (congrArg Value.bool (yU c15))
    replace ha := ha.turn 33 (.bool false) rfl (congrArg Value.bool (yU c15))
    refine zZ 34 ha (hS.blk 3 rfl) fun a ha => ?_
    refine jU (xK 35 (vs := [.agg #[.slice s.A s.n s.c]]) ha (ipr_sat hS (hr.sat hS)) fun v16 w a hp17 ha => ?_)
    obtain ⟨rfl, hS⟩ := hp17
    refine jY [(16, 36, .bool (!((programB l)))), (17, 37, .bool (!((programB l)))), (18, 38, .bool (!((programB l))))] ha fun a ha => ?_
    rcases Bool.eq_false_or_eq_true (programB l) with c18 | c18
    ·
     replace ha := ha.turn 35 (.bool true) rfl (congrArg Value.bool c18)
     replace ha := ha.turn 36 (.bool false) rfl (congrArg Value.bool (yU c18))
     replace ha := ha.turn 37 (.bool false) rfl (congrArg Value.bool (yU c18))
     replace ha := ha.turn 38 (.bool false) rfl (congrArg Value.bool (yU c18))
     refine qK (d := 39) (b := b3) (j := 0) ha (hS.blk 2 rfl) rfl fun a ha => ?_
     refine jY [(20, 40, .func (.func 106) #[] #[ptr b1 0])] ha fun a ha => ?_
     replace hS : Sat w0 w ((SX.blk b1 [.slice s.A s.n s.c] 30) :: (SX.blk b7 [iv 0, iv 0, .slice none 0 0, .slice none 0 0] 102) :: (SX.blk b5 [iv fuel] 3) :: (SX.blk b3 [.slice sd.A sd.n sd.c] 53) :: []) := hS.pickN 4 [3, 0, 1, 2] (by decide) rfl
     refine jU (xK 41 (vs := [.slice sd.A sd.n sd.c, .func (.func 106) #[] #[ptr b1 0]]) ha (conD_sat hS hr hf hrd) fun v19 w a hp20 ha => ?_)
     obtain ⟨rfl, hS⟩ := hp20
     refine jY [(22, 42, .bool (badD l dl))] ha fun a ha => ?_
     refine jW ?_
     replace ha := ha.as [(2, iv arg), (4, ptr b1 0), (5, ptr b3 0), (7, ptr b5 0), (8, ptr b7 0), (9, .bool false), (42, .bool (badD l dl))] rfl
     refine jQ ?_
     rcases Bool.eq_false_or_eq_true (badD l dl) with c21 | c21
     ·
      refine qY ha rfl c21 ?_
      refine wp_seq ?_
      refine jZ [0, 1, 2] ?_
      refine jY [(0, 43, .agg #[iv 0, iv 0, .slice none 0 0, .slice none 0 0])] ha fun a ha => ?_
      refine jU (jG 1 ha (xV (t := 102) (x := 8) (y := 43)) rfl rfl rfl (by kernel_rfl) hS rfl (Nat.le_of_ble_eq_true rfl) rfl fun w a hS ha => ?_)
      refine jY [(2, 9, .bool false)] ha fun a ha => ?_
      refine jW ?_
      refine jQ ?_
      refine wp_ret ?_
      refine xJ ?_
      refine endM_res2 ha (by kernel_rfl) (yJ (t := 8) (ty := 102) (i := 1) ha rfl hS rfl (by kernel_rfl)) (yX (t := 9) ha rfl) ?_
      have hO := c_bad (l := l) (arg := arg) (fuel := fuel) (dl := dl) (.inr (.inr (.inr (.inr c21))))
      obtain ⟨q1, q2, q3⟩ := c_no hO
      rw [q1, q2, q3, hO]
      exact ⟨⟨none, 0, 0⟩, ⟨none, 0, 0⟩, rfl, Sat.nilRow (Sat.nilRow (Sat.rest [_, _, _, _] hS))⟩
     ·
      refine jH ha rfl c21 ?_
      refine wp_skip ?_
      refine jQ ?_
      refine wp_seq ?_
      refine jZ [0, 1, 2, 3, 4] ?_
      refine jY [(0, 44, .agg #[iv 0, iv 0, .slice none 0 0, .slice none 0 0])] ha fun a ha => ?_
      refine jU (xZ 45 [] 3 (fun b => .slice (some ⟨b, 0, none⟩) 0 0) ha hS fun b22 w a hb23 hS ha => ?_)
      refine jU (xZ 10 [iv 0, iv 0, .slice none 0 0, .slice none 0 0] 102 (ptr · 0) ha hS fun b24 w a hb25 hS ha => ?_)
      refine jU (jG 0 ha (xV (t := 102) (x := 10) (y := 44)) rfl rfl rfl (by kernel_rfl) hS rfl (Nat.le_of_ble_eq_true rfl) rfl fun w a hS ha => ?_)
      refine jY [(4, 11, .slice (some ⟨b22, 0, none⟩) 0 0)] ha fun a ha => ?_
      refine jW ?_
      refine jQ ?_
      refine wp_seq ?_
      refine wp_seq ?_
      refine jZ [0, 1, 2] ?_
      refine qK (d := 46) (b := b3) (j := 0) ha (hS.blk 5 rfl) rfl fun a ha => ?_
      refine jY [(1, 47, iv (sd.n : Int)), (2, 48, iv 0)] ha fun a ha => ?_
      refine jW ?_
      refine jQ ?_
      refine wp_block ?_
      have hO : dOkB l arg fuel dl = true := c_ok (by omega) c12 c15 c18 c21
      have hl8 := (dOk_parts hO).2.2.2.2
      replace hS := hS.blk0 1 1 rfl
      replace hS : Sat w0 w ((SX.blk b24 [iv 0, iv 0, .slice none 0 0, .slice none 0 0] 102) :: (rI (⟨some ⟨b22, 0, none⟩, 0, 0⟩ : Sl) []) :: (SX.blk b1 [.slice s.A s.n s.c] 30) :: (SX.blk b3 [.slice sd.A sd.n sd.c] 53) :: (SX.blk b5 [iv fuel] 3) :: (SX.blk b7 [iv 0, iv 0, .slice none 0 0, .slice none 0 0] 102) :: []) := hS.pickN 6 [0, 1, 2, 5, 4, 3] (by decide) rfl
      refine wp_loop_ghost (fun n_ a_ w_ => ∃ (i : Nat) (rs : List Int) (av : Int) (lv : Int) (orr : Sl), n_ = dl.length - i ∧ (i ≤ dl.length) ∧ (rs.length = i) ∧ (numB av = true) ∧ (rs ++ cRes l fuel av (dl.drop i) = cRes l fuel arg dl) ∧ (lv = lastZ rs) ∧ (∀ x ∈ rs, numB x = true) ∧ Has 124 [(4, ptr b1 0), (5, ptr b3 0), (7, ptr b5 0), (8, ptr b7 0), (10, ptr b24 0), (46, .slice sd.A sd.n sd.c), (47, iv (sd.n : Int)), (2, iv av), (11, .slice orr.A orr.n orr.c), (48, iv (i : Int))] a_ ∧ Sat w0 w_ ((SX.blk b24 [iv (i : Int), iv lv, .slice none 0 0, .slice none 0 0] 102) :: (rI orr rs) :: (SX.blk b1 [.slice s.A s.n s.c] 30) :: (SX.blk b3 [.slice sd.A sd.n sd.c] 53) :: (SX.blk b5 [iv fuel] 3) :: (SX.blk b7 [iv 0, iv 0, .slice none 0 0, .slice none 0 0] 102) :: [])) _ ⟨0, [], arg, 0, ⟨some ⟨b22, 0, none⟩, 0, 0⟩, rfl, Nat.zero_le _, rfl, c12, rfl, rfl, (fun x hx => by cases hx), ha.keeps [4, 5, 7, 8, 10, 46, 47, 2, 11, 48] _ rfl, hS⟩ ?_
      -- the loop's round
      rintro n_ a w ⟨i, rs, av, lv, orr, rfl, hi, hrl, hnum, hres, hlv, hnrs, ha, hS⟩
      refine wp_seq ?_
      refine jZ [0] ?_
      refine jY [(0, 49, .bool (decide ((i : Int) < (sd.n : Int))))] ha fun a ha => ?_
      refine jW ?_
      refine jQ ?_
      refine wp_seq ?_
      by_cases c26 : (i : Int) < (sd.n : Int)
      ·
       have hlt : i < dl.length := by omega
       obtain ⟨x9, hx9⟩ : ∃ x, dl[i]? = some x := ⟨_, List.getElem?_eq_getElem hlt⟩
       have hask1 := (carry_ask hO hx9 hnum).1
       refine qY ha rfl (decide_eq_true c26) ?_
       refine wp_skip ?_
       refine jQ ?_
       refine wp_seq ?_
       refine wp_block ?_
       refine wp_seq ?_
       refine jZ [0, 1, 2, 3] ?_
       refine zY (.pointer (some ⟨bk sd, of_ sd + i * 2, none⟩)) ha (kZ (el := 98) (sz := 2) (j := i) ha (zQ (t := 53) (x := 46) (y := 48) (d := 50)) rfl rfl (by kernel_rfl) (by kernel_rfl) (RdE.at_ (hrd.sat hS) _ _ hx9).1 (rfl) (by rw [((hrd.sat hS)).len]; exact (List.getElem?_eq_some_iff.1 hx9).1)) fun a ha => ?_
       refine zY (.agg #[iv x9.1, iv x9.2]) ha (v_loadE (b := bk sd) (f := of_ sd + i * 2) (vs := [iv x9.1, iv x9.2]) ha (zU (t := 98) (x := 50) (d := 51) (ty := 98)) rfl (by kernel_rfl) (fun w' hw o u hu => by rw [hw]; exact (RdE.at_ (hrd.sat hS) _ _ hx9).2 o u hu)) fun a ha => ?_
       refine jU (xZ 13 [iv 0, iv 0] 98 (ptr · 0) ha hS fun b27 w a hb28 hS ha => ?_)
       refine jU (jG 0 ha (xV (t := 98) (x := 13) (y := 51)) rfl rfl rfl (by kernel_rfl) hS rfl (Nat.le_of_ble_eq_true rfl) rfl fun w a hS ha => ?_)
       refine jW ?_
       refine jQ ?_
       refine wp_seq ?_
       refine jZ [0, 1, 2, 3, 4, 5, 6, 7, 8, 9, 10] ?_
       refine zZ 53 ha (hS.blk 3 rfl) fun a ha => ?_
       refine jY [(1, 54, ptr b27 0)] ha fun a ha => ?_
       refine qK (d := 55) (b := b27) (j := 0) ha (hS.blk 0 rfl) rfl fun a ha => ?_
       refine jY [(3, 56, iv av)] ha fun a ha => ?_
       refine qK (d := 57) (b := b5) (j := 0) ha (hS.blk 5 rfl) rfl fun a ha => ?_
       refine jU (xK 58 (vs := [.agg #[.slice s.A s.n s.c], iv x9.1, iv av, iv fuel]) ha (ran_sat hS (hr.sat hS) hask1) fun v29 w a hp30 ha => ?_)
       obtain ⟨bm1, rfl, hS⟩ := hp30
       obtain ⟨ms1, hms1, hS⟩ := Sat.openMO hS
       replace hS : Sat w0 w ((MO bm1 s fuel ((rn l x9.1 av fuel).m.made) ((rn l x9.1 av fuel).m.shared) ((rn l x9.1 av fuel).m.depth) ((rn l x9.1 av fuel).m.deepest) ms1.tr ms1.ow ms1.ca ms1.pa ms1.re ms1.bp ((rn l x9.1 av fuel).k) ((rn l x9.1 av fuel).v)) :: (rE ms1.tr ((rn l x9.1 av fuel).m.trace)) :: (rI ms1.ow ((rn l x9.1 av fuel).m.owners)) :: (rC ms1.ca ((rn l x9.1 av fuel).m.calls)) :: (rP ms1.pa ms1.us) :: (qQ (xX ms1.us)) :: (rV ms1.re ((rn l x9.1 av fuel).m.recs)) :: (xY ms1.bp (rn l x9.1 av fuel).m.places) :: (SX.blk b27 [iv x9.1, iv x9.2] 98) :: (SX.blk b24 [iv (i : Int), iv lv, .slice none 0 0, .slice none 0 0] 102) :: (rI orr rs) :: (SX.blk b1 [.slice s.A s.n s.c] 30) :: (SX.blk b3 [.slice sd.A sd.n sd.c] 53) :: (SX.blk b5 [iv fuel] 3) :: (SX.blk b7 [iv 0, iv 0, .slice none 0 0, .slice none 0 0] 102) :: []) := hS
       refine jY [(6, 52, .tuple #[ptr bm1 0, .bool true]), (7, 59, ptr bm1 0), (8, 60, .bool true), (9, 14, ptr bm1 0), (10, 15, .bool true)] ha fun a ha => ?_
       refine jW ?_
       refine jQ ?_
       refine wp_seq ?_
       refine wp_seq ?_
       refine jZ [0, 1, 2, 3, 4, 5] ?_
       refine jY [(0, 61, ptr bm1 0), (1, 62, ptr bm1 0), (2, 63, ptr bm1 12), (3, 64, ptr bm1 12)] ha fun a ha => ?_
       refine qK (d := 65) (b := bm1) (j := 12) ha (hS.blk 0 rfl) rfl fun a ha => ?_
       refine jY [(5, 66, .bool (!(decide (((rn l x9.1 av fuel).k) = 1))))] ha fun a ha => ?_
       refine jW ?_
       refine jQ ?_
       by_cases c31 : ((rn l x9.1 av fuel).k) = 1
       ·
        refine jH ha rfl (yU (decide_eq_true c31)) ?_
        refine wp_skip ?_
        refine jQ ?_
        refine wp_seq ?_
        refine jZ [0, 1, 2, 3, 4, 5] ?_
        refine jY [(0, 67, ptr bm1 0), (1, 68, ptr bm1 0), (2, 69, ptr bm1 12), (3, 70, ptr bm1 13)] ha fun a ha => ?_
        refine qK (d := 71) (b := bm1) (j := 13) ha (hS.blk 0 rfl) rfl fun a ha => ?_
        refine jY [(5, 2, iv ((rn l x9.1 av fuel).v))] ha fun a ha => ?_
        refine jW ?_
        refine jQ ?_
        refine wp_seq ?_
        refine jZ [0, 1, 2, 3, 4] ?_
        refine jY [(0, 72, .slice orr.A orr.n orr.c), (1, 73, iv ((rn l x9.1 av fuel).v))] ha fun a ha => ?_
        refine jU (xZ 74 [iv ((rn l x9.1 av fuel).v)] 3 (fun b => .slice (some ⟨b, 0, none⟩) 1 1) ha hS fun b32 w a hb33 hS ha => ?_)
        refine jU (kK (news := [iv ((rn l x9.1 av fuel).v)]) (z := iv 0) (sz := 1) (bytes := 8) (T2 := 3) (xs' := encI (rs ++ [(rn l x9.1 av fuel).v])) 11 0 ha (by decide) (zK (op := (Op.call { callee := (Callee.builtin Builtin.append), args := #[(Operand.tmp 72), (Operand.tmp 74)], argTypes := #[36, 36] })) (d := some 75) (ty := 36)) rfl rfl (by kernel_rfl) (by kernel_rfl) rfl (by decide) hS rfl rfl (by simp) rfl (by rw [encI_length]; simp only [List.length_cons, List.length_nil]; omega) (by decide) (encI_snoc _ _) fun s37 w a hS hn38 ha => ?_)
        refine jY [(4, 11, .slice s37.A s37.n s37.c)] ha fun a ha => ?_
        refine jW ?_
        refine jQ ?_
        refine jZ [0, 1, 2, 3, 4, 5, 6, 7] ?_
        refine jY [(0, 76, ptr b24 0)] ha fun a ha => ?_
        refine qK (d := 77) (b := b24) (j := 0) ha (hS.blk 10 rfl) rfl fun a ha => ?_
        refine kX 78 ((i : Int) + 1) ha fun a ha => ?_
        refine jY [(3, 79, iv ((rn l x9.1 av fuel).v)), (4, 80, ptr b24 0)] ha fun a ha => ?_
        refine jU (xG b24 0 (iv ((i : Int) + 1)) 10 ha hS rfl rfl fun w a hS ha => ?_)
        refine jY [(6, 81, ptr b24 1)] ha fun a ha => ?_
        refine jU (xG b24 1 (iv ((rn l x9.1 av fuel).v)) 10 ha hS rfl rfl fun w a hS ha => ?_)
        refine jW ?_
        refine in_n ?_
        refine jQ ?_
        refine jZ [0, 1] ?_
        refine kX 82 ((i : Int) + 1) ha fun a ha => ?_
        refine jY [(1, 48, iv ((i : Int) + 1))] ha fun a ha => ?_
        refine jW ?_
        refine jQ ?_
        replace hS : Sat w0 w ((SX.blk b24 [iv ((i : Int) + 1), iv ((rn l x9.1 av fuel).v), .slice none 0 0, .slice none 0 0] 102) :: (rI s37 (rs ++ [(rn l x9.1 av fuel).v])) :: (SX.blk b1 [.slice s.A s.n s.c] 30) :: (SX.blk b3 [.slice sd.A sd.n sd.c] 53) :: (SX.blk b5 [iv fuel] 3) :: (SX.blk b7 [iv 0, iv 0, .slice none 0 0, .slice none 0 0] 102) :: []) := hS.pickN 16 [10, 11, 12, 13, 14, 15] (by decide) rfl
        exact ⟨_, by omega, i + 1, rs ++ [(rn l x9.1 av fuel).v], (rn l x9.1 av fuel).v, (rn l x9.1 av fuel).v, s37, rfl, by omega, by rw [List.length_append, hrl]; rfl, rn_num hask1, cRes_next hx9 hres c31, (lastZ_app _ _).symm, (fun x hx => (List.mem_append.1 hx).elim (hnrs x) (fun hx => by rw [List.mem_singleton.1 hx]; exact rn_num hask1)), ha.keeps [4, 5, 7, 8, 10, 46, 47, 2, 11, 48] _ rfl, hS⟩
       ·
        refine qY ha rfl (zH (decide_eq_false c31)) ?_
        refine wp_exit ?_
        refine yK ?_
        refine in_xo (by decide) ?_
        refine yK ?_
        refine yK ?_
        refine in_x ?_
        refine jQ ?_
        refine wp_seq ?_
        refine wp_seq ?_
        refine jZ [0, 1, 2, 3, 4] ?_
        refine jY [(0, 83, ptr b24 0)] ha fun a ha => ?_
        refine qK (d := 84) (b := b24) (j := 0) ha (hS.blk 9 rfl) rfl fun a ha => ?_
        refine qK (d := 85) (b := b3) (j := 0) ha (hS.blk 12 rfl) rfl fun a ha => ?_
        refine jY [(3, 86, iv (sd.n : Int)), (4, 87, .bool (decide ((i : Int) = (sd.n : Int))))] ha fun a ha => ?_
        refine jW ?_
        replace ha := ha.as [(4, ptr b1 0), (5, ptr b3 0), (7, ptr b5 0), (8, ptr b7 0), (10, ptr b24 0), (11, .slice orr.A orr.n orr.c), (87, .bool (decide ((i : Int) = (sd.n : Int))))] rfl
        refine jQ ?_
        by_cases c39 : (i : Int) = (sd.n : Int)
        ·
         exfalso; omega
        ·
         refine jH ha rfl (decide_eq_false c39) ?_
         refine wp_skip ?_
         refine jQ ?_
         refine wp_seq ?_
         refine wp_seq ?_
         refine jZ [0, 1] ?_
         refine jY [(0, 89, .slice orr.A orr.n orr.c)] ha fun a ha => ?_
         refine jU (xK 90 (vs := [.slice orr.A orr.n orr.c]) ha (backw_sat hS) fun v40 w a hp41 ha => ?_)
         obtain ⟨b9, rfl, hS⟩ := hp41
         refine jW ?_
         refine jQ ?_
         refine wp_block ?_
         replace hS : Sat w0 w ((SX.blk b24 [iv (i : Int), iv lv, .slice none 0 0, .slice none 0 0] 102) :: (rI orr rs) :: (SX.blk b9 [.slice orr.A orr.n orr.c] 36) :: (SX.blk b1 [.slice s.A s.n s.c] 30) :: (SX.blk b3 [.slice sd.A sd.n sd.c] 53) :: (SX.blk b5 [iv fuel] 3) :: (SX.blk b7 [iv 0, iv 0, .slice none 0 0, .slice none 0 0] 102) :: []) := hS.pickN 16 [10, 11, 0, 12, 13, 14, 15] (by decide) rfl
         have hne : ¬ rs.length = dl.length := by omega
         have hZ := cRes_stop hx9 hres c31
         have hnr : ∀ j (v : Int), rs[j]? = some v → numB v = true := fun j v h => hnrs v (List.mem_of_getElem? h)
         replace hS := (Sat.nilRow (T := 3) (sz := 1) (Sat.nilRow (T := 3) (sz := 1) hS)).pickN 9 [2, 0, 1, 3, 4, 5, 6, 7, 8] (by decide) rfl
         refine c_range (J := fun (pre : List (At2 rs)) Rs_ => ∃ (kb : List Int) (ks : List Int) (ok : Sl) (ol : Sl), (kb = bkF ((pre).map Subtype.val)) ∧ (ks = stF l fuel dl ((pre).map Subtype.val)) ∧ (kb.length = (pre).length ∧ ks.length ≤ (pre).length) ∧ Rs_ = ((SX.blk b24 [iv (i : Int), iv lv, .slice ok.A ok.n ok.c, .slice ol.A ol.n ol.c] 102) :: (rI ok kb) :: (rI ol ks) :: (rI orr rs) :: (SX.blk b9 [.slice orr.A orr.n orr.c] 36) :: (SX.blk b1 [.slice s.A s.n s.c] 30) :: (SX.blk b3 [.slice sd.A sd.n sd.c] 53) :: (SX.blk b5 [iv fuel] 3) :: (SX.blk b7 [iv 0, iv 0, .slice none 0 0, .slice none 0 0] 102) :: [])) (f1 := fun x : At2 rs => iv (x.1.1 : Int)) (f2 := fun x : At2 rs => iv x.1.2) (ex := fun x : At2 rs => [(16, iv (x.1.1 : Int)), (17, iv x.1.2), (4, ptr b1 0), (5, ptr b3 0), (7, ptr b5 0), (10, ptr b24 0)]) ha rfl (enters_of Try.func137 (by kernel_rfl) rfl) rfl ⟨[], [], ⟨none, 0, 0⟩, ⟨none, 0, 0⟩, rfl, rfl, ⟨rfl, Nat.le_refl _⟩, rfl⟩ hS (fun pre Rs_ hJ R hR => by obtain ⟨kb, ks, ok, ol, hkb, hks, hkl, rfl⟩ := hJ; simp only [List.mem_cons, List.not_mem_nil, or_false] at hR; rcases hR with rfl | rfl | rfl | rfl | rfl | rfl | rfl | rfl | rfl <;> first | exact cellar_blk | exact cellar_row) (back_sat (s := orr) (zs := rs) hS 4 3 rfl rfl (by omega)) (fun pre Rs_ A B hJ hS => by obtain ⟨kb, ks, ok, ol, hkb, hks, hkl, rfl⟩ := hJ; exact KpB.sat (s := orr) (zs := rs) hS 4 3 rfl rfl) KpB.trans KpB.refl (fun W l o o' _ h ho _ => KpB.put W l o o' h ho) ?_ ?_ ?_
         ·
          rintro _ x a w K ha hK
          refine wpIn_seq ?_
          refine r_begin [0] (no_then (no_asg)) ?_
          refine jY [(0, 16, iv (x.1.1 : Int))] ha fun a ha => ?_
          refine jW ?_
          refine jQ ?_
          refine r_begin [0] (no_asg) ?_
          refine jY [(0, 17, iv x.1.2)] ha fun a ha => ?_
          refine jW ?_
          exact hK _ (ha.keeps [16, 17, 4, 5, 7, 10] _ rfl)
         ·
          rintro _ pre ⟨⟨j, v⟩, hjv⟩ a w X _ hN ⟨kb, ks, ok, ol, hkb, hks, hkl, rfl⟩ hS ha
          replace ha : Has 124 [(16, iv (j : Int)), (17, iv v), (4, ptr b1 0), (5, ptr b3 0), (7, ptr b5 0), (10, ptr b24 0)] a := ha
          have hjl := (List.getElem?_eq_some_iff.1 hjv).1
          obtain ⟨d9, hd9⟩ : ∃ x, dl[j]? = some x := ⟨_, List.getElem?_eq_getElem (by omega)⟩
          have hask9 := (carry_ask hO hd9 (hnr j v hjv)).2
          refine wpIn_block ?_
          refine wpIn_seq ?_
          refine r_start 8 14 (no_then (no_in (no_rnd))) hS fun w hS => ?_
          refine yY 0 94 ha hS (jJ (jK (pk_rnd))) (fun _ hw => hw.blk 6 rfl) fun a ha => ?_
          refine d_ldN 1 (d := 95) (b := b3) (j := 0) ha hS (jJ (jK (pk_rnd))) (fun _ hw => hw.blk 7 rfl) rfl fun a ha => ?_
          refine jV (k := 11) [(2, 96, iv (j : Int))] ha (.inr hS) (jJ (jK (pk_rnd))) fun a ha => ?_
          refine yV 3 (.pointer (some ⟨bk sd, of_ sd + j * 2, none⟩)) ha (kZ (el := 98) (sz := 2) (j := j) ha (zQ (t := 53) (x := 95) (y := 96) (d := 97)) rfl rfl (by kernel_rfl) (by kernel_rfl) (RdE.at_ (hrd.sat hS) _ _ hd9).1 (rfl) (by rw [((hrd.sat hS)).len]; exact (List.getElem?_eq_some_iff.1 hd9).1)) (.inr hS) (jJ (jK (pk_rnd))) fun a ha => ?_
          refine jV (k := 9) [(4, 98, .pointer (some ⟨bk sd, of_ sd + j * 2 + 1, none⟩))] ha (.inr hS) (jJ (jK (pk_rnd))) fun a ha => ?_
          refine kJ 5 (iv d9.2) ha (kQ ha (zU (t := 3) (x := 98) (d := 99) (ty := 3)) rfl (by kernel_rfl) (fun w' hw => by exact (RdE.at_ ((hrd.sat hw)) _ _ hd9).2 1 _ rfl)) hS (jJ (jK (pk_rnd))) fun a ha => ?_
          refine jV (k := 7) [(6, 100, iv v)] ha (.inr hS) (jJ (jK (pk_rnd))) fun a ha => ?_
          refine xQ 7 (d := 101) (b := b5) (j := 0) ha hS (jJ (jK (pk_rnd))) (fun _ hw => hw.blk 8 rfl) rfl fun a ha => ?_
          refine qZ 8 (xK 102 (vs := [.agg #[.slice s.A s.n s.c], iv d9.2, iv v, iv fuel]) ha (ran_sat hS (hr.sat hS) hask9) fun v42 w a hp43 ha => ?_)
          obtain ⟨bm2, rfl, hS⟩ := hp43
          obtain ⟨ms2, hms2, hS⟩ := Sat.openMO hS
          replace hS : Sat w0 w ((MO bm2 s fuel ((rn l d9.2 v fuel).m.made) ((rn l d9.2 v fuel).m.shared) ((rn l d9.2 v fuel).m.depth) ((rn l d9.2 v fuel).m.deepest) ms2.tr ms2.ow ms2.ca ms2.pa ms2.re ms2.bp ((rn l d9.2 v fuel).k) ((rn l d9.2 v fuel).v)) :: (rE ms2.tr ((rn l d9.2 v fuel).m.trace)) :: (rI ms2.ow ((rn l d9.2 v fuel).m.owners)) :: (rC ms2.ca ((rn l d9.2 v fuel).m.calls)) :: (rP ms2.pa ms2.us) :: (qQ (xX ms2.us)) :: (rV ms2.re ((rn l d9.2 v fuel).m.recs)) :: (xY ms2.bp (rn l d9.2 v fuel).m.places) :: X :: (SX.blk b24 [iv (i : Int), iv lv, .slice ok.A ok.n ok.c, .slice ol.A ol.n ol.c] 102) :: (rI ok kb) :: (rI ol ks) :: (rI orr rs) :: (SX.blk b9 [.slice orr.A orr.n orr.c] 36) :: (SX.blk b1 [.slice s.A s.n s.c] 30) :: (SX.blk b3 [.slice sd.A sd.n sd.c] 53) :: (SX.blk b5 [iv fuel] 3) :: (SX.blk b7 [iv 0, iv 0, .slice none 0 0, .slice none 0 0] 102) :: []) := hS
          refine xW ?_
          refine jV (k := 0) [(9, 93, .tuple #[ptr bm2 0, .bool true]), (10, 103, ptr bm2 0), (11, 104, .bool true), (12, 18, ptr bm2 0), (13, 19, .bool true)] ha (.inl (by kernel_rfl)) (jJ (jK (pk_rnd))) fun a ha => ?_
          refine xU ?_
          refine jQ ?_
          refine wpIn_seq ?_
          refine r_begin [0, 1, 2, 3, 4, 5, 6] (no_then (no_in (no_rnd))) ?_
          refine jY [(0, 105, ptr b24 2)] ha fun a ha => ?_
          refine qK (d := 106) (b := b24) (j := 2) ha (hS.blk 9 rfl) rfl fun a ha => ?_
          refine jY [(2, 107, iv (j : Int))] ha fun a ha => ?_
          refine jU (xZ 108 [iv (j : Int)] 3 (fun b => .slice (some ⟨b, 0, none⟩) 1 1) ha hS fun b44 w a hb45 hS ha => ?_)
          refine jU (kK (news := [iv (j : Int)]) (z := iv 0) (sz := 1) (bytes := 8) (T2 := 3) (xs' := encI (kb ++ [(j : Int)])) 11 0 ha (by decide) (zK (op := (Op.call { callee := (Callee.builtin Builtin.append), args := #[(Operand.tmp 106), (Operand.tmp 108)], argTypes := #[36, 36] })) (d := some 109) (ty := 36)) rfl rfl (by kernel_rfl) (by kernel_rfl) rfl (by decide) hS rfl rfl (by simp) rfl (by rw [encI_length]; simp only [List.length_cons, List.length_nil]; omega) (by decide) (encI_snoc _ _) fun s49 w a hS hn50 ha => ?_)
          refine jY [(5, 110, ptr b24 2)] ha fun a ha => ?_
          refine jU (xG b24 2 (.slice s49.A s49.n s49.c) 10 ha hS rfl rfl fun w a hS ha => ?_)
          refine jW ?_
          replace ha := ha.as [(16, iv (j : Int)), (10, ptr b24 0), (18, ptr bm2 0)] rfl
          refine jQ ?_
          refine wpIn_seq ?_
          refine r_begin [0, 1, 2, 3, 4, 5] (no_then (no_in (no_rnd))) ?_
          refine jY [(0, 111, ptr bm2 0), (1, 112, ptr bm2 0), (2, 113, ptr bm2 12), (3, 114, ptr bm2 12)] ha fun a ha => ?_
          refine qK (d := 115) (b := bm2) (j := 12) ha (hS.blk 1 rfl) rfl fun a ha => ?_
          refine jY [(5, 116, .bool (!(decide (((rn l d9.2 v fuel).k) = 1))))] ha fun a ha => ?_
          refine jW ?_
          refine jQ ?_
          by_cases c51 : ((rn l d9.2 v fuel).k) = 1
          ·
           refine r_false ha rfl (yU (decide_eq_true c51)) ?_
           refine wpIn_skip ?_
           refine in_n ?_
           replace hS : Sat w0 w (X :: (SX.blk b24 [iv (i : Int), iv lv, .slice s49.A s49.n s49.c, .slice ol.A ol.n ol.c] 102) :: (rI s49 (kb ++ [(j : Int)])) :: (rI ol ks) :: (rI orr rs) :: (SX.blk b9 [.slice orr.A orr.n orr.c] 36) :: (SX.blk b1 [.slice s.A s.n s.c] 30) :: (SX.blk b3 [.slice sd.A sd.n sd.c] 53) :: (SX.blk b5 [iv fuel] 3) :: (SX.blk b7 [iv 0, iv 0, .slice none 0 0, .slice none 0 0] 102) :: []) := hS.pickN 19 [9, 10, 11, 12, 13, 14, 15, 16, 17, 18] (by decide) rfl
           exact ⟨_, ⟨(kb ++ [(j : Int)]), ks, s49, ol, by rw [List.map_append, hkb]; exact (bk_app _ (j, v)).symm, by rw [List.map_append, hks]; exact (st_app1 _ hd9 c51).symm, by simp only [List.length_append, List.length_cons, List.length_nil]; omega, rfl⟩, hS⟩
          ·
           refine r_true ha rfl (zH (decide_eq_false c51)) ?_
           refine r_begin [0, 1, 2, 3, 4, 5, 6] (no_in (no_rnd)) ?_
           refine jY [(0, 117, ptr b24 3)] ha fun a ha => ?_
           refine qK (d := 118) (b := b24) (j := 3) ha (hS.blk 10 rfl) rfl fun a ha => ?_
           refine jY [(2, 119, iv (j : Int))] ha fun a ha => ?_
           refine jU (xZ 120 [iv (j : Int)] 3 (fun b => .slice (some ⟨b, 0, none⟩) 1 1) ha hS fun b52 w a hb53 hS ha => ?_)
           refine jU (kK (news := [iv (j : Int)]) (z := iv 0) (sz := 1) (bytes := 8) (T2 := 3) (xs' := encI (ks ++ [(j : Int)])) 13 0 ha (by decide) (zK (op := (Op.call { callee := (Callee.builtin Builtin.append), args := #[(Operand.tmp 118), (Operand.tmp 120)], argTypes := #[36, 36] })) (d := some 121) (ty := 36)) rfl rfl (by kernel_rfl) (by kernel_rfl) rfl (by decide) hS rfl rfl (by simp) rfl (by rw [encI_length]; simp only [List.length_cons, List.length_nil]; omega) (by decide) (encI_snoc _ _) fun s57 w a hS hn58 ha => ?_)
           refine jY [(5, 122, ptr b24 3)] ha fun a ha => ?_
           refine jU (xG b24 3 (.slice s57.A s57.n s57.c) 11 ha hS rfl rfl fun w a hS ha => ?_)
           refine jW ?_
           replace ha := ha.as [] rfl
           refine in_n ?_
           replace hS : Sat w0 w (X :: (SX.blk b24 [iv (i : Int), iv lv, .slice s49.A s49.n s49.c, .slice s57.A s57.n s57.c] 102) :: (rI s49 (kb ++ [(j : Int)])) :: (rI s57 (ks ++ [(j : Int)])) :: (rI orr rs) :: (SX.blk b9 [.slice orr.A orr.n orr.c] 36) :: (SX.blk b1 [.slice s.A s.n s.c] 30) :: (SX.blk b3 [.slice sd.A sd.n sd.c] 53) :: (SX.blk b5 [iv fuel] 3) :: (SX.blk b7 [iv 0, iv 0, .slice none 0 0, .slice none 0 0] 102) :: []) := hS.pickN 20 [10, 11, 12, 13, 14, 15, 16, 17, 18, 19] (by decide) rfl
           exact ⟨_, ⟨(kb ++ [(j : Int)]), (ks ++ [(j : Int)]), s49, s57, by rw [List.map_append, hkb]; exact (bk_app _ (j, v)).symm, by rw [List.map_append, hks]; exact (st_app2 _ hd9 c51).symm, by simp only [List.length_append, List.length_cons, List.length_nil]; omega, rfl⟩, hS⟩
         ·
          rintro D pre w _ hE ⟨kb, ks, ok, ol, hkb, hks, hkl, rfl⟩ hS
          have hX := c_some hO hZ hne
          rw [← hE, ← hkb, ← hks] at hX
          refine in_n ?_
          refine jQ ?_
          refine wp_seq ?_
          refine p_beginD [0, 1, 2] (no_then (no_bodyM)) ?_
          refine zZ 123 ha (hS.blk 1 rfl) fun a ha => ?_
          refine jU (jG 9 ha (xV (t := 102) (x := 8) (y := 123)) rfl rfl rfl (by kernel_rfl) hS rfl (Nat.le_of_ble_eq_true rfl) rfl fun w a hS ha => ?_)
          refine jY [(2, 9, .bool true)] ha fun a ha => ?_
          refine jW ?_
          refine then_d ?_
          refine wp_ret ?_
          have hD := hS.obj 0 rfl
          replace hS := Sat.putObj (o' := .deferred none) hS
          refine endD_res2 (by kernel_rfl) hD (yJ (t := 8) (ty := 102) (i := 8) ha rfl hS rfl (by kernel_rfl)) (yX (t := 9) ha rfl) ?_
          obtain ⟨q1, q2, q3⟩ := hX
          rw [q1, q2, q3, hO, hrl, ← hlv]
          replace hS : Sat w0 (w.putObj D (.deferred none)) ((rI ok kb) :: (rI ol ks) :: []) := hS.pickN 9 [1, 2] (by decide) rfl
          exact ⟨ok, ol, rfl, hS⟩
      ·
       refine jH ha rfl (decide_eq_false c26) ?_
       refine wp_exit ?_
       refine yK ?_
       refine yK ?_
       refine in_x ?_
       refine jQ ?_
       refine wp_seq ?_
       refine wp_seq ?_
       refine jZ [0, 1, 2, 3, 4] ?_
       refine jY [(0, 83, ptr b24 0)] ha fun a ha => ?_
       refine qK (d := 84) (b := b24) (j := 0) ha (hS.blk 0 rfl) rfl fun a ha => ?_
       refine qK (d := 85) (b := b3) (j := 0) ha (hS.blk 3 rfl) rfl fun a ha => ?_
       refine jY [(3, 86, iv (sd.n : Int)), (4, 87, .bool (decide ((i : Int) = (sd.n : Int))))] ha fun a ha => ?_
       refine jW ?_
       refine jQ ?_
       by_cases c59 : (i : Int) = (sd.n : Int)
       ·
        refine qY ha rfl (decide_eq_true c59) ?_
        refine wp_seq ?_
        refine jZ [0, 1, 2] ?_
        refine zZ 88 ha (hS.blk 0 rfl) fun a ha => ?_
        refine jU (jG 5 ha (xV (t := 102) (x := 8) (y := 88)) rfl rfl rfl (by kernel_rfl) hS rfl (Nat.le_of_ble_eq_true rfl) rfl fun w a hS ha => ?_)
        refine jY [(2, 9, .bool true)] ha fun a ha => ?_
        refine jW ?_
        refine jQ ?_
        refine wp_ret ?_
        refine xJ ?_
        refine endM_res2 ha (by kernel_rfl) (yJ (t := 8) (ty := 102) (i := 5) ha rfl hS rfl (by kernel_rfl)) (yX (t := 9) ha rfl) ?_
        obtain ⟨q1, q2, q3⟩ := c_all hO (cRes_end (by omega) hres) (by omega)
        rw [q1, q2, q3, hO, hrl, ← hlv]
        exact ⟨⟨none, 0, 0⟩, ⟨none, 0, 0⟩, rfl, Sat.nilRow (Sat.nilRow (Sat.rest [_, _, _, _, _, _] hS))⟩
       ·
        exfalso; omega
    ·
     replace ha := ha.turn 35 (.bool false) rfl (congrArg Value.bool c18)
     replace ha := ha.turn 36 (.bool true) rfl (congrArg Value.bool (zH c18))
     replace ha := ha.turn 37 (.bool true) rfl (congrArg Value.bool (zH c18))
     replace ha := ha.turn 38 (.bool true) rfl (congrArg Value.bool (zH c18))
     refine jY [(19, 39, undef), (20, 40, undef), (21, 41, undef), (22, 42, .bool true)] ha fun a ha => ?_
     refine jW ?_
     replace ha := ha.as [(2, iv arg), (4, ptr b1 0), (5, ptr b3 0), (7, ptr b5 0), (8, ptr b7 0), (9, .bool false), (42, .bool true)] rfl
     refine jQ ?_
     refine qY ha rfl rfl ?_
     refine wp_seq ?_
     refine jZ [0, 1, 2] ?_
     refine jY [(0, 43, .agg #[iv 0, iv 0, .slice none 0 0, .slice none 0 0])] ha fun a ha => ?_
     refine jU (jG 0 ha (xV (t := 102) (x := 8) (y := 43)) rfl rfl rfl (by kernel_rfl) hS rfl (Nat.le_of_ble_eq_true rfl) rfl fun w a hS ha => ?_)
     refine jY [(2, 9, .bool false)] ha fun a ha => ?_
     refine jW ?_
     refine jQ ?_
     refine wp_ret ?_
     refine xJ ?_
     refine endM_res2 ha (by kernel_rfl) (yJ (t := 8) (ty := 102) (i := 0) ha rfl hS rfl (by kernel_rfl)) (yX (t := 9) ha rfl) ?_
     have hO := c_bad (l := l) (arg := arg) (fuel := fuel) (dl := dl) (.inr (.inr (.inr (.inl c18))))
     obtain ⟨q1, q2, q3⟩ := c_no hO
     rw [q1, q2, q3, hO]
     exact ⟨⟨none, 0, 0⟩, ⟨none, 0, 0⟩, rfl, Sat.nilRow (Sat.nilRow (Sat.rest [_, _, _, _] hS))⟩
   ·
    replace ha := ha.turn 30 (.bool false) rfl (congrArg Value.bool c15)
    replace ha := ha.turn 31 (.bool true) rfl (congrArg Value.bool (zH c15))
    replace ha := ha.turn 32 (.bool true) rfl (congrArg Value.bool (zH c15))
    replace ha := ha.turn 33 (.bool true) rfl (congrArg Value.bool (zH c15))
    refine jY [(14, 34, undef), (15, 35, undef), (16, 36, undef), (17, 37, .bool true), (18, 38, .bool true), (19, 39, undef), (20, 40, undef), (21, 41, undef), (22, 42, .bool true)] ha fun a ha => ?_
    refine jW ?_
    replace ha := ha.as [(2, iv arg), (4, ptr b1 0), (5, ptr b3 0), (7, ptr b5 0), (8, ptr b7 0), (9, .bool false), (42, .bool true)] rfl
    refine jQ ?_
    refine qY ha rfl rfl ?_
    refine wp_seq ?_
    refine jZ [0, 1, 2] ?_
    refine jY [(0, 43, .agg #[iv 0, iv 0, .slice none 0 0, .slice none 0 0])] ha fun a ha => ?_
    refine jU (jG 0 ha (xV (t := 102) (x := 8) (y := 43)) rfl rfl rfl (by kernel_rfl) hS rfl (Nat.le_of_ble_eq_true rfl) rfl fun w a hS ha => ?_)
    refine jY [(2, 9, .bool false)] ha fun a ha => ?_
    refine jW ?_
    refine jQ ?_
    refine wp_ret ?_
    refine xJ ?_
    refine endM_res2 ha (by kernel_rfl) (yJ (t := 8) (ty := 102) (i := 0) ha rfl hS rfl (by kernel_rfl)) (yX (t := 9) ha rfl) ?_
    have hO := c_bad (l := l) (arg := arg) (fuel := fuel) (dl := dl) (.inr (.inr (.inl c15)))
    obtain ⟨q1, q2, q3⟩ := c_no hO
    rw [q1, q2, q3, hO]
    exact ⟨⟨none, 0, 0⟩, ⟨none, 0, 0⟩, rfl, Sat.nilRow (Sat.nilRow (Sat.rest [_, _, _, _] hS))⟩
  ·
   replace ha := ha.turn 25 (.bool false) rfl (congrArg Value.bool c12)
   replace ha := ha.turn 26 (.bool true) rfl (congrArg Value.bool (zH c12))
   replace ha := ha.turn 27 (.bool true) rfl (congrArg Value.bool (zH c12))
   replace ha := ha.turn 28 (.bool true) rfl (congrArg Value.bool (zH c12))
   refine jY [(9, 29, undef), (10, 30, undef), (11, 31, undef), (12, 32, .bool true), (13, 33, .bool true), (14, 34, undef), (15, 35, undef), (16, 36, undef), (17, 37, .bool true), (18, 38, .bool true), (19, 39, undef), (20, 40, undef), (21, 41, undef), (22, 42, .bool true)] ha fun a ha => ?_
   refine jW ?_
   replace ha := ha.as [(2, iv arg), (4, ptr b1 0), (5, ptr b3 0), (7, ptr b5 0), (8, ptr b7 0), (9, .bool false), (42, .bool true)] rfl
   refine jQ ?_
   refine qY ha rfl rfl ?_
   refine wp_seq ?_
   refine jZ [0, 1, 2] ?_
   refine jY [(0, 43, .agg #[iv 0, iv 0, .slice none 0 0, .slice none 0 0])] ha fun a ha => ?_
   refine jU (jG 0 ha (xV (t := 102) (x := 8) (y := 43)) rfl rfl rfl (by kernel_rfl) hS rfl (Nat.le_of_ble_eq_true rfl) rfl fun w a hS ha => ?_)
   refine jY [(2, 9, .bool false)] ha fun a ha => ?_
   refine jW ?_
   refine jQ ?_
   refine wp_ret ?_
   refine xJ ?_
   refine endM_res2 ha (by kernel_rfl) (yJ (t := 8) (ty := 102) (i := 0) ha rfl hS rfl (by kernel_rfl)) (yX (t := 9) ha rfl) ?_
   have hO := c_bad (l := l) (arg := arg) (fuel := fuel) (dl := dl) (.inr (.inl c12))
   obtain ⟨q1, q2, q3⟩ := c_no hO
   rw [q1, q2, q3, hO]
   exact ⟨⟨none, 0, 0⟩, ⟨none, 0, 0⟩, rfl, Sat.nilRow (Sat.nilRow (Sat.rest [_, _, _, _] hS))⟩
theorem carryI_sat {w0 w : World} {Rs : List Asn} {s sd : Sl} {l : List (List ST)} {dl : List (Int × Int)} {arg fuel : Int} (hS : Sat w0 w Rs) (hr : RdP w s l) (hf : Fits l) (hrd : RdE cellsR 2 w sd dl) :
  Calls Try.prog 64 #[.agg #[.slice s.A s.n s.c], .slice sd.A sd.n sd.c, iv arg, iv fuel] w (Ret fun r w' => ∃ o1 o2 : Sl, r = .tuple #[.agg #[.int .i64 ((cZ l dl arg fuel).length : Int), .int .i64 (lastZ (cZ l dl arg fuel)), .slice o1.A o1.n o1.c, .slice o2.A o2.n o2.c], .bool (dOkB l arg fuel dl)] ∧ Sat w0 w' (rI o1 (cBk l dl arg fuel) :: rI o2 (cSt l dl arg fuel) :: Rs)) :=
 (carryI_sat0 hr hf hrd).mono fun e w' h => by
  cases e with
  | returned r => obtain ⟨o1, o2, h1, h2⟩ := h; exact ⟨o1, o2, h1, hS.comp h2⟩
  | _ => exact h.elim
end Go.Proofs.Ytggahaddkoifkaa.G
end
section
namespace Go.Proofs.Ytggahaddkoifkaa.G
open Go.RowKit Go.Proofs.Ytggahaddkoifkaa.SX Go.Proofs.YtggahaddkoifkaaW.PrintWords Go.Proofs.YtggahaddkoifkaaW.PrintLast Go.Proofs.YtggahaddkoifkaaW.PrintMore
set_option linter.unusedVariables false
set_option linter.unusedSimpArgs false
theorem cRes_len (l : List (List ST)) (fuel : Int) : ∀ (ds : List (Int × Int)) (a : Int), (cRes l fuel a ds).length ≤ ds.length
 | [], _ => Nat.le_refl _
 | d :: ds, a => by
  rw [cRes]; split
  · exact Nat.succ_le_succ (cRes_len l fuel ds _)
  · exact Nat.zero_le _
def stuckP (l : List (List ST)) (dl : List (Int × Int)) (arg fuel : Int) : List Int × Bool := (cSt l dl arg fuel, dOkB l arg fuel dl)
theorem stuckP_len (l : List (List ST)) (dl : List (Int × Int)) (arg fuel : Int) : (stuckP l dl arg fuel).1.length ≤ 8 := by
  show (cSt l dl arg fuel).length ≤ 8
  unfold cSt
  split
  · rename_i h
    have h1 := (dOk_parts h).2.2.2.2
    have h2 := cRes_len l fuel dl arg
    split
    · exact Nat.zero_le _
    · rw [stF, List.length_map]
      have := List.length_filter_le (fun p : Nat × Int => decide (¬ (rn l (dl.getD p.1 (0, 0)).2 p.2 fuel).k = 1)) (bwd (cRes l fuel arg dl) (cRes l fuel arg dl).length)
      rw [bwd_length] at this; omega
  · exact Nat.zero_le _
theorem cZ_len {l : List (List ST)} {dl : List (Int × Int)} {arg fuel : Int} (h : dOkB l arg fuel dl = true) : (cZ l dl arg fuel).length ≤ 8 := by
 have h1 := (dOk_parts h).2.2.2.2
 have h2 := cRes_len l fuel dl arg
 unfold cZ; rw [if_pos h]; omega
theorem code62 : Try.f62.body = some (Code.seq (cr Try.f62 0 false) (Code.seq (cr Try.f62 1 false) (Code.seq (Code.seq (cr Try.f62 2 false) (Code.block 0 (Code.loop (Code.seq (Code.seq (cr Try.f62 3 false) (Code.cond (Operand.tmp 22) Code.skip (Code.exit 0))) (Code.seq (Code.block 1 (Code.seq (cr Try.f62 5 true) (Code.seq (Code.seq (cr Try.f62 6 false) (Code.cond (Operand.tmp 36) (Code.seq (Code.seq (cr Try.f62 7 false) (Code.block 2 (Code.loop (Code.seq (Code.seq (cr Try.f62 8 false) (Code.cond (Operand.tmp 40) Code.skip (Code.exit 2))) (Code.seq (Code.block 3 (Code.seq (cr Try.f62 10 false) (Code.seq (cr Try.f62 11 true) (Code.cond (Operand.tmp 63) (cr Try.f62 12 false) Code.skip)))) (cr Try.f62 9 false)))))) (Code.seq (cr Try.f62 13 false) Code.ret)) Code.skip)) (Code.seq (cr Try.f62 14 false) (cr Try.f62 15 false))))) (cr Try.f62 4 false)))))) (Code.seq (cr Try.f62 16 false) Code.ret)))) := by kernel_rfl
set_option maxRecDepth 20000 in
set_option maxHeartbeats 1000000 in
theorem carryQ_sat0 {w0 : World} {s sd : Sl} {l : List (List ST)} {dl : List (Int × Int)} {arg fuel : Int} (hr : RdP w0 s l) (hrd : RdE cellsR 2 w0 sd dl) (hO : dOkB l arg fuel dl = true) :
  Calls Try.prog 62 #[.agg #[.slice s.A s.n s.c], .slice sd.A sd.n sd.c, iv arg, iv fuel] w0 (Ret fun r w' => ∃ o1 o2 o3 : Sl, r = .agg #[.slice o1.A o1.n o1.c, .slice o2.A o2.n o2.c, .slice o3.A o3.n o3.c] ∧ Sat w0 w' (rI o1 (cZ l dl arg fuel) :: rI o2 (cBk l dl arg fuel) :: rI o3 (cSt l dl arg fuel) :: [])) := by
 have hS : Sat w0 w0 [] := Sat.start w0
 have hdl := hrd.len
 have hbig := hrd.big
 have hna := (dOk_parts hO).2.1
 have hl8 := (dOk_parts hO).2.2.2.2
 refine enter (n := 80) Try.func62 code62 (by kernel_rfl) (Nat.le_of_ble_eq_true rfl) (fun a ha => ?_)
 replace ha : Has 80 [(0, .agg #[.slice s.A s.n s.c]), (1, .slice sd.A sd.n sd.c), (2, iv arg), (3, iv fuel)] a := ha
 refine wp_seq (jZ [0, 1] (jU (xZ 4 [.slice s.A s.n s.c] 30 (ptr · 0) ha hS fun b1 w a hb2 hS ha => ?_)))
 refine jU (xZ 8 [.slice none 0 0, .slice none 0 0, .slice none 0 0] 95 (ptr · 0) ha hS fun b3 w a hb4 hS ha => ?_)
 refine jW (jQ (wp_seq (jZ [0, 1, 2, 3, 4, 5, 6, 7] (jU (xZ 14 [] 3 (fun b => .slice (some ⟨b, 0, none⟩) 0 0) ha hS fun b5 w a hb6 hS ha => ?_)))))
 refine jU (xZ 15 [] 3 (fun b => .slice (some ⟨b, 0, none⟩) 0 0) ha hS fun b7 w a hb8 hS ha => ?_)
 refine jU (xZ 16 [] 3 (fun b => .slice (some ⟨b, 0, none⟩) 0 0) ha hS fun b9 w a hb10 hS ha => ?_)
 refine jY [(3, 17, .agg #[.slice (some ⟨b5, 0, none⟩) 0 0, .slice (some ⟨b7, 0, none⟩) 0 0, .slice (some ⟨b9, 0, none⟩) 0 0]), (4, 18, iv arg)] ha fun a ha => ?_
 refine jU (xZ 9 [.slice none 0 0, .slice none 0 0, .slice none 0 0] 95 (ptr · 0) ha hS fun b11 w a hb12 hS ha => ?_)
 refine jU (jG 0 ha (xV (t := 95) (x := 9) (y := 17)) rfl rfl rfl (by kernel_rfl) hS rfl (Nat.le_of_ble_eq_true rfl) rfl fun w a hS ha => ?_)
 refine jY [(7, 10, iv arg)] ha fun a ha => ?_
 refine jW (jQ (wp_seq (wp_seq (jZ [0] (jY [(0, 11, iv 0)] ha fun a ha => ?_)))))
 refine jW (jQ (wp_block ?_))
 replace hS := hS.blk0 1 3 rfl
 replace hS := hS.blk0 1 2 rfl
 replace hS := hS.blk0 1 1 rfl
 replace hS : Sat w0 w ((SX.blk b11 [.slice (some ⟨b5, 0, none⟩) 0 0, .slice (some ⟨b7, 0, none⟩) 0 0, .slice (some ⟨b9, 0, none⟩) 0 0] 95) :: (rI (⟨some ⟨b5, 0, none⟩, 0, 0⟩ : Sl) []) :: (rI (⟨some ⟨b7, 0, none⟩, 0, 0⟩ : Sl) []) :: (rI (⟨some ⟨b9, 0, none⟩, 0, 0⟩ : Sl) []) :: (SX.blk b1 [.slice s.A s.n s.c] 30) :: (SX.blk b3 [.slice none 0 0, .slice none 0 0, .slice none 0 0] 95) :: []) := hS.pickN 6 [0, 3, 2, 1, 5, 4] (by decide) rfl
 refine wp_loop_ghost (fun n_ a_ w_ => ∃ (i : Nat) (rs : List Int) (av : Int) (orr : Sl), n_ = dl.length - i ∧ (i ≤ dl.length) ∧ (rs.length = i) ∧ (numB av = true) ∧ (rs ++ cRes l fuel av (dl.drop i) = cRes l fuel arg dl) ∧ (∀ x ∈ rs, numB x = true) ∧ Has 80 [(1, .slice sd.A sd.n sd.c), (3, iv fuel), (4, ptr b1 0), (8, ptr b3 0), (9, ptr b11 0), (10, iv av), (11, iv (i : Int))] a_ ∧ Sat w0 w_ ((SX.blk b11 [.slice orr.A orr.n orr.c, .slice (some ⟨b7, 0, none⟩) 0 0, .slice (some ⟨b9, 0, none⟩) 0 0] 95) :: (rI orr rs) :: (rI (⟨some ⟨b7, 0, none⟩, 0, 0⟩ : Sl) []) :: (rI (⟨some ⟨b9, 0, none⟩, 0, 0⟩ : Sl) []) :: (SX.blk b1 [.slice s.A s.n s.c] 30) :: (SX.blk b3 [.slice none 0 0, .slice none 0 0, .slice none 0 0] 95) :: [])) _ ⟨0, [], arg, ⟨some ⟨b5, 0, none⟩, 0, 0⟩, rfl, Nat.zero_le _, rfl, hna, rfl, (fun x hx => by cases hx), ha.keeps [1, 3, 4, 8, 9, 10, 11] _ rfl, hS⟩ ?_
 rintro n_ a w ⟨i, rs, av, orr, rfl, hi, hrl, hnum, hres, hnrs, ha, hS⟩
 refine wp_seq (wp_seq (jZ [0, 1, 2, 3] (jY [(0, 19, iv (i : Int)), (1, 20, .slice sd.A sd.n sd.c), (2, 21, iv (sd.n : Int)), (3, 22, .bool (decide ((i : Int) < (sd.n : Int))))] ha fun a ha => ?_)))
 refine jW (jQ ?_)
 by_cases c13 : (i : Int) < (sd.n : Int)
 ·
  have hlt : i < dl.length := by omega
  obtain ⟨x9, hx9⟩ : ∃ x, dl[i]? = some x := ⟨_, List.getElem?_eq_getElem hlt⟩
  have hask1 := (carry_ask hO hx9 hnum).1
  refine qY ha rfl (decide_eq_true c13) ?_
  refine wp_skip (jQ (wp_seq (wp_block (kH (J := fun a_ w_ => ∃ (g1_0 : Sl) (g1_1 : Nat), Has 80 [(1, .slice sd.A sd.n sd.c), (3, iv fuel), (4, ptr b1 0), (8, ptr b3 0), (9, ptr b11 0), (10, iv av), (11, iv (i : Int)), (19, iv (i : Int)), (20, .slice sd.A sd.n sd.c), (21, iv (sd.n : Int)), (22, .bool (decide ((i : Int) < (sd.n : Int)))), (25, .agg #[.slice s.A s.n s.c]), (26, .slice sd.A sd.n sd.c), (27, iv (i : Int)), (28, .pointer (some ⟨bk sd, of_ sd + i * 2, none⟩)), (29, .pointer (some ⟨bk sd, of_ sd + i * 2, none⟩)), (30, iv x9.1), (31, iv av), (32, iv fuel), (33, (oG ((rn l x9.1 av fuel).k) ((rn l x9.1 av fuel).v) g1_0 ((rn l x9.1 av fuel).m.made))), (12, ptr g1_1 0)] a_ ∧ Sat w0 w_ ((SX.blk g1_1 [iv ((rn l x9.1 av fuel).k), iv ((rn l x9.1 av fuel).v), .slice g1_0.A g1_0.n g1_0.c, iv ((rn l x9.1 av fuel).m.made)] 62) :: (rE g1_0 ((rn l x9.1 av fuel).m.trace)) :: (SX.blk b11 [.slice orr.A orr.n orr.c, .slice (some ⟨b7, 0, none⟩) 0 0, .slice (some ⟨b9, 0, none⟩) 0 0] 95) :: (rI orr rs) :: (rI (⟨some ⟨b7, 0, none⟩, 0, 0⟩ : Sl) []) :: (rI (⟨some ⟨b9, 0, none⟩, 0, 0⟩ : Sl) []) :: (SX.blk b1 [.slice s.A s.n s.c] 30) :: (SX.blk b3 [.slice none 0 0, .slice none 0 0, .slice none 0 0] 95) :: [])) ?_ ?_))))
  ·
   refine yQ 8 11 hS fun w hS => ?_
   refine yY 0 25 ha hS (pk_join (jK (jJ (jJ (jK (jJ (jX))))))) (fun _ hw => hw.blk 4 rfl) fun a ha => ?_
   refine jV (k := 8) [(1, 26, .slice sd.A sd.n sd.c), (2, 27, iv (i : Int))] ha (.inr hS) (pk_join (jK (jJ (jJ (jK (jJ (jX))))))) fun a ha => ?_
   refine yV 3 (.pointer (some ⟨bk sd, of_ sd + i * 2, none⟩)) ha (kZ (el := 98) (sz := 2) (j := i) ha (zQ (t := 53) (x := 26) (y := 27) (d := 28)) rfl rfl (by kernel_rfl) (by kernel_rfl) (RdE.at_ (hrd.sat hS) _ _ hx9).1 (rfl) (by rw [((hrd.sat hS)).len]; exact (List.getElem?_eq_some_iff.1 hx9).1)) (.inr hS) (pk_join (jK (jJ (jJ (jK (jJ (jX))))))) fun a ha => ?_
   refine jV (k := 6) [(4, 29, .pointer (some ⟨bk sd, of_ sd + i * 2, none⟩))] ha (.inr hS) (pk_join (jK (jJ (jJ (jK (jJ (jX))))))) fun a ha => ?_
   refine kJ 5 (iv x9.1) ha (kQ ha (zU (t := 3) (x := 29) (d := 30) (ty := 3)) rfl (by kernel_rfl) (fun w' hw => by exact (RdE.at_ ((hrd.sat hw)) _ _ hx9).2 0 _ rfl)) hS (pk_join (jK (jJ (jJ (jK (jJ (jX))))))) fun a ha => ?_
   refine jV (k := 3) [(6, 31, iv av), (7, 32, iv fuel)] ha (.inr hS) (pk_join (jK (jJ (jJ (jK (jJ (jX))))))) fun a ha => ?_
   refine d_all (rs := [8, 9]) (by kernel_rfl) (by simp) (forall_mem_2 ?_ ?_)
   ·
    refine id (xK 33 (vs := [.agg #[.slice s.A s.n s.c], iv x9.1, iv av, iv fuel]) ha (run_sat hS (hr.sat hS) hask1) fun v14 w a hp15 ha => ?_)
    obtain ⟨tr1, rfl, hS⟩ := hp15
    refine xW (qZ 9 (xZ 12 [iv 0, iv 0, .slice none 0 0, iv 0] 62 (ptr · 0) ha hS fun b16 w a hb17 hS ha => ?_))
    refine xW (qZ 10 (jG 0 ha (xV (t := 62) (x := 12) (y := 33)) rfl rfl rfl (by kernel_rfl) hS rfl (Nat.le_of_ble_eq_true rfl) rfl fun w a hS ha => ?_))
    refine xW (xU ?_)
    replace hS : Sat w0 w ((SX.blk b16 [iv ((rn l x9.1 av fuel).k), iv ((rn l x9.1 av fuel).v), .slice tr1.A tr1.n tr1.c, iv ((rn l x9.1 av fuel).m.made)] 62) :: (rE tr1 ((rn l x9.1 av fuel).m.trace)) :: (SX.blk b11 [.slice orr.A orr.n orr.c, .slice (some ⟨b7, 0, none⟩) 0 0, .slice (some ⟨b9, 0, none⟩) 0 0] 95) :: (rI orr rs) :: (rI (⟨some ⟨b7, 0, none⟩, 0, 0⟩ : Sl) []) :: (rI (⟨some ⟨b9, 0, none⟩, 0, 0⟩ : Sl) []) :: (SX.blk b1 [.slice s.A s.n s.c] 30) :: (SX.blk b3 [.slice none 0 0, .slice none 0 0, .slice none 0 0] 95) :: []) := hS
    exact jQ ⟨tr1, b16, ha.keeps [1, 3, 4, 8, 9, 10, 11, 19, 20, 21, 22, 25, 26, 27, 28, 29, 30, 31, 32, 33, 12] _ rfl, hS⟩
   refine id (xZ 12 [iv 0, iv 0, .slice none 0 0, iv 0] 62 (ptr · 0) ha hS fun b18 w a hb19 hS ha => ?_)
   refine ⟨.inr (Sat.rest [_] hS), ?_⟩
   refine qZ 8 (xK 33 (vs := [.agg #[.slice s.A s.n s.c], iv x9.1, iv av, iv fuel]) ha (run_sat hS (hr.sat hS) hask1) fun v20 w a hp21 ha => ?_)
   obtain ⟨tr2, rfl, hS⟩ := hp21
   refine xW (qZ 10 (jG 1 ha (xV (t := 62) (x := 12) (y := 33)) rfl rfl rfl (by kernel_rfl) hS rfl (Nat.le_of_ble_eq_true rfl) rfl fun w a hS ha => ?_))
   refine xW (xU ?_)
   replace hS : Sat w0 w ((SX.blk b18 [iv ((rn l x9.1 av fuel).k), iv ((rn l x9.1 av fuel).v), .slice tr2.A tr2.n tr2.c, iv ((rn l x9.1 av fuel).m.made)] 62) :: (rE tr2 ((rn l x9.1 av fuel).m.trace)) :: (SX.blk b11 [.slice orr.A orr.n orr.c, .slice (some ⟨b7, 0, none⟩) 0 0, .slice (some ⟨b9, 0, none⟩) 0 0] 95) :: (rI orr rs) :: (rI (⟨some ⟨b7, 0, none⟩, 0, 0⟩ : Sl) []) :: (rI (⟨some ⟨b9, 0, none⟩, 0, 0⟩ : Sl) []) :: (SX.blk b1 [.slice s.A s.n s.c] 30) :: (SX.blk b3 [.slice none 0 0, .slice none 0 0, .slice none 0 0] 95) :: []) := hS.pickN 8 [1, 0, 2, 3, 4, 5, 6, 7] (by decide) rfl
   exact jQ ⟨tr2, b18, ha.keeps [1, 3, 4, 8, 9, 10, 11, 19, 20, 21, 22, 25, 26, 27, 28, 29, 30, 31, 32, 33, 12] _ rfl, hS⟩
  rintro a w ⟨g1_0, g1_1, ha, hS⟩
  refine wp_seq (wp_seq (jZ [0, 1, 2] (jY [(0, 34, ptr g1_1 0)] ha fun a ha => ?_)))
  refine qK (d := 35) (b := g1_1) (j := 0) ha (hS.blk 0 rfl) rfl fun a ha => ?_
  refine jY [(2, 36, .bool (!(decide (((rn l x9.1 av fuel).k) = 1))))] ha fun a ha => ?_
  refine jW (jQ ?_)
  by_cases c22 : ((rn l x9.1 av fuel).k) = 1
  ·
   refine jH ha rfl (yU (decide_eq_true c22)) ?_
   refine wp_skip (jQ (wp_seq (jZ [0, 1, 2] (jY [(0, 71, ptr g1_1 1)] ha fun a ha => ?_))))
   refine qK (d := 72) (b := g1_1) (j := 1) ha (hS.blk 0 rfl) rfl fun a ha => ?_
   refine jY [(2, 10, iv ((rn l x9.1 av fuel).v))] ha fun a ha => ?_
   refine jW (jQ (jZ [0, 1, 2, 3, 4, 5, 6] (jY [(0, 73, ptr b11 0)] ha fun a ha => ?_)))
   refine qK (d := 74) (b := b11) (j := 0) ha (hS.blk 2 rfl) rfl fun a ha => ?_
   refine jY [(2, 75, iv ((rn l x9.1 av fuel).v))] ha fun a ha => ?_
   refine jU (xZ 76 [iv ((rn l x9.1 av fuel).v)] 3 (fun b => .slice (some ⟨b, 0, none⟩) 1 1) ha hS fun b23 w a hb24 hS ha => ?_)
   refine jU (kK (news := [iv ((rn l x9.1 av fuel).v)]) (z := iv 0) (sz := 1) (bytes := 8) (T2 := 3) (xs' := encI (rs ++ [(rn l x9.1 av fuel).v])) 4 0 ha (by decide) (zK (op := (Op.call { callee := (Callee.builtin Builtin.append), args := #[(Operand.tmp 74), (Operand.tmp 76)], argTypes := #[36, 36] })) (d := some 77) (ty := 36)) rfl rfl (by kernel_rfl) (by kernel_rfl) rfl (by decide) hS rfl rfl (by simp) rfl (by rw [encI_length]; simp only [List.length_cons, List.length_nil]; omega) (by decide) (encI_snoc _ _) fun s28 w a hS hn29 ha => ?_)
   refine jY [(5, 78, ptr b11 0)] ha fun a ha => ?_
   refine jU (xG b11 0 (.slice s28.A s28.n s28.c) 3 ha hS rfl rfl fun w a hS ha => ?_)
   refine jW (in_n (jQ (jZ [0, 1, 2] (jY [(0, 23, iv (i : Int))] ha fun a ha => ?_))))
   refine kX 24 ((i : Int) + 1) ha fun a ha => ?_
   refine jY [(2, 11, iv ((i : Int) + 1))] ha fun a ha => ?_
   refine jW (jQ ?_)
   replace hS : Sat w0 w ((SX.blk b11 [.slice s28.A s28.n s28.c, .slice (some ⟨b7, 0, none⟩) 0 0, .slice (some ⟨b9, 0, none⟩) 0 0] 95) :: (rI s28 (rs ++ [(rn l x9.1 av fuel).v])) :: (rI (⟨some ⟨b7, 0, none⟩, 0, 0⟩ : Sl) []) :: (rI (⟨some ⟨b9, 0, none⟩, 0, 0⟩ : Sl) []) :: (SX.blk b1 [.slice s.A s.n s.c] 30) :: (SX.blk b3 [.slice none 0 0, .slice none 0 0, .slice none 0 0] 95) :: []) := hS.pickN 9 [3, 4, 5, 6, 7, 8] (by decide) rfl
   exact ⟨_, by omega, i + 1, rs ++ [(rn l x9.1 av fuel).v], (rn l x9.1 av fuel).v, s28, rfl, by omega, by rw [List.length_append, hrl]; rfl, rn_num hask1, cRes_next hx9 hres c22, (fun x hx => (List.mem_append.1 hx).elim (hnrs x) (fun hx => by rw [List.mem_singleton.1 hx]; exact rn_num hask1)), ha.keeps [1, 3, 4, 8, 9, 10, 11] _ rfl, hS⟩
  refine qY ha rfl (zH (decide_eq_false c22)) ?_
  refine wp_seq (wp_seq (jZ [0, 1, 2] (jY [(0, 37, iv (i : Int))] ha fun a ha => ?_)))
  refine kX 38 ((i : Int) - 1) ha fun a ha => ?_
  refine jY [(2, 13, iv ((i : Int) - 1))] ha fun a ha => ?_
  refine jW (jQ (wp_block ?_))
  replace hS : Sat w0 w ((SX.blk b11 [.slice orr.A orr.n orr.c, .slice (some ⟨b7, 0, none⟩) 0 0, .slice (some ⟨b9, 0, none⟩) 0 0] 95) :: (rI orr rs) :: (rI (⟨some ⟨b7, 0, none⟩, 0, 0⟩ : Sl) []) :: (rI (⟨some ⟨b9, 0, none⟩, 0, 0⟩ : Sl) []) :: (SX.blk b1 [.slice s.A s.n s.c] 30) :: (SX.blk b3 [.slice none 0 0, .slice none 0 0, .slice none 0 0] 95) :: []) := hS.pickN 8 [2, 3, 4, 5, 6, 7] (by decide) rfl
  have hne : ¬ rs.length = dl.length := by omega
  have hZ := cRes_stop hx9 hres c22
  refine wp_loop_ghost (fun n_ a_ w_ => ∃ (j : Nat) (kk : Int) (kb : List Int) (ks : List Int) (ok : Sl) (ol : Sl), n_ = rs.length - j ∧ (j ≤ rs.length) ∧ (kk = (rs.length : Int) - 1 - (j : Int)) ∧ (kb = bkF (bwd rs j)) ∧ (ks = stF l fuel dl (bwd rs j)) ∧ (kb.length = j ∧ ks.length ≤ j) ∧ Has 80 [(1, .slice sd.A sd.n sd.c), (3, iv fuel), (4, ptr b1 0), (8, ptr b3 0), (9, ptr b11 0), (13, iv kk)] a_ ∧ Sat w0 w_ ((SX.blk b11 [.slice orr.A orr.n orr.c, .slice ok.A ok.n ok.c, .slice ol.A ol.n ol.c] 95) :: (rI orr rs) :: (rI ok kb) :: (rI ol ks) :: (SX.blk b1 [.slice s.A s.n s.c] 30) :: (SX.blk b3 [.slice none 0 0, .slice none 0 0, .slice none 0 0] 95) :: [])) _ ⟨0, (i : Int) - 1, [], [], ⟨some ⟨b7, 0, none⟩, 0, 0⟩, ⟨some ⟨b9, 0, none⟩, 0, 0⟩, rfl, Nat.zero_le _, by omega, rfl, rfl, ⟨rfl, Nat.le_refl _⟩, ha.keeps [1, 3, 4, 8, 9, 13] _ rfl, hS⟩ ?_
  rintro n_ a w ⟨j, kk, kb, ks, ok, ol, rfl, hj, hkk, hkb, hks, hkl, ha, hS⟩
  refine wp_seq (wp_seq (jZ [0, 1] (jY [(0, 39, iv kk), (1, 40, .bool (decide (kk ≥ 0)))] ha fun a ha => ?_)))
  refine jW (jQ ?_)
  by_cases c30 : kk ≥ 0
  ·
   obtain ⟨q9, hkq⟩ : ∃ q : Nat, kk = (q : Int) := ⟨kk.toNat, by omega⟩
   have hq9 : q9 + 1 + j = rs.length := by omega
   obtain ⟨d9, hd9⟩ : ∃ x, dl[q9]? = some x := ⟨_, List.getElem?_eq_getElem (by omega)⟩
   obtain ⟨v9, hv9⟩ : ∃ x, rs[q9]? = some x := ⟨_, List.getElem?_eq_getElem (by omega)⟩
   have hask9 := (carry_ask hO hd9 (hnrs v9 (List.mem_of_getElem? hv9))).2
   refine qY ha rfl (decide_eq_true c30) ?_
   refine wp_skip (jQ (wp_seq (wp_block (wp_seq (jZ [0, 1, 2, 3, 4, 5, 6] (jY [(0, 43, ptr b11 1)] ha fun a ha => ?_))))))
   refine qK (d := 44) (b := b11) (j := 1) ha (hS.blk 0 rfl) rfl fun a ha => ?_
   refine jY [(2, 45, iv kk)] ha fun a ha => ?_
   refine jU (xZ 46 [iv kk] 3 (fun b => .slice (some ⟨b, 0, none⟩) 1 1) ha hS fun b31 w a hb32 hS ha => ?_)
   refine jU (kK (news := [iv kk]) (z := iv 0) (sz := 1) (bytes := 8) (T2 := 3) (xs' := encI (kb ++ [kk])) 3 0 ha (by decide) (zK (op := (Op.call { callee := (Callee.builtin Builtin.append), args := #[(Operand.tmp 44), (Operand.tmp 46)], argTypes := #[36, 36] })) (d := some 47) (ty := 36)) rfl rfl (by kernel_rfl) (by kernel_rfl) rfl (by decide) hS rfl rfl (by simp) rfl (by rw [encI_length]; simp only [List.length_cons, List.length_nil]; omega) (by decide) (encI_snoc _ _) fun s36 w a hS hn37 ha => ?_)
   refine jY [(5, 48, ptr b11 1)] ha fun a ha => ?_
   refine jU (xG b11 1 (.slice s36.A s36.n s36.c) 1 ha hS rfl rfl fun w a hS ha => ?_)
   refine jW (jQ (wp_seq (yQ 12 15 hS fun w hS => ?_)))
   refine yY 0 49 ha hS (jJ (jK (jJ (jJ (jK (jJ (jJ (jK (jJ (jJ (jK (jJ (jX))))))))))))) (fun _ hw => hw.blk 5 rfl) fun a ha => ?_
   refine jV (k := 12) [(1, 50, .slice sd.A sd.n sd.c), (2, 51, iv kk)] ha (.inr hS) (jJ (jK (jJ (jJ (jK (jJ (jJ (jK (jJ (jJ (jK (jJ (jX))))))))))))) fun a ha => ?_
   refine yV 3 (.pointer (some ⟨bk sd, of_ sd + q9 * 2, none⟩)) ha (kZ (el := 98) (sz := 2) (j := q9) ha (zQ (t := 53) (x := 50) (y := 51) (d := 52)) rfl rfl (by kernel_rfl) (by kernel_rfl) (RdE.at_ (hrd.sat hS) _ _ hd9).1 (hkq) (by rw [((hrd.sat hS)).len]; exact (List.getElem?_eq_some_iff.1 hd9).1)) (.inr hS) (jJ (jK (jJ (jJ (jK (jJ (jJ (jK (jJ (jJ (jK (jJ (jX))))))))))))) fun a ha => ?_
   refine jV (k := 10) [(4, 53, .pointer (some ⟨bk sd, of_ sd + q9 * 2 + 1, none⟩))] ha (.inr hS) (jJ (jK (jJ (jJ (jK (jJ (jJ (jK (jJ (jJ (jK (jJ (jX))))))))))))) fun a ha => ?_
   refine kJ 5 (iv d9.2) ha (kQ ha (zU (t := 3) (x := 53) (d := 54) (ty := 3)) rfl (by kernel_rfl) (fun w' hw => by exact (RdE.at_ ((hrd.sat hw)) _ _ hd9).2 1 _ rfl)) hS (jJ (jK (jJ (jJ (jK (jJ (jJ (jK (jJ (jJ (jK (jJ (jX))))))))))))) fun a ha => ?_
   refine jV (k := 8) [(6, 55, ptr b11 0)] ha (.inr hS) (jJ (jK (jJ (jJ (jK (jJ (jJ (jK (jJ (jJ (jK (jJ (jX))))))))))))) fun a ha => ?_
   refine d_ldN 7 (d := 56) (b := b11) (j := 0) ha hS (jJ (jK (jJ (jJ (jK (jJ (jJ (jK (jJ (jJ (jK (jJ (jX))))))))))))) (fun _ hw => hw.blk 1 rfl) rfl fun a ha => ?_
   refine jV (k := 6) [(8, 57, iv kk)] ha (.inr hS) (jJ (jK (jJ (jJ (jK (jJ (jJ (jK (jJ (jJ (jK (jJ (jX))))))))))))) fun a ha => ?_
   refine yV 9 (.pointer (some ⟨bk orr, of_ orr + q9 * 1, none⟩)) ha (kZ (el := 3) (sz := 1) (j := q9) ha (zQ (t := 36) (x := 56) (y := 57) (d := 58)) rfl rfl (by kernel_rfl) (by kernel_rfl) ((hS.rdRow (s := orr) 2 rfl).at_ ((List.getElem?_eq_some_iff.1 hv9).1)).1 (hkq) (by rw [((hS.rdRow (s := orr) 2 rfl)).len]; exact (List.getElem?_eq_some_iff.1 hv9).1)) (.inr hS) (jJ (jK (jJ (jJ (jK (jJ (jJ (jK (jJ (jJ (jK (jJ (jX))))))))))))) fun a ha => ?_
   refine kJ 10 (iv v9) ha (kQ (p := ⟨bk orr, of_ orr + q9 * 1, none⟩) ha (zU (t := 3) (x := 58) (d := 59) (ty := 3)) rfl (by kernel_rfl) (fun w' hw => by rw [Nat.mul_one, ← getD_of hv9]; exact (((hw.rdRow (s := orr) 2 rfl)).at_ ((List.getElem?_eq_some_iff.1 hv9).1)).2)) hS (jJ (jK (jJ (jJ (jK (jJ (jJ (jK (jJ (jJ (jK (jJ (jX))))))))))))) fun a ha => ?_
   refine jV (k := 3) [(11, 60, iv fuel)] ha (.inr hS) (jJ (jK (jJ (jJ (jK (jJ (jJ (jK (jJ (jJ (jK (jJ (jX))))))))))))) fun a ha => ?_
   refine qZ 12 (xK 61 (vs := [.agg #[.slice s.A s.n s.c], iv d9.2, iv v9, iv fuel]) ha (run_sat hS (hr.sat hS) hask9) fun v38 w a hp39 ha => ?_)
   obtain ⟨tr3, rfl, hS⟩ := hp39
   refine xW (jV (k := 0) [(13, 62, iv ((rn l d9.2 v9 fuel).k)), (14, 63, .bool (!(decide (((rn l d9.2 v9 fuel).k) = 1))))] ha (.inl (by kernel_rfl)) (jJ (jK (jJ (jJ (jK (jJ (jJ (jK (jJ (jJ (jK (jJ (jX))))))))))))) fun a ha => ?_)
   refine xU (jQ ?_)
   by_cases c40 : ((rn l d9.2 v9 fuel).k) = 1
   ·
    refine jH ha rfl (yU (decide_eq_true c40)) ?_
    refine wp_skip (in_n (jQ (jZ [0, 1, 2] (jY [(0, 41, iv kk)] ha fun a ha => ?_))))
    refine kX 42 (kk - 1) ha fun a ha => ?_
    refine jY [(2, 13, iv (kk - 1))] ha fun a ha => ?_
    refine jW (jQ ?_)
    replace hS : Sat w0 w ((SX.blk b11 [.slice orr.A orr.n orr.c, .slice s36.A s36.n s36.c, .slice ol.A ol.n ol.c] 95) :: (rI orr rs) :: (rI s36 (kb ++ [kk])) :: (rI ol ks) :: (SX.blk b1 [.slice s.A s.n s.c] 30) :: (SX.blk b3 [.slice none 0 0, .slice none 0 0, .slice none 0 0] 95) :: []) := hS.pickN 8 [2, 3, 4, 5, 6, 7] (by decide) rfl
    exact ⟨_, by omega, j + 1, kk - 1, (kb ++ [kk]), ks, s36, ol, rfl, by omega, by omega, by rw [bwd_at hq9 hv9, bk_app, hkb, hkq], by rw [bwd_at hq9 hv9, st_app1 _ hd9 c40, hks], by simp only [List.length_append, List.length_cons, List.length_nil]; omega, ha.keeps [1, 3, 4, 8, 9, 13] _ rfl, hS⟩
   refine qY ha rfl (zH (decide_eq_false c40)) ?_
   refine jZ [0, 1, 2, 3, 4, 5, 6] (jY [(0, 64, ptr b11 2)] ha fun a ha => ?_)
   refine qK (d := 65) (b := b11) (j := 2) ha (hS.blk 2 rfl) rfl fun a ha => ?_
   refine jY [(2, 66, iv kk)] ha fun a ha => ?_
   refine jU (xZ 67 [iv kk] 3 (fun b => .slice (some ⟨b, 0, none⟩) 1 1) ha hS fun b41 w a hb42 hS ha => ?_)
   refine jU (kK (news := [iv kk]) (z := iv 0) (sz := 1) (bytes := 8) (T2 := 3) (xs' := encI (ks ++ [kk])) 6 0 ha (by decide) (zK (op := (Op.call { callee := (Callee.builtin Builtin.append), args := #[(Operand.tmp 65), (Operand.tmp 67)], argTypes := #[36, 36] })) (d := some 68) (ty := 36)) rfl rfl (by kernel_rfl) (by kernel_rfl) rfl (by decide) hS rfl rfl (by simp) rfl (by rw [encI_length]; simp only [List.length_cons, List.length_nil]; omega) (by decide) (encI_snoc _ _) fun s46 w a hS hn47 ha => ?_)
   refine jY [(5, 69, ptr b11 2)] ha fun a ha => ?_
   refine jU (xG b11 2 (.slice s46.A s46.n s46.c) 3 ha hS rfl rfl fun w a hS ha => ?_)
   refine jW (in_n (jQ (jZ [0, 1, 2] (jY [(0, 41, iv kk)] ha fun a ha => ?_))))
   refine kX 42 (kk - 1) ha fun a ha => ?_
   refine jY [(2, 13, iv (kk - 1))] ha fun a ha => ?_
   refine jW (jQ ?_)
   replace hS : Sat w0 w ((SX.blk b11 [.slice orr.A orr.n orr.c, .slice s36.A s36.n s36.c, .slice s46.A s46.n s46.c] 95) :: (rI orr rs) :: (rI s36 (kb ++ [kk])) :: (rI s46 (ks ++ [kk])) :: (SX.blk b1 [.slice s.A s.n s.c] 30) :: (SX.blk b3 [.slice none 0 0, .slice none 0 0, .slice none 0 0] 95) :: []) := hS.pickN 9 [3, 4, 5, 6, 7, 8] (by decide) rfl
   exact ⟨_, by omega, j + 1, kk - 1, (kb ++ [kk]), (ks ++ [kk]), s36, s46, rfl, by omega, by omega, by rw [bwd_at hq9 hv9, bk_app, hkb, hkq], by rw [bwd_at hq9 hv9, st_app2 _ hd9 c40, hks, hkq], by simp only [List.length_append, List.length_cons, List.length_nil]; omega, ha.keeps [1, 3, 4, 8, 9, 13] _ rfl, hS⟩
  refine jH ha rfl (decide_eq_false c30) ?_
  refine wp_exit (yK (yK (in_x (jQ (wp_seq (jZ [0, 1] (zZ 70 ha (hS.blk 0 rfl) fun a ha => ?_)))))))
  refine jU (jG 5 ha (xV (t := 95) (x := 8) (y := 70)) rfl rfl rfl (by kernel_rfl) hS rfl (Nat.le_of_ble_eq_true rfl) rfl fun w a hS ha => ?_)
  refine jW (jQ (wp_ret (xJ (in_r (xJ (xJ (in_r (xJ (qG ha (by kernel_rfl) (yJ (t := 8) (ty := 95) (i := 5) ha rfl hS rfl (by kernel_rfl)) ?_)))))))))
  obtain rfl : j = rs.length := by omega
  obtain ⟨q1, q2, q3⟩ := c_some hO hZ hne
  rw [q1, q2, q3, ← hkb, ← hks]
  replace hS : Sat w0 w ((rI orr rs) :: (rI ok kb) :: (rI ol ks) :: []) := hS.pickN 6 [1, 2, 3] (by decide) rfl
  exact ⟨orr, ok, ol, rfl, hS⟩
 refine jH ha rfl (decide_eq_false c13) ?_
 refine wp_exit (yK (yK (in_x (jQ (wp_seq (jZ [0, 1] (zZ 79 ha (hS.blk 0 rfl) fun a ha => ?_)))))))
 refine jU (jG 5 ha (xV (t := 95) (x := 8) (y := 79)) rfl rfl rfl (by kernel_rfl) hS rfl (Nat.le_of_ble_eq_true rfl) rfl fun w a hS ha => ?_)
 refine jW (jQ (wp_ret (qG ha (by kernel_rfl) (yJ (t := 8) (ty := 95) (i := 5) ha rfl hS rfl (by kernel_rfl)) ?_)))
 obtain ⟨q1, q2, q3⟩ := c_all hO (cRes_end (by omega) hres) (by omega)
 rw [q1, q2, q3]
 replace hS : Sat w0 w ((rI orr rs) :: (rI (⟨some ⟨b7, 0, none⟩, 0, 0⟩ : Sl) []) :: (rI (⟨some ⟨b9, 0, none⟩, 0, 0⟩ : Sl) []) :: []) := hS.pickN 6 [1, 2, 3] (by decide) rfl
 exact ⟨orr, ⟨some ⟨b7, 0, none⟩, 0, 0⟩, ⟨some ⟨b9, 0, none⟩, 0, 0⟩, rfl, hS⟩
theorem carryQ_sat {w0 w : World} {Rs : List Asn} {s sd : Sl} {l : List (List ST)} {dl : List (Int × Int)} {arg fuel : Int} (hS : Sat w0 w Rs) (hr : RdP w s l) (hrd : RdE cellsR 2 w sd dl) (hO : dOkB l arg fuel dl = true) :
  Calls Try.prog 62 #[.agg #[.slice s.A s.n s.c], .slice sd.A sd.n sd.c, iv arg, iv fuel] w (Ret fun r w' => ∃ o1 o2 o3 : Sl, r = .agg #[.slice o1.A o1.n o1.c, .slice o2.A o2.n o2.c, .slice o3.A o3.n o3.c] ∧ Sat w0 w' (rI o1 (cZ l dl arg fuel) :: rI o2 (cBk l dl arg fuel) :: rI o3 (cSt l dl arg fuel) :: Rs)) :=
 (carryQ_sat0 hr hrd hO).mono fun e w' h => by
  cases e with
  | returned r => obtain ⟨o1, o2, o3, h1, h2⟩ := h; exact ⟨o1, o2, o3, h1, hS.comp h2⟩
  | _ => exact h.elim
theorem code33 : Try.f33.body = some (Code.seq (cr Try.f33 0 false) (Code.seq (cr Try.f33 1 false) (Code.seq (cr Try.f33 2 false) Code.ret))) := by kernel_rfl
set_option maxRecDepth 20000 in
set_option maxHeartbeats 1000000 in
theorem impl_StuckDeeds_sat0 {w0 : World} {s sd : Sl} {l : List (List ST)} {dl : List (Int × Int)} {arg fuel : Int} (hr : RdP w0 s l) (hf : Fits l) (hrd : RdE cellsR 2 w0 sd dl) :
  Calls Try.prog 33 #[.agg #[.slice s.A s.n s.c], .slice sd.A sd.n sd.c, iv arg, iv fuel] w0 (Ret fun r w' => ∃ o0 : Sl, r = .tuple #[.slice o0.A o0.n o0.c, .bool ((stuckP l dl arg fuel).2)] ∧ Sat w0 w' (SX.row (.slice o0.A o0.n o0.c) 3 1 (encI ((stuckP l dl arg fuel).1)) :: [])) := by
 have hS : Sat w0 w0 [] := Sat.start w0
 have hdl := hrd.len
 refine enter (n := 23) Try.func33 code33 (by kernel_rfl) (Nat.le_of_ble_eq_true rfl) (fun a ha => ?_)
 replace ha : Has 23 [(0, .agg #[.slice s.A s.n s.c]), (1, .slice sd.A sd.n sd.c), (2, iv arg), (3, iv fuel)] a := ha
 refine wp_seq (jZ [0, 1, 2] (jU (xZ 4 [.slice s.A s.n s.c] 30 (ptr · 0) ha hS fun b1 w a hb2 hS ha => ?_)))
 refine jY [(1, 8, .slice none 0 0), (2, 9, .bool false)] ha fun a ha => ?_
 refine jW (jQ (wp_seq (jZ [0, 1, 2, 3, 4, 5, 6, 7, 8, 9, 10] (zZ 13 ha (hS.blk 0 rfl) fun a ha => ?_))))
 refine jY [(1, 14, .slice sd.A sd.n sd.c), (2, 15, iv arg), (3, 16, iv fuel)] ha fun a ha => ?_
 refine jU (xK 17 (vs := [.agg #[.slice s.A s.n s.c], .slice sd.A sd.n sd.c, iv arg, iv fuel]) ha (carryI_sat hS (hr.sat hS) hf (hrd.sat hS)) fun v3 w a hp4 ha => ?_)
 obtain ⟨oa, ob, rfl, hS⟩ := hp4
 refine jY [(5, 12, .tuple #[.agg #[iv ((cZ l dl arg fuel).length : Int), iv (lastZ (cZ l dl arg fuel)), .slice oa.A oa.n oa.c, .slice ob.A ob.n ob.c], .bool (dOkB l arg fuel dl)]), (6, 18, .agg #[iv ((cZ l dl arg fuel).length : Int), iv (lastZ (cZ l dl arg fuel)), .slice oa.A oa.n oa.c, .slice ob.A ob.n ob.c]), (7, 19, .bool (dOkB l arg fuel dl))] ha fun a ha => ?_
 refine jU (xZ 10 [iv 0, iv 0, .slice none 0 0, .slice none 0 0] 102 (ptr · 0) ha hS fun b5 w a hb6 hS ha => ?_)
 refine jU (jG 0 ha (xV (t := 102) (x := 10) (y := 18)) rfl rfl rfl (by kernel_rfl) hS rfl (Nat.le_of_ble_eq_true rfl) rfl fun w a hS ha => ?_)
 refine jY [(10, 11, .bool (dOkB l arg fuel dl))] ha fun a ha => ?_
 refine jW (jQ (wp_seq (jZ [0, 1, 2, 3, 4] (jY [(0, 20, ptr b5 3)] ha fun a ha => ?_))))
 refine qK (d := 21) (b := b5) (j := 3) ha (hS.blk 0 rfl) rfl fun a ha => ?_
 refine jY [(2, 22, .bool (dOkB l arg fuel dl)), (3, 8, .slice ob.A ob.n ob.c), (4, 9, .bool (dOkB l arg fuel dl))] ha fun a ha => ?_
 refine jW ?_
 replace ha := ha.as [(8, .slice ob.A ob.n ob.c), (9, .bool (dOkB l arg fuel dl))] rfl
 refine jQ (wp_ret (zW ha (by kernel_rfl) (yX (t := 8) ha rfl) (yX (t := 9) ha rfl) ?_))
 have hE : (stuckP l dl arg fuel) = ((cSt l dl arg fuel), (dOkB l arg fuel dl)) := by rfl
 rw [hE]
 exact ⟨ob, rfl, hS.pickN 4 [2] (by decide) rfl⟩
theorem impl_StuckDeeds_sat {w0 w : World} {Rs : List Asn} {s sd : Sl} {l : List (List ST)} {dl : List (Int × Int)} {arg fuel : Int} (hS : Sat w0 w Rs) (hr : RdP w s l) (hf : Fits l) (hrd : RdE cellsR 2 w sd dl) :
  Calls Try.prog 33 #[.agg #[.slice s.A s.n s.c], .slice sd.A sd.n sd.c, iv arg, iv fuel] w (Ret fun r w' => ∃ o0 : Sl, r = .tuple #[.slice o0.A o0.n o0.c, .bool ((stuckP l dl arg fuel).2)] ∧ Sat w0 w' (SX.row (.slice o0.A o0.n o0.c) 3 1 (encI ((stuckP l dl arg fuel).1)) :: Rs)) :=
 (impl_StuckDeeds_sat0 hr hf hrd).mono fun e w' h => by
  cases e with
  | returned r => obtain ⟨o0, h1, h2⟩ := h; exact ⟨o0, h1, hS.comp h2⟩
  | _ => exact h.elim
theorem code31 : Try.f31.body = some (Code.seq (cr Try.f31 0 false) (Code.seq (Code.seq (cr Try.f31 1 false) (Code.cond (Operand.tmp 15) (Code.seq (cr Try.f31 2 false) Code.ret) Code.skip)) (Code.seq (cr Try.f31 3 false) Code.ret))) := by kernel_rfl
set_option maxRecDepth 20000 in
set_option maxHeartbeats 1000000 in
theorem spec_StuckDeeds_sat0 {w0 : World} {s sd : Sl} {l : List (List ST)} {dl : List (Int × Int)} {arg fuel : Int} (hr : RdP w0 s l) (hf : Fits l) (hrd : RdE cellsR 2 w0 sd dl) :
  Calls Try.prog 31 #[.agg #[.slice s.A s.n s.c], .slice sd.A sd.n sd.c, iv arg, iv fuel] w0 (Ret fun r w' => ∃ o0 : Sl, r = .tuple #[.slice o0.A o0.n o0.c, .bool ((stuckP l dl arg fuel).2)] ∧ Sat w0 w' (SX.row (.slice o0.A o0.n o0.c) 3 1 (encI ((stuckP l dl arg fuel).1)) :: [])) := by
 have hS : Sat w0 w0 [] := Sat.start w0
 have hdl := hrd.len
 refine enter (n := 23) Try.func31 code31 (by kernel_rfl) (Nat.le_of_ble_eq_true rfl) (fun a ha => ?_)
 replace ha : Has 23 [(0, .agg #[.slice s.A s.n s.c]), (1, .slice sd.A sd.n sd.c), (2, iv arg), (3, iv fuel)] a := ha
 refine wp_seq (jZ [0, 1, 2] (jU (xZ 4 [.slice s.A s.n s.c] 30 (ptr · 0) ha hS fun b1 w a hb2 hS ha => ?_)))
 refine jY [(1, 8, .slice none 0 0), (2, 9, .bool false)] ha fun a ha => ?_
 refine jW (jQ (wp_seq (wp_seq (jZ [0, 1, 2, 3, 4, 5] (zZ 10 ha (hS.blk 0 rfl) fun a ha => ?_)))))
 refine jY [(1, 11, .slice sd.A sd.n sd.c), (2, 12, iv arg), (3, 13, iv fuel)] ha fun a ha => ?_
 refine jU (xK 14 (vs := [.agg #[.slice s.A s.n s.c], .slice sd.A sd.n sd.c, iv arg, iv fuel]) ha (ask8_sat hS hr hf hrd) fun v3 w a hp4 ha => ?_)
 obtain ⟨rfl, hS⟩ := hp4
 refine jY [(5, 15, .bool (!((dOkB l arg fuel dl))))] ha fun a ha => ?_
 refine jW (jQ ?_)
 rcases Bool.eq_false_or_eq_true (dOkB l arg fuel dl) with c5 | c5
 ·
  refine jH ha rfl (yU c5) ?_
  refine wp_skip (jQ (wp_seq (jZ [0, 1, 2, 3, 4, 5, 6, 7] (zZ 17 ha (hS.blk 0 rfl) fun a ha => ?_))))
  refine jY [(1, 18, .slice sd.A sd.n sd.c), (2, 19, iv arg), (3, 20, iv fuel)] ha fun a ha => ?_
  have hZl := cZ_len c5
  refine jU (xK 21 (vs := [.agg #[.slice s.A s.n s.c], .slice sd.A sd.n sd.c, iv arg, iv fuel]) ha (carryQ_sat hS (hr.sat hS) (hrd.sat hS) c5) fun v6 w a hp7 ha => ?_)
  obtain ⟨oz, oa, ob, rfl, hS⟩ := hp7
  have hzn := (hS.rdRow (s := oz) 0 rfl).len
  refine jY [(5, 22, .slice ob.A ob.n ob.c), (6, 8, .slice ob.A ob.n ob.c), (7, 9, .bool true)] ha fun a ha => ?_
  refine jW (jQ (wp_ret (zW ha (by kernel_rfl) (yX (t := 8) ha rfl) (yX (t := 9) ha rfl) ?_)))
  have hE : (stuckP l dl arg fuel) = ((cSt l dl arg fuel), true) := by unfold stuckP; rw [c5]
  rw [hE]
  exact ⟨ob, rfl, hS.pickN 4 [2] (by decide) rfl⟩
 refine qY ha rfl (zH c5) ?_
 refine wp_seq (jZ [0, 1, 2] (jU (xZ 16 [] 3 (fun b => .slice (some ⟨b, 0, none⟩) 0 0) ha hS fun b8 w a hb9 hS ha => ?_)))
 refine jY [(1, 8, .slice (some ⟨b8, 0, none⟩) 0 0), (2, 9, .bool false)] ha fun a ha => ?_
 refine jW (jQ (wp_ret (xJ ?_)))
 obtain ⟨q1, q2, q3⟩ := c_no c5
 refine zW ha (by kernel_rfl) (yX (t := 8) ha rfl) (yX (t := 9) ha rfl) ?_
 replace hS := hS.blk0 1 0 rfl
 have hE : (stuckP l dl arg fuel) = ([], false) := by unfold stuckP; rw [q3, c5]
 rw [hE]
 exact ⟨⟨some ⟨b8, 0, none⟩, 0, 0⟩, rfl, hS.pickN 2 [0] (by decide) rfl⟩
theorem spec_StuckDeeds_sat {w0 w : World} {Rs : List Asn} {s sd : Sl} {l : List (List ST)} {dl : List (Int × Int)} {arg fuel : Int} (hS : Sat w0 w Rs) (hr : RdP w s l) (hf : Fits l) (hrd : RdE cellsR 2 w sd dl) :
  Calls Try.prog 31 #[.agg #[.slice s.A s.n s.c], .slice sd.A sd.n sd.c, iv arg, iv fuel] w (Ret fun r w' => ∃ o0 : Sl, r = .tuple #[.slice o0.A o0.n o0.c, .bool ((stuckP l dl arg fuel).2)] ∧ Sat w0 w' (SX.row (.slice o0.A o0.n o0.c) 3 1 (encI ((stuckP l dl arg fuel).1)) :: Rs)) :=
 (spec_StuckDeeds_sat0 hr hf hrd).mono fun e w' h => by
  cases e with
  | returned r => obtain ⟨o0, h1, h2⟩ := h; exact ⟨o0, h1, hS.comp h2⟩
  | _ => exact h.elim
end Go.Proofs.Ytggahaddkoifkaa.G
end
section
namespace Go.Proofs.Ytggahaddkoifkaa.G
open Go.RowKit Go.Proofs.Ytggahaddkoifkaa.SX Go.Proofs.YtggahaddkoifkaaW.PrintWords Go.Proofs.YtggahaddkoifkaaW.PrintLast Go.Proofs.YtggahaddkoifkaaW.PrintMore
set_option linter.unusedVariables false
set_option linter.unusedSimpArgs false
theorem code7 : Try.f7.body = some (Code.seq (cr Try.f7 0 false) (Code.seq (cr Try.f7 1 false) (Code.seq (cr Try.f7 2 false) (Code.seq (Code.seq (cr Try.f7 3 false) (Code.cond (Operand.tmp 25) (Code.seq (cr Try.f7 4 false) Code.ret) Code.skip)) (Code.seq (cr Try.f7 5 false) (Code.seq (Code.seq (cr Try.f7 6 false) (Code.cond (Operand.tmp 30) (Code.seq (cr Try.f7 7 false) Code.ret) Code.skip)) (Code.seq (cr Try.f7 8 false) (Code.seq (cr Try.f7 9 false) (Code.seq (cr Try.f7 10 false) (Code.seq (cr Try.f7 11 false) (Code.seq (Code.seq (cr Try.f7 12 false) (Code.cond (Operand.tmp 61) (Code.seq (cr Try.f7 13 false) Code.ret) Code.skip)) (Code.seq (Code.seq (cr Try.f7 14 true) (Code.cond (Operand.tmp 66) (Code.seq (cr Try.f7 15 false) Code.ret) Code.skip)) (Code.seq (Code.seq (cr Try.f7 16 false) (Code.cond (Operand.tmp 71) (Code.seq (cr Try.f7 17 false) Code.ret) Code.skip)) (Code.seq (cr Try.f7 18 false) (Code.seq (cr Try.f7 19 false) (Code.seq (cr Try.f7 20 false) (Code.seq (Code.seq (cr Try.f7 21 false) (Code.cond (Operand.tmp 90) (Code.seq (cr Try.f7 22 false) Code.ret) Code.skip)) (Code.seq (cr Try.f7 23 false) (Code.seq (cr Try.f7 24 false) (Code.seq (cr Try.f7 25 false) (Code.seq (cr Try.f7 26 false) (Code.seq (Code.seq (cr Try.f7 27 false) (Code.cond (Operand.tmp 98) (Code.seq (cr Try.f7 28 false) Code.ret) Code.skip)) (Code.seq (Code.seq (cr Try.f7 29 false) (Code.cond (Operand.tmp 101) (Code.seq (cr Try.f7 30 false) Code.ret) Code.skip)) (Code.seq (cr Try.f7 31 false) (Code.seq (Code.seq (cr Try.f7 32 false) (Code.cond (Operand.tmp 120) (Code.seq (cr Try.f7 33 false) Code.ret) Code.skip)) (Code.seq (cr Try.f7 34 false) (Code.seq (cr Try.f7 35 false) (Code.seq (Code.seq (cr Try.f7 36 false) (Code.cond (Operand.tmp 125) (Code.seq (cr Try.f7 37 false) Code.ret) Code.skip)) (Code.seq (Code.seq (cr Try.f7 38 false) (Code.cond (Operand.tmp 128) (Code.seq (cr Try.f7 39 false) Code.ret) Code.skip)) (Code.seq (cr Try.f7 40 false) Code.ret)))))))))))))))))))))))))))))) := by kernel_rfl
set_option maxRecDepth 20000 in
set_option maxHeartbeats 1000000 in
theorem law7_walk (w0 : World) (s0 : Sl) (l0 : List (List LT)) (rdl : Sl) (dl : List (Int × Int)) (arg : Int) (fuel : Int) (hr0 : RdA w0 s0 l0) (hrdl : RdE cellsR 2 w0 rdl dl) :
  Calls Try.prog 7 #[.agg #[.slice s0.A s0.n s0.c], .slice rdl.A rdl.n rdl.c, iv arg, iv fuel] w0 (Ret fun r w' => r = .bool true ∧ Below w0.heap.size w0 w') := by
 have hS : Sat w0 w0 [] := Sat.start w0
 have hndl := hrdl.len
 have hgdl := hrdl.big
 refine enter (n := 129) Try.func7 code7 (by kernel_rfl) (Nat.le_of_ble_eq_true rfl) (fun a ha => ?_)
 replace ha : Has 129 [(0, .agg #[.slice s0.A s0.n s0.c]), (1, .slice rdl.A rdl.n rdl.c), (2, iv arg), (3, iv fuel)] a := ha
 refine wp_seq (jZ [0, 1] (jU (xZ 4 [.slice s0.A s0.n s0.c] 24 (ptr · 0) ha hS fun b1 w a hb2 hS ha => ?_)))
 refine jY [(1, 8, .bool false)] ha fun a ha => ?_
 refine jW (jQ (wp_seq (jZ [0] (jY [(0, 9, iv 1048576)] ha fun a ha => ?_))))
 refine jW (jQ (wp_seq (jZ [0, 1, 2, 3] (zZ 21 ha (hS.blk 0 rfl) fun a ha => ?_))))
 refine jY [(1, 22, iv 1048576)] ha fun a ha => ?_
 refine jU (xK 23 (vs := [.agg #[.slice s0.A s0.n s0.c], iv 1048576]) ha (szProgram_sat hS (hr0.sat hS) (by omega) (by omega)) fun v3 w a hp4 ha => ?_)
 obtain ⟨rfl, hS⟩ := hp4
 refine jY [(3, 9, iv (szP l0 1048576))] ha fun a ha => ?_
 refine jW (jQ (wp_seq (wp_seq (jZ [0, 1] (jY [(0, 24, iv (szP l0 1048576)), (1, 25, .bool (decide ((szP l0 1048576) < 0)))] ha fun a ha => ?_)))))
 refine jW (jQ ?_)
 by_cases c5 : (szP l0 1048576) < 0
 ·
  refine qY ha rfl (decide_eq_true c5) ?_
  refine wp_seq (jZ [0] (jY [(0, 8, .bool true)] ha fun a ha => ?_))
  refine jW (jQ (wp_ret (xJ (qG ha (by kernel_rfl) (yX (t := 8) ha rfl) ?_))))
  exact ⟨rfl, hS.below⟩
 have hf0 : Fits l0 := by have h8 : 0 ≤ szP l0 1048576 := (by omega); have h9 := szP_ok l0 1048576 h8; exact ⟨by omega, by omega⟩
 have htp0 := (toP_fits hf0).tot
 have hz0 := szP_ok l0 1048576 (by omega)
 refine jH ha rfl (decide_eq_false c5) ?_
 refine wp_skip (jQ (wp_seq (jZ [0, 1, 2, 3] (jY [(0, 26, .slice rdl.A rdl.n rdl.c), (1, 27, iv (szP l0 1048576))] ha fun a ha => ?_))))
 refine jU (xK 28 (vs := [.slice rdl.A rdl.n rdl.c, iv (szP l0 1048576)]) ha (szDeedS_sat hS (hrdl.sat hS).len (by omega) (by omega) (by omega)) fun v6 w a hp7 ha => ?_)
 obtain ⟨rfl, hS⟩ := hp7
 refine jY [(3, 9, iv (szN dl.length (szP l0 1048576)))] ha fun a ha => ?_
 refine jW (jQ (wp_seq (wp_seq (jZ [0, 1] (jY [(0, 29, iv (szN dl.length (szP l0 1048576))), (1, 30, .bool (decide ((szN dl.length (szP l0 1048576)) < 0)))] ha fun a ha => ?_)))))
 refine jW (jQ ?_)
 by_cases c8 : (szN dl.length (szP l0 1048576)) < 0
 ·
  refine qY ha rfl (decide_eq_true c8) ?_
  refine wp_seq (jZ [0] (jY [(0, 8, .bool true)] ha fun a ha => ?_))
  refine jW (jQ (wp_ret (xJ (qG ha (by kernel_rfl) (yX (t := 8) ha rfl) ?_))))
  exact ⟨rfl, hS.below⟩
 have hz9 := szN_ok (n := dl.length) (left := (szP l0 1048576)) (by omega)
 refine jH ha rfl (decide_eq_false c8) ?_
 refine wp_skip (jQ (wp_seq (jZ [0, 1, 2, 3, 4, 5, 6, 7, 8, 9, 10, 11] (zZ 32 ha (hS.blk 0 rfl) fun a ha => ?_))))
 refine jU (xK 33 (vs := [.agg #[.slice s0.A s0.n s0.c]]) ha (toProgram_sat hS (hr0.sat hS) hf0) fun v9 w a hp10 ha => ?_)
 obtain ⟨sp1, rfl, hS⟩ := hp10
 refine jY [(2, 34, .slice rdl.A rdl.n rdl.c)] ha fun a ha => ?_
 refine jU (xK 35 (vs := [.slice rdl.A rdl.n rdl.c]) ha (toDeedS_sat hS (hrdl.sat hS) (by omega)) fun v11 w a hp12 ha => ?_)
 obtain ⟨o1, rfl, hS⟩ := hp12
 refine jY [(4, 36, iv arg), (5, 37, iv fuel)] ha fun a ha => ?_
 refine jU (xK 38 (vs := [.agg #[.slice sp1.A sp1.n sp1.c], .slice o1.A o1.n o1.c, iv arg, iv fuel]) ha (spec_StuckDeeds_sat hS (hS.rdS 1 rfl) (toP_fits hf0) (hS.rdE (s := o1) 0 yZ (by decide) rfl)) fun v13 w a hp14 ha => ?_)
 obtain ⟨o2, rfl, hS⟩ := hp14
 refine jY [(7, 31, .tuple #[.slice o2.A o2.n o2.c, .bool ((stuckP (toP l0) dl arg fuel).2)]), (8, 39, .slice o2.A o2.n o2.c), (9, 40, .bool ((stuckP (toP l0) dl arg fuel).2)), (10, 10, .slice o2.A o2.n o2.c), (11, 11, .bool ((stuckP (toP l0) dl arg fuel).2))] ha fun a ha => ?_
 refine jW ?_
 replace ha := ha.as [(1, .slice rdl.A rdl.n rdl.c), (2, iv arg), (3, iv fuel), (4, ptr b1 0), (8, .bool false), (10, .slice o2.A o2.n o2.c), (11, .bool ((stuckP (toP l0) dl arg fuel).2))] rfl
 refine jQ (wp_seq (jZ [0, 1, 2, 3] (zZ 41 ha (hS.blk 3 rfl) fun a ha => ?_)))
 refine jU (xK 42 (vs := [.agg #[.slice s0.A s0.n s0.c]]) ha (toProgram_sat hS (hr0.sat hS) hf0) fun v15 w a hp16 ha => ?_)
 obtain ⟨sp2, rfl, hS⟩ := hp16
 refine jU (xZ 12 [.slice none 0 0] 30 (ptr · 0) ha hS fun b17 w a hb18 hS ha => ?_)
 refine jU (jG 0 ha (xV (t := 30) (x := 12) (y := 42)) rfl rfl rfl (by kernel_rfl) hS rfl (Nat.le_of_ble_eq_true rfl) rfl fun w a hS ha => ?_)
 refine jW (jQ (wp_seq (jZ [0, 1, 2] (jY [(0, 43, .slice rdl.A rdl.n rdl.c)] ha fun a ha => ?_))))
 refine jU (xK 44 (vs := [.slice rdl.A rdl.n rdl.c]) ha (toDeedS_sat hS (hrdl.sat hS) (by omega)) fun v19 w a hp20 ha => ?_)
 obtain ⟨o3, rfl, hS⟩ := hp20
 refine jY [(2, 13, .slice o3.A o3.n o3.c)] ha fun a ha => ?_
 refine jW (jQ (wp_seq (jZ [0, 1, 2, 3, 4, 5, 6, 7, 8, 9] (zZ 46 ha (hS.blk 1 rfl) fun a ha => ?_))))
 refine jY [(1, 47, .slice o3.A o3.n o3.c), (2, 48, iv arg), (3, 49, iv fuel)] ha fun a ha => ?_
 refine jU (xK 50 (vs := [.agg #[.slice sp2.A sp2.n sp2.c], .slice o3.A o3.n o3.c, iv arg, iv fuel]) ha (impl_StuckDeeds_sat hS (hS.rdS 2 rfl) (toP_fits hf0) (hS.rdE (s := o3) 0 yZ (by decide) rfl)) fun v21 w a hp22 ha => ?_)
 obtain ⟨o4, rfl, hS⟩ := hp22
 refine jY [(5, 45, .tuple #[.slice o4.A o4.n o4.c, .bool ((stuckP (toP l0) dl arg fuel).2)]), (6, 51, .slice o4.A o4.n o4.c), (7, 52, .bool ((stuckP (toP l0) dl arg fuel).2)), (8, 14, .slice o4.A o4.n o4.c), (9, 15, .bool ((stuckP (toP l0) dl arg fuel).2))] ha fun a ha => ?_
 refine jW (jQ (wp_seq (wp_seq (jZ [0, 1, 2, 3, 4, 5, 6, 7, 8] (jY [(0, 53, .slice o4.A o4.n o4.c), (1, 54, .slice o2.A o2.n o2.c)] ha fun a ha => ?_)))))
 refine jU (xK 55 (vs := [.slice o4.A o4.n o4.c, .slice o2.A o2.n o2.c]) ha (eqIntS_sat hS (hS.rdRow (s := o4) 0 rfl) (hS.rdRow (s := o2) 4 rfl)) fun v23 w a hp24 ha => ?_)
 obtain ⟨rfl, hS⟩ := hp24
 refine jY [(3, 56, .bool false), (4, 57, .bool false), (5, 58, .bool ((stuckP (toP l0) dl arg fuel).2)), (6, 59, .bool ((stuckP (toP l0) dl arg fuel).2))] ha fun a ha => ?_
 refine zY (.bool false) ha ((qU (v := .bool (!(((stuckP (toP l0) dl arg fuel).2) == ((stuckP (toP l0) dl arg fuel).2)))) ha (AtG.here (gd := 57) ⟨(by kernel_rfl : ((qW Try.f7 12)[7]?).map spec = some ((Op.binOp BinOp.neq 4 (Operand.tmp 58) (Operand.tmp 59) 4), some 60, 4, some (4, false))), by kernel_rfl⟩ ha rfl) (by kernel_rfl) (fun _ => by kernel_rfl)).as (by simp)) fun a ha => ?_
 refine jY [(8, 61, .bool false)] ha fun a ha => ?_
 refine jW ?_
 replace ha := ha.as [(1, .slice rdl.A rdl.n rdl.c), (2, iv arg), (3, iv fuel), (4, ptr b1 0), (8, .bool false), (10, .slice o2.A o2.n o2.c), (11, .bool ((stuckP (toP l0) dl arg fuel).2)), (12, ptr b17 0), (13, .slice o3.A o3.n o3.c), (14, .slice o4.A o4.n o4.c), (15, .bool ((stuckP (toP l0) dl arg fuel).2)), (61, .bool false)] rfl
 refine jQ ?_
 refine jH ha rfl rfl ?_
 refine wp_skip (jQ (wp_seq (wp_seq (xH 5 5 (hS.pickN 8 [2, 7] (by decide) rfl) hS fun w hS => ?_))))
 refine yY 0 62 ha (hS.pickN 8 [2, 7] (by decide) rfl) (jJ (jJ (jX))) (fun _ hw => hw.blk 0 rfl) fun a ha => ?_
 refine yY 1 63 ha (hS.pickN 8 [2, 7] (by decide) rfl) (jJ (jJ (jX))) (fun _ hw => hw.blk 1 rfl) fun a ha => ?_
 refine qZ 2 (xK 64 (vs := [.agg #[.slice s0.A s0.n s0.c]]) ha (toProgram_sat hS (hr0.sat hS) hf0) fun v25 w a hp26 ha => ?_)
 obtain ⟨sp3, rfl, hS⟩ := hp26
 refine ⟨.inr (hS.pickN 9 [3, 8] (by decide) rfl), ?_⟩
 refine qZ 3 (xK 65 (vs := [.agg #[.slice sp2.A sp2.n sp2.c], .agg #[.slice sp3.A sp3.n sp3.c]]) ha (eqP_sat hS (hS.rdS 4 rfl) (hS.rdS 0 rfl) (toP_fits hf0)) fun v27 w a hp28 ha => ?_)
 obtain ⟨rfl, hS⟩ := hp28
 refine ⟨.inr (hS.pickN 9 [3, 8] (by decide) rfl), ?_⟩
 refine jV (k := 0) [(4, 66, .bool false)] ha (.inr (hS.pickN 9 [3, 8] (by decide) rfl)) (jJ (jJ (jX))) fun a ha => ?_
 refine xU (jQ ?_)
 refine jH ha rfl rfl ?_
 refine wp_skip (jQ (wp_seq (wp_seq (jZ [0, 1, 2, 3, 4] (jY [(0, 67, .slice o3.A o3.n o3.c), (1, 68, .slice rdl.A rdl.n rdl.c)] ha fun a ha => ?_)))))
 refine jU (xK 69 (vs := [.slice rdl.A rdl.n rdl.c]) ha (toDeedS_sat hS (hrdl.sat hS) (by omega)) fun v29 w a hp30 ha => ?_)
 obtain ⟨o5, rfl, hS⟩ := hp30
 refine jU (xK 70 (vs := [.slice o3.A o3.n o3.c, .slice o5.A o5.n o5.c]) ha (eqDeedS_sat hS (hS.rdE (s := o3) 3 yZ (by decide) rfl) (hS.rdE (s := o5) 0 yZ (by decide) rfl)) fun v31 w a hp32 ha => ?_)
 obtain ⟨rfl, hS⟩ := hp32
 refine jY [(4, 71, .bool false)] ha fun a ha => ?_
 refine jW (jQ ?_)
 refine jH ha rfl rfl ?_
 refine wp_skip (jQ (wp_seq (jZ [0] (jY [(0, 16, iv 1)] ha fun a ha => ?_))))
 refine jW (jQ (wp_seq (jZ [0, 1, 2, 3] (zZ 72 ha (hS.blk 4 rfl) fun a ha => ?_))))
 refine jY [(1, 73, iv 1)] ha fun a ha => ?_
 replace hS : Sat w0 w ((prg w0.heap.size sp2 (toP l0)) :: (SX.row (.slice o5.A o5.n o5.c) 98 2 (encR dl)) :: (prg w0.heap.size sp3 (toP l0)) :: (SX.row (.slice o4.A o4.n o4.c) 3 1 (encI ((stuckP (toP l0) dl arg fuel).1))) :: (SX.row (.slice o3.A o3.n o3.c) 98 2 (encR dl)) :: (SX.blk b17 [.slice sp2.A sp2.n sp2.c] 30) :: (SX.row (.slice o2.A o2.n o2.c) 3 1 (encI ((stuckP (toP l0) dl arg fuel).1))) :: (SX.row (.slice o1.A o1.n o1.c) 98 2 (encR dl)) :: (prg w0.heap.size sp1 (toP l0)) :: (SX.blk b1 [.slice s0.A s0.n s0.c] 24) :: []) := hS.pickN 10 [5, 0, 1, 2, 3, 4, 6, 7, 8, 9] (by decide) rfl
 refine jU (xK 74 (vs := [.agg #[.slice sp2.A sp2.n sp2.c], iv 1]) ha (markProgram_sat hS (toP_fits hf0) (by omega) (by omega)) fun v33 w a hp34 ha => ?_)
 obtain ⟨rfl, hS⟩ := hp34
 refine jY [(3, 16, iv (1 + 3 * (tot (toP l0) : Int)))] ha fun a ha => ?_
 refine jW ?_
 replace ha := ha.as [(1, .slice rdl.A rdl.n rdl.c), (2, iv arg), (3, iv fuel), (4, ptr b1 0), (8, .bool false), (10, .slice o2.A o2.n o2.c), (11, .bool ((stuckP (toP l0) dl arg fuel).2)), (13, .slice o3.A o3.n o3.c), (14, .slice o4.A o4.n o4.c), (15, .bool ((stuckP (toP l0) dl arg fuel).2)), (16, iv (1 + 3 * (tot (toP l0) : Int)))] rfl
 refine jQ (wp_seq (jZ [0, 1, 2, 3] (jY [(0, 75, .slice o3.A o3.n o3.c), (1, 76, iv (1 + 3 * (tot (toP l0) : Int)))] ha fun a ha => ?_)))
 replace hS : Sat w0 w ((SX.row (.slice o3.A o3.n o3.c) 98 2 (encR dl)) :: (prg w0.heap.size sp2 (mkSS 1 (toP l0))) :: (SX.row (.slice o5.A o5.n o5.c) 98 2 (encR dl)) :: (prg w0.heap.size sp3 (toP l0)) :: (SX.row (.slice o4.A o4.n o4.c) 3 1 (encI ((stuckP (toP l0) dl arg fuel).1))) :: (SX.blk b17 [.slice sp2.A sp2.n sp2.c] 30) :: (SX.row (.slice o2.A o2.n o2.c) 3 1 (encI ((stuckP (toP l0) dl arg fuel).1))) :: (SX.row (.slice o1.A o1.n o1.c) 98 2 (encR dl)) :: (prg w0.heap.size sp1 (toP l0)) :: (SX.blk b1 [.slice s0.A s0.n s0.c] 24) :: []) := hS.pickN 10 [4, 0, 1, 2, 3, 5, 6, 7, 8, 9] (by decide) rfl
 refine jU (xK 77 (vs := [.slice o3.A o3.n o3.c, iv (1 + 3 * (tot (toP l0) : Int))]) ha (markDeedS_sat hS (by omega) (by omega) (by omega)) fun v35 w a hp36 ha => ?_)
 obtain ⟨rfl, hS⟩ := hp36
 refine jY [(3, 16, iv ((1 + 3 * (tot (toP l0) : Int)) + 2 * (dl.length : Int)))] ha fun a ha => ?_
 refine jW (jQ (wp_seq (wp_seq (jZ [0, 1, 2, 3, 4, 5, 6, 7, 8, 9, 10, 11, 12] (jY [(0, 78, iv ((1 + 3 * (tot (toP l0) : Int)) + 2 * (dl.length : Int)))] ha fun a ha => ?_)))))
 refine zY (.bool false) ha ((qU (v := .bool (decide ((1 + 3 * (tot (toP l0) : Int)) + 2 * (dl.length : Int) < 0))) ha (zK (op := (Op.binOp BinOp.lss 3 (Operand.tmp 78) (Operand.const (Value.int IntKind.i64 0)) 3)) (d := some 79) (ty := 4)) (by kernel_rfl) (fun _ => by kernel_rfl)).as (by rw [decide_eq_false (by omega)])) fun a ha => ?_
 refine jY [(2, 80, .bool false), (3, 81, .slice o4.A o4.n o4.c), (4, 82, .slice o2.A o2.n o2.c)] ha fun a ha => ?_
 refine jU (xK 83 (vs := [.slice o4.A o4.n o4.c, .slice o2.A o2.n o2.c]) ha (eqIntS_sat hS (hS.rdRow (s := o4) 4 rfl) (hS.rdRow (s := o2) 6 rfl)) fun v37 w a hp38 ha => ?_)
 obtain ⟨rfl, hS⟩ := hp38
 refine jY [(6, 84, .bool false), (7, 85, .bool false), (8, 86, .bool false), (9, 87, .bool ((stuckP (toP l0) dl arg fuel).2)), (10, 88, .bool ((stuckP (toP l0) dl arg fuel).2))] ha fun a ha => ?_
 refine zY (.bool false) ha ((qU (v := .bool (!(((stuckP (toP l0) dl arg fuel).2) == ((stuckP (toP l0) dl arg fuel).2)))) ha (AtG.here (gd := 86) ⟨(by kernel_rfl : ((qW Try.f7 21)[11]?).map spec = some ((Op.binOp BinOp.neq 4 (Operand.tmp 87) (Operand.tmp 88) 4), some 89, 4, some (8, false))), by kernel_rfl⟩ ha rfl) (by kernel_rfl) (fun _ => by kernel_rfl)).as (by simp)) fun a ha => ?_
 refine jY [(12, 90, .bool false)] ha fun a ha => ?_
 refine jW ?_
 replace ha := ha.as [(1, .slice rdl.A rdl.n rdl.c), (2, iv arg), (3, iv fuel), (4, ptr b1 0), (8, .bool false), (10, .slice o2.A o2.n o2.c), (11, .bool ((stuckP (toP l0) dl arg fuel).2)), (14, .slice o4.A o4.n o4.c), (90, .bool false)] rfl
 refine jQ ?_
 refine jH ha rfl rfl ?_
 refine wp_skip (jQ (wp_seq (jZ [0] (jY [(0, 17, iv 1)] ha fun a ha => ?_))))
 refine jW (jQ (wp_seq (jZ [0, 1, 2, 3] (jY [(0, 91, .slice o4.A o4.n o4.c), (1, 92, iv 1)] ha fun a ha => ?_))))
 replace hS : Sat w0 w ((SX.row (.slice o4.A o4.n o4.c) 3 1 (encI ((stuckP (toP l0) dl arg fuel).1))) :: (SX.row (.slice o3.A o3.n o3.c) 98 2 (encR (mkR (1 + 3 * (tot (toP l0) : Int)) dl.length))) :: (prg w0.heap.size sp2 (mkSS 1 (toP l0))) :: (SX.row (.slice o5.A o5.n o5.c) 98 2 (encR dl)) :: (prg w0.heap.size sp3 (toP l0)) :: (SX.blk b17 [.slice sp2.A sp2.n sp2.c] 30) :: (SX.row (.slice o2.A o2.n o2.c) 3 1 (encI ((stuckP (toP l0) dl arg fuel).1))) :: (SX.row (.slice o1.A o1.n o1.c) 98 2 (encR dl)) :: (prg w0.heap.size sp1 (toP l0)) :: (SX.blk b1 [.slice s0.A s0.n s0.c] 24) :: []) := hS.pickN 10 [4, 0, 1, 2, 3, 5, 6, 7, 8, 9] (by decide) rfl
 refine jU (xK 93 (vs := [.slice o4.A o4.n o4.c, iv 1]) ha (markG_sat hS (by omega) (by omega) (Nat.le_trans (stuckP_len ..) (by decide))) fun v39 w a hp40 ha => ?_)
 obtain ⟨rfl, hS⟩ := hp40
 refine jY [(3, 17, iv (1 + (((stuckP (toP l0) dl arg fuel).1).length : Int)))] ha fun a ha => ?_
 refine jW (jQ (wp_seq (jZ [0] (jY [(0, 18, iv 1)] ha fun a ha => ?_))))
 refine jW (jQ (wp_seq (jZ [0, 1, 2, 3] (jY [(0, 94, .slice o4.A o4.n o4.c), (1, 95, iv 1)] ha fun a ha => ?_))))
 refine jU (xK 96 (vs := [.slice o4.A o4.n o4.c, iv 1]) ha (heldI_sat hS (hS.rdRow (s := o4) 0 rfl) (Nat.le_trans (stuckP_len ..) (by decide))) fun v41 w a hp42 ha => ?_)
 obtain ⟨rfl, hS⟩ := hp42
 refine jY [(3, 18, iv (1 + (((stuckP (toP l0) dl arg fuel).1).length : Int)))] ha fun a ha => ?_
 refine jW (jQ (wp_seq (wp_seq (jZ [0, 1] (jY [(0, 97, iv (1 + (((stuckP (toP l0) dl arg fuel).1).length : Int)))] ha fun a ha => ?_)))))
 refine zY (.bool false) ha ((qU (v := .bool (decide (1 + (((stuckP (toP l0) dl arg fuel).1).length : Int) < 0))) ha (zK (op := (Op.binOp BinOp.lss 3 (Operand.tmp 97) (Operand.const (Value.int IntKind.i64 0)) 3)) (d := some 98) (ty := 4)) (by kernel_rfl) (fun _ => by kernel_rfl)).as (by rw [decide_eq_false (by omega)])) fun a ha => ?_
 refine jW (jQ ?_)
 refine jH ha rfl rfl ?_
 refine wp_skip (jQ (wp_seq (wp_seq (jZ [0, 1, 2] (jY [(0, 99, iv (1 + (((stuckP (toP l0) dl arg fuel).1).length : Int))), (1, 100, iv (1 + (((stuckP (toP l0) dl arg fuel).1).length : Int)))] ha fun a ha => ?_)))))
 refine zY (.bool false) ha ((qU (v := .bool (!(decide (1 + (((stuckP (toP l0) dl arg fuel).1).length : Int) = 1 + (((stuckP (toP l0) dl arg fuel).1).length : Int))))) ha (zK (op := (Op.binOp BinOp.neq 3 (Operand.tmp 99) (Operand.tmp 100) 3)) (d := some 101) (ty := 4)) (by kernel_rfl) (fun _ => by kernel_rfl)).as (by simp)) fun a ha => ?_
 refine jW (jQ ?_)
 refine jH ha rfl rfl ?_
 refine wp_skip (jQ (wp_seq (jZ [0, 1, 2, 3, 4, 5, 6, 7, 8, 9, 10, 11] (zZ 103 ha (hS.blk 9 rfl) fun a ha => ?_))))
 refine jU (xK 104 (vs := [.agg #[.slice s0.A s0.n s0.c]]) ha (toProgram_sat hS (hr0.sat hS) hf0) fun v43 w a hp44 ha => ?_)
 obtain ⟨sp4, rfl, hS⟩ := hp44
 refine jY [(2, 105, .slice rdl.A rdl.n rdl.c)] ha fun a ha => ?_
 refine jU (xK 106 (vs := [.slice rdl.A rdl.n rdl.c]) ha (toDeedS_sat hS (hrdl.sat hS) (by omega)) fun v45 w a hp46 ha => ?_)
 obtain ⟨o6, rfl, hS⟩ := hp46
 refine jY [(4, 107, iv arg), (5, 108, iv fuel)] ha fun a ha => ?_
 refine jU (xK 109 (vs := [.agg #[.slice sp4.A sp4.n sp4.c], .slice o6.A o6.n o6.c, iv arg, iv fuel]) ha (impl_StuckDeeds_sat hS (hS.rdS 1 rfl) (toP_fits hf0) (hS.rdE (s := o6) 0 yZ (by decide) rfl)) fun v47 w a hp48 ha => ?_)
 obtain ⟨o7, rfl, hS⟩ := hp48
 refine jY [(7, 102, .tuple #[.slice o7.A o7.n o7.c, .bool ((stuckP (toP l0) dl arg fuel).2)]), (8, 110, .slice o7.A o7.n o7.c), (9, 111, .bool ((stuckP (toP l0) dl arg fuel).2)), (10, 19, .slice o7.A o7.n o7.c), (11, 20, .bool ((stuckP (toP l0) dl arg fuel).2))] ha fun a ha => ?_
 refine jW ?_
 replace ha := ha.as [(8, .bool false), (10, .slice o2.A o2.n o2.c), (11, .bool ((stuckP (toP l0) dl arg fuel).2)), (14, .slice o4.A o4.n o4.c), (17, iv (1 + (((stuckP (toP l0) dl arg fuel).1).length : Int))), (18, iv (1 + (((stuckP (toP l0) dl arg fuel).1).length : Int))), (19, .slice o7.A o7.n o7.c), (20, .bool ((stuckP (toP l0) dl arg fuel).2))] rfl
 refine jQ (wp_seq (wp_seq (jZ [0, 1, 2, 3, 4, 5, 6, 7, 8] (jY [(0, 112, .slice o7.A o7.n o7.c), (1, 113, .slice o2.A o2.n o2.c)] ha fun a ha => ?_))))
 refine jU (xK 114 (vs := [.slice o7.A o7.n o7.c, .slice o2.A o2.n o2.c]) ha (eqIntS_sat hS (hS.rdRow (s := o7) 0 rfl) (hS.rdRow (s := o2) 9 rfl)) fun v49 w a hp50 ha => ?_)
 obtain ⟨rfl, hS⟩ := hp50
 refine jY [(3, 115, .bool false), (4, 116, .bool false), (5, 117, .bool ((stuckP (toP l0) dl arg fuel).2)), (6, 118, .bool ((stuckP (toP l0) dl arg fuel).2))] ha fun a ha => ?_
 refine zY (.bool false) ha ((qU (v := .bool (!(((stuckP (toP l0) dl arg fuel).2) == ((stuckP (toP l0) dl arg fuel).2)))) ha (AtG.here (gd := 116) ⟨(by kernel_rfl : ((qW Try.f7 32)[7]?).map spec = some ((Op.binOp BinOp.neq 4 (Operand.tmp 117) (Operand.tmp 118) 4), some 119, 4, some (4, false))), by kernel_rfl⟩ ha rfl) (by kernel_rfl) (fun _ => by kernel_rfl)).as (by simp)) fun a ha => ?_
 refine jY [(8, 120, .bool false)] ha fun a ha => ?_
 refine jW (jQ ?_)
 refine jH ha rfl rfl ?_
 refine wp_skip (jQ (wp_seq (jZ [0] (jY [(0, 18, iv 1)] ha fun a ha => ?_))))
 refine jW (jQ (wp_seq (jZ [0, 1, 2, 3] (jY [(0, 121, .slice o4.A o4.n o4.c), (1, 122, iv 1)] ha fun a ha => ?_))))
 refine jU (xK 123 (vs := [.slice o4.A o4.n o4.c, iv 1]) ha (heldI_sat hS (hS.rdRow (s := o4) 3 rfl) (Nat.le_trans (stuckP_len ..) (by decide))) fun v51 w a hp52 ha => ?_)
 obtain ⟨rfl, hS⟩ := hp52
 refine jY [(3, 18, iv (1 + (((stuckP (toP l0) dl arg fuel).1).length : Int)))] ha fun a ha => ?_
 refine jW ?_
 replace ha := ha.as [(8, .bool false), (17, iv (1 + (((stuckP (toP l0) dl arg fuel).1).length : Int))), (18, iv (1 + (((stuckP (toP l0) dl arg fuel).1).length : Int)))] rfl
 refine jQ (wp_seq (wp_seq (jZ [0, 1] (jY [(0, 124, iv (1 + (((stuckP (toP l0) dl arg fuel).1).length : Int)))] ha fun a ha => ?_))))
 refine zY (.bool false) ha ((qU (v := .bool (decide (1 + (((stuckP (toP l0) dl arg fuel).1).length : Int) < 0))) ha (zK (op := (Op.binOp BinOp.lss 3 (Operand.tmp 124) (Operand.const (Value.int IntKind.i64 0)) 3)) (d := some 125) (ty := 4)) (by kernel_rfl) (fun _ => by kernel_rfl)).as (by rw [decide_eq_false (by omega)])) fun a ha => ?_
 refine jW (jQ ?_)
 refine jH ha rfl rfl ?_
 refine wp_skip (jQ (wp_seq (wp_seq (jZ [0, 1, 2] (jY [(0, 126, iv (1 + (((stuckP (toP l0) dl arg fuel).1).length : Int))), (1, 127, iv (1 + (((stuckP (toP l0) dl arg fuel).1).length : Int)))] ha fun a ha => ?_)))))
 refine zY (.bool false) ha ((qU (v := .bool (!(decide (1 + (((stuckP (toP l0) dl arg fuel).1).length : Int) = 1 + (((stuckP (toP l0) dl arg fuel).1).length : Int))))) ha (zK (op := (Op.binOp BinOp.neq 3 (Operand.tmp 126) (Operand.tmp 127) 3)) (d := some 128) (ty := 4)) (by kernel_rfl) (fun _ => by kernel_rfl)).as (by simp)) fun a ha => ?_
 refine jW (jQ ?_)
 refine jH ha rfl rfl ?_
 refine wp_skip (jQ (wp_seq (jZ [0] (jY [(0, 8, .bool true)] ha fun a ha => ?_))))
 refine jW (jQ (wp_ret (qG ha (by kernel_rfl) (yX (t := 8) ha rfl) ?_)))
 exact ⟨rfl, hS.below⟩
end Go.Proofs.Ytggahaddkoifkaa.G
end
