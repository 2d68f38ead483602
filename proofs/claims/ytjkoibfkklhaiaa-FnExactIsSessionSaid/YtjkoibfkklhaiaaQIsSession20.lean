/- What the claim FnExactIsSession rests on, part 20 of 21; the last part proves it: for every input the law answers true, and its arguments read behind the call as before it. No condition. -/
import Derived.Test.YtjkoibfkklhaiaaQIsSession17
import Derived.Test.YtjkoibfkklhaiaaQIsSession18
section
namespace Go.Proofs.Ytjkoibfkklhaiaa.G
open Go.RowKit Go.Proofs.Ytjkoibfkklhaiaa.SX
set_option linter.unusedVariables false
set_option linter.unusedSimpArgs false
structure SN where
 jobs : List Int
 hooks : List Int
 says : List Int
 code : Int
 shared : Int
section
variable {l : List (List ST)} {fuel mode : Int} {js : List (Int × Int)} {q Q : SN} {i : Nat} {x : Int × Int}
end
def isFB (l : List (List ST)) (f : Int) : Bool := programB l && inB f 0 ((l.length : Int) - 1)
def jobB (l : List (List ST)) (j : Int × Int) : Bool := isFB l j.1 && numB j.2
def badJb (l : List (List ST)) (js : List (Int × Int)) : Bool := js.any fun j => !(jobB l j)
def badHk (l : List (List ST)) (hs : List Int) : Bool := hs.any fun h => !(isFB l h)
def sessB (l : List (List ST)) (js : List (Int × Int)) (hs : List Int) (mode : Int) : Bool := decide (js.length ≤ 12) && decide (hs.length ≤ 12) && inB mode 1 3 && !(badJb l js) && !(badHk l hs)
section
variable {α : Type} {p : α → Bool} {l : List α} {n : Nat} {x : α}
theorem anyN_yes (hx : l[n]? = some x) (h : p x = false) : (l.any fun z => !(p z)) = true := by
 rw [List.any_eq_true]; exact ⟨x, List.mem_of_getElem? hx, by rw [h]; rfl⟩
theorem anyN_no (h : ∀ (j : Nat) (z : α), j < n → l[j]? = some z → p z = true) (hn : l.length ≤ n) : (l.any fun z => !(p z)) = false := by
 rw [List.any_eq_false]; intro z hz
 obtain ⟨j, hj⟩ := List.getElem?_of_mem hz
 rw [h j z (by have := (List.getElem?_eq_some_iff.1 hj).1; omega) hj]; decide
theorem anyN_next (hx : l[n]? = some x) (hall : ∀ (j : Nat) (z : α), j < n → l[j]? = some z → p z = true) (h : p x = true) : ∀ (j : Nat) (z : α), j < n + 1 → l[j]? = some z → p z = true := by
 intro j z hj hz
 by_cases he : j = n
 · subst he; rw [hx] at hz; cases hz; exact h
 · exact hall j z (by omega) hz
end
section
variable {l : List (List ST)} {js : List (Int × Int)} {hs : List Int} {mode fuel : Int} {i : Nat}
end
def isSessP (l : List (List ST)) (js : List (Int × Int)) (hs : List Int) (mode : Int) : Bool × Bool := (programB l && sessB l js hs mode, programB l)
end Go.Proofs.Ytjkoibfkklhaiaa.G
end
section
namespace Go.Proofs.Ytjkoibfkklhaiaa.G
open Go.RowKit Go.Proofs.Ytjkoibfkklhaiaa.SX Go.Proofs.YtjkoibfkklhaiaaW.PrintWords Go.Proofs.YtjkoibfkklhaiaaW.PrintLast Go.Proofs.YtjkoibfkklhaiaaW.PrintMore
set_option linter.unusedVariables false
set_option linter.unusedSimpArgs false
theorem ipr_sat {w0 w : World} {Rs : List Asn} {s : Sl} {l : List (List ST)} (hS : Sat w0 w Rs) (hr : RdP w s l) :
  Calls Try.prog 84 #[.agg #[.slice s.A s.n s.c]] w (Ret fun r w' => r = .bool (programB l) ∧ Sat w0 w' Rs) := by
 have := impl_IsProgram.calls s.A s.c l (programB l) w hr.rd hr.le rfl
 rw [← hr.len] at this
 refine this.mono ?_
 rintro e w' ⟨rfl, hb⟩
 exact ⟨rfl, Sat.skip hS hb⟩
theorem qF_sat {w0 w : World} {Rs : List Asn} {s : Sl} {l : List (List ST)} {x : Int} (hS : Sat w0 w Rs) (hr : RdP w s l) (hf : Fits l) (hp : programB l = true) :
  Calls Try.prog 101 #[.agg #[.slice s.A s.n s.c], .int .i64 x] w (Ret fun r w' => r = .bool (isFB l x) ∧ Sat w0 w' Rs) := by
 have h3 := hf.len
 refine (q_fun hS x (pv := s) (by rw [hr.len]; omega)).mono fun e w' h => ?_
 cases e with
 | returned r => exact ⟨by rw [h.1, hr.len]; unfold isFB inB; rw [hp]; rfl, h.2⟩
 | _ => exact h.elim
theorem code120 : Try.f120.body = some (Code.seq (cr Try.f120 0 false) (Code.seq (cr Try.f120 1 false) Code.ret)) := by kernel_rfl
set_option maxRecDepth 20000 in
set_option maxHeartbeats 1000000 in
theorem isF_sat0 {w0 : World} {s : Sl} {l : List (List ST)} {f : Int} (hr : RdP w0 s l) (hf : Fits l) :
  Calls Try.prog 120 #[.agg #[.slice s.A s.n s.c], .int .i64 f] w0 (Ret fun r w' => r = .bool (isFB l f) ∧ Sat w0 w' []) := by
 have hS : Sat w0 w0 [] := Sat.start w0
 have hfl := hf.len
 have hrn := hr.len
 refine enter (n := 15) Try.func120 code120 (by kernel_rfl) (Nat.le_of_ble_eq_true rfl) (fun a ha => ?_)
 replace ha : Has 15 [(0, .agg #[.slice s.A s.n s.c]), (1, iv f)] a := ha
 refine wp_seq (jX [0, 1] (jH (qH 2 [.slice s.A s.n s.c] 35 (ptr · 0) ha hS fun b1 w a hb2 hS ha => ?_)))
 refine jY [(1, 4, .bool false)] ha fun a ha => ?_
 refine jZ (jJ (wp_seq (jX [0, 1, 2, 3, 4, 5, 6, 7, 8, 9, 10] (xV 5 ha (hS.blk 0 rfl) fun a ha => ?_))))
 refine jH (qK 6 (vs := [.agg #[.slice s.A s.n s.c]]) ha (ipr_sat hS (hr.sat hS)) fun v3 w a hp4 ha => ?_)
 obtain ⟨rfl, hS⟩ := hp4
 refine jY [(2, 7, .bool (programB l))] ha fun a ha => ?_
 rcases Bool.eq_false_or_eq_true (programB l) with c5 | c5
 ·
  replace ha := ha.turn 6 (.bool true) rfl (congrArg Value.bool c5)
  replace ha := ha.turn 7 (.bool true) rfl (congrArg Value.bool c5)
  refine jY [(3, 8, iv f), (4, 9, ptr b1 0)] ha fun a ha => ?_
  refine qW (d := 10) (b := b1) (j := 0) ha (hS.blk 0 rfl) rfl fun a ha => ?_
  refine jY [(6, 11, iv (s.n : Int))] ha fun a ha => ?_
  refine yJ 12 ((s.n : Int) - 1) ha fun a ha => ?_
  refine jH (qK 13 (vs := [iv f, iv 0, iv ((s.n : Int) - 1)]) ha (in_sat hS _ _ _) fun v6 w a hp7 ha => ?_)
  obtain ⟨rfl, hS⟩ := hp7
  refine jY [(9, 14, .bool (inB f 0 ((s.n : Int) - 1))), (10, 4, .bool (inB f 0 ((s.n : Int) - 1)))] ha fun a ha => ?_
  refine jZ (jJ (wp_ret (jV ha (by kernel_rfl) (qZ (t := 4) ha rfl) ?_)))
  have hE : isFB l f = (inB f 0 ((s.n : Int) - 1)) := by unfold isFB; rw [← hr.len, c5, Bool.true_and]
  rw [hE]
  exact ⟨rfl, Sat.rest [_] hS⟩
 replace ha := ha.turn 6 (.bool false) rfl (congrArg Value.bool c5)
 replace ha := ha.turn 7 (.bool false) rfl (congrArg Value.bool c5)
 refine jY [(3, 8, undef), (4, 9, undef), (5, 10, undef), (6, 11, undef), (7, 12, undef), (8, 13, undef), (9, 14, .bool false), (10, 4, .bool false)] ha fun a ha => ?_
 refine jZ (jJ (wp_ret (jV ha (by kernel_rfl) (qZ (t := 4) ha rfl) ?_)))
 have hE : isFB l f = false := by unfold isFB; rw [c5]; rfl
 rw [hE]
 exact ⟨rfl, Sat.rest [_] hS⟩
theorem isF_sat {w0 w : World} {Rs : List Asn} {s : Sl} {l : List (List ST)} {f : Int} (hS : Sat w0 w Rs) (hr : RdP w s l) (hf : Fits l) :
  Calls Try.prog 120 #[.agg #[.slice s.A s.n s.c], .int .i64 f] w (Ret fun r w' => r = .bool (isFB l f) ∧ Sat w0 w' Rs) := lift0 hS (isF_sat0 hr hf)
theorem code119 : Try.f119.body = some (Code.seq (cr Try.f119 0 false) (Code.seq (cr Try.f119 1 false) Code.ret)) := by kernel_rfl
set_option maxRecDepth 20000 in
set_option maxHeartbeats 1000000 in
theorem kj_sat {w0 w : World} {Rs : List Asn} {s : Sl} {l : List (List ST)} {bp : Nat} {x0 x1 : Int} (hS : Sat w0 w (SX.blk bp [.slice s.A s.n s.c] 35 :: Rs)) (hr : RdP w0 s l) (hf : Fits l) :
  Calls Try.prog 119 #[.agg #[iv x0, iv x1], ptr bp 0] w (Ret fun r w' => r = .bool (!(jobB l (x0, x1))) ∧ Sat w0 w' (SX.blk bp [.slice s.A s.n s.c] 35 :: Rs)) := by
 refine enter (n := 15) Try.func119 code119 (by kernel_rfl) (Nat.le_of_ble_eq_true rfl) (fun a ha => ?_)
 replace ha : Has 15 [(0, .agg #[iv x0, iv x1]), (1, ptr bp 0)] a := ha
 refine wp_seq (jX [0, 1] (jH (qH 2 [iv x0, iv x1] 131 (ptr · 0) ha hS fun b1 w a hb2 hS ha => ?_)))
 refine jY [(1, 3, .bool false)] ha fun a ha => ?_
 refine jZ (jJ (wp_seq (jX [0, 1, 2, 3, 4, 5, 6, 7, 8, 9, 10, 11] (xV 4 ha (hS.blk 1 rfl) fun a ha => ?_))))
 refine jY [(1, 5, ptr b1 0)] ha fun a ha => ?_
 refine qW (d := 6) (b := b1) (j := 0) ha (hS.blk 0 rfl) rfl fun a ha => ?_
 refine jH (qK 7 (vs := [.agg #[.slice s.A s.n s.c], iv x0]) ha (isF_sat hS (hr.sat hS) hf) fun v3 w a hp4 ha => ?_)
 obtain ⟨rfl, hS⟩ := hp4
 refine jY [(4, 8, .bool (!((isFB l x0)))), (5, 9, .bool (!((isFB l x0))))] ha fun a ha => ?_
 rcases Bool.eq_false_or_eq_true (isFB l x0) with c5 | c5
 ·
  replace ha := ha.turn 7 (.bool true) rfl (congrArg Value.bool c5)
  replace ha := ha.turn 8 (.bool false) rfl (congrArg Value.bool (xJ c5))
  replace ha := ha.turn 9 (.bool false) rfl (congrArg Value.bool (xJ c5))
  refine jY [(6, 10, ptr b1 1)] ha fun a ha => ?_
  refine qW (d := 11) (b := b1) (j := 1) ha (hS.blk 0 rfl) rfl fun a ha => ?_
  refine jH (qK 12 (vs := [iv x1]) ha (num_sat hS _) fun v6 w a hp7 ha => ?_)
  obtain ⟨rfl, hS⟩ := hp7
  refine jY [(9, 13, .bool (!((numB x1)))), (10, 14, .bool (!((numB x1)))), (11, 3, .bool (!((numB x1))))] ha fun a ha => ?_
  refine jZ (jJ (wp_ret (jV ha (by kernel_rfl) (qZ (t := 3) ha rfl) ?_)))
  have hE : (!(jobB l (x0, x1))) = !((numB x1)) := by simp [jobB, c5]
  rw [hE]
  replace hS := hS.pickN 2 [1] (by decide) rfl
  exact ⟨rfl, hS⟩
 replace ha := ha.turn 7 (.bool false) rfl (congrArg Value.bool c5)
 replace ha := ha.turn 8 (.bool true) rfl (congrArg Value.bool (xQ c5))
 replace ha := ha.turn 9 (.bool true) rfl (congrArg Value.bool (xQ c5))
 refine jY [(6, 10, undef), (7, 11, undef), (8, 12, undef), (9, 13, undef), (10, 14, .bool true), (11, 3, .bool true)] ha fun a ha => ?_
 refine jZ (jJ (wp_ret (jV ha (by kernel_rfl) (qZ (t := 3) ha rfl) ?_)))
 have hE : (!(jobB l (x0, x1))) = true := by simp [jobB, c5]
 rw [hE]
 replace hS := hS.pickN 2 [1] (by decide) rfl
 exact ⟨rfl, hS⟩
theorem code123 : Try.f123.body = some (Code.seq (cr Try.f123 0 false) (Code.seq (cr Try.f123 1 false) Code.ret)) := by kernel_rfl
set_option maxRecDepth 20000 in
set_option maxHeartbeats 1000000 in
theorem kh_sat {w0 w : World} {Rs : List Asn} {s : Sl} {l : List (List ST)} {bp : Nat} {x : Int} (hS : Sat w0 w (SX.blk bp [.slice s.A s.n s.c] 35 :: Rs)) (hr : RdP w0 s l) (hf : Fits l) :
  Calls Try.prog 123 #[iv x, ptr bp 0] w (Ret fun r w' => r = .bool (!(isFB l x)) ∧ Sat w0 w' (SX.blk bp [.slice s.A s.n s.c] 35 :: Rs)) := by
 refine enter (n := 8) Try.func123 code123 (by kernel_rfl) (Nat.le_of_ble_eq_true rfl) (fun a ha => ?_)
 replace ha : Has 8 [(0, iv x), (1, ptr bp 0)] a := ha
 refine wp_seq (jX [0] (jY [(0, 3, .bool false)] ha fun a ha => ?_))
 refine jZ (jJ (wp_seq (jX [0, 1, 2, 3, 4] (xV 4 ha (hS.blk 0 rfl) fun a ha => ?_))))
 refine jY [(1, 5, iv x)] ha fun a ha => ?_
 refine jH (qK 6 (vs := [.agg #[.slice s.A s.n s.c], iv x]) ha (isF_sat hS (hr.sat hS) hf) fun v1 w a hp2 ha => ?_)
 obtain ⟨rfl, hS⟩ := hp2
 refine jY [(3, 7, .bool (!((isFB l x)))), (4, 3, .bool (!((isFB l x))))] ha fun a ha => ?_
 refine jZ (jJ (wp_ret (jV ha (by kernel_rfl) (qZ (t := 3) ha rfl) ?_)))
 have hE : (!(isFB l x)) = !((isFB l x)) := by simp []
 rw [hE]
 replace hS : Sat w0 w ((SX.blk bp [.slice s.A s.n s.c] 35) :: Rs) := hS
 exact ⟨rfl, hS⟩
theorem code140 : Try.f140.body = some (Code.seq (cr Try.f140 0 false) (Code.seq (Code.seq (cr Try.f140 1 false) (Code.block 0 (Code.loop (Code.seq (cr Try.f140 2 false) (Code.seq (Code.cond (Operand.tmp 9) Code.skip (Code.exit 0)) (Code.seq (Code.block 1 (Code.seq (cr Try.f140 3 false) (Code.seq (cr Try.f140 4 false) (Code.cond (Operand.tmp 16) (Code.seq (cr Try.f140 5 false) Code.ret) Code.skip)))) (cr Try.f140 6 false))))))) (Code.seq (cr Try.f140 7 false) Code.ret))) := by kernel_rfl
set_option maxRecDepth 20000 in
set_option maxHeartbeats 1000000 in
theorem jidx_sat {w0 w : World} {Rs : List Asn} {s sj : Sl} {l : List (List ST)} {js : List (Int × Int)} {bp : Nat} (hS : Sat w0 w (SX.blk bp [.slice s.A s.n s.c] 35 :: Rs)) (hr : RdP w0 s l) (hf : Fits l) (hrj : RdE cellsR 2 w0 sj js) :
  Calls Try.prog 140 #[.slice sj.A sj.n sj.c, .func (.func 119) #[] #[ptr bp 0]] w (Ret fun r w' => ∃ kx : Int, r = .int .i64 kx ∧ decide (kx ≥ 0) = badJb l js ∧ Sat w0 w' (SX.blk bp [.slice s.A s.n s.c] 35 :: Rs)) := by
 have hdl := hrj.len
 have hbig := hrj.big
 refine enter (n := 19) Try.func140 code140 (by kernel_rfl) (Nat.le_of_ble_eq_true rfl) (fun a ha => ?_)
 replace ha : Has 19 [(0, .slice sj.A sj.n sj.c), (1, .func (.func 119) #[] #[ptr bp 0])] a := ha
 refine wp_seq (jX [0] (jY [(0, 4, iv 0)] ha fun a ha => ?_))
 refine jZ (jJ (wp_seq (wp_seq (jX [0, 1, 2] (jY [(0, 6, .slice sj.A sj.n sj.c), (1, 7, iv (sj.n : Int)), (2, 8, iv 0)] ha fun a ha => ?_)))))
 refine jZ (jJ (wp_block ?_))
 refine wp_loop_ghost (fun n_ a_ w_ => ∃ (i : Nat), n_ = js.length - i ∧ (i ≤ js.length) ∧ (∀ (j : Nat) z, j < i → js[j]? = some z → jobB l z = true) ∧ Has 19 [(0, .slice sj.A sj.n sj.c), (1, .func (.func 119) #[] #[ptr bp 0]), (7, iv (sj.n : Int)), (8, iv (i : Int))] a_ ∧ Sat w0 w_ ((SX.blk bp [.slice s.A s.n s.c] 35) :: Rs)) _ ⟨0, rfl, Nat.zero_le _, (fun j z hj => by omega), ha.keeps [0, 1, 7, 8] _ rfl, hS⟩ ?_
 rintro n_ a w ⟨i, rfl, hi, hall, ha, hS⟩
 refine wp_seq (jX [0] (jY [(0, 9, .bool (decide ((i : Int) < (sj.n : Int))))] ha fun a ha => ?_))
 refine jZ (jJ (wp_seq ?_))
 by_cases c1 : (i : Int) < (sj.n : Int)
 ·
  have hlt : i < js.length := by omega
  obtain ⟨x9, hx9⟩ : ∃ x, js[i]? = some x := ⟨_, List.getElem?_eq_getElem hlt⟩
  refine qQ ha rfl (decide_eq_true c1) ?_
  refine wp_skip (jJ (wp_seq (wp_block (wp_seq (jX [0, 1] (jY [(0, 10, iv (i : Int)), (1, 5, iv (i : Int))] ha fun a ha => ?_))))))
  refine jZ (jJ (wp_seq (jX [0, 1, 2, 3, 4, 5] (jY [(0, 11, .func (.func 119) #[] #[ptr bp 0]), (1, 12, .slice sj.A sj.n sj.c), (2, 13, iv (i : Int))] ha fun a ha => ?_))))
  refine xZ (.pointer (some ⟨bk sj, of_ sj + i * 2, none⟩)) ha (xU (el := 131) (sz := 2) (j := i) ha (yY (t := 37) (x := 12) (y := 13) (d := 14)) rfl rfl (by kernel_rfl) (by kernel_rfl) (RdE.at_ (hrj.sat hS) _ _ hx9).1 (rfl) (by rw [((hrj.sat hS)).len]; exact (List.getElem?_eq_some_iff.1 hx9).1)) fun a ha => ?_
  refine xZ (.agg #[iv x9.1, iv x9.2]) ha (v_loadE (b := bk sj) (f := of_ sj + i * 2) (vs := [iv x9.1, iv x9.2]) ha (yZ (t := 131) (x := 14) (d := 15) (ty := 131)) rfl (by kernel_rfl) (fun w' hw o u hu => by rw [hw]; exact (RdE.at_ (hrj.sat hS) _ _ hx9).2 o u hu)) fun a ha => ?_
  replace hS : Sat w0 w ((SX.blk bp [.slice s.A s.n s.c] 35) :: Rs) := hS
  refine jH (o_retF (t := 11) (f := 119) (cap := [ptr bp 0]) ha (by decide) (yH (op := (Op.call { callee := (Callee.value (Operand.tmp 11)), args := #[(Operand.tmp 15)], argTypes := #[131] })) (d := some 16) (ty := 4)) rfl rfl Try.func119 (by kernel_rfl) (kj_sat (x0 := x9.1) (x1 := x9.2) hS hr hf) fun v2 w a hp3 ha => ?_)
  obtain ⟨rfl, hS⟩ := hp3
  refine jZ (jJ ?_)
  rcases Bool.eq_false_or_eq_true (jobB l x9) with c4 | c4
  ·
   refine jU ha rfl (xJ c4) ?_
   refine wp_skip (in_n (jJ (jX [0, 1] (yJ 18 ((i : Int) + 1) ha fun a ha => ?_))))
   refine jY [(1, 8, iv ((i : Int) + 1))] ha fun a ha => ?_
   refine jZ (jJ ?_)
   exact ⟨_, by omega, i + 1, rfl, by omega, anyN_next hx9 hall c4, ha.keeps [0, 1, 7, 8] _ rfl, hS⟩
  refine qQ ha rfl (xQ c4) ?_
  refine wp_seq (jX [0, 1] (jY [(0, 17, iv (i : Int)), (1, 4, iv (i : Int))] ha fun a ha => ?_))
  refine jZ (jJ (wp_ret (in_r (qY (qY (in_r (qY (jV ha (by kernel_rfl) (qZ (t := 4) ha rfl) ?_))))))))
  exact ⟨_, rfl, by rw [show badJb l js = true from anyN_yes hx9 c4]; exact decide_eq_true (by omega), hS⟩
 refine jU ha rfl (decide_eq_false c1) ?_
 refine wp_exit (qU (qU (in_x (jJ (wp_seq (jX [0] (jY [(0, 4, iv (-1))] ha fun a ha => ?_)))))))
 refine jZ (jJ (wp_ret (jV ha (by kernel_rfl) (qZ (t := 4) ha rfl) ?_)))
 exact ⟨_, rfl, by rw [show badJb l js = false from anyN_no hall (by omega)]; decide, hS⟩
theorem code118 : Try.f118.body = some (Code.seq (cr Try.f118 0 false) (Code.seq (cr Try.f118 1 false) Code.ret)) := by kernel_rfl
set_option maxRecDepth 20000 in
set_option maxHeartbeats 1000000 in
theorem jcon_sat {w0 w : World} {Rs : List Asn} {s sj : Sl} {l : List (List ST)} {js : List (Int × Int)} {bp : Nat} (hS : Sat w0 w (SX.blk bp [.slice s.A s.n s.c] 35 :: Rs)) (hr : RdP w0 s l) (hf : Fits l) (hrj : RdE cellsR 2 w0 sj js) :
  Calls Try.prog 118 #[.slice sj.A sj.n sj.c, .func (.func 119) #[] #[ptr bp 0]] w (Ret fun r w' => r = .bool (badJb l js) ∧ Sat w0 w' (SX.blk bp [.slice s.A s.n s.c] 35 :: Rs)) := by
 refine enter (n := 9) Try.func118 code118 (by kernel_rfl) (Nat.le_of_ble_eq_true rfl) (fun a ha => ?_)
 replace ha : Has 9 [(0, .slice sj.A sj.n sj.c), (1, .func (.func 119) #[] #[ptr bp 0])] a := ha
 refine wp_seq (jX [0] (jY [(0, 4, .bool false)] ha fun a ha => ?_))
 refine jZ (jJ (wp_seq (jX [0, 1, 2, 3, 4] (jY [(0, 5, .slice sj.A sj.n sj.c), (1, 6, .func (.func 119) #[] #[ptr bp 0])] ha fun a ha => ?_))))
 replace hS : Sat w0 w ((SX.blk bp [.slice s.A s.n s.c] 35) :: Rs) := hS
 refine jH (qK 7 (vs := [.slice sj.A sj.n sj.c, .func (.func 119) #[] #[ptr bp 0]]) ha (jidx_sat hS hr hf hrj) fun v1 w a hp2 ha => ?_)
 obtain ⟨kx, rfl, hkx, hS⟩ := hp2
 refine jY [(3, 8, .bool (decide (kx ≥ 0))), (4, 4, .bool (decide (kx ≥ 0)))] ha fun a ha => ?_
 refine jZ (jJ (wp_ret (jV ha (by kernel_rfl) (qZ (t := 4) ha rfl) ?_)))
 exact ⟨congrArg Value.bool (show (decide (kx ≥ 0)) = badJb l js from hkx), hS⟩
theorem code141 : Try.f141.body = some (Code.seq (cr Try.f141 0 false) (Code.seq (Code.seq (cr Try.f141 1 false) (Code.block 0 (Code.loop (Code.seq (cr Try.f141 2 false) (Code.seq (Code.cond (Operand.tmp 9) Code.skip (Code.exit 0)) (Code.seq (Code.block 1 (Code.seq (cr Try.f141 3 false) (Code.seq (cr Try.f141 4 false) (Code.cond (Operand.tmp 16) (Code.seq (cr Try.f141 5 false) Code.ret) Code.skip)))) (cr Try.f141 6 false))))))) (Code.seq (cr Try.f141 7 false) Code.ret))) := by kernel_rfl
set_option maxRecDepth 20000 in
set_option maxHeartbeats 1000000 in
theorem hidx_sat {w0 w : World} {Rs : List Asn} {s sh : Sl} {l : List (List ST)} {hs : List Int} {bp : Nat} (hS : Sat w0 w (SX.blk bp [.slice s.A s.n s.c] 35 :: Rs)) (hr : RdP w0 s l) (hf : Fits l) (hrh : RdI w0 sh hs) :
  Calls Try.prog 141 #[.slice sh.A sh.n sh.c, .func (.func 123) #[] #[ptr bp 0]] w (Ret fun r w' => ∃ kx : Int, r = .int .i64 kx ∧ decide (kx ≥ 0) = badHk l hs ∧ Sat w0 w' (SX.blk bp [.slice s.A s.n s.c] 35 :: Rs)) := by
 have hdl := hrh.len
 have hbig := hrh.big
 refine enter (n := 19) Try.func141 code141 (by kernel_rfl) (Nat.le_of_ble_eq_true rfl) (fun a ha => ?_)
 replace ha : Has 19 [(0, .slice sh.A sh.n sh.c), (1, .func (.func 123) #[] #[ptr bp 0])] a := ha
 refine wp_seq (jX [0] (jY [(0, 4, iv 0)] ha fun a ha => ?_))
 refine jZ (jJ (wp_seq (wp_seq (jX [0, 1, 2] (jY [(0, 6, .slice sh.A sh.n sh.c), (1, 7, iv (sh.n : Int)), (2, 8, iv 0)] ha fun a ha => ?_)))))
 refine jZ (jJ (wp_block ?_))
 refine wp_loop_ghost (fun n_ a_ w_ => ∃ (i : Nat), n_ = hs.length - i ∧ (i ≤ hs.length) ∧ (∀ (j : Nat) z, j < i → hs[j]? = some z → isFB l z = true) ∧ Has 19 [(0, .slice sh.A sh.n sh.c), (1, .func (.func 123) #[] #[ptr bp 0]), (7, iv (sh.n : Int)), (8, iv (i : Int))] a_ ∧ Sat w0 w_ ((SX.blk bp [.slice s.A s.n s.c] 35) :: Rs)) _ ⟨0, rfl, Nat.zero_le _, (fun j z hj => by omega), ha.keeps [0, 1, 7, 8] _ rfl, hS⟩ ?_
 rintro n_ a w ⟨i, rfl, hi, hall, ha, hS⟩
 refine wp_seq (jX [0] (jY [(0, 9, .bool (decide ((i : Int) < (sh.n : Int))))] ha fun a ha => ?_))
 refine jZ (jJ (wp_seq ?_))
 by_cases c1 : (i : Int) < (sh.n : Int)
 ·
  have hlt : i < hs.length := by omega
  obtain ⟨x9, hx9⟩ : ∃ x, hs[i]? = some x := ⟨_, List.getElem?_eq_getElem hlt⟩
  refine qQ ha rfl (decide_eq_true c1) ?_
  refine wp_skip (jJ (wp_seq (wp_block (wp_seq (jX [0, 1] (jY [(0, 10, iv (i : Int)), (1, 5, iv (i : Int))] ha fun a ha => ?_))))))
  refine jZ (jJ (wp_seq (jX [0, 1, 2, 3, 4, 5] (jY [(0, 11, .func (.func 123) #[] #[ptr bp 0]), (1, 12, .slice sh.A sh.n sh.c), (2, 13, iv (i : Int))] ha fun a ha => ?_))))
  refine xZ (.pointer (some ⟨bk sh, of_ sh + i * 1, none⟩)) ha (xX (el := 3) (sz := 1) (j := i) ha (yY (t := 26) (x := 12) (y := 13) (d := 14)) rfl rfl (by kernel_rfl) (by kernel_rfl) ((hrh.sat hS).at_ ((List.getElem?_eq_some_iff.1 hx9).1)).1 (by rw [((hrh.sat hS)).len]; exact (List.getElem?_eq_some_iff.1 hx9).1)) fun a ha => ?_
  refine xZ (iv x9) ha (xY (p := ⟨bk sh, of_ sh + i * 1, none⟩) ha (yZ (t := 3) (x := 14) (d := 15) (ty := 3)) rfl (by kernel_rfl) (fun w' hw => by rw [hw, Nat.mul_one, ← getD_is hx9]; exact ((hrh.sat hS).at_ ((List.getElem?_eq_some_iff.1 hx9).1)).2)) fun a ha => ?_
  replace hS : Sat w0 w ((SX.blk bp [.slice s.A s.n s.c] 35) :: Rs) := hS
  refine jH (o_retF (t := 11) (f := 123) (cap := [ptr bp 0]) ha (by decide) (yH (op := (Op.call { callee := (Callee.value (Operand.tmp 11)), args := #[(Operand.tmp 15)], argTypes := #[3] })) (d := some 16) (ty := 4)) rfl rfl Try.func123 (by kernel_rfl) (kh_sat (x := x9) hS hr hf) fun v2 w a hp3 ha => ?_)
  obtain ⟨rfl, hS⟩ := hp3
  refine jZ (jJ ?_)
  rcases Bool.eq_false_or_eq_true (isFB l x9) with c4 | c4
  ·
   refine jU ha rfl (xJ c4) ?_
   refine wp_skip (in_n (jJ (jX [0, 1] (yJ 18 ((i : Int) + 1) ha fun a ha => ?_))))
   refine jY [(1, 8, iv ((i : Int) + 1))] ha fun a ha => ?_
   refine jZ (jJ ?_)
   exact ⟨_, by omega, i + 1, rfl, by omega, anyN_next hx9 hall c4, ha.keeps [0, 1, 7, 8] _ rfl, hS⟩
  refine qQ ha rfl (xQ c4) ?_
  refine wp_seq (jX [0, 1] (jY [(0, 17, iv (i : Int)), (1, 4, iv (i : Int))] ha fun a ha => ?_))
  refine jZ (jJ (wp_ret (in_r (qY (qY (in_r (qY (jV ha (by kernel_rfl) (qZ (t := 4) ha rfl) ?_))))))))
  exact ⟨_, rfl, by rw [show badHk l hs = true from anyN_yes hx9 c4]; exact decide_eq_true (by omega), hS⟩
 refine jU ha rfl (decide_eq_false c1) ?_
 refine wp_exit (qU (qU (in_x (jJ (wp_seq (jX [0] (jY [(0, 4, iv (-1))] ha fun a ha => ?_)))))))
 refine jZ (jJ (wp_ret (jV ha (by kernel_rfl) (qZ (t := 4) ha rfl) ?_)))
 exact ⟨_, rfl, by rw [show badHk l hs = false from anyN_no hall (by omega)]; decide, hS⟩
theorem code122 : Try.f122.body = some (Code.seq (cr Try.f122 0 false) (Code.seq (cr Try.f122 1 false) Code.ret)) := by kernel_rfl
set_option maxRecDepth 20000 in
set_option maxHeartbeats 1000000 in
theorem hcon_sat {w0 w : World} {Rs : List Asn} {s sh : Sl} {l : List (List ST)} {hs : List Int} {bp : Nat} (hS : Sat w0 w (SX.blk bp [.slice s.A s.n s.c] 35 :: Rs)) (hr : RdP w0 s l) (hf : Fits l) (hrh : RdI w0 sh hs) :
  Calls Try.prog 122 #[.slice sh.A sh.n sh.c, .func (.func 123) #[] #[ptr bp 0]] w (Ret fun r w' => r = .bool (badHk l hs) ∧ Sat w0 w' (SX.blk bp [.slice s.A s.n s.c] 35 :: Rs)) := by
 refine enter (n := 9) Try.func122 code122 (by kernel_rfl) (Nat.le_of_ble_eq_true rfl) (fun a ha => ?_)
 replace ha : Has 9 [(0, .slice sh.A sh.n sh.c), (1, .func (.func 123) #[] #[ptr bp 0])] a := ha
 refine wp_seq (jX [0] (jY [(0, 4, .bool false)] ha fun a ha => ?_))
 refine jZ (jJ (wp_seq (jX [0, 1, 2, 3, 4] (jY [(0, 5, .slice sh.A sh.n sh.c), (1, 6, .func (.func 123) #[] #[ptr bp 0])] ha fun a ha => ?_))))
 replace hS : Sat w0 w ((SX.blk bp [.slice s.A s.n s.c] 35) :: Rs) := hS
 refine jH (qK 7 (vs := [.slice sh.A sh.n sh.c, .func (.func 123) #[] #[ptr bp 0]]) ha (hidx_sat hS hr hf hrh) fun v1 w a hp2 ha => ?_)
 obtain ⟨kx, rfl, hkx, hS⟩ := hp2
 refine jY [(3, 8, .bool (decide (kx ≥ 0))), (4, 4, .bool (decide (kx ≥ 0)))] ha fun a ha => ?_
 refine jZ (jJ (wp_ret (jV ha (by kernel_rfl) (qZ (t := 4) ha rfl) ?_)))
 exact ⟨congrArg Value.bool (show (decide (kx ≥ 0)) = badHk l hs from hkx), hS⟩
theorem code85 : Try.f85.body = some (Code.seq (cr Try.f85 0 false) (Code.seq (cr Try.f85 1 false) Code.ret)) := by kernel_rfl
set_option maxRecDepth 20000 in
set_option maxHeartbeats 1000000 in
theorem isS_sat0 {w0 : World} {s sj sh : Sl} {l : List (List ST)} {js : List (Int × Int)} {hs : List Int} {mode : Int} (hr : RdP w0 s l) (hf : Fits l) (hrj : RdE cellsR 2 w0 sj js) (hrh : RdI w0 sh hs) :
  Calls Try.prog 85 #[.agg #[.slice s.A s.n s.c], .agg #[.slice sj.A sj.n sj.c, .slice sh.A sh.n sh.c, .int .i64 mode]] w0 (Ret fun r w' => r = .bool (sessB l js hs mode) ∧ Sat w0 w' []) := by
 have hS : Sat w0 w0 [] := Sat.start w0
 have hjn := hrj.len
 have hhn := hrh.len
 have hjb := hrj.big
 have hhb := hrh.big
 refine enter (n := 34) Try.func85 code85 (by kernel_rfl) (Nat.le_of_ble_eq_true rfl) (fun a ha => ?_)
 replace ha : Has 34 [(0, .agg #[.slice s.A s.n s.c]), (1, .agg #[.slice sj.A sj.n sj.c, .slice sh.A sh.n sh.c, iv mode])] a := ha
 refine wp_seq (jX [0, 1, 2] (jH (qH 2 [.slice s.A s.n s.c] 35 (ptr · 0) ha hS fun b1 w a hb2 hS ha => ?_)))
 refine jH (qH 3 [.slice sj.A sj.n sj.c, .slice sh.A sh.n sh.c, iv mode] 39 (ptr · 0) ha hS fun b3 w a hb4 hS ha => ?_)
 refine jY [(2, 4, .bool false)] ha fun a ha => ?_
 refine jZ (jJ (wp_seq (jX [0, 1, 2, 3, 4, 5, 6, 7, 8, 9, 10, 11, 12, 13, 14, 15, 16, 17, 18, 19, 20, 21, 22, 23, 24, 25, 26, 27, 28, 29] (jY [(0, 5, ptr b3 0)] ha fun a ha => ?_))))
 refine qW (d := 6) (b := b3) (j := 0) ha (hS.blk 0 rfl) rfl fun a ha => ?_
 refine jY [(2, 7, iv (sj.n : Int)), (3, 8, .bool (decide ((sj.n : Int) ≤ 12))), (4, 9, .bool (decide ((sj.n : Int) ≤ 12)))] ha fun a ha => ?_
 by_cases c5 : (sj.n : Int) ≤ 12
 ·
  replace ha := ha.turn 8 (.bool true) rfl (congrArg Value.bool (decide_eq_true c5))
  replace ha := ha.turn 9 (.bool true) rfl (congrArg Value.bool (decide_eq_true c5))
  refine jY [(5, 10, ptr b3 1)] ha fun a ha => ?_
  refine qW (d := 11) (b := b3) (j := 1) ha (hS.blk 0 rfl) rfl fun a ha => ?_
  refine jY [(7, 12, iv (sh.n : Int)), (8, 13, .bool (decide ((sh.n : Int) ≤ 12))), (9, 14, .bool (decide ((sh.n : Int) ≤ 12))), (10, 15, .bool (decide ((sh.n : Int) ≤ 12)))] ha fun a ha => ?_
  by_cases c6 : (sh.n : Int) ≤ 12
  ·
   replace ha := ha.turn 13 (.bool true) rfl (congrArg Value.bool (decide_eq_true c6))
   replace ha := ha.turn 14 (.bool true) rfl (congrArg Value.bool (decide_eq_true c6))
   replace ha := ha.turn 15 (.bool true) rfl (congrArg Value.bool (decide_eq_true c6))
   refine jY [(11, 16, ptr b3 2)] ha fun a ha => ?_
   refine qW (d := 17) (b := b3) (j := 2) ha (hS.blk 0 rfl) rfl fun a ha => ?_
   refine jH (qK 18 (vs := [iv mode, iv 1, iv 3]) ha (in_sat hS _ _ _) fun v7 w a hp8 ha => ?_)
   obtain ⟨rfl, hS⟩ := hp8
   refine jY [(14, 19, .bool (inB mode 1 3)), (15, 20, .bool (inB mode 1 3))] ha fun a ha => ?_
   rcases Bool.eq_false_or_eq_true (inB mode 1 3) with c9 | c9
   ·
    replace ha := ha.turn 18 (.bool true) rfl (congrArg Value.bool c9)
    replace ha := ha.turn 19 (.bool true) rfl (congrArg Value.bool c9)
    replace ha := ha.turn 20 (.bool true) rfl (congrArg Value.bool c9)
    refine jY [(16, 21, ptr b3 0)] ha fun a ha => ?_
    refine qW (d := 22) (b := b3) (j := 0) ha (hS.blk 0 rfl) rfl fun a ha => ?_
    refine jY [(18, 23, .func (.func 119) #[] #[ptr b1 0])] ha fun a ha => ?_
    replace hS := hS.pickN 2 [1, 0] (by decide) rfl
    refine jH (qK 24 (vs := [.slice sj.A sj.n sj.c, .func (.func 119) #[] #[ptr b1 0]]) ha (jcon_sat hS hr hf hrj) fun v10 w a hp11 ha => ?_)
    obtain ⟨rfl, hS⟩ := hp11
    refine jY [(20, 25, .bool (!((badJb l js)))), (21, 26, .bool (!((badJb l js)))), (22, 27, .bool (!((badJb l js))))] ha fun a ha => ?_
    rcases Bool.eq_false_or_eq_true (badJb l js) with c12 | c12
    ·
     replace ha := ha.turn 24 (.bool true) rfl (congrArg Value.bool c12)
     replace ha := ha.turn 25 (.bool false) rfl (congrArg Value.bool (xJ c12))
     replace ha := ha.turn 26 (.bool false) rfl (congrArg Value.bool (xJ c12))
     replace ha := ha.turn 27 (.bool false) rfl (congrArg Value.bool (xJ c12))
     refine jY [(23, 28, undef), (24, 29, undef), (25, 30, undef), (26, 31, undef), (27, 32, undef), (28, 33, .bool false), (29, 4, .bool false)] ha fun a ha => ?_
     refine jZ ?_
     replace ha := ha.as [(4, .bool false)] rfl
     refine jJ (wp_ret (jV ha (by kernel_rfl) (qZ (t := 4) ha rfl) ?_))
     have e_js : decide (js.length ≤ 12) = true := decide_eq_true (by omega)
     have e_hs : decide (hs.length ≤ 12) = true := decide_eq_true (by omega)
     have hE : sessB l js hs mode = false := by unfold sessB; simp only [e_js, e_hs, c9, c12, Bool.true_and, Bool.false_and, Bool.and_true, Bool.and_false, Bool.not_true, Bool.not_false]
     rw [hE]
     exact ⟨rfl, Sat.rest [_, _] hS⟩
    replace ha := ha.turn 24 (.bool false) rfl (congrArg Value.bool c12)
    replace ha := ha.turn 25 (.bool true) rfl (congrArg Value.bool (xQ c12))
    replace ha := ha.turn 26 (.bool true) rfl (congrArg Value.bool (xQ c12))
    replace ha := ha.turn 27 (.bool true) rfl (congrArg Value.bool (xQ c12))
    refine jY [(23, 28, ptr b3 1)] ha fun a ha => ?_
    refine qW (d := 29) (b := b3) (j := 1) ha (hS.blk 1 rfl) rfl fun a ha => ?_
    refine jY [(25, 30, .func (.func 123) #[] #[ptr b1 0])] ha fun a ha => ?_
    replace hS : Sat w0 w ((SX.blk b1 [.slice s.A s.n s.c] 35) :: (SX.blk b3 [.slice sj.A sj.n sj.c, .slice sh.A sh.n sh.c, iv mode] 39) :: []) := hS
    refine jH (qK 31 (vs := [.slice sh.A sh.n sh.c, .func (.func 123) #[] #[ptr b1 0]]) ha (hcon_sat hS hr hf hrh) fun v13 w a hp14 ha => ?_)
    obtain ⟨rfl, hS⟩ := hp14
    refine jY [(27, 32, .bool (!((badHk l hs)))), (28, 33, .bool (!((badHk l hs)))), (29, 4, .bool (!((badHk l hs))))] ha fun a ha => ?_
    refine jZ ?_
    replace ha := ha.as [(4, .bool (!((badHk l hs))))] rfl
    refine jJ (wp_ret (jV ha (by kernel_rfl) (qZ (t := 4) ha rfl) ?_))
    have e_js : decide (js.length ≤ 12) = true := decide_eq_true (by omega)
    have e_hs : decide (hs.length ≤ 12) = true := decide_eq_true (by omega)
    have hE : sessB l js hs mode = !((badHk l hs)) := by unfold sessB; simp only [e_js, e_hs, c9, c12, Bool.true_and, Bool.false_and, Bool.and_true, Bool.and_false, Bool.not_true, Bool.not_false]
    rw [hE]
    exact ⟨rfl, Sat.rest [_, _] hS⟩
   replace ha := ha.turn 18 (.bool false) rfl (congrArg Value.bool c9)
   replace ha := ha.turn 19 (.bool false) rfl (congrArg Value.bool c9)
   replace ha := ha.turn 20 (.bool false) rfl (congrArg Value.bool c9)
   refine jY [(16, 21, undef), (17, 22, undef), (18, 23, undef), (19, 24, undef), (20, 25, undef), (21, 26, .bool false), (22, 27, .bool false), (23, 28, undef), (24, 29, undef), (25, 30, undef), (26, 31, undef), (27, 32, undef), (28, 33, .bool false), (29, 4, .bool false)] ha fun a ha => ?_
   refine jZ ?_
   replace ha := ha.as [(4, .bool false)] rfl
   refine jJ (wp_ret (jV ha (by kernel_rfl) (qZ (t := 4) ha rfl) ?_))
   have e_js : decide (js.length ≤ 12) = true := decide_eq_true (by omega)
   have e_hs : decide (hs.length ≤ 12) = true := decide_eq_true (by omega)
   have hE : sessB l js hs mode = false := by unfold sessB; simp only [e_js, e_hs, c9, Bool.true_and, Bool.false_and, Bool.and_true, Bool.and_false, Bool.not_true, Bool.not_false]
   rw [hE]
   exact ⟨rfl, Sat.rest [_, _] hS⟩
  replace ha := ha.turn 13 (.bool false) rfl (congrArg Value.bool (decide_eq_false c6))
  replace ha := ha.turn 14 (.bool false) rfl (congrArg Value.bool (decide_eq_false c6))
  replace ha := ha.turn 15 (.bool false) rfl (congrArg Value.bool (decide_eq_false c6))
  refine jY [(11, 16, undef), (12, 17, undef), (13, 18, undef), (14, 19, .bool false), (15, 20, .bool false), (16, 21, undef), (17, 22, undef), (18, 23, undef), (19, 24, undef), (20, 25, undef), (21, 26, .bool false), (22, 27, .bool false), (23, 28, undef), (24, 29, undef), (25, 30, undef), (26, 31, undef), (27, 32, undef), (28, 33, .bool false), (29, 4, .bool false)] ha fun a ha => ?_
  refine jZ ?_
  replace ha := ha.as [(4, .bool false)] rfl
  refine jJ (wp_ret (jV ha (by kernel_rfl) (qZ (t := 4) ha rfl) ?_))
  have e_js : decide (js.length ≤ 12) = true := decide_eq_true (by omega)
  have e_hs : decide (hs.length ≤ 12) = false := decide_eq_false (by omega)
  have hE : sessB l js hs mode = false := by unfold sessB; simp only [e_js, e_hs, Bool.true_and, Bool.false_and, Bool.and_true, Bool.and_false, Bool.not_true, Bool.not_false]
  rw [hE]
  exact ⟨rfl, Sat.rest [_, _] hS⟩
 replace ha := ha.turn 8 (.bool false) rfl (congrArg Value.bool (decide_eq_false c5))
 replace ha := ha.turn 9 (.bool false) rfl (congrArg Value.bool (decide_eq_false c5))
 refine jY [(5, 10, undef), (6, 11, undef), (7, 12, undef), (8, 13, undef), (9, 14, .bool false), (10, 15, .bool false), (11, 16, undef), (12, 17, undef), (13, 18, undef), (14, 19, .bool false), (15, 20, .bool false), (16, 21, undef), (17, 22, undef), (18, 23, undef), (19, 24, undef), (20, 25, undef), (21, 26, .bool false), (22, 27, .bool false), (23, 28, undef), (24, 29, undef), (25, 30, undef), (26, 31, undef), (27, 32, undef), (28, 33, .bool false), (29, 4, .bool false)] ha fun a ha => ?_
 refine jZ ?_
 replace ha := ha.as [(4, .bool false)] rfl
 refine jJ (wp_ret (jV ha (by kernel_rfl) (qZ (t := 4) ha rfl) ?_))
 have e_js : decide (js.length ≤ 12) = false := decide_eq_false (by omega)
 have hE : sessB l js hs mode = false := by unfold sessB; simp only [e_js, Bool.true_and, Bool.false_and, Bool.and_true, Bool.and_false, Bool.not_true, Bool.not_false]
 rw [hE]
 exact ⟨rfl, Sat.rest [_, _] hS⟩
theorem isS_sat {w0 w : World} {Rs : List Asn} {s sj sh : Sl} {l : List (List ST)} {js : List (Int × Int)} {hs : List Int} {mode : Int} (hS : Sat w0 w Rs) (hr : RdP w s l) (hf : Fits l) (hrj : RdE cellsR 2 w sj js) (hrh : RdI w sh hs) :
  Calls Try.prog 85 #[.agg #[.slice s.A s.n s.c], .agg #[.slice sj.A sj.n sj.c, .slice sh.A sh.n sh.c, .int .i64 mode]] w (Ret fun r w' => r = .bool (sessB l js hs mode) ∧ Sat w0 w' Rs) := lift0 hS (isS_sat0 hr hf hrj hrh)
end Go.Proofs.Ytjkoibfkklhaiaa.G
end
section
namespace Go.Proofs.Ytjkoibfkklhaiaa.G
open Go.RowKit Go.Proofs.Ytjkoibfkklhaiaa.SX Go.Proofs.YtjkoibfkklhaiaaW.PrintWords Go.Proofs.YtjkoibfkklhaiaaW.PrintLast Go.Proofs.YtjkoibfkklhaiaaW.PrintMore
set_option linter.unusedVariables false
set_option linter.unusedSimpArgs false
theorem qpr_sat {w0 w : World} {Rs : List Asn} {s : Sl} {l : List (List ST)} (hS : Sat w0 w Rs) (hr : RdP w s l) (hf : Fits l) :
  Calls Try.prog 82 #[.agg #[.slice s.A s.n s.c]] w (Ret fun r w' => r = .bool (programB l) ∧ Sat w0 w' Rs) := by
 obtain ⟨sbs, hPr⟩ := rdProg_of (c := s.c) hr.rd
 rw [← hr.len] at hPr
 refine (q_prog (Sat.start w) (by rw [PL_length]; have := hf.len; omega) (hPr.keeps [])).mono fun e w' h => ?_
 cases e with
 | returned r => exact ⟨by rw [h.1, progQ_PL], hS.comp (Ps := []) h.2⟩
 | _ => exact h.elim
theorem code83 : Try.f83.body = some (Code.seq (cr Try.f83 0 false) (Code.seq (Code.seq (cr Try.f83 1 false) (Code.cond (Operand.tmp 27) (Code.seq (cr Try.f83 2 false) Code.ret) Code.skip)) (Code.seq (Code.seq (cr Try.f83 3 false) (Code.block 0 (Code.loop (Code.seq (Code.seq (cr Try.f83 4 false) (Code.cond (Operand.tmp 32) Code.skip (Code.exit 0))) (Code.seq (Code.block 1 (Code.seq (cr Try.f83 6 true) (Code.cond (Operand.tmp 53) (Code.seq (cr Try.f83 7 false) Code.ret) Code.skip))) (cr Try.f83 5 false)))))) (Code.seq (Code.seq (cr Try.f83 8 false) (Code.block 2 (Code.loop (Code.seq (Code.seq (cr Try.f83 9 false) (Code.cond (Operand.tmp 58) Code.skip (Code.exit 2))) (Code.seq (Code.block 3 (Code.seq (cr Try.f83 11 true) (Code.cond (Operand.tmp 68) (Code.seq (cr Try.f83 12 false) Code.ret) Code.skip))) (cr Try.f83 10 false)))))) (Code.seq (cr Try.f83 13 false) Code.ret))))) := by kernel_rfl
set_option maxRecDepth 20000 in
set_option maxHeartbeats 1000000 in
theorem qS_sat0 {w0 : World} {s sj sh : Sl} {l : List (List ST)} {js : List (Int × Int)} {hs : List Int} {mode : Int} (hr : RdP w0 s l) (hf : Fits l) (hrj : RdE cellsR 2 w0 sj js) (hrh : RdI w0 sh hs) :
  Calls Try.prog 83 #[.agg #[.slice s.A s.n s.c], .agg #[.slice sj.A sj.n sj.c, .slice sh.A sh.n sh.c, .int .i64 mode]] w0 (Ret fun r w' => r = .bool (programB l && sessB l js hs mode) ∧ Sat w0 w' []) := by
 have hS : Sat w0 w0 [] := Sat.start w0
 have hjn := hrj.len
 have hhn := hrh.len
 have hjb := hrj.big
 have hhb := hrh.big
 refine enter (n := 69) Try.func83 code83 (by kernel_rfl) (Nat.le_of_ble_eq_true rfl) (fun a ha => ?_)
 replace ha : Has 69 [(0, .agg #[.slice s.A s.n s.c]), (1, .agg #[.slice sj.A sj.n sj.c, .slice sh.A sh.n sh.c, iv mode])] a := ha
 refine wp_seq (jX [0, 1, 2] (jH (qH 2 [.slice s.A s.n s.c] 35 (ptr · 0) ha hS fun b1 w a hb2 hS ha => ?_)))
 refine jH (qH 3 [.slice sj.A sj.n sj.c, .slice sh.A sh.n sh.c, iv mode] 39 (ptr · 0) ha hS fun b3 w a hb4 hS ha => ?_)
 refine jY [(2, 4, .bool false)] ha fun a ha => ?_
 refine jZ (jJ (wp_seq (wp_seq (jX [0, 1, 2, 3, 4, 5, 6, 7, 8, 9, 10, 11, 12, 13, 14, 15, 16, 17, 18, 19, 20] (xV 7 ha (hS.blk 1 rfl) fun a ha => ?_)))))
 refine jH (qK 8 (vs := [.agg #[.slice s.A s.n s.c]]) ha (qpr_sat hS (hr.sat hS) hf) fun v5 w a hp6 ha => ?_)
 obtain ⟨rfl, hS⟩ := hp6
 refine jY [(2, 9, .bool (!((programB l)))), (3, 10, .bool (!((programB l))))] ha fun a ha => ?_
 rcases Bool.eq_false_or_eq_true (programB l) with c7 | c7
 ·
  replace ha := ha.turn 8 (.bool true) rfl (congrArg Value.bool c7)
  replace ha := ha.turn 9 (.bool false) rfl (congrArg Value.bool (xJ c7))
  replace ha := ha.turn 10 (.bool false) rfl (congrArg Value.bool (xJ c7))
  refine jY [(4, 11, ptr b3 0)] ha fun a ha => ?_
  refine qW (d := 12) (b := b3) (j := 0) ha (hS.blk 0 rfl) rfl fun a ha => ?_
  refine jY [(6, 13, iv (sj.n : Int)), (7, 14, .bool (decide ((sj.n : Int) > 12))), (8, 15, .bool (decide ((sj.n : Int) > 12))), (9, 16, .bool (decide ((sj.n : Int) > 12)))] ha fun a ha => ?_
  by_cases c8 : (sj.n : Int) > 12
  ·
   replace ha := ha.turn 14 (.bool true) rfl (congrArg Value.bool (decide_eq_true c8))
   replace ha := ha.turn 15 (.bool true) rfl (congrArg Value.bool (decide_eq_true c8))
   replace ha := ha.turn 16 (.bool true) rfl (congrArg Value.bool (decide_eq_true c8))
   refine jY [(10, 17, undef), (11, 18, undef), (12, 19, undef), (13, 20, undef), (14, 21, .bool true), (15, 22, .bool true), (16, 23, undef), (17, 24, undef), (18, 25, undef), (19, 26, undef), (20, 27, .bool true)] ha fun a ha => ?_
   refine jZ ?_
   replace ha := ha.as [(2, ptr b1 0), (3, ptr b3 0), (4, .bool false), (27, .bool true)] rfl
   refine jJ ?_
   refine qQ ha rfl rfl ?_
   refine wp_seq (jX [0] (jY [(0, 4, .bool false)] ha fun a ha => ?_))
   refine jZ (jJ (wp_ret (qY (jV ha (by kernel_rfl) (qZ (t := 4) ha rfl) ?_))))
   have e_js : decide (js.length ≤ 12) = false := decide_eq_false (by omega)
   have hE : (programB l && sessB l js hs mode) = false := by unfold sessB; simp [c7, e_js]
   rw [hE]
   exact ⟨rfl, Sat.rest [_, _] hS⟩
  replace ha := ha.turn 14 (.bool false) rfl (congrArg Value.bool (decide_eq_false c8))
  replace ha := ha.turn 15 (.bool false) rfl (congrArg Value.bool (decide_eq_false c8))
  replace ha := ha.turn 16 (.bool false) rfl (congrArg Value.bool (decide_eq_false c8))
  refine jY [(10, 17, ptr b3 1)] ha fun a ha => ?_
  refine qW (d := 18) (b := b3) (j := 1) ha (hS.blk 0 rfl) rfl fun a ha => ?_
  refine jY [(12, 19, iv (sh.n : Int)), (13, 20, .bool (decide ((sh.n : Int) > 12))), (14, 21, .bool (decide ((sh.n : Int) > 12))), (15, 22, .bool (decide ((sh.n : Int) > 12)))] ha fun a ha => ?_
  by_cases c9 : (sh.n : Int) > 12
  ·
   replace ha := ha.turn 20 (.bool true) rfl (congrArg Value.bool (decide_eq_true c9))
   replace ha := ha.turn 21 (.bool true) rfl (congrArg Value.bool (decide_eq_true c9))
   replace ha := ha.turn 22 (.bool true) rfl (congrArg Value.bool (decide_eq_true c9))
   refine jY [(16, 23, undef), (17, 24, undef), (18, 25, undef), (19, 26, undef), (20, 27, .bool true)] ha fun a ha => ?_
   refine jZ ?_
   replace ha := ha.as [(2, ptr b1 0), (3, ptr b3 0), (4, .bool false), (27, .bool true)] rfl
   refine jJ ?_
   refine qQ ha rfl rfl ?_
   refine wp_seq (jX [0] (jY [(0, 4, .bool false)] ha fun a ha => ?_))
   refine jZ (jJ (wp_ret (qY (jV ha (by kernel_rfl) (qZ (t := 4) ha rfl) ?_))))
   have e_js : decide (js.length ≤ 12) = true := decide_eq_true (by omega)
   have e_hs : decide (hs.length ≤ 12) = false := decide_eq_false (by omega)
   have hE : (programB l && sessB l js hs mode) = false := by unfold sessB; simp [c7, e_js, e_hs]
   rw [hE]
   exact ⟨rfl, Sat.rest [_, _] hS⟩
  replace ha := ha.turn 20 (.bool false) rfl (congrArg Value.bool (decide_eq_false c9))
  replace ha := ha.turn 21 (.bool false) rfl (congrArg Value.bool (decide_eq_false c9))
  replace ha := ha.turn 22 (.bool false) rfl (congrArg Value.bool (decide_eq_false c9))
  refine jY [(16, 23, ptr b3 2)] ha fun a ha => ?_
  refine qW (d := 24) (b := b3) (j := 2) ha (hS.blk 0 rfl) rfl fun a ha => ?_
  refine jH (qK 25 (vs := [iv mode, iv 1, iv 3]) ha (q_in hS _ _ _) fun v10 w a hp11 ha => ?_)
  obtain ⟨rfl, hS⟩ := hp11
  refine jY [(19, 26, .bool (!((inB mode 1 3)))), (20, 27, .bool (!((inB mode 1 3))))] ha fun a ha => ?_
  refine jZ ?_
  replace ha := ha.as [(2, ptr b1 0), (3, ptr b3 0), (4, .bool false), (27, .bool (!((inB mode 1 3))))] rfl
  refine jJ ?_
  rcases Bool.eq_false_or_eq_true (inB mode 1 3) with c12 | c12
  ·
   refine jU ha rfl (xJ c12) ?_
   refine wp_skip (jJ (wp_seq (wp_seq (jX [0] (jY [(0, 5, iv 0)] ha fun a ha => ?_)))))
   refine jZ (jJ (wp_block ?_))
   replace hS := hS.pickN 2 [1, 0] (by decide) rfl
   refine wp_loop_ghost (fun n_ a_ w_ => ∃ (i : Nat), n_ = js.length - i ∧ (i ≤ js.length) ∧ (∀ (j : Nat) z, j < i → js[j]? = some z → jobB l z = true) ∧ Has 69 [(2, ptr b1 0), (3, ptr b3 0), (4, .bool false), (5, iv (i : Int))] a_ ∧ Sat w0 w_ ((SX.blk b1 [.slice s.A s.n s.c] 35) :: (SX.blk b3 [.slice sj.A sj.n sj.c, .slice sh.A sh.n sh.c, iv mode] 39) :: [])) _ ⟨0, rfl, Nat.zero_le _, (fun j z hj => by omega), ha.keeps [2, 3, 4, 5] _ rfl, hS⟩ ?_
   rintro n_ a w ⟨i, rfl, hi, hall, ha, hS⟩
   refine wp_seq (wp_seq (jX [0, 1, 2, 3, 4] (jY [(0, 28, iv (i : Int)), (1, 29, ptr b3 0)] ha fun a ha => ?_)))
   refine qW (d := 30) (b := b3) (j := 0) ha (hS.blk 1 rfl) rfl fun a ha => ?_
   refine jY [(3, 31, iv (sj.n : Int)), (4, 32, .bool (decide ((i : Int) < (sj.n : Int))))] ha fun a ha => ?_
   refine jZ (jJ ?_)
   by_cases c13 : (i : Int) < (sj.n : Int)
   ·
    have hlt : i < js.length := by omega
    obtain ⟨x9, hx9⟩ : ∃ x, js[i]? = some x := ⟨_, List.getElem?_eq_getElem hlt⟩
    refine qQ ha rfl (decide_eq_true c13) ?_
    refine wp_skip (jJ (wp_seq (wp_block (wp_seq (xG 19 19 (hS.pickN 2 [0, 1] (by decide) rfl) hS fun w hS => ?_)))))
    refine yG 0 35 ha (hS.pickN 2 [0, 1] (by decide) rfl) (jQ (jK (jQ (jQ (jK (jQ (jW))))))) (fun _ hw => hw.blk 0 rfl) fun a ha => ?_
    refine qV (k := 17) [(1, 36, ptr b3 0)] ha (.inr (hS.pickN 2 [0, 1] (by decide) rfl)) (jQ (jK (jQ (jQ (jK (jQ (jW))))))) fun a ha => ?_
    refine yV 2 (d := 37) (b := b3) (j := 0) ha (hS.pickN 2 [0, 1] (by decide) rfl) (jQ (jK (jQ (jQ (jK (jQ (jW))))))) (fun _ hw => hw.blk 1 rfl) rfl fun a ha => ?_
    refine qV (k := 15) [(3, 38, iv (i : Int))] ha (.inr (hS.pickN 2 [0, 1] (by decide) rfl)) (jQ (jK (jQ (jQ (jK (jQ (jW))))))) fun a ha => ?_
    refine yQ 4 (.pointer (some ⟨bk sj, of_ sj + i * 2, none⟩)) ha (xU (el := 131) (sz := 2) (j := i) ha (yY (t := 37) (x := 37) (y := 38) (d := 39)) rfl rfl (by kernel_rfl) (by kernel_rfl) (RdE.at_ (hrj.sat hS) _ _ hx9).1 (rfl) (by rw [((hrj.sat hS)).len]; exact (List.getElem?_eq_some_iff.1 hx9).1)) (.inr (hS.pickN 2 [0, 1] (by decide) rfl)) (jQ (jK (jQ (jQ (jK (jQ (jW))))))) fun a ha => ?_
    refine qV (k := 13) [(5, 40, .pointer (some ⟨bk sj, of_ sj + i * 2, none⟩))] ha (.inr (hS.pickN 2 [0, 1] (by decide) rfl)) (jQ (jK (jQ (jQ (jK (jQ (jW))))))) fun a ha => ?_
    refine yK 6 (iv x9.1) ha (xY ha (yZ (t := 3) (x := 40) (d := 41) (ty := 3)) rfl (by kernel_rfl) (fun w' hw => by exact (RdE.at_ ((hrj.sat hw)) _ _ hx9).2 0 _ rfl)) (hS.pickN 2 [0, 1] (by decide) rfl) (jQ (jK (jQ (jQ (jK (jQ (jW))))))) fun a ha => ?_
    refine xW 7 (qK 42 (vs := [.agg #[.slice s.A s.n s.c], iv x9.1]) ha (qF_sat hS (hr.sat hS) hf c7) fun v14 w a hp15 ha => ?_)
    obtain ⟨rfl, hS⟩ := hp15
    refine ⟨.inr (hS.pickN 2 [0, 1] (by decide) rfl), ?_⟩
    refine qV (k := 9) [(8, 43, .bool (!((isFB l x9.1)))), (9, 44, .bool (!((isFB l x9.1))))] ha (.inr (hS.pickN 2 [0, 1] (by decide) rfl)) (jQ (jK (jQ (jQ (jK (jQ (jW))))))) fun a ha => ?_
    rcases Bool.eq_false_or_eq_true (isFB l x9.1) with c16 | c16
    ·
     replace ha := ha.turn 42 (.bool true) rfl (congrArg Value.bool c16)
     replace ha := ha.turn 43 (.bool false) rfl (congrArg Value.bool (xJ c16))
     replace ha := ha.turn 44 (.bool false) rfl (congrArg Value.bool (xJ c16))
     refine qV (k := 8) [(10, 45, ptr b3 0)] ha (.inr (hS.pickN 2 [0, 1] (by decide) rfl)) (jQ (jK (jQ (jQ (jK (jQ (jW))))))) fun a ha => ?_
     refine yV 11 (d := 46) (b := b3) (j := 0) ha (hS.pickN 2 [0, 1] (by decide) rfl) (jQ (jK (jQ (jQ (jK (jQ (jW))))))) (fun _ hw => hw.blk 1 rfl) rfl fun a ha => ?_
     refine qV (k := 6) [(12, 47, iv (i : Int))] ha (.inr (hS.pickN 2 [0, 1] (by decide) rfl)) (jQ (jK (jQ (jQ (jK (jQ (jW))))))) fun a ha => ?_
     refine yQ 13 (.pointer (some ⟨bk sj, of_ sj + i * 2, none⟩)) ha (xU (el := 131) (sz := 2) (j := i) ha (AtG.here (gd := 44) ⟨(by kernel_rfl : ((jG Try.f83 6)[13]?).map spec = some ((Op.indexAddr 37 (Operand.tmp 46) (Operand.tmp 47)), some 48, 0, some (9, false))), by kernel_rfl⟩ ha rfl) rfl rfl (by kernel_rfl) (by kernel_rfl) (RdE.at_ (hrj.sat hS) _ _ hx9).1 (rfl) (by rw [((hrj.sat hS)).len]; exact (List.getElem?_eq_some_iff.1 hx9).1)) (.inr (hS.pickN 2 [0, 1] (by decide) rfl)) (jQ (jK (jQ (jQ (jK (jQ (jW))))))) fun a ha => ?_
     refine qV (k := 4) [(14, 49, .pointer (some ⟨bk sj, of_ sj + i * 2 + 1, none⟩))] ha (.inr (hS.pickN 2 [0, 1] (by decide) rfl)) (jQ (jK (jQ (jQ (jK (jQ (jW))))))) fun a ha => ?_
     refine yK 15 (iv x9.2) ha (xY ha (AtG.here (gd := 44) ⟨(by kernel_rfl : ((jG Try.f83 6)[15]?).map spec = some ((Op.load 3 (Operand.tmp 49)), some 50, 3, some (9, false))), by kernel_rfl⟩ ha rfl) rfl (by kernel_rfl) (fun w' hw => by exact (RdE.at_ ((hrj.sat hw)) _ _ hx9).2 1 _ rfl)) (hS.pickN 2 [0, 1] (by decide) rfl) (jQ (jK (jQ (jQ (jK (jQ (jW))))))) fun a ha => ?_
     refine xW 16 (qK 51 (vs := [iv x9.2]) ha (q_num hS _) fun v17 w a hp18 ha => ?_)
     obtain ⟨rfl, hS⟩ := hp18
     refine ⟨.inr (hS.pickN 2 [0, 1] (by decide) rfl), ?_⟩
     refine qV (k := 0) [(17, 52, .bool (!((numB x9.2)))), (18, 53, .bool (!((numB x9.2))))] ha (.inr (hS.pickN 2 [0, 1] (by decide) rfl)) (jQ (jK (jQ (jQ (jK (jQ (jW))))))) fun a ha => ?_
     refine yX (jJ ?_)
     rcases Bool.eq_false_or_eq_true (numB x9.2) with c19 | c19
     ·
      refine jU ha rfl (xJ c19) ?_
      refine wp_skip (in_n (jJ (jX [0, 1, 2] (jY [(0, 33, iv (i : Int))] ha fun a ha => ?_))))
      refine yJ 34 ((i : Int) + 1) ha fun a ha => ?_
      refine jY [(2, 5, iv ((i : Int) + 1))] ha fun a ha => ?_
      refine jZ (jJ ?_)
      replace hS : Sat w0 w ((SX.blk b1 [.slice s.A s.n s.c] 35) :: (SX.blk b3 [.slice sj.A sj.n sj.c, .slice sh.A sh.n sh.c, iv mode] 39) :: []) := hS
      exact ⟨_, by omega, i + 1, rfl, by omega, anyN_next hx9 hall (show jobB l x9 = true by unfold jobB; rw [c16, c19]; rfl), ha.keeps [2, 3, 4, 5] _ rfl, hS⟩
     refine qQ ha rfl (xQ c19) ?_
     refine wp_seq (jX [0] (jY [(0, 4, .bool false)] ha fun a ha => ?_))
     refine jZ (jJ (wp_ret (in_r (qY (qY (in_r (qY (jV ha (by kernel_rfl) (qZ (t := 4) ha rfl) ?_))))))))
     have hBJ : badJb l js = true := anyN_yes (p := jobB l) hx9 (by unfold jobB; simp [c16, c19])
     have e_js : decide (js.length ≤ 12) = true := decide_eq_true (by omega)
     have e_hs : decide (hs.length ≤ 12) = true := decide_eq_true (by omega)
     have hE : (programB l && sessB l js hs mode) = false := by unfold sessB; simp [hBJ, c7, e_js, e_hs, c12, c16]
     rw [hE]
     exact ⟨rfl, Sat.rest [_, _] hS⟩
    replace ha := ha.turn 42 (.bool false) rfl (congrArg Value.bool c16)
    replace ha := ha.turn 43 (.bool true) rfl (congrArg Value.bool (xQ c16))
    replace ha := ha.turn 44 (.bool true) rfl (congrArg Value.bool (xQ c16))
    refine qV (k := 0) [(10, 45, undef), (11, 46, undef), (12, 47, undef), (13, 48, undef), (14, 49, undef), (15, 50, undef), (16, 51, undef), (17, 52, undef), (18, 53, .bool true)] ha (.inr (hS.pickN 2 [0, 1] (by decide) rfl)) (jQ (jK (jQ (jQ (jK (jQ (jW))))))) fun a ha => ?_
    refine yX (jJ ?_)
    refine qQ ha rfl rfl ?_
    refine wp_seq (jX [0] (jY [(0, 4, .bool false)] ha fun a ha => ?_))
    refine jZ (jJ (wp_ret (in_r (qY (qY (in_r (qY (jV ha (by kernel_rfl) (qZ (t := 4) ha rfl) ?_))))))))
    have hBJ : badJb l js = true := anyN_yes (p := jobB l) hx9 (by unfold jobB; simp [c16])
    have e_js : decide (js.length ≤ 12) = true := decide_eq_true (by omega)
    have e_hs : decide (hs.length ≤ 12) = true := decide_eq_true (by omega)
    have hE : (programB l && sessB l js hs mode) = false := by unfold sessB; simp [hBJ, c7, e_js, e_hs, c12, c16]
    rw [hE]
    exact ⟨rfl, Sat.rest [_, _] hS⟩
   refine jU ha rfl (decide_eq_false c13) ?_
   refine wp_exit (qU (qU (in_x (jJ (wp_seq (wp_seq (jX [0] (jY [(0, 6, iv 0)] ha fun a ha => ?_))))))))
   refine jZ (jJ (wp_block ?_))
   have hBJ : badJb l js = false := anyN_no hall (by omega)
   replace hS : Sat w0 w ((SX.blk b1 [.slice s.A s.n s.c] 35) :: (SX.blk b3 [.slice sj.A sj.n sj.c, .slice sh.A sh.n sh.c, iv mode] 39) :: []) := hS
   refine wp_loop_ghost (fun n_ a_ w_ => ∃ (i : Nat), n_ = hs.length - i ∧ (i ≤ hs.length) ∧ (∀ (j : Nat) z, j < i → hs[j]? = some z → isFB l z = true) ∧ Has 69 [(2, ptr b1 0), (3, ptr b3 0), (4, .bool false), (6, iv (i : Int))] a_ ∧ Sat w0 w_ ((SX.blk b1 [.slice s.A s.n s.c] 35) :: (SX.blk b3 [.slice sj.A sj.n sj.c, .slice sh.A sh.n sh.c, iv mode] 39) :: [])) _ ⟨0, rfl, Nat.zero_le _, (fun j z hj => by omega), ha.keeps [2, 3, 4, 6] _ rfl, hS⟩ ?_
   rintro n_ a w ⟨i, rfl, hi, hall, ha, hS⟩
   refine wp_seq (wp_seq (jX [0, 1, 2, 3, 4] (jY [(0, 54, iv (i : Int)), (1, 55, ptr b3 1)] ha fun a ha => ?_)))
   refine qW (d := 56) (b := b3) (j := 1) ha (hS.blk 1 rfl) rfl fun a ha => ?_
   refine jY [(3, 57, iv (sh.n : Int)), (4, 58, .bool (decide ((i : Int) < (sh.n : Int))))] ha fun a ha => ?_
   refine jZ (jJ ?_)
   by_cases c20 : (i : Int) < (sh.n : Int)
   ·
    have hlt : i < hs.length := by omega
    obtain ⟨x9, hx9⟩ : ∃ x, hs[i]? = some x := ⟨_, List.getElem?_eq_getElem hlt⟩
    refine qQ ha rfl (decide_eq_true c20) ?_
    refine wp_skip (jJ (wp_seq (wp_block (wp_seq (yW 6 8 hS fun w hS => ?_)))))
    refine yG 0 61 ha hS (jQ (jK (jQ (jQ (jK (jQ (jW))))))) (fun _ hw => hw.blk 0 rfl) fun a ha => ?_
    refine qV (k := 6) [(1, 62, ptr b3 1)] ha (.inr hS) (jQ (jK (jQ (jQ (jK (jQ (jW))))))) fun a ha => ?_
    refine d_ldN 2 (d := 63) (b := b3) (j := 1) ha hS (jQ (jK (jQ (jQ (jK (jQ (jW))))))) (fun _ hw => hw.blk 1 rfl) rfl fun a ha => ?_
    refine qV (k := 4) [(3, 64, iv (i : Int))] ha (.inr hS) (jQ (jK (jQ (jQ (jK (jQ (jW))))))) fun a ha => ?_
    refine yQ 4 (.pointer (some ⟨bk sh, of_ sh + i * 1, none⟩)) ha (xX (el := 3) (sz := 1) (j := i) ha (yY (t := 26) (x := 63) (y := 64) (d := 65)) rfl rfl (by kernel_rfl) (by kernel_rfl) ((hrh.sat hS).at_ ((List.getElem?_eq_some_iff.1 hx9).1)).1 (by rw [((hrh.sat hS)).len]; exact (List.getElem?_eq_some_iff.1 hx9).1)) (.inr hS) (jQ (jK (jQ (jQ (jK (jQ (jW))))))) fun a ha => ?_
    refine yK 5 (iv x9) ha (xY (p := ⟨bk sh, of_ sh + i * 1, none⟩) ha (yZ (t := 3) (x := 65) (d := 66) (ty := 3)) rfl (by kernel_rfl) (fun w' hw => by rw [Nat.mul_one, ← getD_is hx9]; exact (((hrh.sat hw)).at_ ((List.getElem?_eq_some_iff.1 hx9).1)).2)) hS (jQ (jK (jQ (jQ (jK (jQ (jW))))))) fun a ha => ?_
    refine xW 6 (qK 67 (vs := [.agg #[.slice s.A s.n s.c], iv x9]) ha (qF_sat hS (hr.sat hS) hf c7) fun v21 w a hp22 ha => ?_)
    obtain ⟨rfl, hS⟩ := hp22
    refine zQ (qV (k := 0) [(7, 68, .bool (!((isFB l x9))))] ha (.inl (by kernel_rfl)) (jQ (jK (jQ (jQ (jK (jQ (jW))))))) fun a ha => ?_)
    refine yX (jJ ?_)
    rcases Bool.eq_false_or_eq_true (isFB l x9) with c23 | c23
    ·
     refine jU ha rfl (xJ c23) ?_
     refine wp_skip (in_n (jJ (jX [0, 1, 2] (jY [(0, 59, iv (i : Int))] ha fun a ha => ?_))))
     refine yJ 60 ((i : Int) + 1) ha fun a ha => ?_
     refine jY [(2, 6, iv ((i : Int) + 1))] ha fun a ha => ?_
     refine jZ (jJ ?_)
     replace hS : Sat w0 w ((SX.blk b1 [.slice s.A s.n s.c] 35) :: (SX.blk b3 [.slice sj.A sj.n sj.c, .slice sh.A sh.n sh.c, iv mode] 39) :: []) := hS
     exact ⟨_, by omega, i + 1, rfl, by omega, anyN_next hx9 hall c23, ha.keeps [2, 3, 4, 6] _ rfl, hS⟩
    refine qQ ha rfl (xQ c23) ?_
    refine wp_seq (jX [0] (jY [(0, 4, .bool false)] ha fun a ha => ?_))
    refine jZ (jJ (wp_ret (in_r (qY (qY (in_r (qY (jV ha (by kernel_rfl) (qZ (t := 4) ha rfl) ?_))))))))
    have hBH : badHk l hs = true := anyN_yes (p := isFB l) hx9 c23
    have e_js : decide (js.length ≤ 12) = true := decide_eq_true (by omega)
    have e_hs : decide (hs.length ≤ 12) = true := decide_eq_true (by omega)
    have hE : (programB l && sessB l js hs mode) = false := by unfold sessB; simp [hBJ, hBH, c7, e_js, e_hs, c12, c23]
    rw [hE]
    exact ⟨rfl, Sat.rest [_, _] hS⟩
   refine jU ha rfl (decide_eq_false c20) ?_
   refine wp_exit (qU (qU (in_x (jJ (wp_seq (jX [0] (jY [(0, 4, .bool true)] ha fun a ha => ?_)))))))
   refine jZ ?_
   replace ha := ha.as [(4, .bool true)] rfl
   refine jJ (wp_ret (jV ha (by kernel_rfl) (qZ (t := 4) ha rfl) ?_))
   have hBH : badHk l hs = false := anyN_no hall (by omega)
   have e_js : decide (js.length ≤ 12) = true := decide_eq_true (by omega)
   have e_hs : decide (hs.length ≤ 12) = true := decide_eq_true (by omega)
   have hE : (programB l && sessB l js hs mode) = true := by unfold sessB; simp [hBJ, hBH, c7, e_js, e_hs, c12]
   rw [hE]
   exact ⟨rfl, Sat.rest [_, _] hS⟩
  refine qQ ha rfl (xQ c12) ?_
  refine wp_seq (jX [0] (jY [(0, 4, .bool false)] ha fun a ha => ?_))
  refine jZ (jJ (wp_ret (qY (jV ha (by kernel_rfl) (qZ (t := 4) ha rfl) ?_))))
  have e_js : decide (js.length ≤ 12) = true := decide_eq_true (by omega)
  have e_hs : decide (hs.length ≤ 12) = true := decide_eq_true (by omega)
  have hE : (programB l && sessB l js hs mode) = false := by unfold sessB; simp [c7, e_js, e_hs, c12]
  rw [hE]
  exact ⟨rfl, Sat.rest [_, _] hS⟩
 replace ha := ha.turn 8 (.bool false) rfl (congrArg Value.bool c7)
 replace ha := ha.turn 9 (.bool true) rfl (congrArg Value.bool (xQ c7))
 replace ha := ha.turn 10 (.bool true) rfl (congrArg Value.bool (xQ c7))
 refine jY [(4, 11, undef), (5, 12, undef), (6, 13, undef), (7, 14, undef), (8, 15, .bool true), (9, 16, .bool true), (10, 17, undef), (11, 18, undef), (12, 19, undef), (13, 20, undef), (14, 21, .bool true), (15, 22, .bool true), (16, 23, undef), (17, 24, undef), (18, 25, undef), (19, 26, undef), (20, 27, .bool true)] ha fun a ha => ?_
 refine jZ ?_
 replace ha := ha.as [(2, ptr b1 0), (3, ptr b3 0), (4, .bool false), (27, .bool true)] rfl
 refine jJ ?_
 refine qQ ha rfl rfl ?_
 refine wp_seq (jX [0] (jY [(0, 4, .bool false)] ha fun a ha => ?_))
 refine jZ (jJ (wp_ret (qY (jV ha (by kernel_rfl) (qZ (t := 4) ha rfl) ?_))))
 have hE : (programB l && sessB l js hs mode) = false := by unfold sessB; simp [c7]
 rw [hE]
 exact ⟨rfl, Sat.rest [_, _] hS⟩
theorem qS_sat {w0 w : World} {Rs : List Asn} {s sj sh : Sl} {l : List (List ST)} {js : List (Int × Int)} {hs : List Int} {mode : Int} (hS : Sat w0 w Rs) (hr : RdP w s l) (hf : Fits l) (hrj : RdE cellsR 2 w sj js) (hrh : RdI w sh hs) :
  Calls Try.prog 83 #[.agg #[.slice s.A s.n s.c], .agg #[.slice sj.A sj.n sj.c, .slice sh.A sh.n sh.c, .int .i64 mode]] w (Ret fun r w' => r = .bool (programB l && sessB l js hs mode) ∧ Sat w0 w' Rs) := lift0 hS (qS_sat0 hr hf hrj hrh)
end Go.Proofs.Ytjkoibfkklhaiaa.G
end
section
namespace Go.Proofs.Ytjkoibfkklhaiaa.G
open Go.RowKit Go.Proofs.Ytjkoibfkklhaiaa.SX Go.Proofs.YtjkoibfkklhaiaaW.PrintWords Go.Proofs.YtjkoibfkklhaiaaW.PrintLast Go.Proofs.YtjkoibfkklhaiaaW.PrintMore
set_option linter.unusedVariables false
set_option linter.unusedSimpArgs false
theorem code49 : Try.f49.body = some (Code.seq (cr Try.f49 0 false) (Code.seq (Code.seq (cr Try.f49 1 false) (Code.cond (Operand.tmp 8) (Code.seq (cr Try.f49 2 false) Code.ret) Code.skip)) (Code.seq (cr Try.f49 3 false) Code.ret))) := by kernel_rfl
set_option maxRecDepth 20000 in
set_option maxHeartbeats 1000000 in
theorem impl_IsSession_sat0 {w0 : World} {s sj sh : Sl} {l : List (List ST)} {js : List (Int × Int)} {hs : List Int} {mode : Int} (hr : RdP w0 s l) (hf : Fits l) (hrj : RdE cellsR 2 w0 sj js) (hrh : RdI w0 sh hs) :
  Calls Try.prog 49 #[.agg #[.slice s.A s.n s.c], .agg #[.slice sj.A sj.n sj.c, .slice sh.A sh.n sh.c, iv mode]] w0 (Ret fun r w' => r = .tuple #[.bool ((isSessP l js hs mode).1), .bool ((isSessP l js hs mode).2)] ∧ Sat w0 w' ([])) := by
 have hS : Sat w0 w0 [] := Sat.start w0
 have hjn := hrj.len
 refine enter (n := 12) Try.func49 code49 (by kernel_rfl) (Nat.le_of_ble_eq_true rfl) (fun a ha => ?_)
 replace ha : Has 12 [(0, .agg #[.slice s.A s.n s.c]), (1, .agg #[.slice sj.A sj.n sj.c, .slice sh.A sh.n sh.c, iv mode])] a := ha
 refine wp_seq (jX [0, 1, 2, 3] (jH (qH 2 [.slice s.A s.n s.c] 35 (ptr · 0) ha hS fun b1 w a hb2 hS ha => ?_)))
 refine jH (qH 3 [.slice sj.A sj.n sj.c, .slice sh.A sh.n sh.c, iv mode] 39 (ptr · 0) ha hS fun b3 w a hb4 hS ha => ?_)
 refine jY [(2, 4, .bool false), (3, 5, .bool false)] ha fun a ha => ?_
 refine jZ (jJ (wp_seq (wp_seq (jX [0, 1, 2] (xV 6 ha (hS.blk 1 rfl) fun a ha => ?_)))))
 refine jH (qK 7 (vs := [.agg #[.slice s.A s.n s.c]]) ha (ipr_sat hS (hr.sat hS)) fun v5 w a hp6 ha => ?_)
 obtain ⟨rfl, hS⟩ := hp6
 refine jY [(2, 8, .bool (!((programB l))))] ha fun a ha => ?_
 refine jZ (jJ ?_)
 rcases Bool.eq_false_or_eq_true (programB l) with c7 | c7
 ·
  refine jU ha rfl (xJ c7) ?_
  refine wp_skip (jJ (wp_seq (jX [0, 1, 2, 3, 4] (xV 9 ha (hS.blk 1 rfl) fun a ha => ?_))))
  refine xV 10 ha (hS.blk 0 rfl) fun a ha => ?_
  refine jH (qK 11 (vs := [.agg #[.slice s.A s.n s.c], .agg #[.slice sj.A sj.n sj.c, .slice sh.A sh.n sh.c, iv mode]]) ha (isS_sat hS (hr.sat hS) hf (hrj.sat hS) (hrh.sat hS)) fun v8 w a hp9 ha => ?_)
  obtain ⟨rfl, hS⟩ := hp9
  refine jY [(3, 4, .bool (sessB l js hs mode)), (4, 5, .bool true)] ha fun a ha => ?_
  refine jZ (jJ (wp_ret (yU ha (by kernel_rfl) (qZ (t := 4) ha rfl) (qZ (t := 5) ha rfl) ?_)))
  have hE : (isSessP l js hs mode) = ((sessB l js hs mode), true) := by unfold isSessP; rw [c7]; rfl
  rw [hE]
  exact ⟨rfl, Sat.rest [_, _] hS⟩
 refine qQ ha rfl (xQ c7) ?_
 refine wp_seq (jX [0, 1] (jY [(0, 4, .bool false), (1, 5, .bool false)] ha fun a ha => ?_))
 refine jZ (jJ (wp_ret (qY (yU ha (by kernel_rfl) (qZ (t := 4) ha rfl) (qZ (t := 5) ha rfl) ?_))))
 have hE : (isSessP l js hs mode) = (false, false) := by unfold isSessP; rw [c7]; rfl
 rw [hE]
 exact ⟨rfl, Sat.rest [_, _] hS⟩
theorem impl_IsSession_sat {w0 w : World} {Rs : List Asn} {s sj sh : Sl} {l : List (List ST)} {js : List (Int × Int)} {hs : List Int} {mode : Int} (hS : Sat w0 w Rs) (hr : RdP w s l) (hf : Fits l) (hrj : RdE cellsR 2 w sj js) (hrh : RdI w sh hs) :
  Calls Try.prog 49 #[.agg #[.slice s.A s.n s.c], .agg #[.slice sj.A sj.n sj.c, .slice sh.A sh.n sh.c, iv mode]] w (Ret fun r w' => r = .tuple #[.bool ((isSessP l js hs mode).1), .bool ((isSessP l js hs mode).2)] ∧ Sat w0 w' (Rs)) :=
 (impl_IsSession_sat0 hr hf hrj hrh).mono fun e w' h => by
  cases e with
  | returned r => obtain ⟨h1, h2⟩ := h; exact ⟨h1, hS.comp (Ps := []) h2⟩
  | _ => exact h.elim
theorem code48 : Try.f48.body = some (Code.seq (cr Try.f48 0 false) (Code.seq (Code.seq (cr Try.f48 1 false) (Code.cond (Operand.tmp 8) (Code.seq (cr Try.f48 2 false) Code.ret) Code.skip)) (Code.seq (cr Try.f48 3 false) Code.ret))) := by kernel_rfl
set_option maxRecDepth 20000 in
set_option maxHeartbeats 1000000 in
theorem spec_IsSession_sat0 {w0 : World} {s sj sh : Sl} {l : List (List ST)} {js : List (Int × Int)} {hs : List Int} {mode : Int} (hr : RdP w0 s l) (hf : Fits l) (hrj : RdE cellsR 2 w0 sj js) (hrh : RdI w0 sh hs) :
  Calls Try.prog 48 #[.agg #[.slice s.A s.n s.c], .agg #[.slice sj.A sj.n sj.c, .slice sh.A sh.n sh.c, iv mode]] w0 (Ret fun r w' => r = .tuple #[.bool ((isSessP l js hs mode).1), .bool ((isSessP l js hs mode).2)] ∧ Sat w0 w' ([])) := by
 have hS : Sat w0 w0 [] := Sat.start w0
 have hjn := hrj.len
 refine enter (n := 12) Try.func48 code48 (by kernel_rfl) (Nat.le_of_ble_eq_true rfl) (fun a ha => ?_)
 replace ha : Has 12 [(0, .agg #[.slice s.A s.n s.c]), (1, .agg #[.slice sj.A sj.n sj.c, .slice sh.A sh.n sh.c, iv mode])] a := ha
 refine wp_seq (jX [0, 1, 2, 3] (jH (qH 2 [.slice s.A s.n s.c] 35 (ptr · 0) ha hS fun b1 w a hb2 hS ha => ?_)))
 refine jH (qH 3 [.slice sj.A sj.n sj.c, .slice sh.A sh.n sh.c, iv mode] 39 (ptr · 0) ha hS fun b3 w a hb4 hS ha => ?_)
 refine jY [(2, 4, .bool false), (3, 5, .bool false)] ha fun a ha => ?_
 refine jZ (jJ (wp_seq (wp_seq (jX [0, 1, 2] (xV 6 ha (hS.blk 1 rfl) fun a ha => ?_)))))
 refine jH (qK 7 (vs := [.agg #[.slice s.A s.n s.c]]) ha (qpr_sat hS (hr.sat hS) hf) fun v5 w a hp6 ha => ?_)
 obtain ⟨rfl, hS⟩ := hp6
 refine jY [(2, 8, .bool (!((programB l))))] ha fun a ha => ?_
 refine jZ (jJ ?_)
 rcases Bool.eq_false_or_eq_true (programB l) with c7 | c7
 ·
  refine jU ha rfl (xJ c7) ?_
  refine wp_skip (jJ (wp_seq (jX [0, 1, 2, 3, 4] (xV 9 ha (hS.blk 1 rfl) fun a ha => ?_))))
  refine xV 10 ha (hS.blk 0 rfl) fun a ha => ?_
  refine jH (qK 11 (vs := [.agg #[.slice s.A s.n s.c], .agg #[.slice sj.A sj.n sj.c, .slice sh.A sh.n sh.c, iv mode]]) ha (qS_sat hS (hr.sat hS) hf (hrj.sat hS) (hrh.sat hS)) fun v8 w a hp9 ha => ?_)
  obtain ⟨rfl, hS⟩ := hp9
  refine jY [(3, 4, .bool (programB l && sessB l js hs mode)), (4, 5, .bool true)] ha fun a ha => ?_
  refine jZ (jJ (wp_ret (yU ha (by kernel_rfl) (qZ (t := 4) ha rfl) (qZ (t := 5) ha rfl) ?_)))
  have hE : (isSessP l js hs mode) = ((programB l && sessB l js hs mode), true) := by unfold isSessP; rw [c7]
  rw [hE]
  exact ⟨rfl, Sat.rest [_, _] hS⟩
 refine qQ ha rfl (xQ c7) ?_
 refine wp_seq (jX [0, 1] (jY [(0, 4, .bool false), (1, 5, .bool false)] ha fun a ha => ?_))
 refine jZ (jJ (wp_ret (qY (yU ha (by kernel_rfl) (qZ (t := 4) ha rfl) (qZ (t := 5) ha rfl) ?_))))
 have hE : (isSessP l js hs mode) = (false, false) := by unfold isSessP; rw [c7]; rfl
 rw [hE]
 exact ⟨rfl, Sat.rest [_, _] hS⟩
theorem spec_IsSession_sat {w0 w : World} {Rs : List Asn} {s sj sh : Sl} {l : List (List ST)} {js : List (Int × Int)} {hs : List Int} {mode : Int} (hS : Sat w0 w Rs) (hr : RdP w s l) (hf : Fits l) (hrj : RdE cellsR 2 w sj js) (hrh : RdI w sh hs) :
  Calls Try.prog 48 #[.agg #[.slice s.A s.n s.c], .agg #[.slice sj.A sj.n sj.c, .slice sh.A sh.n sh.c, iv mode]] w (Ret fun r w' => r = .tuple #[.bool ((isSessP l js hs mode).1), .bool ((isSessP l js hs mode).2)] ∧ Sat w0 w' (Rs)) :=
 (spec_IsSession_sat0 hr hf hrj hrh).mono fun e w' h => by
  cases e with
  | returned r => obtain ⟨h1, h2⟩ := h; exact ⟨h1, hS.comp (Ps := []) h2⟩
  | _ => exact h.elim
end Go.Proofs.Ytjkoibfkklhaiaa.G
end
section
namespace Go.Proofs.Ytjkoibfkklhaiaa.G
open Go.RowKit Go.Proofs.Ytjkoibfkklhaiaa.SX Go.Proofs.YtjkoibfkklhaiaaW.PrintWords Go.Proofs.YtjkoibfkklhaiaaW.PrintLast Go.Proofs.YtjkoibfkklhaiaaW.PrintMore
set_option linter.unusedVariables false
set_option linter.unusedSimpArgs false
theorem code12 : Try.f12.body = some (Code.seq (cr Try.f12 0 false) (Code.seq (cr Try.f12 1 false) (Code.seq (cr Try.f12 2 false) (Code.seq (Code.seq (cr Try.f12 3 false) (Code.cond (Operand.tmp 16) (Code.seq (cr Try.f12 4 false) Code.ret) Code.skip)) (Code.seq (cr Try.f12 5 false) (Code.seq (Code.seq (cr Try.f12 6 false) (Code.cond (Operand.tmp 21) (Code.seq (cr Try.f12 7 false) Code.ret) Code.skip)) (Code.seq (cr Try.f12 8 true) (Code.seq (cr Try.f12 9 false) (Code.seq (cr Try.f12 10 false) (Code.seq (cr Try.f12 11 false) (Code.seq (Code.seq (cr Try.f12 12 false) (Code.cond (Operand.tmp 47) (Code.seq (cr Try.f12 13 false) Code.ret) Code.skip)) (Code.seq (Code.seq (cr Try.f12 14 true) (Code.cond (Operand.tmp 52) (Code.seq (cr Try.f12 15 false) Code.ret) Code.skip)) (Code.seq (Code.seq (cr Try.f12 16 true) (Code.cond (Operand.tmp 57) (Code.seq (cr Try.f12 17 false) Code.ret) Code.skip)) (Code.seq (cr Try.f12 18 false) Code.ret)))))))))))))) := by kernel_rfl
set_option maxRecDepth 20000 in
set_option maxHeartbeats 1000000 in
theorem law12_walk (w0 : World) (s0 : Sl) (l0 : List (List LT)) (rjs rhs : Sl) (js : List (Int × Int)) (hs : List Int) (mode : Int) (hr0 : RdA w0 s0 l0) (hrjs : RdE cellsR 2 w0 rjs js) (hrhs : RdI w0 rhs hs) :
  Calls Try.prog 12 #[.agg #[.slice s0.A s0.n s0.c], .agg #[.slice rjs.A rjs.n rjs.c, .slice rhs.A rhs.n rhs.c, iv mode]] w0 (Ret fun r w' => r = .bool true ∧ Below w0.heap.size w0 w') := by
 have hS : Sat w0 w0 [] := Sat.start w0
 have hnjs := hrjs.len
 have hgjs := hrjs.big
 have hnhs := hrhs.len
 have hghs := hrhs.big
 refine enter (n := 58) Try.func12 code12 (by kernel_rfl) (Nat.le_of_ble_eq_true rfl) (fun a ha => ?_)
 replace ha : Has 58 [(0, .agg #[.slice s0.A s0.n s0.c]), (1, .agg #[.slice rjs.A rjs.n rjs.c, .slice rhs.A rhs.n rhs.c, iv mode])] a := ha
 refine wp_seq (jX [0, 1, 2] (jH (qH 2 [.slice s0.A s0.n s0.c] 24 (ptr · 0) ha hS fun b1 w a hb2 hS ha => ?_)))
 refine jH (qH 3 [.slice rjs.A rjs.n rjs.c, .slice rhs.A rhs.n rhs.c, iv mode] 28 (ptr · 0) ha hS fun b3 w a hb4 hS ha => ?_)
 refine jY [(2, 4, .bool false)] ha fun a ha => ?_
 refine jZ (jJ (wp_seq (jX [0] (jY [(0, 5, iv 1048576)] ha fun a ha => ?_))))
 refine jZ (jJ (wp_seq (jX [0, 1, 2, 3] (xV 12 ha (hS.blk 1 rfl) fun a ha => ?_))))
 refine jY [(1, 13, iv 1048576)] ha fun a ha => ?_
 refine jH (qK 14 (vs := [.agg #[.slice s0.A s0.n s0.c], iv 1048576]) ha (szProgram_sat hS (hr0.sat hS) (by omega) (by omega)) fun v5 w a hp6 ha => ?_)
 obtain ⟨rfl, hS⟩ := hp6
 refine jY [(3, 5, iv (szP l0 1048576))] ha fun a ha => ?_
 refine jZ (jJ (wp_seq (wp_seq (jX [0, 1] (jY [(0, 15, iv (szP l0 1048576)), (1, 16, .bool (decide ((szP l0 1048576) < 0)))] ha fun a ha => ?_)))))
 refine jZ (jJ ?_)
 by_cases c7 : (szP l0 1048576) < 0
 ·
  refine qQ ha rfl (decide_eq_true c7) ?_
  refine wp_seq (jX [0] (jY [(0, 4, .bool true)] ha fun a ha => ?_))
  refine jZ (jJ (wp_ret (qY (jV ha (by kernel_rfl) (qZ (t := 4) ha rfl) ?_))))
  exact ⟨rfl, hS.below⟩
 have hf0 : Fits l0 := by have h8 : 0 ≤ szP l0 1048576 := (by omega); have h9 := szP_ok l0 1048576 h8; exact ⟨by omega, by omega⟩
 have htp0 := (toP_fits hf0).tot
 have hz0 := szP_ok l0 1048576 (by omega)
 refine jU ha rfl (decide_eq_false c7) ?_
 refine wp_skip (jJ (wp_seq (jX [0, 1, 2, 3] (xV 17 ha (hS.blk 0 rfl) fun a ha => ?_))))
 refine jY [(1, 18, iv (szP l0 1048576))] ha fun a ha => ?_
 refine jH (qK 19 (vs := [.agg #[.slice rjs.A rjs.n rjs.c, .slice rhs.A rhs.n rhs.c, iv mode], iv (szP l0 1048576)]) ha (szSession_sat hS (hrjs.sat hS).len (hrhs.sat hS).len (by omega) (by omega) (by omega) (by omega)) fun v8 w a hp9 ha => ?_)
 obtain ⟨rfl, hS⟩ := hp9
 refine jY [(3, 5, iv (szN2 js.length hs.length (szP l0 1048576)))] ha fun a ha => ?_
 refine jZ (jJ (wp_seq (wp_seq (jX [0, 1] (jY [(0, 20, iv (szN2 js.length hs.length (szP l0 1048576))), (1, 21, .bool (decide ((szN2 js.length hs.length (szP l0 1048576)) < 0)))] ha fun a ha => ?_)))))
 refine jZ (jJ ?_)
 by_cases c10 : (szN2 js.length hs.length (szP l0 1048576)) < 0
 ·
  refine qQ ha rfl (decide_eq_true c10) ?_
  refine wp_seq (jX [0] (jY [(0, 4, .bool true)] ha fun a ha => ?_))
  refine jZ (jJ (wp_ret (qY (jV ha (by kernel_rfl) (qZ (t := 4) ha rfl) ?_))))
  exact ⟨rfl, hS.below⟩
 have hz9 := szN2_ok (n := js.length) (m := hs.length) (left := (szP l0 1048576)) (by omega)
 refine jU ha rfl (decide_eq_false c10) ?_
 refine wp_skip (jJ (wp_seq (xG 10 10 (hS.pickN 2 [0, 1] (by decide) rfl) hS fun w hS => ?_)))
 refine yG 0 23 ha (hS.pickN 2 [0, 1] (by decide) rfl) (jQ (jW)) (fun _ hw => hw.blk 1 rfl) fun a ha => ?_
 refine yG 2 25 ha (hS.pickN 2 [0, 1] (by decide) rfl) (jQ (jW)) (fun _ hw => hw.blk 0 rfl) fun a ha => ?_
 refine xW 1 (qK 24 (vs := [.agg #[.slice s0.A s0.n s0.c]]) ha (toProgram_sat hS (hr0.sat hS) hf0) fun v11 w a hp12 ha => ?_)
 obtain ⟨sp1, rfl, hS⟩ := hp12
 refine ⟨.inr (hS.pickN 3 [1, 2] (by decide) rfl), ?_⟩
 refine xW 3 (qK 26 (vs := [.agg #[.slice rjs.A rjs.n rjs.c, .slice rhs.A rhs.n rhs.c, iv mode]]) ha (toSession_sat hS (hrjs.sat hS) (hrhs.sat hS) (by omega) (by omega)) fun v13 w a hp14 ha => ?_)
 obtain ⟨o1, o2, rfl, hS⟩ := hp14
 refine ⟨.inr (hS.pickN 5 [3, 4] (by decide) rfl), ?_⟩
 refine xW 4 (qK 27 (vs := [.agg #[.slice sp1.A sp1.n sp1.c], .agg #[.slice o1.A o1.n o1.c, .slice o2.A o2.n o2.c, iv mode]]) ha (spec_IsSession_sat hS (hS.rdS 2 rfl) (toP_fits hf0) (hS.rdE (s := o1) 0 xK (by decide) rfl) (hS.rdRow (s := o2) 1 rfl)) fun v15 w a hp16 ha => ?_)
 obtain ⟨rfl, hS⟩ := hp16
 refine ⟨.inr (hS.pickN 5 [3, 4] (by decide) rfl), ?_⟩
 refine qV (k := 0) [(5, 22, .tuple #[.bool ((isSessP (toP l0) js hs mode).1), .bool ((isSessP (toP l0) js hs mode).2)]), (6, 28, .bool ((isSessP (toP l0) js hs mode).1)), (7, 29, .bool ((isSessP (toP l0) js hs mode).2)), (8, 6, .bool ((isSessP (toP l0) js hs mode).1)), (9, 7, .bool ((isSessP (toP l0) js hs mode).2))] ha (.inr (hS.pickN 5 [3, 4] (by decide) rfl)) (jQ (jW)) fun a ha => ?_
 refine yX ?_
 replace ha := ha.as [(2, ptr b1 0), (3, ptr b3 0), (4, .bool false), (6, .bool ((isSessP (toP l0) js hs mode).1)), (7, .bool ((isSessP (toP l0) js hs mode).2))] rfl
 refine jJ (wp_seq (jX [0, 1, 2, 3] (xV 30 ha (hS.blk 4 rfl) fun a ha => ?_)))
 refine jH (qK 31 (vs := [.agg #[.slice s0.A s0.n s0.c]]) ha (toProgram_sat hS (hr0.sat hS) hf0) fun v17 w a hp18 ha => ?_)
 obtain ⟨sp2, rfl, hS⟩ := hp18
 refine jH (qH 8 [.slice none 0 0] 35 (ptr · 0) ha hS fun b19 w a hb20 hS ha => ?_)
 refine jH (xH 0 ha (zZ (t := 35) (x := 8) (y := 31)) rfl rfl rfl (by kernel_rfl) hS rfl (Nat.le_of_ble_eq_true rfl) rfl fun w a hS ha => ?_)
 refine jZ (jJ (wp_seq (jX [0, 1, 2, 3] (xV 32 ha (hS.blk 5 rfl) fun a ha => ?_))))
 refine jH (qK 33 (vs := [.agg #[.slice rjs.A rjs.n rjs.c, .slice rhs.A rhs.n rhs.c, iv mode]]) ha (toSession_sat hS (hrjs.sat hS) (hrhs.sat hS) (by omega) (by omega)) fun v21 w a hp22 ha => ?_)
 obtain ⟨o3, o4, rfl, hS⟩ := hp22
 refine jH (qH 9 [.slice none 0 0, .slice none 0 0, iv 0] 39 (ptr · 0) ha hS fun b23 w a hb24 hS ha => ?_)
 refine jH (xH 0 ha (zZ (t := 39) (x := 9) (y := 33)) rfl rfl rfl (by kernel_rfl) hS rfl (Nat.le_of_ble_eq_true rfl) rfl fun w a hS ha => ?_)
 refine jZ (jJ (wp_seq (jX [0, 1, 2, 3, 4, 5, 6, 7] (xV 35 ha (hS.blk 3 rfl) fun a ha => ?_))))
 refine xV 36 ha (hS.blk 0 rfl) fun a ha => ?_
 refine jH (qK 37 (vs := [.agg #[.slice sp2.A sp2.n sp2.c], .agg #[.slice o3.A o3.n o3.c, .slice o4.A o4.n o4.c, iv mode]]) ha (impl_IsSession_sat hS (hS.rdS 4 rfl) (toP_fits hf0) (hS.rdE (s := o3) 1 xK (by decide) rfl) (hS.rdRow (s := o4) 2 rfl)) fun v25 w a hp26 ha => ?_)
 obtain ⟨rfl, hS⟩ := hp26
 refine jY [(3, 34, .tuple #[.bool ((isSessP (toP l0) js hs mode).1), .bool ((isSessP (toP l0) js hs mode).2)]), (4, 38, .bool ((isSessP (toP l0) js hs mode).1)), (5, 39, .bool ((isSessP (toP l0) js hs mode).2)), (6, 10, .bool ((isSessP (toP l0) js hs mode).1)), (7, 11, .bool ((isSessP (toP l0) js hs mode).2))] ha fun a ha => ?_
 refine jZ (jJ (wp_seq (wp_seq (jX [0, 1, 2, 3, 4, 5, 6, 7] (jY [(0, 40, .bool ((isSessP (toP l0) js hs mode).1)), (1, 41, .bool ((isSessP (toP l0) js hs mode).1))] ha fun a ha => ?_)))))
 refine xZ (.bool false) ha ((qJ (v := .bool (!(((isSessP (toP l0) js hs mode).1) == ((isSessP (toP l0) js hs mode).1)))) ha (yH (op := (Op.binOp BinOp.neq 4 (Operand.tmp 40) (Operand.tmp 41) 4)) (d := some 42) (ty := 4)) (by kernel_rfl) (fun _ => by kernel_rfl)).as (by simp)) fun a ha => ?_
 refine jY [(3, 43, .bool false), (4, 44, .bool ((isSessP (toP l0) js hs mode).2)), (5, 45, .bool ((isSessP (toP l0) js hs mode).2))] ha fun a ha => ?_
 refine xZ (.bool false) ha ((qJ (v := .bool (!(((isSessP (toP l0) js hs mode).2) == ((isSessP (toP l0) js hs mode).2)))) ha (AtG.here (gd := 43) ⟨(by kernel_rfl : ((jG Try.f12 12)[6]?).map spec = some ((Op.binOp BinOp.neq 4 (Operand.tmp 44) (Operand.tmp 45) 4), some 46, 4, some (3, false))), by kernel_rfl⟩ ha rfl) (by kernel_rfl) (fun _ => by kernel_rfl)).as (by simp)) fun a ha => ?_
 refine jY [(7, 47, .bool false)] ha fun a ha => ?_
 refine jZ ?_
 replace ha := ha.as [(2, ptr b1 0), (3, ptr b3 0), (4, .bool false), (8, ptr b19 0), (9, ptr b23 0), (47, .bool false)] rfl
 refine jJ ?_
 refine jU ha rfl rfl ?_
 refine wp_skip (jJ (wp_seq (wp_seq (xG 5 5 (hS.pickN 10 [0, 3, 8, 9] (by decide) rfl) hS fun w hS => ?_))))
 refine yG 0 48 ha (hS.pickN 10 [0, 3, 8, 9] (by decide) rfl) (jQ (jQ (jW))) (fun _ hw => hw.blk 1 rfl) fun a ha => ?_
 refine yG 1 49 ha (hS.pickN 10 [0, 3, 8, 9] (by decide) rfl) (jQ (jQ (jW))) (fun _ hw => hw.blk 3 rfl) fun a ha => ?_
 refine xW 2 (qK 50 (vs := [.agg #[.slice s0.A s0.n s0.c]]) ha (toProgram_sat hS (hr0.sat hS) hf0) fun v27 w a hp28 ha => ?_)
 obtain ⟨sp3, rfl, hS⟩ := hp28
 refine ⟨.inr (hS.pickN 11 [1, 4, 9, 10] (by decide) rfl), ?_⟩
 refine xW 3 (qK 51 (vs := [.agg #[.slice sp2.A sp2.n sp2.c], .agg #[.slice sp3.A sp3.n sp3.c]]) ha (eqP_sat hS (hS.rdS 5 rfl) (hS.rdS 0 rfl) (toP_fits hf0)) fun v29 w a hp30 ha => ?_)
 obtain ⟨rfl, hS⟩ := hp30
 refine ⟨.inr (hS.pickN 11 [1, 4, 9, 10] (by decide) rfl), ?_⟩
 refine qV (k := 0) [(4, 52, .bool false)] ha (.inr (hS.pickN 11 [1, 4, 9, 10] (by decide) rfl)) (jQ (jQ (jW))) fun a ha => ?_
 refine yX (jJ ?_)
 refine jU ha rfl rfl ?_
 refine wp_skip (jJ (wp_seq (wp_seq (xG 5 5 (hS.pickN 11 [1, 4, 9, 10] (by decide) rfl) hS fun w hS => ?_))))
 refine yG 0 53 ha (hS.pickN 11 [1, 4, 9, 10] (by decide) rfl) (jQ (jQ (jW))) (fun _ hw => hw.blk 0 rfl) fun a ha => ?_
 refine yG 1 54 ha (hS.pickN 11 [1, 4, 9, 10] (by decide) rfl) (jQ (jQ (jW))) (fun _ hw => hw.blk 2 rfl) fun a ha => ?_
 refine xW 2 (qK 55 (vs := [.agg #[.slice rjs.A rjs.n rjs.c, .slice rhs.A rhs.n rhs.c, iv mode]]) ha (toSession_sat hS (hrjs.sat hS) (hrhs.sat hS) (by omega) (by omega)) fun v31 w a hp32 ha => ?_)
 obtain ⟨o5, o6, rfl, hS⟩ := hp32
 refine ⟨.inr (hS.pickN 13 [3, 6, 11, 12] (by decide) rfl), ?_⟩
 refine xW 3 (qK 56 (vs := [.agg #[.slice o3.A o3.n o3.c, .slice o4.A o4.n o4.c, iv mode], .agg #[.slice o5.A o5.n o5.c, .slice o6.A o6.n o6.c, iv mode]]) ha (eqSession_sat hS (hS.rdE (s := o3) 4 xK (by decide) rfl) (hS.rdRow (s := o4) 5 rfl) (hS.rdE (s := o5) 0 xK (by decide) rfl) (hS.rdRow (s := o6) 1 rfl)) fun v33 w a hp34 ha => ?_)
 obtain ⟨rfl, hS⟩ := hp34
 refine ⟨.inr (hS.pickN 13 [3, 6, 11, 12] (by decide) rfl), ?_⟩
 refine qV (k := 0) [(4, 57, .bool false)] ha (.inr (hS.pickN 13 [3, 6, 11, 12] (by decide) rfl)) (jQ (jQ (jW))) fun a ha => ?_
 refine yX (jJ ?_)
 refine jU ha rfl rfl ?_
 refine wp_skip (jJ (wp_seq (jX [0] (jY [(0, 4, .bool true)] ha fun a ha => ?_))))
 refine jZ ?_
 replace ha := ha.as [(4, .bool true)] rfl
 refine jJ (wp_ret (jV ha (by kernel_rfl) (qZ (t := 4) ha rfl) ?_))
 exact ⟨rfl, hS.below⟩
end Go.Proofs.Ytjkoibfkklhaiaa.G
end
