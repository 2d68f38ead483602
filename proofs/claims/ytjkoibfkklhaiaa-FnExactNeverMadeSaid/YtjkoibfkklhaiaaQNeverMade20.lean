/- What the claim FnExactNeverMade rests on, part 20 of 22; the last part proves it: for every input the law answers true, and its arguments read behind the call as before it. No condition. -/
import Derived.Test.YtjkoibfkklhaiaaQNeverMade17
import Derived.Test.YtjkoibfkklhaiaaQNeverMade18
import Derived.Test.YtjkoibfkklhaiaaQNeverMade19
set_option linter.unusedSimpArgs false
set_option linter.unusedVariables false
set_option maxRecDepth 20000
set_option maxHeartbeats 1000000
namespace Go.Proofs.Ytjkoibfkklhaiaa.G
open Go.RowKit Go.Proofs.Ytjkoibfkklhaiaa.SX Go.Proofs.YtjkoibfkklhaiaaW.PrintWords Go.Proofs.YtjkoibfkklhaiaaW.PrintLast Go.Proofs.YtjkoibfkklhaiaaW.PrintMore
theorem put_same {L : List (Int × Int)} {q : Int × Int} (h : Inc L) (hq : q ∈ L) : putP L q = L := Inc.ext (putP_inc h q) h fun y => by
  rw [putP_mem]
  constructor
  · rintro (h1 | rfl)
    · exact h1
    · exact hq
  · exact .inl
theorem put_more {L : List (Int × Int)} {q : Int × Int} (hq : q ∉ L) : (putP L q).length = L.length + 1 := by
 unfold putP
 rw [if_neg (fun h => hq (List.mem_of_getElem? h))]
 have := lessN_le L q
 simp only [List.length_append, List.length_take, List.length_drop, List.length_cons, List.length_nil]
 omega
def mdS (l : List (List ST)) (f fuel low : Int) (n : Nat) (q : Int × Int) : Prop := ∃ j : Nat, j < n ∧ askB l f (low + (j : Int)) fuel = true ∧ q ∈ (rn l f (low + (j : Int)) fuel).m.places
theorem mdS_no {l : List (List ST)} {f fuel low x : Int} {n : Nat} (hx : x = low + (n : Int)) (h : askB l f x fuel = false) (q : Int × Int) : mdS l f fuel low (n + 1) q ↔ mdS l f fuel low n q := by
  subst hx
  constructor
  · rintro ⟨j, h1, h2, h3⟩
    refine ⟨j, ?_, h2, h3⟩
    by_cases e : j = n
    · subst e; rw [h2] at h; cases h
    · omega
  · rintro ⟨j, h1, h2⟩; exact ⟨j, by omega, h2⟩
theorem mdS_yes {l : List (List ST)} {f fuel low x : Int} {n : Nat} (hx : x = low + (n : Int)) (h : askB l f x fuel = true) (q : Int × Int) : mdS l f fuel low (n + 1) q ↔ mdS l f fuel low n q ∨ q ∈ (rn l f x fuel).m.places := by
  subst hx
  constructor
  · rintro ⟨j, h1, h2, h3⟩
    by_cases e : j = n
    · subst e; exact .inr h3
    · exact .inl ⟨j, by omega, h2, h3⟩
  · rintro (⟨j, h1, h2⟩ | h1)
    · exact ⟨j, by omega, h2⟩
    · exact ⟨n, by omega, h, h1⟩
def madeN (l : List (List ST)) (f fuel low : Int) : Nat → List (Int × Int)
 | 0 => []
 | n + 1 => madeP (madeN l f fuel low n) (rn l f (low + (n : Int)) fuel).m.places
theorem madeN_next {l : List (List ST)} {f fuel low x : Int} {n : Nat} (hx : x = low + (n : Int)) : madeP (madeN l f fuel low n) (rn l f x fuel).m.places = madeN l f fuel low (n + 1) := by subst hx; rfl
theorem madeN_inc (l : List (List ST)) (f fuel low : Int) : ∀ n, Inc (madeN l f fuel low n)
 | 0 => List.Pairwise.nil
 | n + 1 => madeP_inc _ (madeN_inc l f fuel low n)
theorem madeN_mem {l : List (List ST)} {f fuel low : Int} {q : Int × Int} : ∀ n, (∀ j : Nat, j < n → askB l f (low + (j : Int)) fuel = true) → (q ∈ madeN l f fuel low n ↔ mdS l f fuel low n q)
 | 0, _ => ⟨fun h => absurd h List.not_mem_nil, fun ⟨j, h, _⟩ => absurd h (Nat.not_lt_zero j)⟩
 | n + 1, h => by rw [mdS_yes rfl (h n (Nat.lt_succ_self n)), ← madeN_mem n fun j hj => h j (by omega)]; exact madeP_mem _ _ _
theorem madeN_len {l : List (List ST)} {f fuel low : Int} : ∀ n, (∀ j : Nat, j < n → askB l f (low + (j : Int)) fuel = true) → (madeN l f fuel low n).length ≤ 200 * n
 | 0, _ => Nat.le_refl _
 | n + 1, h => by
  have h1 := madeN_len n fun j hj => h j (by omega)
  have h2 := places_len (h n (Nat.lt_succ_self n))
  have h3 := madeP_len (rn l f (low + (n : Int)) fuel).m.places (madeN l f fuel low n)
  show (madeP _ _).length ≤ _
  omega
def nvG (l : List (List ST)) (f fuel low : Int) (n : Nat) (q : Int × Int) : Bool := !decide (q ∈ madeN l f fuel low n)
theorem nvG_yes {l : List (List ST)} {f fuel low : Int} {n : Nat} {q : Int × Int} (h : (madeN l f fuel low n).length < (putP (madeN l f fuel low n) q).length) : nvG l f fuel low n q = true := by
 unfold nvG
 rw [Bool.not_eq_true', decide_eq_false_iff_not]
 intro hq
 rw [put_same (madeN_inc l f fuel low n) hq] at h
 omega
theorem nvG_no {l : List (List ST)} {f fuel low : Int} {n : Nat} {q : Int × Int} (h : ¬ (madeN l f fuel low n).length < (putP (madeN l f fuel low n) q).length) : nvG l f fuel low n q = false := by
 unfold nvG
 rw [Bool.not_eq_false', decide_eq_true_eq]
 refine Classical.byContradiction fun hq => h ?_
 rw [put_more hq]
 omega
def neverP (l : List (List ST)) (f low high fuel : Int) : List (Int × Int) × Bool := if l4B l f low high fuel = true then (plL (nvG l f fuel low (cntN low high)) l, true) else ([], false)
theorem range_small {l : List (List ST)} {f low high fuel : Int} (h : l4B l f low high fuel = true) : l.length ≤ 6 ∧ ∀ b ∈ l, b.length ≤ 8 := by
 obtain ⟨h1, h2⟩ := l4B_of h
 have := rangeB_le h1
 exact prog_small (h2 0 (by unfold cntN; omega))
theorem neverP_len (l : List (List ST)) (f low high fuel : Int) : (neverP l f low high fuel).1.length ≤ 1000000 := by
  unfold neverP
  by_cases h : l4B l f low high fuel = true
  · rw [if_pos h]
    have h1 := plN_len (is := nvG l f fuel low (cntN low high)) (range_small h).2 l.length 0;have h2 := (range_small h).1
    dsimp only
    unfold plL
    omega
  · rw [if_neg h]; exact Nat.zero_le _
theorem never_is {l : List (List ST)} {f low high fuel : Int} {pl : List (Int × Int)} (h : l4B l f low high fuel = true) (hpl : ∀ q, q ∈ pl ↔ mdS l f fuel low (cntN low high) q) : (fun q => !decide (q ∈ pl)) = nvG l f fuel low (cntN low high) := by
 funext q
 unfold nvG
 have := madeN_mem (q := q) _ (l4B_of h).2
 congr 1
 exact decide_eq_decide.2 ((hpl q).trans this.symm)
theorem argsWithQ_sat {w0 w : World} {Rq : Nat → List Asn} {low high : Int} {F : Nat} {fn : Func} {cap : List Value} {g : Int → Bool × Bool} (hS : Sat w0 w (Rq 0)) (hfn : Try.prog.funcs[F]? = some fn) (hbn : (fn.body.isNone || fn.name == "runtime.NumGoroutine") = false)
  (hcl : ∀ (w1 : World) (X : Asn) (j : Nat) (x : Int), x = low + (j : Int) → low ≤ x → x ≤ high → Sat w0 w1 (X :: Rq j) → Calls Try.prog F (.int .i64 x :: cap).toArray w1 (Ret fun r w' => r = .tuple #[.bool ((g x).1), .bool ((g x).2)] ∧ Sat w0 w' (X :: Rq (j + 1)))) :
  Calls Try.prog 71 #[.int .i64 low, .int .i64 high, .func (.func F) #[] cap.toArray] w (Ret fun r w' => ∃ (o : Sl) (j : Nat), r = .tuple #[.slice o.A o.n o.c, .bool (argsB g low high)] ∧ (argsB g low high = true → j = cntN low high) ∧ Sat w0 w' (rI o (argsL g low high) :: Rq j)) := by
 refine enter (n := 37) Try.func71 code71 (by kernel_rfl) (Nat.le_of_ble_eq_true rfl) (fun a ha => ?_)
 replace ha : Has 37 [(0, iv low), (1, iv high), (2, (.func (.func F) #[] cap.toArray))] a := ha
 refine wp_seq (jX [0, 1] (jQ [(0, 6, .slice none 0 0), (1, 7, .bool false)] ha fun a ha => ?_))
 refine jY (jJ (wp_seq (wp_seq (jX [0, 1, 2, 3] (jQ [(0, 12, iv low), (1, 13, iv high)] ha fun a ha => ?_)))))
 refine jK (xJ 14 (vs := [iv low, iv high]) ha (isRange_sat hS) fun v1 w a hp2 ha => ?_)
 obtain ⟨rfl, hS⟩ := hp2
 refine jQ [(3, 15, .bool (!((rangeB low high))))] ha fun a ha => ?_
 refine jY (jJ ?_)
 rcases Bool.eq_false_or_eq_true (rangeB low high) with c3 | c3
 ·
  have hbb := rangeB_le c3
  refine jW ha rfl (zJ c3) ?_
  refine wp_skip (jJ (wp_seq (jX [0, 1] (jK (qV 16 [] 3 (fun b => .slice (some ⟨b, 0, none⟩) 0 0) ha hS fun b4 w a hb5 hS ha => ?_)))))
  refine jQ [(1, 8, .slice (some ⟨b4, 0, none⟩) 0 0)] ha fun a ha => ?_
  refine jY (jJ (wp_seq (wp_seq (jX [0, 1] (jQ [(0, 17, iv low), (1, 9, iv low)] ha fun a ha => ?_)))))
  refine jY (jJ (wp_block ?_))
  replace hS := hS.blk0 1 0 rfl
  replace hS : Sat w0 w ((rI (⟨some ⟨b4, 0, none⟩, 0, 0⟩ : Sl) []) :: (Rq 0)) := hS
  refine wp_loop_ghost (fun n_ a_ w_ => ∃ (i : Nat) (x : Int) (o : Sl), n_ = cntN low high - i ∧ (i ≤ cntN low high) ∧ (x = low + (i : Int)) ∧ (∀ j : Nat, j < i → (g (low + (j : Int))).2 = true) ∧ Has 37 [(1, iv high), (2, (.func (.func F) #[] cap.toArray)), (8, .slice o.A o.n o.c), (9, iv x)] a_ ∧ Sat w0 w_ ((rI o (hitsN g low i)) :: (Rq i))) _ ⟨0, low, ⟨some ⟨b4, 0, none⟩, 0, 0⟩, rfl, Nat.zero_le _, by omega, (fun j hj => by omega), ha.keeps [1, 2, 8, 9] _ rfl, hS⟩ ?_
  rintro n_ a w ⟨i, x, o, rfl, hi, hx, hall, ha, hS⟩
  refine wp_seq (wp_seq (jX [0, 1, 2] (jQ [(0, 18, iv x), (1, 19, iv high), (2, 20, .bool (decide (x ≤ high)))] ha fun a ha => ?_)))
  refine jY (jJ ?_)
  by_cases c6 : x ≤ high
  ·
   refine jV ha rfl (decide_eq_true c6) ?_;refine wp_skip (jJ (wp_seq (wp_block (wp_seq (jX [0, 1, 2, 3, 4, 5, 6, 7] (jQ [(0, 24, (.func (.func F) #[] cap.toArray)), (1, 25, iv x)] ha fun a ha => ?_))))));refine jK (o_retF (t := 24) (f := F) (cap := cap) ha (by decide) (yU (op := (Op.call { callee := (Callee.value (Operand.tmp 24)), args := #[(Operand.tmp 25)], argTypes := #[3] })) (d := some 26) (ty := 70)) rfl rfl hfn hbn (hcl _ _ i x hx (by omega) (by unfold cntN at *; omega) hS) fun v7 w a hp8 ha => ?_);obtain ⟨rfl, hS⟩ := hp8;refine jQ [(3, 23, .tuple #[.bool ((g x).1), .bool ((g x).2)]), (4, 27, .bool ((g x).1)), (5, 28, .bool ((g x).2)), (6, 10, .bool ((g x).1)), (7, 11, .bool ((g x).2))] ha fun a ha => ?_;refine jY (jJ (wp_seq (wp_seq (jX [0, 1] (jQ [(0, 29, .bool ((g x).2)), (1, 30, .bool (!(((g x).2))))] ha fun a ha => ?_)))));refine jY (jJ ?_)
   rcases Bool.eq_false_or_eq_true ((g x).2) with c9 | c9
   ·
    refine jW ha rfl (zJ c9) ?_;refine wp_skip (jJ (wp_seq (jX [0] (jQ [(0, 31, .bool ((g x).1))] ha fun a ha => ?_))));refine jY (jJ ?_)
    rcases Bool.eq_false_or_eq_true ((g x).1) with c10 | c10
    ·
     refine jV ha rfl c10 ?_;refine jX [0, 1, 2, 3, 4] (jQ [(0, 32, .slice o.A o.n o.c), (1, 33, iv x)] ha fun a ha => ?_);refine jK (qV 34 [iv x] 3 (fun b => .slice (some ⟨b, 0, none⟩) 1 1) ha hS fun b11 w a hb12 hS ha => ?_);refine jK (o_ap 35 1 0 (encI ((hitsN g low i) ++ [x])) ha hS rfl rfl (by rw [encI_length]; have := hitsN_len g low i; have h9 := hi; unfold cntN at h9; simp only [List.length_cons, List.length_nil]; omega) (encI_snoc _ _) fun s16 w a hS hn17 ha => ?_);refine jQ [(4, 8, .slice s16.A s16.n s16.c)] ha fun a ha => ?_;refine jY (in_n (jJ (jX [0, 1, 2] (jQ [(0, 21, iv x)] ha fun a ha => ?_))));refine zZ 22 (x + 1) ha fun a ha => ?_;refine jQ [(2, 9, iv (x + 1))] ha fun a ha => ?_;refine jY (jJ ?_);replace hS := hS.pickN 2 [1];replace hS : Sat w0 w ((rI s16 (hitsN g low (i + 1))) :: (Rq (i + 1))) := by rw [hitsN_yes hx c10]; exact hS
     exact ⟨_, by unfold cntN at *; omega, i + 1, x + 1, s16, rfl, by unfold cntN at *; omega, by omega, all_next hx hall c9, ha.keeps [1, 2, 8, 9] _ rfl, hS⟩
    refine jW ha rfl c10 ?_;refine wp_skip (in_n (jJ (jX [0, 1, 2] (jQ [(0, 21, iv x)] ha fun a ha => ?_))));refine zZ 22 (x + 1) ha fun a ha => ?_;refine jQ [(2, 9, iv (x + 1))] ha fun a ha => ?_;refine jY (jJ ?_);replace hS : Sat w0 w ((rI o (hitsN g low i)) :: (Rq (i + 1))) := hS;replace hS : Sat w0 w ((rI o (hitsN g low (i + 1))) :: (Rq (i + 1))) := by rw [hitsN_no hx c10]; exact hS
    exact ⟨_, by unfold cntN at *; omega, i + 1, x + 1, o, rfl, by unfold cntN at *; omega, by omega, all_next hx hall c9, ha.keeps [1, 2, 8, 9] _ rfl, hS⟩
   refine jV ha rfl (kJ c9) ?_;refine wp_seq (jX [0, 1] (jQ [(0, 6, .slice none 0 0), (1, 7, .bool false)] ha fun a ha => ?_));refine jY (jJ (wp_ret (qH (in_r (qH (qH (in_r (qH (yV ha (by kernel_rfl) (xG (t := 6) ha rfl) (xG (t := 7) ha rfl) ?_)))))))));have hE : argsB g low high = false := argsB_no hx (by unfold cntN at *; omega) c9;refine ⟨⟨none, 0, 0⟩, i + 1, by rw [hE], fun h => Bool.noConfusion (hE.symm.trans h), ?_⟩;rw [argsL_no hE];exact Sat.nilRow (Sat.rest [_] hS)
  refine jW ha rfl (decide_eq_false c6) ?_
  refine wp_exit (xW (xW (in_x (jJ (wp_seq (jX [0, 1, 2] (jQ [(0, 36, .slice o.A o.n o.c), (1, 6, .slice o.A o.n o.c), (2, 7, .bool true)] ha fun a ha => ?_)))))))
  refine jY (jJ (wp_ret (yV ha (by kernel_rfl) (xG (t := 6) ha rfl) (xG (t := 7) ha rfl) ?_)))
  have hie : i = cntN low high := by unfold cntN at *; omega
  have hE : argsB g low high = true := argsB_yes c3 (by rw [← hie]; exact hall)
  refine ⟨o, i, by rw [hE], fun _ => hie, ?_⟩
  rw [argsL_yes hE, ← hie]
  exact hS
 refine jV ha rfl (kJ c3) ?_
 refine wp_seq (jX [0, 1] (jQ [(0, 6, .slice none 0 0), (1, 7, .bool false)] ha fun a ha => ?_))
 refine jY (jJ (wp_ret (qH (yV ha (by kernel_rfl) (xG (t := 6) ha rfl) (xG (t := 7) ha rfl) ?_))))
 have hE : argsB g low high = false := by unfold argsB; rw [c3]; rfl
 refine ⟨⟨none, 0, 0⟩, 0, by rw [hE], fun h => Bool.noConfusion (hE.symm.trans h), ?_⟩
 rw [argsL_no hE]
 exact Sat.nilRow (Sat.rest [] hS)
theorem code72 : Try.f72.body = some (Code.seq (cr Try.f72 0 false) (Code.seq (cr Try.f72 1 false) (Code.seq (Code.seq (cr Try.f72 2 false) (Code.cond (Operand.tmp 19) (Code.seq (cr Try.f72 3 false) (Code.block 0 (Code.loop (Code.seq (cr Try.f72 4 false) (Code.seq (Code.cond (Operand.tmp 26) Code.skip (Code.exit 0)) (Code.block 1 (Code.seq (cr Try.f72 5 false) (cr Try.f72 6 false)))))))) Code.skip)) (Code.seq (cr Try.f72 7 false) Code.ret)))) := by kernel_rfl
theorem never1_sat {w0 w : World} {X : Asn} {Rs : List Asn} {s : Sl} {l : List (List ST)} {f x fuel low : Int} {n9 : Nat} {b1 b2 b3 b4 bq : Nat} (hS : Sat w0 w (X :: (SX.blk b1 [.slice s.A s.n s.c] 35) :: (SX.blk b2 [iv f] 3) :: (SX.blk b3 [iv fuel] 3) :: (SX.blk b4 [.map (some bq)] 101) :: (mapQ bq (mdS l f fuel low n9)) :: Rs)) (hr : RdP w0 s l) (hf : Fits l) (hx9 : x = low + (n9 : Int)) :
  Calls Try.prog 72 #[.int .i64 x, ptr b1 0, ptr b2 0, ptr b3 0, ptr b4 0] w (Ret fun r w' => r = .tuple #[.bool ((runG (fun _ => false) l f fuel x).1), .bool ((runG (fun _ => false) l f fuel x).2)] ∧ Sat w0 w' (X :: (SX.blk b1 [.slice s.A s.n s.c] 35) :: (SX.blk b2 [iv f] 3) :: (SX.blk b3 [iv fuel] 3) :: (SX.blk b4 [.map (some bq)] 101) :: (mapQ bq (mdS l f fuel low (n9 + 1))) :: Rs)) := by
 obtain ⟨pl0, hpl0, hS⟩ := hS.openQ 5 rfl
 refine enter (n := 32) Try.func72 code72 (by kernel_rfl) (Nat.le_of_ble_eq_true rfl) (fun a ha => ?_)
 replace ha : Has 32 [(0, iv x), (1, ptr b1 0), (2, ptr b2 0), (3, ptr b3 0), (4, ptr b4 0)] a := ha
 refine wp_seq (jX [0, 1] (jQ [(0, 6, .bool false), (1, 7, .bool false)] ha fun a ha => ?_))
 refine jY (jJ (wp_seq (jX [0, 1, 2, 3, 4, 5, 6, 7, 8, 9] (zY 12 ha (hS.blk 1 rfl) fun a ha => ?_))))
 refine qQ (d := 13) (b := b2) (j := 0) ha (hS.blk 2 rfl) rfl fun a ha => ?_
 refine jQ [(2, 14, iv x)] ha fun a ha => ?_
 refine qQ (d := 15) (b := b3) (j := 0) ha (hS.blk 3 rfl) rfl fun a ha => ?_
 rcases Bool.eq_false_or_eq_true (askB l f x fuel) with c1 | c1
 ·
  refine jK (xJ 16 (vs := [.agg #[.slice s.A s.n s.c], iv f, iv x, iv fuel]) ha (ran_sat hS (hr.sat hS) c1) fun v2 w a hp3 ha => ?_)
  obtain ⟨bm1, rfl, hS⟩ := hp3
  obtain ⟨ms1, hms1, hS⟩ := Sat.openMO hS
  replace hS : Sat w0 w ((MO bm1 s fuel ((rn l f x fuel).m.made) ((rn l f x fuel).m.shared) ((rn l f x fuel).m.depth) ((rn l f x fuel).m.deepest) ms1.tr ms1.ow ms1.ca ms1.pa ms1.re ms1.bp ((rn l f x fuel).k) ((rn l f x fuel).v)) :: (rE ms1.tr ((rn l f x fuel).m.trace)) :: (rI ms1.ow ((rn l f x fuel).m.owners)) :: (rC ms1.ca ((rn l f x fuel).m.calls)) :: (rP ms1.pa ms1.us) :: (jG (xH ms1.us)) :: (rV ms1.re ((rn l f x fuel).m.recs)) :: (xZ ms1.bp (rn l f x fuel).m.places) :: X :: (SX.blk b1 [.slice s.A s.n s.c] 35) :: (SX.blk b2 [iv f] 3) :: (SX.blk b3 [iv fuel] 3) :: (SX.blk b4 [.map (some bq)] 101) :: (xZ bq pl0) :: Rs) := hS
  refine jQ [(5, 11, .tuple #[ptr bm1 0, .bool true]), (6, 17, ptr bm1 0), (7, 18, .bool true), (8, 8, ptr bm1 0), (9, 9, .bool true)] ha fun a ha => ?_
  refine jY (jJ (wp_seq (wp_seq (jX [0] (jQ [(0, 19, .bool true)] ha fun a ha => ?_)))))
  refine jY (jJ ?_)
  refine jV ha rfl rfl ?_
  refine wp_seq (jX [0, 1, 2, 3, 4] (jQ [(0, 20, ptr bm1 0), (1, 21, ptr bm1 0), (2, 22, ptr bm1 11)] ha fun a ha => ?_))
  refine qQ (d := 23) (b := bm1) (j := 11) ha (hS.blk 0 rfl) rfl fun a ha => ?_
  obtain ⟨es, clock, hes, hS⟩ := hS.openA 7 rfl
  refine jK (o_range (k9 := 96) (v9 := 4) 7 ha (by decide) (yU (op := (Op.range 101 (Operand.tmp 23))) (d := some 24) (ty := 0)) rfl rfl hS rfl fun bi w a hS ha => ?_)
  refine jY (jJ (wp_block ?_))
  replace hS := hS.pickN 15 [14, 0, 8, 9, 10, 11, 12, 13]
  replace hS : Sat w0 w ((xZ bq (pl0 ++ [])) :: (SX.obj bi (.mapIter (some ms1.bp) clock #[] clock)) :: (SX.obj ms1.bp (.map es clock)) :: X :: (SX.blk b1 [.slice s.A s.n s.c] 35) :: (SX.blk b2 [iv f] 3) :: (SX.blk b3 [iv fuel] 3) :: (SX.blk b4 [.map (some bq)] 101) :: Rs) := by rw [List.append_nil]; exact hS
  refine wp_loop_ghost (fun n_ a_ w_ => ∃ (seen : Array Nat) (dn : List (Int × Int)), n_ = (leftOf es seen).size ∧ (SeenIs es seen dn) ∧ Has 32 [(4, ptr b4 0), (6, .bool false), (7, .bool false), (9, .bool true), (24, ptr bi 0)] a_ ∧ Sat w0 w_ ((xZ bq (pl0 ++ dn)) :: (SX.obj bi (.mapIter (some ms1.bp) clock seen clock)) :: (SX.obj ms1.bp (.map es clock)) :: X :: (SX.blk b1 [.slice s.A s.n s.c] 35) :: (SX.blk b2 [iv f] 3) :: (SX.blk b3 [iv fuel] 3) :: (SX.blk b4 [.map (some bq)] 101) :: Rs)) _ ⟨#[], [], rfl, SeenIs.start es, ha.keeps [4, 6, 7, 9, 24] _ rfl, hS⟩ ?_
  rintro n_ a w ⟨seen, dn, rfl, hsn, ha, hS⟩
  refine wp_seq (jX [0, 1] ?_)
  rcases Bool.eq_false_or_eq_true (decide ((leftOf es seen).size = 0)) with c4 | c4
  ·
   refine jK (o_next0 2 1 ha (by decide) (yU (op := (Op.next (Operand.tmp 24) false)) (d := some 25) (ty := 0)) rfl hS rfl rfl hes c4 fun a ha => ?_);refine jQ [(1, 26, .bool false)] ha fun a ha => ?_;refine jY (jJ (wp_seq ?_));refine jW ha rfl rfl ?_;refine wp_exit (xW (xW (in_x (jJ (wp_seq (jX [0, 1, 2] (jQ [(0, 31, .bool true), (1, 6, .bool false), (2, 7, .bool true)] ha fun a ha => ?_)))))));refine jY ?_;replace ha := ha.as [(6, .bool false), (7, .bool true)] rfl;refine jJ (wp_ret (yV ha (by kernel_rfl) (xG (t := 6) ha rfl) (xG (t := 7) ha rfl) ?_));replace hS := hS.pickN 8 [0, 3, 4, 5, 6, 7];have hE : (runG (fun _ => false) l f fuel x) = (false, true) := runG_yes c1;have hdn := hsn.done hes (of_decide_eq_true c4);replace hS := Sat.shutQ (S := mdS l f fuel low (n9 + 1)) hS (fun q => by rw [mdS_yes hx9 c1, List.mem_append, hpl0 q, hdn q]);exact ⟨by rw [hE], hS.pickN 6 [1, 2, 3, 4, 5, 0]⟩
  refine jK (o_next1 2 1 ha (by decide) (yU (op := (Op.next (Operand.tmp 24) false)) (d := some 25) (ty := 0)) rfl hS rfl rfl hes c4 fun e0 z w a he0 hz0 hk0 hv0 hS ha => ?_)
  refine jQ [(1, 26, .bool true)] ha fun a ha => ?_
  refine jY (jJ (wp_seq ?_))
  refine jV ha rfl rfl ?_
  refine wp_skip (jJ (wp_block (wp_seq (jX [0, 1, 2, 3] (zQ (.tuple #[.agg #[iv z.1, iv z.2], .bool true]) ha (v_entry ha (yU (op := (Op.entry (Operand.tmp 24))) (d := some 27) (ty := 0)) rfl hk0 hv0 hes.st.2.1 (left_mem he0).1 (fun w' hw => by rw [hw]; exact ⟨hS.obj 1 rfl, hS.obj 2 rfl⟩)) fun a ha => ?_)))))
  refine jQ [(1, 28, .agg #[iv z.1, iv z.2])] ha fun a ha => ?_
  refine jK (qV 10 [iv 0, iv 0] 96 (ptr · 0) ha hS fun b5 w a hb6 hS ha => ?_)
  refine jK (o_sa 0 ha (xV (t := 96) (x := 10) (y := 28)) hS fun w a hS ha => ?_)
  refine jY (jJ (jX [0, 1, 2] (qQ (d := 29) (b := b4) (j := 0) ha (hS.blk 8 rfl) rfl fun a ha => ?_)))
  refine zY 30 ha (hS.blk 0 rfl) fun a ha => ?_
  refine jK (o_mapSet (kt := 96) (vt := 4) (q := z) 1 ha (yU (op := (Op.mapUpdate 101 (Operand.tmp 29) (Operand.tmp 30) (Operand.const (Value.bool true)))) (ty := 0)) rfl rfl rfl placesLaw (by kernel_rfl) placesKey hS rfl (hes.sm z hz0) fun w a hS ha => ?_)
  refine jY (in_n (jJ ?_))
  replace hS := hS.pickN 9 [1, 2, 3, 4, 5, 6, 7, 8]
  replace hS : Sat w0 w ((xZ bq (pl0 ++ (dn ++ [z]))) :: (SX.obj bi (.mapIter (some ms1.bp) clock (seen.push e0.born) clock)) :: (SX.obj ms1.bp (.map es clock)) :: X :: (SX.blk b1 [.slice s.A s.n s.c] 35) :: (SX.blk b2 [iv f] 3) :: (SX.blk b3 [iv fuel] 3) :: (SX.blk b4 [.map (some bq)] 101) :: Rs) := by rw [← List.append_assoc]; exact hS
  exact ⟨_, left_less he0, seen.push e0.born, dn ++ [z], rfl, hsn.next hes (left_mem he0).1 hk0, ha.keeps [4, 6, 7, 9, 24] _ rfl, hS⟩
 refine jK (xJ 16 (vs := [.agg #[.slice s.A s.n s.c], iv f, iv x, iv fuel]) ha (ran_no hS (hr.sat hS) c1) fun v7 w a hp8 ha => ?_)
 obtain ⟨rfl, hS⟩ := hp8
 refine jQ [(5, 11, .tuple #[.pointer none, .bool false]), (6, 17, .pointer none), (7, 18, .bool false), (8, 8, .pointer none), (9, 9, .bool false)] ha fun a ha => ?_
 refine jY (jJ (wp_seq (wp_seq (jX [0] (jQ [(0, 19, .bool false)] ha fun a ha => ?_)))))
 refine jY (jJ ?_)
 refine jW ha rfl rfl ?_
 refine wp_skip (jJ (wp_seq (jX [0, 1, 2] (jQ [(0, 31, .bool false), (1, 6, .bool false), (2, 7, .bool false)] ha fun a ha => ?_))))
 refine jY (jJ (wp_ret (yV ha (by kernel_rfl) (xG (t := 6) ha rfl) (xG (t := 7) ha rfl) ?_)))
 replace hS := hS.pickN 6 [5, 0, 1, 2, 3, 4]
 have hE : (runG (fun _ => false) l f fuel x) = (false, false) := runG_no c1
 replace hS := Sat.shutQ (S := mdS l f fuel low (n9 + 1)) hS (fun q => by rw [mdS_no hx9 c1, hpl0 q])
 exact ⟨by rw [hE], hS.pickN 6 [1, 2, 3, 4, 5, 0]⟩
theorem code73 : Try.f73.body = some (Code.seq (cr Try.f73 0 false) (Code.seq (cr Try.f73 1 false) Code.ret)) := by kernel_rfl
theorem never2_sat0 {w0 w : World} {Rs : List Asn} {pl : List (Int × Int)} {bq b4 : Nat} {x y : Int} (hS : Sat w0 w (SX.blk b4 [.map (some bq)] 101 :: xZ bq pl :: Rs)) (hq : small (x, y)) :
  Calls Try.prog 73 #[.agg #[.int .i64 x, .int .i64 y], .pointer (some ⟨b4, 0, none⟩)] w (Ret fun r w' => r = .bool (!decide (((x, y) : Int × Int) ∈ pl)) ∧ Sat w0 w' (SX.blk b4 [.map (some bq)] 101 :: xZ bq pl :: Rs)) := by
 refine enter (n := 8) Try.func73 code73 (by kernel_rfl) (Nat.le_of_ble_eq_true rfl) (fun a ha => ?_)
 replace ha : Has 8 [(0, .agg #[iv x, iv y]), (1, ptr b4 0)] a := ha
 refine wp_seq (jX [0, 1] (jK (qV 2 [iv x, iv y] 96 (ptr · 0) ha hS fun b1 w a hb2 hS ha => ?_)))
 refine jQ [(1, 3, .bool false)] ha fun a ha => ?_
 refine jY (jJ (wp_seq (jX [0, 1, 2, 3, 4] (qQ (d := 4) (b := b4) (j := 0) ha (hS.blk 1 rfl) rfl fun a ha => ?_))))
 refine zY 5 ha (hS.blk 0 rfl) fun a ha => ?_
 refine zQ (.bool (decide (((x, y) : Int × Int) ∈ pl))) ha (v_look (kt := 96) (v := 4) (q := (x, y)) ha (yU (op := (Op.lookup 101 (Operand.tmp 4) (Operand.tmp 5) false)) (d := some 6) (ty := 4)) rfl rfl placesLaw (by kernel_rfl) (fun _ => by kernel_rfl) placesKey (fun w' hw => by rw [hw]; exact Sat.mapE hS 2 rfl) hq) fun a ha => ?_
 refine jQ [(3, 7, .bool (!(decide (((x, y) : Int × Int) ∈ pl)))), (4, 3, .bool (!(decide (((x, y) : Int × Int) ∈ pl))))] ha fun a ha => ?_
 refine jY (jJ (wp_ret (qG ha (by kernel_rfl) (xG (t := 3) ha rfl) ?_)))
 exact ⟨rfl, hS.pickN 3 [1, 2]⟩
theorem never2_sat {w0 w : World} {Xs : List Asn} {pl : List (Int × Int)} {bq b4 : Nat} {x y : Int} (hS : Sat w0 w (Xs ++ [SX.blk b4 [.map (some bq)] 101, xZ bq pl])) (hq : small (x, y)) :
  Calls Try.prog 73 #[.agg #[.int .i64 x, .int .i64 y], .pointer (some ⟨b4, 0, none⟩)] w (Ret fun r w' => r = .bool (!decide (((x, y) : Int × Int) ∈ pl)) ∧ Sat w0 w' (Xs ++ [SX.blk b4 [.map (some bq)] 101, xZ bq pl])) := by
 refine (never2_sat0 (Rs := Xs) (hS.perm List.perm_append_comm) hq).mono fun e w' h => ?_
 cases e with
 | returned r => exact ⟨h.1, Sat.perm (l1 := [SX.blk b4 [.map (some bq)] 101, xZ bq pl] ++ Xs) h.2 List.perm_append_comm⟩
 | _ => exact h.elim
theorem put2_sat {w0 w : World} {Rs : List Asn} {sa : Sl} {L : List (Int × Int)} {x : Int × Int} (hS : Sat w0 w (rS sa L :: Rs)) (hL : L.length ≤ 1000000) :
  Calls Try.prog 70 #[.slice sa.A sa.n sa.c, .agg #[.int .i64 x.1, .int .i64 x.2]] w (Ret fun r w' => ∃ o : Sl, r = .slice o.A o.n o.c ∧ o.n = (putP L x).length ∧ Sat w0 w' (rS sa L :: Rs)) :=
 (put_sat hS hL).mono fun e w' h => by
  cases e with
  | returned r => obtain ⟨o, h1, h2, _, h3⟩ := h; exact ⟨o, h1, h2, h3⟩
  | _ => exact h.elim
theorem code40 : Try.f40.body = some (Code.seq (cr Try.f40 0 false) (Code.seq (cr Try.f40 1 false) (Code.seq (cr Try.f40 2 false) (Code.seq (Code.seq (cr Try.f40 3 false) (Code.cond (Operand.tmp 24) (Code.seq (cr Try.f40 4 false) Code.ret) Code.skip)) (Code.seq (cr Try.f40 5 false) Code.ret))))) := by kernel_rfl
theorem impl_NeverMade_sat0 {w0 : World} {s : Sl} {l : List (List ST)} {f low high fuel : Int} (hr : RdP w0 s l) (hf : Fits l) :
  Calls Try.prog 40 #[.agg #[.slice s.A s.n s.c], iv f, iv low, iv high, iv fuel] w0 (Ret fun r w' => ∃ o : Sl, r = .tuple #[.slice o.A o.n o.c, .bool (neverP l f low high fuel).2] ∧ Sat w0 w' [rS o (neverP l f low high fuel).1]) := by
 have hS : Sat w0 w0 [] := Sat.start w0
 have hsn := hr.len
 refine enter (n := 28) Try.func40 code40 (by kernel_rfl) (Nat.le_of_ble_eq_true rfl) (fun a ha => ?_)
 replace ha : Has 28 [(0, .agg #[.slice s.A s.n s.c]), (1, iv f), (2, iv low), (3, iv high), (4, iv fuel)] a := ha
 refine wp_seq (jX [0, 1, 2, 3, 4] (jK (qV 5 [.slice s.A s.n s.c] 35 (ptr · 0) ha hS fun b1 w a hb2 hS ha => ?_)))
 refine jK (qV 6 [iv f] 3 (ptr · 0) ha hS fun b3 w a hb4 hS ha => ?_)
 refine jK (qV 9 [iv fuel] 3 (ptr · 0) ha hS fun b5 w a hb6 hS ha => ?_)
 refine jQ [(3, 10, .slice none 0 0), (4, 11, .bool false)] ha fun a ha => ?_
 refine jY (jJ (wp_seq (jX [0, 1, 2] (jK (o_makeMap ha (by decide) (yU (op := (Op.makeMap 101 none)) (d := some 15) (ty := 101)) hS fun bq w a _ hS ha => ?_)))))
 refine jK (qV 12 [.map none] 101 (ptr · 0) ha hS fun b7 w a hb8 hS ha => ?_)
 refine jK (xU b7 0 (.map (some bq)) 0 ha hS rfl rfl fun w a hS ha => ?_)
 refine jY (jJ (wp_seq (jX [0, 1, 2, 3, 4, 5, 6, 7, 8] (jQ [(0, 17, iv low), (1, 18, iv high), (2, 19, .func (.func 72) #[] #[ptr b1 0, ptr b3 0, ptr b5 0, ptr b7 0])] ha fun a ha => ?_))))
 replace hS := hS.pickN 5 [1, 4, 3, 2, 0]
 replace hS := Sat.shutQ (S := mdS l f fuel low 0) hS (fun q => ⟨fun h => absurd h List.not_mem_nil, fun ⟨j, h, _⟩ => absurd h (Nat.not_lt_zero j)⟩)
 replace hS := hS.pickN 5 [1, 2, 3, 4, 0]
 refine jK (xJ 20 (vs := [iv low, iv high, .func (.func 72) #[] #[ptr b1 0, ptr b3 0, ptr b5 0, ptr b7 0]]) ha (argsWithQ_sat (Rq := fun j => ((SX.blk b1 [.slice s.A s.n s.c] 35) :: (SX.blk b3 [iv f] 3) :: (SX.blk b5 [iv fuel] 3) :: (SX.blk b7 [.map (some bq)] 101) :: (mapQ bq (mdS l f fuel low j)) :: [])) (F := 72) (cap := [ptr b1 0, ptr b3 0, ptr b5 0, ptr b7 0]) (g := (runG (fun _ => false) l f fuel)) hS Try.func72 (by kernel_rfl) (fun w1 X j x hx h1 h2 hX => never1_sat hX hr hf hx)) fun v9 w a hp10 ha => ?_)
 obtain ⟨o, j9, rfl, hj9, hS⟩ := hp10
 replace hS : Sat w0 w ((rI o (argsL (runG (fun _ => false) l f fuel) low high)) :: (SX.blk b1 [.slice s.A s.n s.c] 35) :: (SX.blk b3 [iv f] 3) :: (SX.blk b5 [iv fuel] 3) :: (SX.blk b7 [.map (some bq)] 101) :: (mapQ bq (mdS l f fuel low j9)) :: []) := hS
 refine jQ [(4, 16, .tuple #[.slice o.A o.n o.c, .bool (argsB (runG (fun _ => false) l f fuel) low high)]), (5, 21, .slice o.A o.n o.c), (6, 22, .bool (argsB (runG (fun _ => false) l f fuel) low high)), (7, 13, .slice o.A o.n o.c), (8, 14, .bool (argsB (runG (fun _ => false) l f fuel) low high))] ha fun a ha => ?_
 refine jY (jJ (wp_seq (wp_seq (jX [0, 1] (jQ [(0, 23, .bool (argsB (runG (fun _ => false) l f fuel) low high)), (1, 24, .bool (!((argsB (runG (fun _ => false) l f fuel) low high))))] ha fun a ha => ?_)))))
 refine jY (jJ ?_)
 rcases Bool.eq_false_or_eq_true (argsB (runG (fun _ => false) l f fuel) low high) with c11 | c11
 ·
  refine jW ha rfl (zJ c11) ?_
  refine wp_skip (jJ (wp_seq (jX [0, 1, 2, 3, 4] (zY 25 ha (hS.blk 1 rfl) fun a ha => ?_))))
  refine jQ [(1, 26, .func (.func 73) #[] #[ptr b7 0])] ha fun a ha => ?_
  have h4 := argsB_run.symm.trans c11
  obtain rfl := hj9 c11
  have hsm := range_small h4
  replace hS := hS.pickN 6 [4, 5]
  obtain ⟨pl, hpl, hS⟩ := hS.openQ 1 rfl
  refine jK (xJ 27 (vs := [.agg #[.slice s.A s.n s.c], .func (.func 73) #[] #[ptr b7 0]]) ha (places_sat (F := 73) (cap := [ptr b7 0]) (is := fun q => !decide (q ∈ pl)) hS hr hsm.1 hsm.2 Try.func73 (by kernel_rfl) (fun w1 Xs g a b hb hab hX => never2_sat hX (by have h1 := (List.getElem?_eq_some_iff.1 hb).1; have h2 := hsm.2 b (List.mem_of_getElem? hb); have h3 := hsm.1; exact ⟨⟨by dsimp only; omega, by dsimp only; omega⟩, by dsimp only; omega, by dsimp only; omega⟩))) fun v12 w a hp13 ha => ?_)
  obtain ⟨mo1, rfl, hS⟩ := hp13
  refine jQ [(3, 10, .slice mo1.A mo1.n mo1.c), (4, 11, .bool true)] ha fun a ha => ?_
  refine jY ?_
  replace ha := ha.as [(10, .slice mo1.A mo1.n mo1.c), (11, .bool true)] rfl
  refine jJ (wp_ret (yV ha (by kernel_rfl) (xG (t := 10) ha rfl) (xG (t := 11) ha rfl) ?_))
  rw [never_is h4 hpl] at hS
  have hE : neverP l f low high fuel = (plL (nvG l f fuel low (cntN low high)) l, true) := by unfold neverP; rw [if_pos h4]
  rw [hE]
  exact ⟨mo1, rfl, hS.pickN 3 [0]⟩
 refine jV ha rfl (kJ c11) ?_
 refine wp_seq (jX [0, 1] (jQ [(0, 10, .slice none 0 0), (1, 11, .bool false)] ha fun a ha => ?_))
 refine jY ?_
 replace ha := ha.as [(5, ptr b1 0), (12, ptr b7 0), (10, .slice none 0 0), (11, .bool false)] rfl
 refine jJ (wp_ret (qH (yV ha (by kernel_rfl) (xG (t := 10) ha rfl) (xG (t := 11) ha rfl) ?_)))
 have h4 := argsB_run.symm.trans c11
 have hE : neverP l f low high fuel = ([], false) := by unfold neverP; rw [if_neg (by rw [h4]; decide)]
 rw [hE]
 exact ⟨⟨none, 0, 0⟩, rfl, Sat.nilRow (Sat.rest [_, _, _, _, _, _] hS)⟩
theorem impl_NeverMade_sat {w0 w : World} {Rs : List Asn} {s : Sl} {l : List (List ST)} {f low high fuel : Int} (hS : Sat w0 w Rs) (hr : RdP w s l) (hf : Fits l) :
  Calls Try.prog 40 #[.agg #[.slice s.A s.n s.c], iv f, iv low, iv high, iv fuel] w (Ret fun r w' => ∃ o : Sl, r = .tuple #[.slice o.A o.n o.c, .bool (neverP l f low high fuel).2] ∧ Sat w0 w' (rS o (neverP l f low high fuel).1 :: Rs)) :=
 (impl_NeverMade_sat0 hr hf).mono fun e w' h => by
  cases e with
  | returned r => obtain ⟨o, h1, h2⟩ := h; exact ⟨o, h1, hS.comp h2⟩
  | _ => exact h.elim
theorem code39 : Try.f39.body = some (Code.seq (cr Try.f39 0 false) (Code.seq (cr Try.f39 1 false) (Code.seq (Code.seq (cr Try.f39 2 false) (Code.cond (Operand.tmp 25) (Code.seq (cr Try.f39 3 false) Code.ret) Code.skip)) (Code.seq (Code.seq (cr Try.f39 4 false) (Code.block 0 (Code.loop (Code.seq (Code.seq (cr Try.f39 5 false) (Code.cond (Operand.tmp 30) Code.skip (Code.exit 0))) (Code.seq (Code.block 1 (cr Try.f39 7 false)) (cr Try.f39 6 false)))))) (Code.seq (Code.seq (cr Try.f39 8 false) (Code.block 2 (Code.loop (Code.seq (Code.seq (cr Try.f39 9 false) (Code.cond (Operand.tmp 43) Code.skip (Code.exit 2))) (Code.seq (Code.block 3 (Code.seq (cr Try.f39 11 false) (Code.block 4 (Code.loop (Code.seq (Code.seq (cr Try.f39 12 false) (Code.cond (Operand.tmp 53) Code.skip (Code.exit 4))) (Code.seq (Code.block 5 (Code.seq (cr Try.f39 14 false) (Code.cond (Operand.tmp 64) (cr Try.f39 15 false) Code.skip))) (cr Try.f39 13 false))))))) (cr Try.f39 10 false)))))) (Code.seq (cr Try.f39 16 false) Code.ret)))))) := by kernel_rfl
theorem spec_NeverMade_sat0 {w0 : World} {s : Sl} {l : List (List ST)} {f low high fuel : Int} (hr : RdP w0 s l) (hf : Fits l) :
  Calls Try.prog 39 #[.agg #[.slice s.A s.n s.c], iv f, iv low, iv high, iv fuel] w0 (Ret fun r w' => ∃ o : Sl, r = .tuple #[.slice o.A o.n o.c, .bool (neverP l f low high fuel).2] ∧ Sat w0 w' [rS o (neverP l f low high fuel).1]) := by
 have hS : Sat w0 w0 [] := Sat.start w0
 have hsn := hr.len
 refine enter (n := 72) Try.func39 code39 (by kernel_rfl) (Nat.le_of_ble_eq_true rfl) (fun a ha => ?_)
 replace ha : Has 72 [(0, .agg #[.slice s.A s.n s.c]), (1, iv f), (2, iv low), (3, iv high), (4, iv fuel)] a := ha
 refine wp_seq (jX [0, 1, 2] (jK (qV 5 [.slice s.A s.n s.c] 35 (ptr · 0) ha hS fun b1 w a hb2 hS ha => ?_)))
 refine jQ [(1, 10, .slice none 0 0), (2, 11, .bool false)] ha fun a ha => ?_
 refine jY (jJ (wp_seq (jX [0, 1, 2, 3] (jK (qV 17 [] 96 (fun b => .slice (some ⟨b, 0, none⟩) 0 0) ha hS fun b3 w a hb4 hS ha => ?_)))))
 refine jK (qV 18 [] 96 (fun b => .slice (some ⟨b, 0, none⟩) 0 0) ha hS fun b5 w a hb6 hS ha => ?_)
 refine jQ [(2, 12, .slice (some ⟨b3, 0, none⟩) 0 0), (3, 13, .slice (some ⟨b5, 0, none⟩) 0 0)] ha fun a ha => ?_
 refine jY (jJ (wp_seq (wp_seq (jX [0, 1, 2, 3, 4, 5, 6] (zY 19 ha (hS.blk 2 rfl) fun a ha => ?_)))))
 refine jQ [(1, 20, iv f), (2, 21, iv low), (3, 22, iv high), (4, 23, iv fuel)] ha fun a ha => ?_
 refine jK (xJ 24 (vs := [.agg #[.slice s.A s.n s.c], iv f, iv low, iv high, iv fuel]) ha (l4_sat hS (hr.sat hS) hf) fun v7 w a hp8 ha => ?_)
 obtain ⟨rfl, hS⟩ := hp8
 refine jQ [(6, 25, .bool (!((l4B l f low high fuel))))] ha fun a ha => ?_
 refine jY (jJ ?_)
 rcases Bool.eq_false_or_eq_true (l4B l f low high fuel) with c9 | c9
 ·
  have h4 := c9
  have hbb := rangeB_le (l4B_of h4).1
  refine jW ha rfl (zJ c9) ?_
  refine wp_skip (jJ (wp_seq (wp_seq (jX [0, 1] (jQ [(0, 27, iv low), (1, 14, iv low)] ha fun a ha => ?_)))))
  refine jY (jJ (wp_block ?_))
  replace hS := hS.blk0 2 1 rfl
  replace hS := hS.blk0 2 0 rfl
  replace hS := hS.pickN 3 [2, 1, 0]
  replace hS : Sat w0 w ((SX.blk b1 [.slice s.A s.n s.c] 35) :: (SX.row (.slice ((⟨some ⟨b3, 0, none⟩, 0, 0⟩ : Sl).A) ((⟨some ⟨b3, 0, none⟩, 0, 0⟩ : Sl).n) ((⟨some ⟨b3, 0, none⟩, 0, 0⟩ : Sl).c)) 96 2 (encR [])) :: (SX.row (.slice ((⟨some ⟨b5, 0, none⟩, 0, 0⟩ : Sl).A) ((⟨some ⟨b5, 0, none⟩, 0, 0⟩ : Sl).n) ((⟨some ⟨b5, 0, none⟩, 0, 0⟩ : Sl).c)) 96 2 (encR (madeN l f fuel low 0))) :: []) := hS
  refine wp_loop_ghost (fun n_ a_ w_ => ∃ (i : Nat) (x : Int) (o : Sl), n_ = cntN low high - i ∧ (i ≤ cntN low high) ∧ (x = low + (i : Int)) ∧ Has 72 [(1, iv f), (3, iv high), (4, iv fuel), (5, ptr b1 0), (10, .slice none 0 0), (11, .bool false), (12, .slice ((⟨some ⟨b3, 0, none⟩, 0, 0⟩ : Sl).A) ((⟨some ⟨b3, 0, none⟩, 0, 0⟩ : Sl).n) ((⟨some ⟨b3, 0, none⟩, 0, 0⟩ : Sl).c)), (13, .slice o.A o.n o.c), (14, iv x)] a_ ∧ Sat w0 w_ ((SX.blk b1 [.slice s.A s.n s.c] 35) :: (SX.row (.slice ((⟨some ⟨b3, 0, none⟩, 0, 0⟩ : Sl).A) ((⟨some ⟨b3, 0, none⟩, 0, 0⟩ : Sl).n) ((⟨some ⟨b3, 0, none⟩, 0, 0⟩ : Sl).c)) 96 2 (encR [])) :: (SX.row (.slice o.A o.n o.c) 96 2 (encR (madeN l f fuel low i))) :: [])) _ ⟨0, low, ⟨some ⟨b5, 0, none⟩, 0, 0⟩, rfl, Nat.zero_le _, by omega, ha.keeps [1, 3, 4, 5, 10, 11, 12, 13, 14] _ rfl, hS⟩ ?_
  rintro n_ a w ⟨i, x, o, rfl, hi, hx, ha, hS⟩
  refine wp_seq (wp_seq (jX [0, 1, 2] (jQ [(0, 28, iv x), (1, 29, iv high), (2, 30, .bool (decide (x ≤ high)))] ha fun a ha => ?_)))
  refine jY (jJ ?_)
  by_cases c10 : x ≤ high
  ·
   have hask : askB l f x fuel = true := by rw [hx]; exact (l4B_of h4).2 i (by unfold cntN at *; omega)
   refine jV ha rfl (decide_eq_true c10) ?_;refine wp_skip (jJ (wp_seq (wp_block (jX [0, 1, 2, 3, 4, 5, 6] (zY 33 ha (hS.blk 0 rfl) fun a ha => ?_)))));refine jQ [(1, 34, iv f), (2, 35, iv x), (3, 36, iv fuel), (4, 37, .slice o.A o.n o.c)] ha fun a ha => ?_;replace hS := hS.pickN 3 [2, 0, 1];refine jK (xJ 38 (vs := [.agg #[.slice s.A s.n s.c], iv f, iv x, iv fuel, .slice o.A o.n o.c]) ha (made_sat (sa := o) (L := (madeN l f fuel low i)) hS hr hask (by have := madeN_len (l := l) (f := f) (fuel := fuel) (low := low) i (fun j hj => (l4B_of h4).2 j (by omega)); unfold cntN at *; omega)) fun v11 w a hp12 ha => ?_);obtain ⟨mo1, rfl, hS⟩ := hp12;refine jQ [(6, 13, .slice mo1.A mo1.n mo1.c)] ha fun a ha => ?_;refine jY (in_n (jJ (jX [0, 1, 2] (jQ [(0, 31, iv x)] ha fun a ha => ?_))));refine zZ 32 (x + 1) ha fun a ha => ?_;refine jQ [(2, 14, iv (x + 1))] ha fun a ha => ?_;refine jY (jJ ?_);replace hS := hS.pickN 3 [1, 2, 0];replace hS : Sat w0 w ((SX.blk b1 [.slice s.A s.n s.c] 35) :: (SX.row (.slice ((⟨some ⟨b3, 0, none⟩, 0, 0⟩ : Sl).A) ((⟨some ⟨b3, 0, none⟩, 0, 0⟩ : Sl).n) ((⟨some ⟨b3, 0, none⟩, 0, 0⟩ : Sl).c)) 96 2 (encR [])) :: (SX.row (.slice mo1.A mo1.n mo1.c) 96 2 (encR (madeN l f fuel low (i + 1)))) :: []) := by rw [← madeN_next hx]; exact hS
   exact ⟨_, by unfold cntN at *; omega, i + 1, x + 1, mo1, rfl, by unfold cntN at *; omega, by omega, ha.keeps [1, 3, 4, 5, 10, 11, 12, 13, 14] _ rfl, hS⟩
  refine jW ha rfl (decide_eq_false c10) ?_
  refine wp_exit (xW (xW (in_x (jJ (wp_seq (wp_seq (jX [0] (jQ [(0, 15, iv 0)] ha fun a ha => ?_))))))))
  refine jY (jJ (wp_block ?_))
  obtain rfl : i = cntN low high := by unfold cntN at *; omega
  replace hS := hS.pickN 3 [0, 2, 1]
  replace hS : Sat w0 w ((SX.blk b1 [.slice s.A s.n s.c] 35) :: (SX.row (.slice o.A o.n o.c) 96 2 (encR (madeN l f fuel low (cntN low high)))) :: (SX.row (.slice ((⟨some ⟨b3, 0, none⟩, 0, 0⟩ : Sl).A) ((⟨some ⟨b3, 0, none⟩, 0, 0⟩ : Sl).n) ((⟨some ⟨b3, 0, none⟩, 0, 0⟩ : Sl).c)) 96 2 (encR (plN (nvG l f fuel low (cntN low high)) l 0 0))) :: []) := hS
  have hon : o.n = (madeN l f fuel low (cntN low high)).length := hS.rowL (s := o) (enc := cellsR) 1 qY (by decide) rfl
  have hol := madeN_len (l := l) (f := f) (fuel := fuel) (low := low) _ (l4B_of h4).2
  have hsm := range_small h4
  have h8 := hsm.2
  have h6 := hsm.1
  have hcn : cntN low high ≤ 101 := by unfold cntN; omega
  refine wp_loop_ghost (fun n_ a_ w_ => ∃ (g : Nat) (ot : Sl), n_ = l.length - g ∧ (g ≤ l.length) ∧ Has 72 [(5, ptr b1 0), (10, .slice none 0 0), (11, .bool false), (13, .slice o.A o.n o.c), (12, .slice ot.A ot.n ot.c), (15, iv (g : Int))] a_ ∧ Sat w0 w_ ((SX.blk b1 [.slice s.A s.n s.c] 35) :: (SX.row (.slice o.A o.n o.c) 96 2 (encR (madeN l f fuel low (cntN low high)))) :: (SX.row (.slice ot.A ot.n ot.c) 96 2 (encR (plN (nvG l f fuel low (cntN low high)) l g 0))) :: [])) _ ⟨0, ⟨some ⟨b3, 0, none⟩, 0, 0⟩, rfl, Nat.zero_le _, ha.keeps [5, 10, 11, 13, 12, 15] _ rfl, hS⟩ ?_
  rintro n_ a w ⟨g, ot, rfl, hg, ha, hS⟩
  refine wp_seq (wp_seq (jX [0, 1, 2, 3, 4] (jQ [(0, 39, iv (g : Int)), (1, 40, ptr b1 0)] ha fun a ha => ?_)))
  refine qQ (d := 41) (b := b1) (j := 0) ha (hS.blk 0 rfl) rfl fun a ha => ?_
  refine jQ [(3, 42, iv (s.n : Int)), (4, 43, .bool (decide ((g : Int) < (s.n : Int))))] ha fun a ha => ?_
  refine jY (jJ ?_)
  by_cases c13 : (g : Int) < (s.n : Int)
  ·
   have hlt : g < l.length := by omega
   obtain ⟨b, hb⟩ : ∃ b, l[g]? = some b := ⟨_, List.getElem?_eq_getElem hlt⟩;have hb8 := h8 b (List.mem_of_getElem? hb);obtain ⟨hA2, A2, c2, hc2, hl2, _⟩ := rows_cells hr.rd g b hb;refine jV ha rfl (decide_eq_true c13) ?_;refine wp_skip (jJ (wp_seq (wp_block (wp_seq (jX [0] (jQ [(0, 16, iv 0)] ha fun a ha => ?_))))));refine jY (jJ (wp_block ?_));replace hS : Sat w0 w ((SX.blk b1 [.slice s.A s.n s.c] 35) :: (SX.row (.slice o.A o.n o.c) 96 2 (encR (madeN l f fuel low (cntN low high)))) :: (SX.row (.slice ot.A ot.n ot.c) 96 2 (encR (plN (nvG l f fuel low (cntN low high)) l g 0))) :: []) := hS;refine wp_loop_ghost (fun n_ a_ w_ => ∃ (at_ : Nat) (ot : Sl), n_ = b.length - at_ ∧ (at_ ≤ b.length) ∧ Has 72 [(5, ptr b1 0), (10, .slice none 0 0), (11, .bool false), (13, .slice o.A o.n o.c), (15, iv (g : Int)), (39, iv (g : Int)), (40, ptr b1 0), (41, .slice s.A s.n s.c), (42, iv (s.n : Int)), (43, .bool (decide ((g : Int) < (s.n : Int)))), (12, .slice ot.A ot.n ot.c), (16, iv (at_ : Int))] a_ ∧ Sat w0 w_ ((SX.blk b1 [.slice s.A s.n s.c] 35) :: (SX.row (.slice o.A o.n o.c) 96 2 (encR (madeN l f fuel low (cntN low high)))) :: (SX.row (.slice ot.A ot.n ot.c) 96 2 (encR (plN (nvG l f fuel low (cntN low high)) l g at_))) :: [])) _ ⟨0, ot, rfl, Nat.zero_le _, ha.keeps [5, 10, 11, 13, 15, 39, 40, 41, 42, 43, 12, 16] _ rfl, hS⟩ ?_
   rintro n_ a w ⟨at_, ot, rfl, hat, ha, hS⟩
   refine wp_seq (wp_seq (jX [0, 1, 2, 3, 4, 5, 6, 7] (jQ [(0, 46, iv (at_ : Int)), (1, 47, ptr b1 0)] ha fun a ha => ?_)));refine qQ (d := 48) (b := b1) (j := 0) ha (hS.blk 0 rfl) rfl fun a ha => ?_;refine jQ [(3, 49, iv (g : Int))] ha fun a ha => ?_;refine zQ (.pointer (some ⟨bk s, of_ s + g * 1, none⟩)) ha (kQ (s := s) (el := 109) (sz := 1) (j := g) ha (yH (t := 33) (x := 48) (y := 49) (d := 50)) rfl rfl (by kernel_rfl) (by kernel_rfl) hA2 (by omega)) fun a ha => ?_;refine zQ (.slice A2 b.length c2) ha (zU (p := ⟨bk s, of_ s + g * 1, none⟩) ha (zV (t := 109) (x := 50) (d := 51) (ty := 109)) rfl (by kernel_rfl) (fun w' hw => by rw [hw, Nat.mul_one]; exact pw_cell_below hS.below hc2)) fun a ha => ?_;refine jQ [(6, 52, iv (b.length : Int)), (7, 53, .bool (decide ((at_ : Int) < (b.length : Int))))] ha fun a ha => ?_;refine jY (jJ ?_)
   by_cases c14 : (at_ : Int) < (b.length : Int)
   ·
    refine jV ha rfl (decide_eq_true c14) ?_;refine wp_skip (jJ (wp_seq (wp_block (wp_seq (jX [0, 1, 2, 3, 4, 5, 6, 7, 8] (jQ [(0, 56, .slice o.A o.n o.c), (1, 57, iv (g : Int)), (2, 58, iv (at_ : Int)), (3, 59, .agg #[iv (g : Int), iv (at_ : Int)])] ha fun a ha => ?_))))));replace hS := hS.pickN 3 [1, 0, 2];refine jK (xJ 60 (vs := [.slice o.A o.n o.c, .agg #[iv (g : Int), iv (at_ : Int)]]) ha (put2_sat (x := ((g : Int), (at_ : Int))) hS (by omega)) fun v15 w a hp16 ha => ?_);obtain ⟨po1, rfl, hpn, hS⟩ := hp16;refine jQ [(5, 61, iv (po1.n : Int)), (6, 62, .slice o.A o.n o.c), (7, 63, iv (o.n : Int)), (8, 64, .bool (decide ((po1.n : Int) > (o.n : Int))))] ha fun a ha => ?_;refine jY (jJ ?_)
    by_cases c17 : (po1.n : Int) > (o.n : Int)
    ·
     refine jV ha rfl (decide_eq_true c17) ?_;refine jX [0, 1, 2, 3, 4, 5, 6] (jQ [(0, 65, .slice ot.A ot.n ot.c), (1, 66, iv (g : Int)), (2, 67, iv (at_ : Int)), (3, 68, .agg #[iv (g : Int), iv (at_ : Int)])] ha fun a ha => ?_);refine jK (qV 69 [iv (g : Int), iv (at_ : Int)] 96 (fun b => .slice (some ⟨b, 0, none⟩) 1 1) ha hS fun b18 w a hb19 hS ha => ?_);refine jK (o_ap 70 3 0 (encR ((plN (nvG l f fuel low (cntN low high)) l g at_) ++ [((g : Int), (at_ : Int))])) ha hS rfl rfl (by rw [encR_length]; have := plN_len (is := nvG l f fuel low (cntN low high)) h8 g at_; simp only [List.length_cons, List.length_nil]; omega) (encR_snoc _ _ _) fun s23 w a hS hn24 ha => ?_);refine jQ [(6, 12, .slice s23.A s23.n s23.c)] ha fun a ha => ?_;refine jY (in_n (jJ (jX [0, 1, 2] (jQ [(0, 54, iv (at_ : Int))] ha fun a ha => ?_))));refine zZ 55 ((at_ : Int) + 1) ha fun a ha => ?_;refine jQ [(2, 16, iv ((at_ : Int) + 1))] ha fun a ha => ?_;refine jY (jJ ?_);replace hS := hS.pickN 4 [2, 1, 3];replace hS : Sat w0 w ((SX.blk b1 [.slice s.A s.n s.c] 35) :: (SX.row (.slice o.A o.n o.c) 96 2 (encR (madeN l f fuel low (cntN low high)))) :: (SX.row (.slice s23.A s23.n s23.c) 96 2 (encR (plN (nvG l f fuel low (cntN low high)) l g (at_ + 1)))) :: []) := by rw [plN_yes (nvG_yes (by omega))]; exact hS
     exact ⟨_, by omega, at_ + 1, s23, rfl, by omega, ha.keeps [5, 10, 11, 13, 15, 39, 40, 41, 42, 43, 12, 16] _ rfl, hS⟩
    refine jW ha rfl (decide_eq_false c17) ?_;refine wp_skip (in_n (jJ (jX [0, 1, 2] (jQ [(0, 54, iv (at_ : Int))] ha fun a ha => ?_))));refine zZ 55 ((at_ : Int) + 1) ha fun a ha => ?_;refine jQ [(2, 16, iv ((at_ : Int) + 1))] ha fun a ha => ?_;refine jY (jJ ?_);replace hS := hS.pickN 3 [1, 0, 2];replace hS : Sat w0 w ((SX.blk b1 [.slice s.A s.n s.c] 35) :: (SX.row (.slice o.A o.n o.c) 96 2 (encR (madeN l f fuel low (cntN low high)))) :: (SX.row (.slice ot.A ot.n ot.c) 96 2 (encR (plN (nvG l f fuel low (cntN low high)) l g (at_ + 1)))) :: []) := by rw [plN_no (nvG_no (by omega))]; exact hS
    exact ⟨_, by omega, at_ + 1, ot, rfl, by omega, ha.keeps [5, 10, 11, 13, 15, 39, 40, 41, 42, 43, 12, 16] _ rfl, hS⟩
   refine jW ha rfl (decide_eq_false c14) ?_;refine wp_exit (xW (xW (in_x (in_n (jJ (jX [0, 1, 2] (jQ [(0, 44, iv (g : Int))] ha fun a ha => ?_)))))));refine zZ 45 ((g : Int) + 1) ha fun a ha => ?_;refine jQ [(2, 15, iv ((g : Int) + 1))] ha fun a ha => ?_;refine jY (jJ ?_);replace hS : Sat w0 w ((SX.blk b1 [.slice s.A s.n s.c] 35) :: (SX.row (.slice o.A o.n o.c) 96 2 (encR (madeN l f fuel low (cntN low high)))) :: (SX.row (.slice ot.A ot.n ot.c) 96 2 (encR (plN (nvG l f fuel low (cntN low high)) l g at_))) :: []) := hS;obtain rfl : at_ = b.length := by omega
   replace hS : Sat w0 w ((SX.blk b1 [.slice s.A s.n s.c] 35) :: (SX.row (.slice o.A o.n o.c) 96 2 (encR (madeN l f fuel low (cntN low high)))) :: (SX.row (.slice ot.A ot.n ot.c) 96 2 (encR (plN (nvG l f fuel low (cntN low high)) l (g + 1) 0))) :: []) := by rw [← plN_next hb]; exact hS
   exact ⟨_, by omega, g + 1, ot, rfl, by omega, ha.keeps [5, 10, 11, 13, 12, 15] _ rfl, hS⟩
  refine jW ha rfl (decide_eq_false c13) ?_
  refine wp_exit (xW (xW (in_x (jJ (wp_seq (jX [0, 1, 2] (jQ [(0, 71, .slice ot.A ot.n ot.c), (1, 10, .slice ot.A ot.n ot.c), (2, 11, .bool true)] ha fun a ha => ?_)))))))
  refine jY ?_
  replace ha := ha.as [(10, .slice ot.A ot.n ot.c), (11, .bool true)] rfl
  refine jJ (wp_ret (yV ha (by kernel_rfl) (xG (t := 10) ha rfl) (xG (t := 11) ha rfl) ?_))
  obtain rfl : g = l.length := by omega
  have hE : neverP l f low high fuel = (plL (nvG l f fuel low (cntN low high)) l, true) := by unfold neverP; rw [if_pos c9]
  rw [hE]
  exact ⟨ot, rfl, hS.pickN 3 [2]⟩
 refine jV ha rfl (kJ c9) ?_
 refine wp_seq (jX [0, 1, 2] (jQ [(0, 26, .slice (some ⟨b3, 0, none⟩) 0 0), (1, 10, .slice (some ⟨b3, 0, none⟩) 0 0), (2, 11, .bool false)] ha fun a ha => ?_))
 refine jY (jJ (wp_ret (qH (yV ha (by kernel_rfl) (xG (t := 10) ha rfl) (xG (t := 11) ha rfl) ?_))))
 have hE : neverP l f low high fuel = ([], false) := by unfold neverP; rw [if_neg (by rw [c9]; decide)]
 rw [hE]
 replace hS := hS.blk0 2 1 rfl
 exact ⟨⟨some ⟨b3, 0, none⟩, 0, 0⟩, rfl, hS.pickN 3 [1]⟩
theorem spec_NeverMade_sat {w0 w : World} {Rs : List Asn} {s : Sl} {l : List (List ST)} {f low high fuel : Int} (hS : Sat w0 w Rs) (hr : RdP w s l) (hf : Fits l) :
  Calls Try.prog 39 #[.agg #[.slice s.A s.n s.c], iv f, iv low, iv high, iv fuel] w (Ret fun r w' => ∃ o : Sl, r = .tuple #[.slice o.A o.n o.c, .bool (neverP l f low high fuel).2] ∧ Sat w0 w' (rS o (neverP l f low high fuel).1 :: Rs)) :=
 (spec_NeverMade_sat0 hr hf).mono fun e w' h => by
  cases e with
  | returned r => obtain ⟨o, h1, h2⟩ := h; exact ⟨o, h1, hS.comp h2⟩
  | _ => exact h.elim
theorem code9 : Try.f9.body = some (Code.seq (cr Try.f9 0 false) (Code.seq (cr Try.f9 1 false) (Code.seq (cr Try.f9 2 false) (Code.seq (Code.seq (cr Try.f9 3 false) (Code.cond (Operand.tmp 26) (Code.seq (cr Try.f9 4 false) Code.ret) Code.skip)) (Code.seq (cr Try.f9 5 false) (Code.seq (cr Try.f9 6 false) (Code.seq (cr Try.f9 7 false) (Code.seq (Code.seq (cr Try.f9 8 false) (Code.cond (Operand.tmp 56) (Code.seq (cr Try.f9 9 false) Code.ret) Code.skip)) (Code.seq (Code.seq (cr Try.f9 10 true) (Code.cond (Operand.tmp 61) (Code.seq (cr Try.f9 11 false) Code.ret) Code.skip)) (Code.seq (cr Try.f9 12 false) (Code.seq (cr Try.f9 13 false) (Code.seq (Code.seq (cr Try.f9 14 false) (Code.cond (Operand.tmp 77) (Code.seq (cr Try.f9 15 false) Code.ret) Code.skip)) (Code.seq (cr Try.f9 16 false) (Code.seq (cr Try.f9 17 false) (Code.seq (cr Try.f9 18 false) (Code.seq (cr Try.f9 19 false) (Code.seq (Code.seq (cr Try.f9 20 false) (Code.cond (Operand.tmp 85) (Code.seq (cr Try.f9 21 false) Code.ret) Code.skip)) (Code.seq (Code.seq (cr Try.f9 22 false) (Code.cond (Operand.tmp 88) (Code.seq (cr Try.f9 23 false) Code.ret) Code.skip)) (Code.seq (cr Try.f9 24 false) (Code.seq (Code.seq (cr Try.f9 25 false) (Code.cond (Operand.tmp 107) (Code.seq (cr Try.f9 26 false) Code.ret) Code.skip)) (Code.seq (cr Try.f9 27 false) (Code.seq (cr Try.f9 28 false) (Code.seq (Code.seq (cr Try.f9 29 false) (Code.cond (Operand.tmp 112) (Code.seq (cr Try.f9 30 false) Code.ret) Code.skip)) (Code.seq (Code.seq (cr Try.f9 31 false) (Code.cond (Operand.tmp 115) (Code.seq (cr Try.f9 32 false) Code.ret) Code.skip)) (Code.seq (cr Try.f9 33 false) Code.ret))))))))))))))))))))))))) := by kernel_rfl
theorem law9_walk (w0 : World) (s0 : Sl) (l0 : List (List LT)) (f : Int) (low : Int) (high : Int) (fuel : Int) (hr0 : RdA w0 s0 l0) :
  Calls Try.prog 9 #[.agg #[.slice s0.A s0.n s0.c], iv f, iv low, iv high, iv fuel] w0 (Ret fun r w' => r = .bool true ∧ Below w0.heap.size w0 w') := by
 have hS : Sat w0 w0 [] := Sat.start w0
 refine enter (n := 116) Try.func9 code9 (by kernel_rfl) (Nat.le_of_ble_eq_true rfl) (fun a ha => ?_)
 replace ha : Has 116 [(0, .agg #[.slice s0.A s0.n s0.c]), (1, iv f), (2, iv low), (3, iv high), (4, iv fuel)] a := ha
 refine wp_seq (jX [0, 1] (jK (qV 5 [.slice s0.A s0.n s0.c] 24 (ptr · 0) ha hS fun b1 w a hb2 hS ha => ?_)))
 refine jQ [(1, 10, .bool false)] ha fun a ha => ?_
 refine jY (jJ (wp_seq (jX [0] (jQ [(0, 11, iv 1048576)] ha fun a ha => ?_))))
 refine jY (jJ (wp_seq (jX [0, 1, 2, 3] (zY 22 ha (hS.blk 0 rfl) fun a ha => ?_))))
 refine jQ [(1, 23, iv 1048576)] ha fun a ha => ?_
 refine jK (xJ 24 (vs := [.agg #[.slice s0.A s0.n s0.c], iv 1048576]) ha (szProgram_sat hS (hr0.sat hS) (by omega) (by omega)) fun v3 w a hp4 ha => ?_)
 obtain ⟨rfl, hS⟩ := hp4
 refine jQ [(3, 11, iv (szP l0 1048576))] ha fun a ha => ?_
 refine jY (jJ (wp_seq (wp_seq (jX [0, 1] (jQ [(0, 25, iv (szP l0 1048576)), (1, 26, .bool (decide ((szP l0 1048576) < 0)))] ha fun a ha => ?_)))))
 refine jY (jJ ?_)
 by_cases c5 : (szP l0 1048576) < 0
 ·
  refine jV ha rfl (decide_eq_true c5) ?_
  refine wp_seq (jX [0] (jQ [(0, 10, .bool true)] ha fun a ha => ?_))
  refine jY (jJ (wp_ret (qH (qG ha (by kernel_rfl) (xG (t := 10) ha rfl) ?_))))
  exact ⟨rfl, hS.below⟩
 have hf0 : Fits l0 := by have h8 : 0 ≤ szP l0 1048576 := (by omega); have h9 := szP_ok l0 1048576 h8; exact ⟨by omega, by omega⟩
 have htp0 := (toP_fits hf0).tot
 have hz0 := szP_ok l0 1048576 (by omega)
 refine jW ha rfl (decide_eq_false c5) ?_
 refine wp_skip (jJ (wp_seq (jX [0, 1, 2, 3, 4, 5, 6, 7, 8, 9, 10, 11] (zY 28 ha (hS.blk 0 rfl) fun a ha => ?_))))
 refine jK (xJ 29 (vs := [.agg #[.slice s0.A s0.n s0.c]]) ha (toProgram_sat hS (hr0.sat hS) hf0) fun v6 w a hp7 ha => ?_)
 obtain ⟨sp1, rfl, hS⟩ := hp7
 refine jQ [(2, 30, iv f), (3, 31, iv low), (4, 32, iv high), (5, 33, iv fuel)] ha fun a ha => ?_
 refine jK (xJ 34 (vs := [.agg #[.slice sp1.A sp1.n sp1.c], iv f, iv low, iv high, iv fuel]) ha (spec_NeverMade_sat hS (hS.rdS 0 rfl) (toP_fits hf0)) fun v8 w a hp9 ha => ?_)
 obtain ⟨o1, rfl, hS⟩ := hp9
 refine jQ [(7, 27, .tuple #[.slice o1.A o1.n o1.c, .bool ((neverP (toP l0) f low high fuel).2)]), (8, 35, .slice o1.A o1.n o1.c), (9, 36, .bool ((neverP (toP l0) f low high fuel).2)), (10, 12, .slice o1.A o1.n o1.c), (11, 13, .bool ((neverP (toP l0) f low high fuel).2))] ha fun a ha => ?_
 refine jY (jJ (wp_seq (jX [0, 1, 2, 3] (zY 37 ha (hS.blk 2 rfl) fun a ha => ?_))))
 refine jK (xJ 38 (vs := [.agg #[.slice s0.A s0.n s0.c]]) ha (toProgram_sat hS (hr0.sat hS) hf0) fun v10 w a hp11 ha => ?_)
 obtain ⟨sp2, rfl, hS⟩ := hp11
 refine jK (qV 14 [.slice none 0 0] 35 (ptr · 0) ha hS fun b12 w a hb13 hS ha => ?_)
 refine jK (o_sa 0 ha (xV (t := 35) (x := 14) (y := 38)) hS fun w a hS ha => ?_)
 refine jY (jJ (wp_seq (jX [0, 1, 2, 3, 4, 5, 6, 7, 8, 9, 10] (zY 40 ha (hS.blk 0 rfl) fun a ha => ?_))))
 refine jQ [(1, 41, iv f), (2, 42, iv low), (3, 43, iv high), (4, 44, iv fuel)] ha fun a ha => ?_
 refine jK (xJ 45 (vs := [.agg #[.slice sp2.A sp2.n sp2.c], iv f, iv low, iv high, iv fuel]) ha (impl_NeverMade_sat hS (hS.rdS 1 rfl) (toP_fits hf0)) fun v14 w a hp15 ha => ?_)
 obtain ⟨o2, rfl, hS⟩ := hp15
 refine jQ [(6, 39, .tuple #[.slice o2.A o2.n o2.c, .bool ((neverP (toP l0) f low high fuel).2)]), (7, 46, .slice o2.A o2.n o2.c), (8, 47, .bool ((neverP (toP l0) f low high fuel).2)), (9, 15, .slice o2.A o2.n o2.c), (10, 16, .bool ((neverP (toP l0) f low high fuel).2))] ha fun a ha => ?_
 refine jY ?_
 replace ha := ha.as [(1, iv f), (2, iv low), (3, iv high), (4, iv fuel), (5, ptr b1 0), (10, .bool false), (12, .slice o1.A o1.n o1.c), (13, .bool ((neverP (toP l0) f low high fuel).2)), (14, ptr b12 0), (15, .slice o2.A o2.n o2.c), (16, .bool ((neverP (toP l0) f low high fuel).2))] rfl
 refine jJ (wp_seq (wp_seq (jX [0, 1, 2, 3, 4, 5, 6, 7, 8] (jQ [(0, 48, .slice o2.A o2.n o2.c), (1, 49, .slice o1.A o1.n o1.c)] ha fun a ha => ?_))))
 refine jK (xJ 50 (vs := [.slice o2.A o2.n o2.c, .slice o1.A o1.n o1.c]) ha (eqIntA2S_sat hS (hS.rdE (s := o2) 0 qY (by decide) rfl) (hS.rdE (s := o1) 3 qY (by decide) rfl)) fun v16 w a hp17 ha => ?_)
 obtain ⟨rfl, hS⟩ := hp17
 refine jQ [(3, 51, .bool false), (4, 52, .bool false), (5, 53, .bool ((neverP (toP l0) f low high fuel).2)), (6, 54, .bool ((neverP (toP l0) f low high fuel).2))] ha fun a ha => ?_
 refine zQ (.bool false) ha ((qZ (v := .bool (!(((neverP (toP l0) f low high fuel).2) == ((neverP (toP l0) f low high fuel).2)))) ha (AtG.here (gd := 52) ⟨(by kernel_rfl : ((jH Try.f9 8)[7]?).map spec = some ((Op.binOp BinOp.neq 4 (Operand.tmp 53) (Operand.tmp 54) 4), some 55, 4, some (4, false))), by kernel_rfl⟩ ha rfl) (by kernel_rfl) (fun _ => by kernel_rfl)).as (by simp)) fun a ha => ?_
 refine jQ [(8, 56, .bool false)] ha fun a ha => ?_
 refine jY (jJ ?_)
 refine jW ha rfl rfl ?_
 refine wp_skip (jJ (wp_seq (wp_seq (xQ 5 5 (hS.pickN 6 [1, 5]) hS fun w hS => ?_))))
 refine yJ 0 57 ha (hS.pickN 6 [1, 5]) (fun _ hw => hw.blk 0 rfl) fun a ha => ?_
 refine yJ 1 58 ha (hS.pickN 6 [1, 5]) (fun _ hw => hw.blk 1 rfl) fun a ha => ?_
 refine jU 2 (xJ 59 (vs := [.agg #[.slice s0.A s0.n s0.c]]) ha (toProgram_sat hS (hr0.sat hS) hf0) fun v18 w a hp19 ha => ?_)
 obtain ⟨sp3, rfl, hS⟩ := hp19
 refine ⟨.inr (hS.pickN 7 [2, 6]), ?_⟩
 refine jU 3 (xJ 60 (vs := [.agg #[.slice sp2.A sp2.n sp2.c], .agg #[.slice sp3.A sp3.n sp3.c]]) ha (eqP_sat hS (hS.rdS 3 rfl) (hS.rdS 0 rfl) (toP_fits hf0)) fun v20 w a hp21 ha => ?_)
 obtain ⟨rfl, hS⟩ := hp21
 refine ⟨.inr (hS.pickN 7 [2, 6]), ?_⟩
 refine jZ (k := 0) [(4, 61, .bool false)] ha (.inr (hS.pickN 7 [2, 6])) fun a ha => ?_
 refine qU (jJ ?_)
 refine jW ha rfl rfl ?_
 refine wp_skip (jJ (wp_seq (jX [0] (jQ [(0, 17, iv 1)] ha fun a ha => ?_))))
 refine jY (jJ (wp_seq (jX [0, 1, 2, 3] (zY 62 ha (hS.blk 2 rfl) fun a ha => ?_))))
 refine jQ [(1, 63, iv 1)] ha fun a ha => ?_
 replace hS := hS.pickN 7 [3, 0, 1, 2, 4, 5, 6]
 refine jK (xJ 64 (vs := [.agg #[.slice sp2.A sp2.n sp2.c], iv 1]) ha (markProgram_sat hS (toP_fits hf0) (by omega) (by omega)) fun v22 w a hp23 ha => ?_)
 obtain ⟨rfl, hS⟩ := hp23
 refine jQ [(3, 17, iv (1 + 3 * (tot (toP l0) : Int)))] ha fun a ha => ?_
 refine jY ?_
 replace ha := ha.as [(1, iv f), (2, iv low), (3, iv high), (4, iv fuel), (5, ptr b1 0), (10, .bool false), (12, .slice o1.A o1.n o1.c), (13, .bool ((neverP (toP l0) f low high fuel).2)), (15, .slice o2.A o2.n o2.c), (16, .bool ((neverP (toP l0) f low high fuel).2)), (17, iv (1 + 3 * (tot (toP l0) : Int)))] rfl
 refine jJ (wp_seq (wp_seq (jX [0, 1, 2, 3, 4, 5, 6, 7, 8, 9, 10, 11, 12] (jQ [(0, 65, iv (1 + 3 * (tot (toP l0) : Int)))] ha fun a ha => ?_))))
 refine zQ (.bool false) ha ((qZ (v := .bool (decide (1 + 3 * (tot (toP l0) : Int) < 0))) ha (yU (op := (Op.binOp BinOp.lss 3 (Operand.tmp 65) (Operand.const (Value.int IntKind.i64 0)) 3)) (d := some 66) (ty := 4)) (by kernel_rfl) (fun _ => by kernel_rfl)).as (by rw [decide_eq_false (by omega)])) fun a ha => ?_
 refine jQ [(2, 67, .bool false), (3, 68, .slice o2.A o2.n o2.c), (4, 69, .slice o1.A o1.n o1.c)] ha fun a ha => ?_
 refine jK (xJ 70 (vs := [.slice o2.A o2.n o2.c, .slice o1.A o1.n o1.c]) ha (eqIntA2S_sat hS (hS.rdE (s := o2) 2 qY (by decide) rfl) (hS.rdE (s := o1) 4 qY (by decide) rfl)) fun v24 w a hp25 ha => ?_)
 obtain ⟨rfl, hS⟩ := hp25
 refine jQ [(6, 71, .bool false), (7, 72, .bool false), (8, 73, .bool false), (9, 74, .bool ((neverP (toP l0) f low high fuel).2)), (10, 75, .bool ((neverP (toP l0) f low high fuel).2))] ha fun a ha => ?_
 refine zQ (.bool false) ha ((qZ (v := .bool (!(((neverP (toP l0) f low high fuel).2) == ((neverP (toP l0) f low high fuel).2)))) ha (AtG.here (gd := 73) ⟨(by kernel_rfl : ((jH Try.f9 14)[11]?).map spec = some ((Op.binOp BinOp.neq 4 (Operand.tmp 74) (Operand.tmp 75) 4), some 76, 4, some (8, false))), by kernel_rfl⟩ ha rfl) (by kernel_rfl) (fun _ => by kernel_rfl)).as (by simp)) fun a ha => ?_
 refine jQ [(12, 77, .bool false)] ha fun a ha => ?_
 refine jY (jJ ?_)
 refine jW ha rfl rfl ?_
 refine wp_skip (jJ (wp_seq (jX [0] (jQ [(0, 18, iv 1)] ha fun a ha => ?_))))
 refine jY (jJ (wp_seq (jX [0, 1, 2, 3] (jQ [(0, 78, .slice o2.A o2.n o2.c), (1, 79, iv 1)] ha fun a ha => ?_))))
 replace hS := hS.pickN 7 [2, 0, 1, 3, 4, 5, 6]
 refine jK (xJ 80 (vs := [.slice o2.A o2.n o2.c, iv 1]) ha (markIntA2S_sat hS (by omega) (by omega) (Nat.le_trans (neverP_len ..) (by decide))) fun v26 w a hp27 ha => ?_)
 obtain ⟨rfl, hS⟩ := hp27
 refine jQ [(3, 18, iv (1 + 2 * (((neverP (toP l0) f low high fuel).1).length : Int)))] ha fun a ha => ?_
 refine jY ?_
 replace ha := ha.as [(1, iv f), (2, iv low), (3, iv high), (4, iv fuel), (5, ptr b1 0), (10, .bool false), (12, .slice o1.A o1.n o1.c), (13, .bool ((neverP (toP l0) f low high fuel).2)), (15, .slice o2.A o2.n o2.c), (18, iv (1 + 2 * (((neverP (toP l0) f low high fuel).1).length : Int)))] rfl
 refine jJ (wp_seq (jX [0] (jQ [(0, 19, iv 1)] ha fun a ha => ?_)))
 refine jY (jJ (wp_seq (jX [0, 1, 2, 3] (jQ [(0, 81, .slice o2.A o2.n o2.c), (1, 82, iv 1)] ha fun a ha => ?_))))
 refine jK (xJ 83 (vs := [.slice o2.A o2.n o2.c, iv 1]) ha (heldIntA2S_sat hS (hS.rdE (s := o2) 0 qY (by decide) rfl) (Nat.le_trans (neverP_len ..) (by decide))) fun v28 w a hp29 ha => ?_)
 obtain ⟨rfl, hS⟩ := hp29
 refine jQ [(3, 19, iv (1 + 2 * (((neverP (toP l0) f low high fuel).1).length : Int)))] ha fun a ha => ?_
 refine jY (jJ (wp_seq (wp_seq (jX [0, 1] (jQ [(0, 84, iv (1 + 2 * (((neverP (toP l0) f low high fuel).1).length : Int)))] ha fun a ha => ?_)))))
 refine zQ (.bool false) ha ((qZ (v := .bool (decide (1 + 2 * (((neverP (toP l0) f low high fuel).1).length : Int) < 0))) ha (yU (op := (Op.binOp BinOp.lss 3 (Operand.tmp 84) (Operand.const (Value.int IntKind.i64 0)) 3)) (d := some 85) (ty := 4)) (by kernel_rfl) (fun _ => by kernel_rfl)).as (by rw [decide_eq_false (by omega)])) fun a ha => ?_
 refine jY (jJ ?_)
 refine jW ha rfl rfl ?_
 refine wp_skip (jJ (wp_seq (wp_seq (jX [0, 1, 2] (jQ [(0, 86, iv (1 + 2 * (((neverP (toP l0) f low high fuel).1).length : Int))), (1, 87, iv (1 + 2 * (((neverP (toP l0) f low high fuel).1).length : Int)))] ha fun a ha => ?_)))))
 refine zQ (.bool false) ha ((qZ (v := .bool (!(decide (1 + 2 * (((neverP (toP l0) f low high fuel).1).length : Int) = 1 + 2 * (((neverP (toP l0) f low high fuel).1).length : Int))))) ha (yU (op := (Op.binOp BinOp.neq 3 (Operand.tmp 86) (Operand.tmp 87) 3)) (d := some 88) (ty := 4)) (by kernel_rfl) (fun _ => by kernel_rfl)).as (by simp)) fun a ha => ?_
 refine jY (jJ ?_)
 refine jW ha rfl rfl ?_
 refine wp_skip (jJ (wp_seq (jX [0, 1, 2, 3, 4, 5, 6, 7, 8, 9, 10, 11] (zY 90 ha (hS.blk 6 rfl) fun a ha => ?_))))
 refine jK (xJ 91 (vs := [.agg #[.slice s0.A s0.n s0.c]]) ha (toProgram_sat hS (hr0.sat hS) hf0) fun v30 w a hp31 ha => ?_)
 obtain ⟨sp4, rfl, hS⟩ := hp31
 refine jQ [(2, 92, iv f), (3, 93, iv low), (4, 94, iv high), (5, 95, iv fuel)] ha fun a ha => ?_
 refine jK (xJ 96 (vs := [.agg #[.slice sp4.A sp4.n sp4.c], iv f, iv low, iv high, iv fuel]) ha (impl_NeverMade_sat hS (hS.rdS 0 rfl) (toP_fits hf0)) fun v32 w a hp33 ha => ?_)
 obtain ⟨o3, rfl, hS⟩ := hp33
 refine jQ [(7, 89, .tuple #[.slice o3.A o3.n o3.c, .bool ((neverP (toP l0) f low high fuel).2)]), (8, 97, .slice o3.A o3.n o3.c), (9, 98, .bool ((neverP (toP l0) f low high fuel).2)), (10, 20, .slice o3.A o3.n o3.c), (11, 21, .bool ((neverP (toP l0) f low high fuel).2))] ha fun a ha => ?_
 refine jY ?_
 replace ha := ha.as [(10, .bool false), (12, .slice o1.A o1.n o1.c), (13, .bool ((neverP (toP l0) f low high fuel).2)), (15, .slice o2.A o2.n o2.c), (18, iv (1 + 2 * (((neverP (toP l0) f low high fuel).1).length : Int))), (19, iv (1 + 2 * (((neverP (toP l0) f low high fuel).1).length : Int))), (20, .slice o3.A o3.n o3.c), (21, .bool ((neverP (toP l0) f low high fuel).2))] rfl
 refine jJ (wp_seq (wp_seq (jX [0, 1, 2, 3, 4, 5, 6, 7, 8] (jQ [(0, 99, .slice o3.A o3.n o3.c), (1, 100, .slice o1.A o1.n o1.c)] ha fun a ha => ?_))))
 refine jK (xJ 101 (vs := [.slice o3.A o3.n o3.c, .slice o1.A o1.n o1.c]) ha (eqIntA2S_sat hS (hS.rdE (s := o3) 0 qY (by decide) rfl) (hS.rdE (s := o1) 6 qY (by decide) rfl)) fun v34 w a hp35 ha => ?_)
 obtain ⟨rfl, hS⟩ := hp35
 refine jQ [(3, 102, .bool false), (4, 103, .bool false), (5, 104, .bool ((neverP (toP l0) f low high fuel).2)), (6, 105, .bool ((neverP (toP l0) f low high fuel).2))] ha fun a ha => ?_
 refine zQ (.bool false) ha ((qZ (v := .bool (!(((neverP (toP l0) f low high fuel).2) == ((neverP (toP l0) f low high fuel).2)))) ha (AtG.here (gd := 103) ⟨(by kernel_rfl : ((jH Try.f9 25)[7]?).map spec = some ((Op.binOp BinOp.neq 4 (Operand.tmp 104) (Operand.tmp 105) 4), some 106, 4, some (4, false))), by kernel_rfl⟩ ha rfl) (by kernel_rfl) (fun _ => by kernel_rfl)).as (by simp)) fun a ha => ?_
 refine jQ [(8, 107, .bool false)] ha fun a ha => ?_
 refine jY (jJ ?_)
 refine jW ha rfl rfl ?_
 refine wp_skip (jJ (wp_seq (jX [0] (jQ [(0, 19, iv 1)] ha fun a ha => ?_))))
 refine jY (jJ (wp_seq (jX [0, 1, 2, 3] (jQ [(0, 108, .slice o2.A o2.n o2.c), (1, 109, iv 1)] ha fun a ha => ?_))))
 refine jK (xJ 110 (vs := [.slice o2.A o2.n o2.c, iv 1]) ha (heldIntA2S_sat hS (hS.rdE (s := o2) 2 qY (by decide) rfl) (Nat.le_trans (neverP_len ..) (by decide))) fun v36 w a hp37 ha => ?_)
 obtain ⟨rfl, hS⟩ := hp37
 refine jQ [(3, 19, iv (1 + 2 * (((neverP (toP l0) f low high fuel).1).length : Int)))] ha fun a ha => ?_
 refine jY ?_
 replace ha := ha.as [(10, .bool false), (18, iv (1 + 2 * (((neverP (toP l0) f low high fuel).1).length : Int))), (19, iv (1 + 2 * (((neverP (toP l0) f low high fuel).1).length : Int)))] rfl
 refine jJ (wp_seq (wp_seq (jX [0, 1] (jQ [(0, 111, iv (1 + 2 * (((neverP (toP l0) f low high fuel).1).length : Int)))] ha fun a ha => ?_))))
 refine zQ (.bool false) ha ((qZ (v := .bool (decide (1 + 2 * (((neverP (toP l0) f low high fuel).1).length : Int) < 0))) ha (yU (op := (Op.binOp BinOp.lss 3 (Operand.tmp 111) (Operand.const (Value.int IntKind.i64 0)) 3)) (d := some 112) (ty := 4)) (by kernel_rfl) (fun _ => by kernel_rfl)).as (by rw [decide_eq_false (by omega)])) fun a ha => ?_
 refine jY (jJ ?_)
 refine jW ha rfl rfl ?_
 refine wp_skip (jJ (wp_seq (wp_seq (jX [0, 1, 2] (jQ [(0, 113, iv (1 + 2 * (((neverP (toP l0) f low high fuel).1).length : Int))), (1, 114, iv (1 + 2 * (((neverP (toP l0) f low high fuel).1).length : Int)))] ha fun a ha => ?_)))))
 refine zQ (.bool false) ha ((qZ (v := .bool (!(decide (1 + 2 * (((neverP (toP l0) f low high fuel).1).length : Int) = 1 + 2 * (((neverP (toP l0) f low high fuel).1).length : Int))))) ha (yU (op := (Op.binOp BinOp.neq 3 (Operand.tmp 113) (Operand.tmp 114) 3)) (d := some 115) (ty := 4)) (by kernel_rfl) (fun _ => by kernel_rfl)).as (by simp)) fun a ha => ?_
 refine jY (jJ ?_)
 refine jW ha rfl rfl ?_
 refine wp_skip (jJ (wp_seq (jX [0] (jQ [(0, 10, .bool true)] ha fun a ha => ?_))))
 refine jY (jJ (wp_ret (qG ha (by kernel_rfl) (xG (t := 10) ha rfl) ?_)))
 exact ⟨rfl, hS.below⟩
end Go.Proofs.Ytjkoibfkklhaiaa.G
